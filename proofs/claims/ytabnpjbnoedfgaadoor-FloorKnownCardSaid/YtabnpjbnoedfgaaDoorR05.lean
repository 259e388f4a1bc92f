/- The types and functions of the program, as facts. Conditions: none. (And 3 texts more.) -/
import Derived.Test.YtabnpjbnoedfgaaDoorProg
import Derived.Test.YtabnpjbnoedfgaaDoorR02
import Derived.KernelRfl
import Derived.Test.YtabnpjbnoedfgaaDoorR04
set_option linter.unusedVariables false
set_option linter.unusedSimpArgs false
set_option linter.unusedSectionVars false

/- The types and functions of the program, as facts. Conditions: none. -/
namespace Go.Proofs.YtabnpjbnoedfgaaDoor
open Go Go.Mus
set_option maxRecDepth 100000
instance : TD Go.Proofs.Tryd.prog 2 (.int .i64) := ⟨Go.Proofs.Tryd.underlying2⟩
instance : SC Go.Proofs.Tryd.prog 2 := ⟨by kernel_rfl⟩
instance : TI Go.Proofs.Tryd.prog 2 1 8 (.int .i64 0) #[(.int .i64 0)] := ⟨by kernel_rfl, rfl⟩
instance : TD Go.Proofs.Tryd.prog 3 (.int .i64) := ⟨Go.Proofs.Tryd.underlying3⟩
instance : SC Go.Proofs.Tryd.prog 3 := ⟨by kernel_rfl⟩
instance : TI Go.Proofs.Tryd.prog 3 1 8 (.int .i64 0) #[(.int .i64 0)] := ⟨by kernel_rfl, rfl⟩
instance : TD Go.Proofs.Tryd.prog 4 .bool := ⟨Go.Proofs.Tryd.underlying4⟩
instance : SC Go.Proofs.Tryd.prog 4 := ⟨by kernel_rfl⟩
instance : TI Go.Proofs.Tryd.prog 4 1 1 (.bool false) #[(.bool false)] := ⟨by kernel_rfl, rfl⟩
instance : TD Go.Proofs.Tryd.prog 5 (.int .u8) := ⟨Go.Proofs.Tryd.underlying5⟩
instance : SC Go.Proofs.Tryd.prog 5 := ⟨by kernel_rfl⟩
instance : TI Go.Proofs.Tryd.prog 5 1 1 (.int .u8 0) #[(.int .u8 0)] := ⟨by kernel_rfl, rfl⟩
instance : TD Go.Proofs.Tryd.prog 6 (.int .u8) := ⟨Go.Proofs.Tryd.underlying6⟩
instance : SC Go.Proofs.Tryd.prog 6 := ⟨by kernel_rfl⟩
instance : TI Go.Proofs.Tryd.prog 6 1 1 (.int .u8 0) #[(.int .u8 0)] := ⟨by kernel_rfl, rfl⟩
instance : AG Go.Proofs.Tryd.prog 7 4 := ⟨by kernel_rfl, by kernel_rfl⟩
instance : TI Go.Proofs.Tryd.prog 7 4 24 (.agg #[(.int .i64 0), (.int .i64 0), (.bool false), (.int .u8 0)]) #[(.int .i64 0), (.int .i64 0), (.bool false), (.int .u8 0)] := ⟨by kernel_rfl, rfl⟩
instance : FA Go.Proofs.Tryd.prog 7 0 0 2 := ⟨0, by kernel_rfl⟩
instance : FA Go.Proofs.Tryd.prog 7 1 1 3 := ⟨0, by kernel_rfl⟩
instance : FA Go.Proofs.Tryd.prog 7 2 2 4 := ⟨0, by kernel_rfl⟩
instance : FA Go.Proofs.Tryd.prog 7 3 3 6 := ⟨0, by kernel_rfl⟩
instance : BP Go.Proofs.Tryd.prog 7 [(0, 1), (1, 1), (2, 1), (3, 1)] := ⟨by kernel_rfl⟩
instance : AG Go.Proofs.Tryd.prog 8 4 := ⟨by kernel_rfl, by kernel_rfl⟩
instance : TI Go.Proofs.Tryd.prog 8 4 24 (.agg #[(.int .i64 0), (.int .i64 0), (.bool false), (.int .u8 0)]) #[(.int .i64 0), (.int .i64 0), (.bool false), (.int .u8 0)] := ⟨by kernel_rfl, rfl⟩
instance : FA Go.Proofs.Tryd.prog 8 0 0 2 := ⟨0, by kernel_rfl⟩
instance : FA Go.Proofs.Tryd.prog 8 1 1 3 := ⟨0, by kernel_rfl⟩
instance : FA Go.Proofs.Tryd.prog 8 2 2 4 := ⟨0, by kernel_rfl⟩
instance : FA Go.Proofs.Tryd.prog 8 3 3 6 := ⟨0, by kernel_rfl⟩
instance : BP Go.Proofs.Tryd.prog 8 [(0, 1), (1, 1), (2, 1), (3, 1)] := ⟨by kernel_rfl⟩
instance : TD Go.Proofs.Tryd.prog 9 .string := ⟨Go.Proofs.Tryd.underlying9⟩
instance : SC Go.Proofs.Tryd.prog 9 := ⟨by kernel_rfl⟩
instance : TI Go.Proofs.Tryd.prog 9 1 16 (.string ⟨#[]⟩) #[(.string ⟨#[]⟩)] := ⟨by kernel_rfl, rfl⟩
instance : TD Go.Proofs.Tryd.prog 10 .string := ⟨Go.Proofs.Tryd.underlying10⟩
instance : SC Go.Proofs.Tryd.prog 10 := ⟨by kernel_rfl⟩
instance : TI Go.Proofs.Tryd.prog 10 1 16 (.string ⟨#[]⟩) #[(.string ⟨#[]⟩)] := ⟨by kernel_rfl, rfl⟩
instance : TD Go.Proofs.Tryd.prog 11 .string := ⟨Go.Proofs.Tryd.underlying11⟩
instance : SC Go.Proofs.Tryd.prog 11 := ⟨by kernel_rfl⟩
instance : TI Go.Proofs.Tryd.prog 11 1 16 (.string ⟨#[]⟩) #[(.string ⟨#[]⟩)] := ⟨by kernel_rfl, rfl⟩
instance : TD Go.Proofs.Tryd.prog 12 (.int .u64) := ⟨Go.Proofs.Tryd.underlying12⟩
instance : SC Go.Proofs.Tryd.prog 12 := ⟨by kernel_rfl⟩
instance : TI Go.Proofs.Tryd.prog 12 1 8 (.int .u64 0) #[(.int .u64 0)] := ⟨by kernel_rfl, rfl⟩
instance : AG Go.Proofs.Tryd.prog 13 2 := ⟨by kernel_rfl, by kernel_rfl⟩
instance : TI Go.Proofs.Tryd.prog 13 2 24 (.agg #[(.string ⟨#[]⟩), (.int .u64 0)]) #[(.string ⟨#[]⟩), (.int .u64 0)] := ⟨by kernel_rfl, rfl⟩
instance : FA Go.Proofs.Tryd.prog 13 0 0 9 := ⟨0, by kernel_rfl⟩
instance : FA Go.Proofs.Tryd.prog 13 1 1 12 := ⟨0, by kernel_rfl⟩
instance : BP Go.Proofs.Tryd.prog 13 [(0, 1), (1, 1)] := ⟨by kernel_rfl⟩
instance : AG Go.Proofs.Tryd.prog 14 2 := ⟨by kernel_rfl, by kernel_rfl⟩
instance : TI Go.Proofs.Tryd.prog 14 2 24 (.agg #[(.string ⟨#[]⟩), (.int .u64 0)]) #[(.string ⟨#[]⟩), (.int .u64 0)] := ⟨by kernel_rfl, rfl⟩
instance : FA Go.Proofs.Tryd.prog 14 0 0 9 := ⟨0, by kernel_rfl⟩
instance : FA Go.Proofs.Tryd.prog 14 1 1 12 := ⟨0, by kernel_rfl⟩
instance : BP Go.Proofs.Tryd.prog 14 [(0, 1), (1, 1)] := ⟨by kernel_rfl⟩
instance : TD Go.Proofs.Tryd.prog 15 (.pointer 194) := ⟨Go.Proofs.Tryd.underlying15⟩
instance : SC Go.Proofs.Tryd.prog 15 := ⟨by kernel_rfl⟩
instance : TI Go.Proofs.Tryd.prog 15 1 8 (.pointer none) #[(.pointer none)] := ⟨by kernel_rfl, rfl⟩
instance : TD Go.Proofs.Tryd.prog 16 (.pointer 197) := ⟨Go.Proofs.Tryd.underlying16⟩
instance : SC Go.Proofs.Tryd.prog 16 := ⟨by kernel_rfl⟩
instance : TI Go.Proofs.Tryd.prog 16 1 8 (.pointer none) #[(.pointer none)] := ⟨by kernel_rfl, rfl⟩
instance : TD Go.Proofs.Tryd.prog 17 (.pointer 206) := ⟨Go.Proofs.Tryd.underlying17⟩
instance : SC Go.Proofs.Tryd.prog 17 := ⟨by kernel_rfl⟩
instance : TI Go.Proofs.Tryd.prog 17 1 8 (.pointer none) #[(.pointer none)] := ⟨by kernel_rfl, rfl⟩
instance : AG Go.Proofs.Tryd.prog 18 1 := ⟨by kernel_rfl, by kernel_rfl⟩
instance : TI Go.Proofs.Tryd.prog 18 1 8 (.agg #[(.pointer none)]) #[(.pointer none)] := ⟨by kernel_rfl, rfl⟩
instance : FA Go.Proofs.Tryd.prog 18 0 0 17 := ⟨0, by kernel_rfl⟩
instance : BP Go.Proofs.Tryd.prog 18 [(0, 1)] := ⟨by kernel_rfl⟩
instance : AG Go.Proofs.Tryd.prog 19 1 := ⟨by kernel_rfl, by kernel_rfl⟩
instance : TI Go.Proofs.Tryd.prog 19 1 8 (.agg #[(.pointer none)]) #[(.pointer none)] := ⟨by kernel_rfl, rfl⟩
instance : FA Go.Proofs.Tryd.prog 19 0 0 17 := ⟨0, by kernel_rfl⟩
instance : BP Go.Proofs.Tryd.prog 19 [(0, 1)] := ⟨by kernel_rfl⟩
instance : TD Go.Proofs.Tryd.prog 20 (.interface #[]) := ⟨Go.Proofs.Tryd.underlying20⟩
instance : SC Go.Proofs.Tryd.prog 20 := ⟨by kernel_rfl⟩
instance : TI Go.Proofs.Tryd.prog 20 1 16 .nilIface #[.nilIface] := ⟨by kernel_rfl, rfl⟩
instance : TD Go.Proofs.Tryd.prog 21 (.int .i32) := ⟨Go.Proofs.Tryd.underlying21⟩
instance : SC Go.Proofs.Tryd.prog 21 := ⟨by kernel_rfl⟩
instance : TI Go.Proofs.Tryd.prog 21 1 4 (.int .i32 0) #[(.int .i32 0)] := ⟨by kernel_rfl, rfl⟩
instance : TD Go.Proofs.Tryd.prog 22 (.slice 3) := ⟨Go.Proofs.Tryd.underlying22⟩
instance : SC Go.Proofs.Tryd.prog 22 := ⟨by kernel_rfl⟩
instance : TI Go.Proofs.Tryd.prog 22 1 24 (.slice none 0 0) #[(.slice none 0 0)] := ⟨by kernel_rfl, rfl⟩
instance : TD Go.Proofs.Tryd.prog 23 (.slice 44) := ⟨Go.Proofs.Tryd.underlying23⟩
instance : SC Go.Proofs.Tryd.prog 23 := ⟨by kernel_rfl⟩
instance : TI Go.Proofs.Tryd.prog 23 1 24 (.slice none 0 0) #[(.slice none 0 0)] := ⟨by kernel_rfl, rfl⟩
instance : TD Go.Proofs.Tryd.prog 24 (.slice 47) := ⟨Go.Proofs.Tryd.underlying24⟩
instance : SC Go.Proofs.Tryd.prog 24 := ⟨by kernel_rfl⟩
instance : TI Go.Proofs.Tryd.prog 24 1 24 (.slice none 0 0) #[(.slice none 0 0)] := ⟨by kernel_rfl, rfl⟩
instance : AG Go.Proofs.Tryd.prog 25 2 := ⟨by kernel_rfl, by kernel_rfl⟩
instance : TI Go.Proofs.Tryd.prog 25 2 48 (.agg #[(.slice none 0 0), (.slice none 0 0)]) #[(.slice none 0 0), (.slice none 0 0)] := ⟨by kernel_rfl, rfl⟩
instance : FA Go.Proofs.Tryd.prog 25 0 0 23 := ⟨0, by kernel_rfl⟩
instance : FA Go.Proofs.Tryd.prog 25 1 1 24 := ⟨0, by kernel_rfl⟩
instance : BP Go.Proofs.Tryd.prog 25 [(0, 1), (1, 1)] := ⟨by kernel_rfl⟩
instance : AG Go.Proofs.Tryd.prog 26 2 := ⟨by kernel_rfl, by kernel_rfl⟩
instance : TI Go.Proofs.Tryd.prog 26 2 48 (.agg #[(.slice none 0 0), (.slice none 0 0)]) #[(.slice none 0 0), (.slice none 0 0)] := ⟨by kernel_rfl, rfl⟩
instance : FA Go.Proofs.Tryd.prog 26 0 0 23 := ⟨0, by kernel_rfl⟩
instance : FA Go.Proofs.Tryd.prog 26 1 1 24 := ⟨0, by kernel_rfl⟩
instance : BP Go.Proofs.Tryd.prog 26 [(0, 1), (1, 1)] := ⟨by kernel_rfl⟩
instance : TD Go.Proofs.Tryd.prog 28 (.pointer 88) := ⟨Go.Proofs.Tryd.underlying28⟩
instance : SC Go.Proofs.Tryd.prog 28 := ⟨by kernel_rfl⟩
instance : TI Go.Proofs.Tryd.prog 28 1 8 (.pointer none) #[(.pointer none)] := ⟨by kernel_rfl, rfl⟩
instance : TD Go.Proofs.Tryd.prog 32 (.int .i64) := ⟨Go.Proofs.Tryd.underlying32⟩
instance : SC Go.Proofs.Tryd.prog 32 := ⟨by kernel_rfl⟩
instance : TI Go.Proofs.Tryd.prog 32 1 8 (.int .i64 0) #[(.int .i64 0)] := ⟨by kernel_rfl, rfl⟩
instance : AG Go.Proofs.Tryd.prog 41 2 := ⟨by kernel_rfl, by kernel_rfl⟩
instance : TI Go.Proofs.Tryd.prog 41 2 16 (.agg #[(.int .i64 0), (.int .i64 0)]) #[(.int .i64 0), (.int .i64 0)] := ⟨by kernel_rfl, rfl⟩
instance : FA Go.Proofs.Tryd.prog 41 0 0 3 := ⟨0, by kernel_rfl⟩
instance : FA Go.Proofs.Tryd.prog 41 1 1 3 := ⟨0, by kernel_rfl⟩
instance : BP Go.Proofs.Tryd.prog 41 [(0, 1), (1, 1)] := ⟨by kernel_rfl⟩
instance : AG Go.Proofs.Tryd.prog 42 2 := ⟨by kernel_rfl, by kernel_rfl⟩
instance : TI Go.Proofs.Tryd.prog 42 2 16 (.agg #[(.int .i64 0), (.int .i64 0)]) #[(.int .i64 0), (.int .i64 0)] := ⟨by kernel_rfl, rfl⟩
instance : FA Go.Proofs.Tryd.prog 42 0 0 3 := ⟨0, by kernel_rfl⟩
instance : FA Go.Proofs.Tryd.prog 42 1 1 3 := ⟨0, by kernel_rfl⟩
instance : BP Go.Proofs.Tryd.prog 42 [(0, 1), (1, 1)] := ⟨by kernel_rfl⟩
instance : AG Go.Proofs.Tryd.prog 43 4 := ⟨by kernel_rfl, by kernel_rfl⟩
instance : TI Go.Proofs.Tryd.prog 43 4 32 (.agg #[(.int .i64 0), (.int .i64 0), (.int .i64 0), (.int .i64 0)]) #[(.int .i64 0), (.int .i64 0), (.int .i64 0), (.int .i64 0)] := ⟨by kernel_rfl, rfl⟩
instance : FA Go.Proofs.Tryd.prog 43 0 0 3 := ⟨0, by kernel_rfl⟩
instance : FA Go.Proofs.Tryd.prog 43 1 1 42 := ⟨1, by kernel_rfl⟩
instance : FA Go.Proofs.Tryd.prog 43 2 3 3 := ⟨0, by kernel_rfl⟩
instance : BP Go.Proofs.Tryd.prog 43 [(0, 1), (1, 2), (3, 1)] := ⟨by kernel_rfl⟩
instance : AG Go.Proofs.Tryd.prog 44 4 := ⟨by kernel_rfl, by kernel_rfl⟩
instance : TI Go.Proofs.Tryd.prog 44 4 32 (.agg #[(.int .i64 0), (.int .i64 0), (.int .i64 0), (.int .i64 0)]) #[(.int .i64 0), (.int .i64 0), (.int .i64 0), (.int .i64 0)] := ⟨by kernel_rfl, rfl⟩
instance : FA Go.Proofs.Tryd.prog 44 0 0 3 := ⟨0, by kernel_rfl⟩
instance : FA Go.Proofs.Tryd.prog 44 1 1 42 := ⟨1, by kernel_rfl⟩
instance : FA Go.Proofs.Tryd.prog 44 2 3 3 := ⟨0, by kernel_rfl⟩
instance : BP Go.Proofs.Tryd.prog 44 [(0, 1), (1, 2), (3, 1)] := ⟨by kernel_rfl⟩
instance : AG Go.Proofs.Tryd.prog 46 3 := ⟨by kernel_rfl, by kernel_rfl⟩
instance : TI Go.Proofs.Tryd.prog 46 3 24 (.agg #[(.int .i64 0), (.int .i64 0), (.int .i64 0)]) #[(.int .i64 0), (.int .i64 0), (.int .i64 0)] := ⟨by kernel_rfl, rfl⟩
instance : FA Go.Proofs.Tryd.prog 46 0 0 3 := ⟨0, by kernel_rfl⟩
instance : FA Go.Proofs.Tryd.prog 46 1 1 3 := ⟨0, by kernel_rfl⟩
instance : FA Go.Proofs.Tryd.prog 46 2 2 3 := ⟨0, by kernel_rfl⟩
instance : BP Go.Proofs.Tryd.prog 46 [(0, 1), (1, 1), (2, 1)] := ⟨by kernel_rfl⟩
instance : AG Go.Proofs.Tryd.prog 47 3 := ⟨by kernel_rfl, by kernel_rfl⟩
instance : TI Go.Proofs.Tryd.prog 47 3 24 (.agg #[(.int .i64 0), (.int .i64 0), (.int .i64 0)]) #[(.int .i64 0), (.int .i64 0), (.int .i64 0)] := ⟨by kernel_rfl, rfl⟩
instance : FA Go.Proofs.Tryd.prog 47 0 0 3 := ⟨0, by kernel_rfl⟩
instance : FA Go.Proofs.Tryd.prog 47 1 1 3 := ⟨0, by kernel_rfl⟩
instance : FA Go.Proofs.Tryd.prog 47 2 2 3 := ⟨0, by kernel_rfl⟩
instance : BP Go.Proofs.Tryd.prog 47 [(0, 1), (1, 1), (2, 1)] := ⟨by kernel_rfl⟩
instance : TD Go.Proofs.Tryd.prog 50 (.slice 26) := ⟨Go.Proofs.Tryd.underlying50⟩
instance : SC Go.Proofs.Tryd.prog 50 := ⟨by kernel_rfl⟩
instance : TI Go.Proofs.Tryd.prog 50 1 24 (.slice none 0 0) #[(.slice none 0 0)] := ⟨by kernel_rfl, rfl⟩
instance : TD Go.Proofs.Tryd.prog 51 (.slice 62) := ⟨Go.Proofs.Tryd.underlying51⟩
instance : SC Go.Proofs.Tryd.prog 51 := ⟨by kernel_rfl⟩
instance : TI Go.Proofs.Tryd.prog 51 1 24 (.slice none 0 0) #[(.slice none 0 0)] := ⟨by kernel_rfl, rfl⟩
instance : TD Go.Proofs.Tryd.prog 56 (.slice 51) := ⟨Go.Proofs.Tryd.underlying56⟩
instance : SC Go.Proofs.Tryd.prog 56 := ⟨by kernel_rfl⟩
instance : TI Go.Proofs.Tryd.prog 56 1 24 (.slice none 0 0) #[(.slice none 0 0)] := ⟨by kernel_rfl, rfl⟩
instance : AG Go.Proofs.Tryd.prog 61 2 := ⟨by kernel_rfl, by kernel_rfl⟩
instance : TI Go.Proofs.Tryd.prog 61 2 16 (.agg #[(.int .i64 0), (.int .i64 0)]) #[(.int .i64 0), (.int .i64 0)] := ⟨by kernel_rfl, rfl⟩
instance : FA Go.Proofs.Tryd.prog 61 0 0 3 := ⟨0, by kernel_rfl⟩
instance : FA Go.Proofs.Tryd.prog 61 1 1 3 := ⟨0, by kernel_rfl⟩
instance : BP Go.Proofs.Tryd.prog 61 [(0, 1), (1, 1)] := ⟨by kernel_rfl⟩
instance : AG Go.Proofs.Tryd.prog 62 2 := ⟨by kernel_rfl, by kernel_rfl⟩
instance : TI Go.Proofs.Tryd.prog 62 2 16 (.agg #[(.int .i64 0), (.int .i64 0)]) #[(.int .i64 0), (.int .i64 0)] := ⟨by kernel_rfl, rfl⟩
instance : FA Go.Proofs.Tryd.prog 62 0 0 3 := ⟨0, by kernel_rfl⟩
instance : FA Go.Proofs.Tryd.prog 62 1 1 3 := ⟨0, by kernel_rfl⟩
instance : BP Go.Proofs.Tryd.prog 62 [(0, 1), (1, 1)] := ⟨by kernel_rfl⟩
instance : TD Go.Proofs.Tryd.prog 68 (.slice 22) := ⟨Go.Proofs.Tryd.underlying68⟩
instance : SC Go.Proofs.Tryd.prog 68 := ⟨by kernel_rfl⟩
instance : TI Go.Proofs.Tryd.prog 68 1 24 (.slice none 0 0) #[(.slice none 0 0)] := ⟨by kernel_rfl, rfl⟩
instance : TD Go.Proofs.Tryd.prog 86 (.int .u64) := ⟨Go.Proofs.Tryd.underlying86⟩
instance : SC Go.Proofs.Tryd.prog 86 := ⟨by kernel_rfl⟩
instance : TI Go.Proofs.Tryd.prog 86 1 8 (.int .u64 0) #[(.int .u64 0)] := ⟨by kernel_rfl, rfl⟩
instance : AG Go.Proofs.Tryd.prog 87 3 := ⟨by kernel_rfl, by kernel_rfl⟩
instance : TI Go.Proofs.Tryd.prog 87 3 40 (.agg #[(.slice none 0 0), (.int .i64 0), (.int .u64 0)]) #[(.slice none 0 0), (.int .i64 0), (.int .u64 0)] := ⟨by kernel_rfl, rfl⟩
instance : FA Go.Proofs.Tryd.prog 87 0 0 22 := ⟨0, by kernel_rfl⟩
instance : FA Go.Proofs.Tryd.prog 87 1 1 3 := ⟨0, by kernel_rfl⟩
instance : FA Go.Proofs.Tryd.prog 87 2 2 86 := ⟨0, by kernel_rfl⟩
instance : BP Go.Proofs.Tryd.prog 87 [(0, 1), (1, 1), (2, 1)] := ⟨by kernel_rfl⟩
instance : AG Go.Proofs.Tryd.prog 88 3 := ⟨by kernel_rfl, by kernel_rfl⟩
instance : TI Go.Proofs.Tryd.prog 88 3 40 (.agg #[(.slice none 0 0), (.int .i64 0), (.int .u64 0)]) #[(.slice none 0 0), (.int .i64 0), (.int .u64 0)] := ⟨by kernel_rfl, rfl⟩
instance : FA Go.Proofs.Tryd.prog 88 0 0 22 := ⟨0, by kernel_rfl⟩
instance : FA Go.Proofs.Tryd.prog 88 1 1 3 := ⟨0, by kernel_rfl⟩
instance : FA Go.Proofs.Tryd.prog 88 2 2 86 := ⟨0, by kernel_rfl⟩
instance : BP Go.Proofs.Tryd.prog 88 [(0, 1), (1, 1), (2, 1)] := ⟨by kernel_rfl⟩
instance : AG Go.Proofs.Tryd.prog 89 2 := ⟨by kernel_rfl, by kernel_rfl⟩
instance : TI Go.Proofs.Tryd.prog 89 2 48 (.agg #[(.slice none 0 0), (.slice none 0 0)]) #[(.slice none 0 0), (.slice none 0 0)] := ⟨by kernel_rfl, rfl⟩
instance : FA Go.Proofs.Tryd.prog 89 0 0 26 := ⟨1, by kernel_rfl⟩
instance : BP Go.Proofs.Tryd.prog 89 [(0, 2)] := ⟨by kernel_rfl⟩
instance : AG Go.Proofs.Tryd.prog 90 2 := ⟨by kernel_rfl, by kernel_rfl⟩
instance : TI Go.Proofs.Tryd.prog 90 2 48 (.agg #[(.slice none 0 0), (.slice none 0 0)]) #[(.slice none 0 0), (.slice none 0 0)] := ⟨by kernel_rfl, rfl⟩
instance : FA Go.Proofs.Tryd.prog 90 0 0 26 := ⟨1, by kernel_rfl⟩
instance : BP Go.Proofs.Tryd.prog 90 [(0, 2)] := ⟨by kernel_rfl⟩
instance : AG Go.Proofs.Tryd.prog 92 3 := ⟨by kernel_rfl, by kernel_rfl⟩
instance : TI Go.Proofs.Tryd.prog 92 3 56 (.agg #[(.slice none 0 0), (.slice none 0 0), .nilFunc]) #[(.slice none 0 0), (.slice none 0 0), .nilFunc] := ⟨by kernel_rfl, rfl⟩
instance : FA Go.Proofs.Tryd.prog 92 0 0 90 := ⟨1, by kernel_rfl⟩
instance : FA Go.Proofs.Tryd.prog 92 1 2 91 := ⟨0, by kernel_rfl⟩
instance : BP Go.Proofs.Tryd.prog 92 [(0, 2), (2, 1)] := ⟨by kernel_rfl⟩
instance : AG Go.Proofs.Tryd.prog 93 3 := ⟨by kernel_rfl, by kernel_rfl⟩
instance : TI Go.Proofs.Tryd.prog 93 3 56 (.agg #[(.slice none 0 0), (.slice none 0 0), .nilFunc]) #[(.slice none 0 0), (.slice none 0 0), .nilFunc] := ⟨by kernel_rfl, rfl⟩
instance : FA Go.Proofs.Tryd.prog 93 0 0 90 := ⟨1, by kernel_rfl⟩
instance : FA Go.Proofs.Tryd.prog 93 1 2 91 := ⟨0, by kernel_rfl⟩
instance : BP Go.Proofs.Tryd.prog 93 [(0, 2), (2, 1)] := ⟨by kernel_rfl⟩
instance : TD Go.Proofs.Tryd.prog 104 (.pointer 44) := ⟨Go.Proofs.Tryd.underlying104⟩
instance : SC Go.Proofs.Tryd.prog 104 := ⟨by kernel_rfl⟩
instance : TI Go.Proofs.Tryd.prog 104 1 8 (.pointer none) #[(.pointer none)] := ⟨by kernel_rfl, rfl⟩
instance : TD Go.Proofs.Tryd.prog 106 (.slice 114) := ⟨Go.Proofs.Tryd.underlying106⟩
instance : SC Go.Proofs.Tryd.prog 106 := ⟨by kernel_rfl⟩
instance : TI Go.Proofs.Tryd.prog 106 1 24 (.slice none 0 0) #[(.slice none 0 0)] := ⟨by kernel_rfl, rfl⟩
instance : AG Go.Proofs.Tryd.prog 107 2 := ⟨by kernel_rfl, by kernel_rfl⟩
instance : TI Go.Proofs.Tryd.prog 107 2 32 (.agg #[(.int .i64 0), (.slice none 0 0)]) #[(.int .i64 0), (.slice none 0 0)] := ⟨by kernel_rfl, rfl⟩
instance : FA Go.Proofs.Tryd.prog 107 0 0 3 := ⟨0, by kernel_rfl⟩
instance : FA Go.Proofs.Tryd.prog 107 1 1 106 := ⟨0, by kernel_rfl⟩
instance : BP Go.Proofs.Tryd.prog 107 [(0, 1), (1, 1)] := ⟨by kernel_rfl⟩
instance : AG Go.Proofs.Tryd.prog 108 2 := ⟨by kernel_rfl, by kernel_rfl⟩
instance : TI Go.Proofs.Tryd.prog 108 2 32 (.agg #[(.int .i64 0), (.slice none 0 0)]) #[(.int .i64 0), (.slice none 0 0)] := ⟨by kernel_rfl, rfl⟩
instance : FA Go.Proofs.Tryd.prog 108 0 0 3 := ⟨0, by kernel_rfl⟩
instance : FA Go.Proofs.Tryd.prog 108 1 1 106 := ⟨0, by kernel_rfl⟩
instance : BP Go.Proofs.Tryd.prog 108 [(0, 1), (1, 1)] := ⟨by kernel_rfl⟩
instance : TD Go.Proofs.Tryd.prog 113 (.array 4 62) := ⟨Go.Proofs.Tryd.underlying113⟩
instance : AG Go.Proofs.Tryd.prog 113 8 := ⟨by kernel_rfl, by kernel_rfl⟩
instance : TI Go.Proofs.Tryd.prog 113 8 64 (.agg #[(.int .i64 0), (.int .i64 0), (.int .i64 0), (.int .i64 0), (.int .i64 0), (.int .i64 0), (.int .i64 0), (.int .i64 0)]) #[(.int .i64 0), (.int .i64 0), (.int .i64 0), (.int .i64 0), (.int .i64 0), (.int .i64 0), (.int .i64 0), (.int .i64 0)] := ⟨by kernel_rfl, rfl⟩
instance : TD Go.Proofs.Tryd.prog 114 (.array 4 62) := ⟨Go.Proofs.Tryd.underlying114⟩
instance : AG Go.Proofs.Tryd.prog 114 8 := ⟨by kernel_rfl, by kernel_rfl⟩
instance : TI Go.Proofs.Tryd.prog 114 8 64 (.agg #[(.int .i64 0), (.int .i64 0), (.int .i64 0), (.int .i64 0), (.int .i64 0), (.int .i64 0), (.int .i64 0), (.int .i64 0)]) #[(.int .i64 0), (.int .i64 0), (.int .i64 0), (.int .i64 0), (.int .i64 0), (.int .i64 0), (.int .i64 0), (.int .i64 0)] := ⟨by kernel_rfl, rfl⟩
instance : TD Go.Proofs.Tryd.prog 117 (.interface #[("muscovado/floor.day", 126)]) := ⟨Go.Proofs.Tryd.underlying117⟩
instance : SC Go.Proofs.Tryd.prog 117 := ⟨by kernel_rfl⟩
instance : TI Go.Proofs.Tryd.prog 117 1 16 .nilIface #[.nilIface] := ⟨by kernel_rfl, rfl⟩
instance : TD Go.Proofs.Tryd.prog 118 (.interface #[("muscovado/floor.day", 126)]) := ⟨Go.Proofs.Tryd.underlying118⟩
instance : SC Go.Proofs.Tryd.prog 118 := ⟨by kernel_rfl⟩
instance : TI Go.Proofs.Tryd.prog 118 1 16 .nilIface #[.nilIface] := ⟨by kernel_rfl, rfl⟩
instance : AG Go.Proofs.Tryd.prog 119 2 := ⟨by kernel_rfl, by kernel_rfl⟩
instance : TI Go.Proofs.Tryd.prog 119 2 24 (.agg #[.nilIface, (.int .i64 0)]) #[.nilIface, (.int .i64 0)] := ⟨by kernel_rfl, rfl⟩
instance : FA Go.Proofs.Tryd.prog 119 0 0 118 := ⟨0, by kernel_rfl⟩
instance : FA Go.Proofs.Tryd.prog 119 1 1 3 := ⟨0, by kernel_rfl⟩
instance : BP Go.Proofs.Tryd.prog 119 [(0, 1), (1, 1)] := ⟨by kernel_rfl⟩
instance : AG Go.Proofs.Tryd.prog 120 2 := ⟨by kernel_rfl, by kernel_rfl⟩
instance : TI Go.Proofs.Tryd.prog 120 2 24 (.agg #[.nilIface, (.int .i64 0)]) #[.nilIface, (.int .i64 0)] := ⟨by kernel_rfl, rfl⟩
instance : FA Go.Proofs.Tryd.prog 120 0 0 118 := ⟨0, by kernel_rfl⟩
instance : FA Go.Proofs.Tryd.prog 120 1 1 3 := ⟨0, by kernel_rfl⟩
instance : BP Go.Proofs.Tryd.prog 120 [(0, 1), (1, 1)] := ⟨by kernel_rfl⟩
instance : TD Go.Proofs.Tryd.prog 122 (.interface #[("Error", 192)]) := ⟨Go.Proofs.Tryd.underlying122⟩
instance : SC Go.Proofs.Tryd.prog 122 := ⟨by kernel_rfl⟩
instance : TI Go.Proofs.Tryd.prog 122 1 16 .nilIface #[.nilIface] := ⟨by kernel_rfl, rfl⟩
instance : TD Go.Proofs.Tryd.prog 123 (.interface #[("Error", 192)]) := ⟨Go.Proofs.Tryd.underlying123⟩
instance : SC Go.Proofs.Tryd.prog 123 := ⟨by kernel_rfl⟩
instance : TI Go.Proofs.Tryd.prog 123 1 16 .nilIface #[.nilIface] := ⟨by kernel_rfl, rfl⟩
instance : TD Go.Proofs.Tryd.prog 125 (.pointer 120) := ⟨Go.Proofs.Tryd.underlying125⟩
instance : SC Go.Proofs.Tryd.prog 125 := ⟨by kernel_rfl⟩
instance : TI Go.Proofs.Tryd.prog 125 1 8 (.pointer none) #[(.pointer none)] := ⟨by kernel_rfl, rfl⟩
instance : TD Go.Proofs.Tryd.prog 128 (.array 22 42) := ⟨Go.Proofs.Tryd.underlying128⟩
instance : AG Go.Proofs.Tryd.prog 128 44 := ⟨by kernel_rfl, by kernel_rfl⟩
instance : TI Go.Proofs.Tryd.prog 128 44 352 (.agg #[(.int .i64 0), (.int .i64 0), (.int .i64 0), (.int .i64 0), (.int .i64 0), (.int .i64 0), (.int .i64 0), (.int .i64 0), (.int .i64 0), (.int .i64 0), (.int .i64 0), (.int .i64 0), (.int .i64 0), (.int .i64 0), (.int .i64 0), (.int .i64 0), (.int .i64 0), (.int .i64 0), (.int .i64 0), (.int .i64 0), (.int .i64 0), (.int .i64 0), (.int .i64 0), (.int .i64 0), (.int .i64 0), (.int .i64 0), (.int .i64 0), (.int .i64 0), (.int .i64 0), (.int .i64 0), (.int .i64 0), (.int .i64 0), (.int .i64 0), (.int .i64 0), (.int .i64 0), (.int .i64 0), (.int .i64 0), (.int .i64 0), (.int .i64 0), (.int .i64 0), (.int .i64 0), (.int .i64 0), (.int .i64 0), (.int .i64 0)]) #[(.int .i64 0), (.int .i64 0), (.int .i64 0), (.int .i64 0), (.int .i64 0), (.int .i64 0), (.int .i64 0), (.int .i64 0), (.int .i64 0), (.int .i64 0), (.int .i64 0), (.int .i64 0), (.int .i64 0), (.int .i64 0), (.int .i64 0), (.int .i64 0), (.int .i64 0), (.int .i64 0), (.int .i64 0), (.int .i64 0), (.int .i64 0), (.int .i64 0), (.int .i64 0), (.int .i64 0), (.int .i64 0), (.int .i64 0), (.int .i64 0), (.int .i64 0), (.int .i64 0), (.int .i64 0), (.int .i64 0), (.int .i64 0), (.int .i64 0), (.int .i64 0), (.int .i64 0), (.int .i64 0), (.int .i64 0), (.int .i64 0), (.int .i64 0), (.int .i64 0), (.int .i64 0), (.int .i64 0), (.int .i64 0), (.int .i64 0)] := ⟨by kernel_rfl, rfl⟩
instance : TD Go.Proofs.Tryd.prog 129 (.array 22 42) := ⟨Go.Proofs.Tryd.underlying129⟩
instance : AG Go.Proofs.Tryd.prog 129 44 := ⟨by kernel_rfl, by kernel_rfl⟩
instance : TI Go.Proofs.Tryd.prog 129 44 352 (.agg #[(.int .i64 0), (.int .i64 0), (.int .i64 0), (.int .i64 0), (.int .i64 0), (.int .i64 0), (.int .i64 0), (.int .i64 0), (.int .i64 0), (.int .i64 0), (.int .i64 0), (.int .i64 0), (.int .i64 0), (.int .i64 0), (.int .i64 0), (.int .i64 0), (.int .i64 0), (.int .i64 0), (.int .i64 0), (.int .i64 0), (.int .i64 0), (.int .i64 0), (.int .i64 0), (.int .i64 0), (.int .i64 0), (.int .i64 0), (.int .i64 0), (.int .i64 0), (.int .i64 0), (.int .i64 0), (.int .i64 0), (.int .i64 0), (.int .i64 0), (.int .i64 0), (.int .i64 0), (.int .i64 0), (.int .i64 0), (.int .i64 0), (.int .i64 0), (.int .i64 0), (.int .i64 0), (.int .i64 0), (.int .i64 0), (.int .i64 0)]) #[(.int .i64 0), (.int .i64 0), (.int .i64 0), (.int .i64 0), (.int .i64 0), (.int .i64 0), (.int .i64 0), (.int .i64 0), (.int .i64 0), (.int .i64 0), (.int .i64 0), (.int .i64 0), (.int .i64 0), (.int .i64 0), (.int .i64 0), (.int .i64 0), (.int .i64 0), (.int .i64 0), (.int .i64 0), (.int .i64 0), (.int .i64 0), (.int .i64 0), (.int .i64 0), (.int .i64 0), (.int .i64 0), (.int .i64 0), (.int .i64 0), (.int .i64 0), (.int .i64 0), (.int .i64 0), (.int .i64 0), (.int .i64 0), (.int .i64 0), (.int .i64 0), (.int .i64 0), (.int .i64 0), (.int .i64 0), (.int .i64 0), (.int .i64 0), (.int .i64 0), (.int .i64 0), (.int .i64 0), (.int .i64 0), (.int .i64 0)] := ⟨by kernel_rfl, rfl⟩
instance : TD Go.Proofs.Tryd.prog 140 (.pointer 114) := ⟨Go.Proofs.Tryd.underlying140⟩
instance : SC Go.Proofs.Tryd.prog 140 := ⟨by kernel_rfl⟩
instance : TI Go.Proofs.Tryd.prog 140 1 8 (.pointer none) #[(.pointer none)] := ⟨by kernel_rfl, rfl⟩
instance : TD Go.Proofs.Tryd.prog 142 (.int .u64) := ⟨Go.Proofs.Tryd.underlying142⟩
instance : SC Go.Proofs.Tryd.prog 142 := ⟨by kernel_rfl⟩
instance : TI Go.Proofs.Tryd.prog 142 1 8 (.int .u64 0) #[(.int .u64 0)] := ⟨by kernel_rfl, rfl⟩
instance : TD Go.Proofs.Tryd.prog 145 (.map 114 4) := ⟨Go.Proofs.Tryd.underlying145⟩
instance : SC Go.Proofs.Tryd.prog 145 := ⟨by kernel_rfl⟩
instance : TI Go.Proofs.Tryd.prog 145 1 8 (.map none) #[(.map none)] := ⟨by kernel_rfl, rfl⟩
instance : SC Go.Proofs.Tryd.prog 148 := ⟨by kernel_rfl⟩
instance : TI Go.Proofs.Tryd.prog 148 1 8 (.pointer none) #[(.pointer none)] := ⟨by kernel_rfl, rfl⟩
instance : TD Go.Proofs.Tryd.prog 149 (.int .u64) := ⟨Go.Proofs.Tryd.underlying149⟩
instance : SC Go.Proofs.Tryd.prog 149 := ⟨by kernel_rfl⟩
instance : TI Go.Proofs.Tryd.prog 149 1 8 (.int .u64 0) #[(.int .u64 0)] := ⟨by kernel_rfl, rfl⟩
instance : AG Go.Proofs.Tryd.prog 150 3 := ⟨by kernel_rfl, by kernel_rfl⟩
instance : TI Go.Proofs.Tryd.prog 150 3 24 (.agg #[(.pointer none), (.pointer none), (.int .u64 0)]) #[(.pointer none), (.pointer none), (.int .u64 0)] := ⟨by kernel_rfl, rfl⟩
instance : FA Go.Proofs.Tryd.prog 150 0 0 17 := ⟨0, by kernel_rfl⟩
instance : FA Go.Proofs.Tryd.prog 150 1 1 148 := ⟨0, by kernel_rfl⟩
instance : FA Go.Proofs.Tryd.prog 150 2 2 149 := ⟨0, by kernel_rfl⟩
instance : BP Go.Proofs.Tryd.prog 150 [(0, 1), (1, 1), (2, 1)] := ⟨by kernel_rfl⟩
instance : AG Go.Proofs.Tryd.prog 151 3 := ⟨by kernel_rfl, by kernel_rfl⟩
instance : TI Go.Proofs.Tryd.prog 151 3 24 (.agg #[(.pointer none), (.pointer none), (.int .u64 0)]) #[(.pointer none), (.pointer none), (.int .u64 0)] := ⟨by kernel_rfl, rfl⟩
instance : FA Go.Proofs.Tryd.prog 151 0 0 17 := ⟨0, by kernel_rfl⟩
instance : FA Go.Proofs.Tryd.prog 151 1 1 148 := ⟨0, by kernel_rfl⟩
instance : FA Go.Proofs.Tryd.prog 151 2 2 149 := ⟨0, by kernel_rfl⟩
instance : BP Go.Proofs.Tryd.prog 151 [(0, 1), (1, 1), (2, 1)] := ⟨by kernel_rfl⟩
instance : TD Go.Proofs.Tryd.prog 153 (.interface #[("AssignableTo", 158), ("Comparable", 30), ("Elem", 155), ("Implements", 158), ("Kind", 157), ("Name", 192), ("PkgPath", 192), ("Size", 207), ("String", 192), ("internal/reflectlite.common", 198), ("internal/reflectlite.uncommon", 208)]) := ⟨Go.Proofs.Tryd.underlying153⟩
instance : SC Go.Proofs.Tryd.prog 153 := ⟨by kernel_rfl⟩
instance : TI Go.Proofs.Tryd.prog 153 1 16 .nilIface #[.nilIface] := ⟨by kernel_rfl, rfl⟩
instance : TD Go.Proofs.Tryd.prog 154 (.interface #[("AssignableTo", 158), ("Comparable", 30), ("Elem", 155), ("Implements", 158), ("Kind", 157), ("Name", 192), ("PkgPath", 192), ("Size", 207), ("String", 192), ("internal/reflectlite.common", 198), ("internal/reflectlite.uncommon", 208)]) := ⟨Go.Proofs.Tryd.underlying154⟩
instance : SC Go.Proofs.Tryd.prog 154 := ⟨by kernel_rfl⟩
instance : TI Go.Proofs.Tryd.prog 154 1 16 .nilIface #[.nilIface] := ⟨by kernel_rfl, rfl⟩
instance : TD Go.Proofs.Tryd.prog 156 (.int .u8) := ⟨Go.Proofs.Tryd.underlying156⟩
instance : SC Go.Proofs.Tryd.prog 156 := ⟨by kernel_rfl⟩
instance : TI Go.Proofs.Tryd.prog 156 1 1 (.int .u8 0) #[(.int .u8 0)] := ⟨by kernel_rfl, rfl⟩
instance : TD Go.Proofs.Tryd.prog 165 (.pointer 108) := ⟨Go.Proofs.Tryd.underlying165⟩
instance : SC Go.Proofs.Tryd.prog 165 := ⟨by kernel_rfl⟩
instance : TI Go.Proofs.Tryd.prog 165 1 8 (.pointer none) #[(.pointer none)] := ⟨by kernel_rfl, rfl⟩
instance : TD Go.Proofs.Tryd.prog 167 (.slice 168) := ⟨Go.Proofs.Tryd.underlying167⟩
instance : SC Go.Proofs.Tryd.prog 167 := ⟨by kernel_rfl⟩
instance : TI Go.Proofs.Tryd.prog 167 1 24 (.slice none 0 0) #[(.slice none 0 0)] := ⟨by kernel_rfl, rfl⟩
instance : TD Go.Proofs.Tryd.prog 168 (.chan .both 114) := ⟨Go.Proofs.Tryd.underlying168⟩
instance : SC Go.Proofs.Tryd.prog 168 := ⟨by kernel_rfl⟩
instance : TI Go.Proofs.Tryd.prog 168 1 8 (.chan none) #[(.chan none)] := ⟨by kernel_rfl, rfl⟩
instance : AG Go.Proofs.Tryd.prog 170 1 := ⟨by kernel_rfl, by kernel_rfl⟩
instance : TI Go.Proofs.Tryd.prog 170 1 8 (.agg #[(.pointer none)]) #[(.pointer none)] := ⟨by kernel_rfl, rfl⟩
instance : FA Go.Proofs.Tryd.prog 170 0 0 17 := ⟨0, by kernel_rfl⟩
instance : BP Go.Proofs.Tryd.prog 170 [(0, 1)] := ⟨by kernel_rfl⟩
instance : AG Go.Proofs.Tryd.prog 171 1 := ⟨by kernel_rfl, by kernel_rfl⟩
instance : TI Go.Proofs.Tryd.prog 171 1 8 (.agg #[(.pointer none)]) #[(.pointer none)] := ⟨by kernel_rfl, rfl⟩
instance : FA Go.Proofs.Tryd.prog 171 0 0 17 := ⟨0, by kernel_rfl⟩
instance : BP Go.Proofs.Tryd.prog 171 [(0, 1)] := ⟨by kernel_rfl⟩
instance : TD Go.Proofs.Tryd.prog 172 (.pointer 210) := ⟨Go.Proofs.Tryd.underlying172⟩
instance : SC Go.Proofs.Tryd.prog 172 := ⟨by kernel_rfl⟩
instance : TI Go.Proofs.Tryd.prog 172 1 8 (.pointer none) #[(.pointer none)] := ⟨by kernel_rfl, rfl⟩
instance : TD Go.Proofs.Tryd.prog 176 (.interface #[("As", 178)]) := ⟨Go.Proofs.Tryd.underlying176⟩
instance : SC Go.Proofs.Tryd.prog 176 := ⟨by kernel_rfl⟩
instance : TI Go.Proofs.Tryd.prog 176 1 16 .nilIface #[.nilIface] := ⟨by kernel_rfl, rfl⟩
instance : TD Go.Proofs.Tryd.prog 179 (.interface #[("Unwrap", 180)]) := ⟨Go.Proofs.Tryd.underlying179⟩
instance : SC Go.Proofs.Tryd.prog 179 := ⟨by kernel_rfl⟩
instance : TI Go.Proofs.Tryd.prog 179 1 16 .nilIface #[.nilIface] := ⟨by kernel_rfl, rfl⟩
instance : TD Go.Proofs.Tryd.prog 181 (.interface #[("Unwrap", 183)]) := ⟨Go.Proofs.Tryd.underlying181⟩
instance : SC Go.Proofs.Tryd.prog 181 := ⟨by kernel_rfl⟩
instance : TI Go.Proofs.Tryd.prog 181 1 16 .nilIface #[.nilIface] := ⟨by kernel_rfl, rfl⟩
instance : TD Go.Proofs.Tryd.prog 182 (.slice 123) := ⟨Go.Proofs.Tryd.underlying182⟩
instance : SC Go.Proofs.Tryd.prog 182 := ⟨by kernel_rfl⟩
instance : TI Go.Proofs.Tryd.prog 182 1 24 (.slice none 0 0) #[(.slice none 0 0)] := ⟨by kernel_rfl, rfl⟩
instance : AG Go.Proofs.Tryd.prog 184 1 := ⟨by kernel_rfl, by kernel_rfl⟩
instance : TI Go.Proofs.Tryd.prog 184 1 8 (.agg #[(.int .i64 0)]) #[(.int .i64 0)] := ⟨by kernel_rfl, rfl⟩
instance : FA Go.Proofs.Tryd.prog 184 0 0 3 := ⟨0, by kernel_rfl⟩
instance : BP Go.Proofs.Tryd.prog 184 [(0, 1)] := ⟨by kernel_rfl⟩
instance : AG Go.Proofs.Tryd.prog 185 1 := ⟨by kernel_rfl, by kernel_rfl⟩
instance : TI Go.Proofs.Tryd.prog 185 1 8 (.agg #[(.int .i64 0)]) #[(.int .i64 0)] := ⟨by kernel_rfl, rfl⟩
instance : FA Go.Proofs.Tryd.prog 185 0 0 3 := ⟨0, by kernel_rfl⟩
instance : BP Go.Proofs.Tryd.prog 185 [(0, 1)] := ⟨by kernel_rfl⟩
instance : AG Go.Proofs.Tryd.prog 186 1 := ⟨by kernel_rfl, by kernel_rfl⟩
instance : TI Go.Proofs.Tryd.prog 186 1 8 (.agg #[(.int .i64 0)]) #[(.int .i64 0)] := ⟨by kernel_rfl, rfl⟩
instance : FA Go.Proofs.Tryd.prog 186 0 0 3 := ⟨0, by kernel_rfl⟩
instance : BP Go.Proofs.Tryd.prog 186 [(0, 1)] := ⟨by kernel_rfl⟩
instance : AG Go.Proofs.Tryd.prog 193 4 := ⟨by kernel_rfl, by kernel_rfl⟩
instance : TI Go.Proofs.Tryd.prog 193 4 40 (.agg #[(.pointer none), (.pointer none), (.pointer none), (.string ⟨#[]⟩)]) #[(.pointer none), (.pointer none), (.pointer none), (.string ⟨#[]⟩)] := ⟨by kernel_rfl, rfl⟩
instance : FA Go.Proofs.Tryd.prog 193 0 0 17 := ⟨0, by kernel_rfl⟩
instance : FA Go.Proofs.Tryd.prog 193 1 1 17 := ⟨0, by kernel_rfl⟩
instance : FA Go.Proofs.Tryd.prog 193 2 2 17 := ⟨0, by kernel_rfl⟩
instance : FA Go.Proofs.Tryd.prog 193 3 3 9 := ⟨0, by kernel_rfl⟩
instance : BP Go.Proofs.Tryd.prog 193 [(0, 1), (1, 1), (2, 1), (3, 1)] := ⟨by kernel_rfl⟩
instance : AG Go.Proofs.Tryd.prog 194 4 := ⟨by kernel_rfl, by kernel_rfl⟩
instance : TI Go.Proofs.Tryd.prog 194 4 40 (.agg #[(.pointer none), (.pointer none), (.pointer none), (.string ⟨#[]⟩)]) #[(.pointer none), (.pointer none), (.pointer none), (.string ⟨#[]⟩)] := ⟨by kernel_rfl, rfl⟩
instance : FA Go.Proofs.Tryd.prog 194 0 0 17 := ⟨0, by kernel_rfl⟩
instance : FA Go.Proofs.Tryd.prog 194 1 1 17 := ⟨0, by kernel_rfl⟩
instance : FA Go.Proofs.Tryd.prog 194 2 2 17 := ⟨0, by kernel_rfl⟩
instance : FA Go.Proofs.Tryd.prog 194 3 3 9 := ⟨0, by kernel_rfl⟩
instance : BP Go.Proofs.Tryd.prog 194 [(0, 1), (1, 1), (2, 1), (3, 1)] := ⟨by kernel_rfl⟩
instance : TD Go.Proofs.Tryd.prog 195 (.array 0 16) := ⟨Go.Proofs.Tryd.underlying195⟩
instance : AG Go.Proofs.Tryd.prog 195 0 := ⟨by kernel_rfl, by kernel_rfl⟩
instance : TI Go.Proofs.Tryd.prog 195 0 0 (.agg #[]) #[] := ⟨by kernel_rfl, rfl⟩
instance : AG Go.Proofs.Tryd.prog 196 0 := ⟨by kernel_rfl, by kernel_rfl⟩
instance : TI Go.Proofs.Tryd.prog 196 0 0 (.agg #[]) #[] := ⟨by kernel_rfl, rfl⟩
instance : BP Go.Proofs.Tryd.prog 196 [(0, 0)] := ⟨by kernel_rfl⟩
instance : AG Go.Proofs.Tryd.prog 197 0 := ⟨by kernel_rfl, by kernel_rfl⟩
instance : TI Go.Proofs.Tryd.prog 197 0 0 (.agg #[]) #[] := ⟨by kernel_rfl, rfl⟩
instance : BP Go.Proofs.Tryd.prog 197 [(0, 0)] := ⟨by kernel_rfl⟩
instance : TD Go.Proofs.Tryd.prog 199 (.int .u32) := ⟨Go.Proofs.Tryd.underlying199⟩
instance : SC Go.Proofs.Tryd.prog 199 := ⟨by kernel_rfl⟩
instance : TI Go.Proofs.Tryd.prog 199 1 4 (.int .u32 0) #[(.int .u32 0)] := ⟨by kernel_rfl, rfl⟩
instance : TD Go.Proofs.Tryd.prog 200 (.int .u8) := ⟨Go.Proofs.Tryd.underlying200⟩
instance : SC Go.Proofs.Tryd.prog 200 := ⟨by kernel_rfl⟩
instance : TI Go.Proofs.Tryd.prog 200 1 1 (.int .u8 0) #[(.int .u8 0)] := ⟨by kernel_rfl, rfl⟩
instance : TD Go.Proofs.Tryd.prog 202 (.pointer 5) := ⟨Go.Proofs.Tryd.underlying202⟩
instance : SC Go.Proofs.Tryd.prog 202 := ⟨by kernel_rfl⟩
instance : TI Go.Proofs.Tryd.prog 202 1 8 (.pointer none) #[(.pointer none)] := ⟨by kernel_rfl, rfl⟩
instance : TD Go.Proofs.Tryd.prog 203 (.int .i32) := ⟨Go.Proofs.Tryd.underlying203⟩
instance : SC Go.Proofs.Tryd.prog 203 := ⟨by kernel_rfl⟩
instance : TI Go.Proofs.Tryd.prog 203 1 4 (.int .i32 0) #[(.int .i32 0)] := ⟨by kernel_rfl, rfl⟩
instance : TD Go.Proofs.Tryd.prog 204 (.int .i32) := ⟨Go.Proofs.Tryd.underlying204⟩
instance : SC Go.Proofs.Tryd.prog 204 := ⟨by kernel_rfl⟩
instance : TI Go.Proofs.Tryd.prog 204 1 4 (.int .i32 0) #[(.int .i32 0)] := ⟨by kernel_rfl, rfl⟩
instance : AG Go.Proofs.Tryd.prog 205 11 := ⟨by kernel_rfl, by kernel_rfl⟩
instance : TI Go.Proofs.Tryd.prog 205 11 48 (.agg #[(.int .u64 0), (.int .u64 0), (.int .u32 0), (.int .u8 0), (.int .u8 0), (.int .u8 0), (.int .u8 0), .nilFunc, (.pointer none), (.int .i32 0), (.int .i32 0)]) #[(.int .u64 0), (.int .u64 0), (.int .u32 0), (.int .u8 0), (.int .u8 0), (.int .u8 0), (.int .u8 0), .nilFunc, (.pointer none), (.int .i32 0), (.int .i32 0)] := ⟨by kernel_rfl, rfl⟩
instance : FA Go.Proofs.Tryd.prog 205 0 0 12 := ⟨0, by kernel_rfl⟩
instance : FA Go.Proofs.Tryd.prog 205 1 1 12 := ⟨0, by kernel_rfl⟩
instance : FA Go.Proofs.Tryd.prog 205 2 2 199 := ⟨0, by kernel_rfl⟩
instance : FA Go.Proofs.Tryd.prog 205 3 3 200 := ⟨0, by kernel_rfl⟩
instance : FA Go.Proofs.Tryd.prog 205 4 4 5 := ⟨0, by kernel_rfl⟩
instance : FA Go.Proofs.Tryd.prog 205 5 5 5 := ⟨0, by kernel_rfl⟩
instance : FA Go.Proofs.Tryd.prog 205 6 6 156 := ⟨0, by kernel_rfl⟩
instance : FA Go.Proofs.Tryd.prog 205 7 7 201 := ⟨0, by kernel_rfl⟩
instance : FA Go.Proofs.Tryd.prog 205 8 8 202 := ⟨0, by kernel_rfl⟩
instance : FA Go.Proofs.Tryd.prog 205 9 9 203 := ⟨0, by kernel_rfl⟩
instance : FA Go.Proofs.Tryd.prog 205 10 10 204 := ⟨0, by kernel_rfl⟩
instance : BP Go.Proofs.Tryd.prog 205 [(0, 1), (1, 1), (2, 1), (3, 1), (4, 1), (5, 1), (6, 1), (7, 1), (8, 1), (9, 1), (10, 1)] := ⟨by kernel_rfl⟩
instance : AG Go.Proofs.Tryd.prog 206 11 := ⟨by kernel_rfl, by kernel_rfl⟩
instance : TI Go.Proofs.Tryd.prog 206 11 48 (.agg #[(.int .u64 0), (.int .u64 0), (.int .u32 0), (.int .u8 0), (.int .u8 0), (.int .u8 0), (.int .u8 0), .nilFunc, (.pointer none), (.int .i32 0), (.int .i32 0)]) #[(.int .u64 0), (.int .u64 0), (.int .u32 0), (.int .u8 0), (.int .u8 0), (.int .u8 0), (.int .u8 0), .nilFunc, (.pointer none), (.int .i32 0), (.int .i32 0)] := ⟨by kernel_rfl, rfl⟩
instance : FA Go.Proofs.Tryd.prog 206 0 0 12 := ⟨0, by kernel_rfl⟩
instance : FA Go.Proofs.Tryd.prog 206 1 1 12 := ⟨0, by kernel_rfl⟩
instance : FA Go.Proofs.Tryd.prog 206 2 2 199 := ⟨0, by kernel_rfl⟩
instance : FA Go.Proofs.Tryd.prog 206 3 3 200 := ⟨0, by kernel_rfl⟩
instance : FA Go.Proofs.Tryd.prog 206 4 4 5 := ⟨0, by kernel_rfl⟩
instance : FA Go.Proofs.Tryd.prog 206 5 5 5 := ⟨0, by kernel_rfl⟩
instance : FA Go.Proofs.Tryd.prog 206 6 6 156 := ⟨0, by kernel_rfl⟩
instance : FA Go.Proofs.Tryd.prog 206 7 7 201 := ⟨0, by kernel_rfl⟩
instance : FA Go.Proofs.Tryd.prog 206 8 8 202 := ⟨0, by kernel_rfl⟩
instance : FA Go.Proofs.Tryd.prog 206 9 9 203 := ⟨0, by kernel_rfl⟩
instance : FA Go.Proofs.Tryd.prog 206 10 10 204 := ⟨0, by kernel_rfl⟩
instance : BP Go.Proofs.Tryd.prog 206 [(0, 1), (1, 1), (2, 1), (3, 1), (4, 1), (5, 1), (6, 1), (7, 1), (8, 1), (9, 1), (10, 1)] := ⟨by kernel_rfl⟩
instance : AG Go.Proofs.Tryd.prog 209 2 := ⟨by kernel_rfl, by kernel_rfl⟩
instance : TI Go.Proofs.Tryd.prog 209 2 24 (.agg #[(.string ⟨#[]⟩), (.int .u8 0)]) #[(.string ⟨#[]⟩), (.int .u8 0)] := ⟨by kernel_rfl, rfl⟩
instance : FA Go.Proofs.Tryd.prog 209 0 0 9 := ⟨0, by kernel_rfl⟩
instance : FA Go.Proofs.Tryd.prog 209 1 1 156 := ⟨0, by kernel_rfl⟩
instance : BP Go.Proofs.Tryd.prog 209 [(0, 1), (1, 1)] := ⟨by kernel_rfl⟩
instance : AG Go.Proofs.Tryd.prog 210 2 := ⟨by kernel_rfl, by kernel_rfl⟩
instance : TI Go.Proofs.Tryd.prog 210 2 24 (.agg #[(.string ⟨#[]⟩), (.int .u8 0)]) #[(.string ⟨#[]⟩), (.int .u8 0)] := ⟨by kernel_rfl, rfl⟩
instance : FA Go.Proofs.Tryd.prog 210 0 0 9 := ⟨0, by kernel_rfl⟩
instance : FA Go.Proofs.Tryd.prog 210 1 1 156 := ⟨0, by kernel_rfl⟩
instance : BP Go.Proofs.Tryd.prog 210 [(0, 1), (1, 1)] := ⟨by kernel_rfl⟩
instance : TD Go.Proofs.Tryd.prog 211 (.pointer 215) := ⟨Go.Proofs.Tryd.underlying211⟩
instance : SC Go.Proofs.Tryd.prog 211 := ⟨by kernel_rfl⟩
instance : TI Go.Proofs.Tryd.prog 211 1 8 (.pointer none) #[(.pointer none)] := ⟨by kernel_rfl, rfl⟩
instance : TD Go.Proofs.Tryd.prog 213 (.int .u16) := ⟨Go.Proofs.Tryd.underlying213⟩
instance : SC Go.Proofs.Tryd.prog 213 := ⟨by kernel_rfl⟩
instance : TI Go.Proofs.Tryd.prog 213 1 2 (.int .u16 0) #[(.int .u16 0)] := ⟨by kernel_rfl, rfl⟩
instance : AG Go.Proofs.Tryd.prog 214 5 := ⟨by kernel_rfl, by kernel_rfl⟩
instance : TI Go.Proofs.Tryd.prog 214 5 16 (.agg #[(.int .i32 0), (.int .u16 0), (.int .u16 0), (.int .u32 0), (.int .u32 0)]) #[(.int .i32 0), (.int .u16 0), (.int .u16 0), (.int .u32 0), (.int .u32 0)] := ⟨by kernel_rfl, rfl⟩
instance : FA Go.Proofs.Tryd.prog 214 0 0 203 := ⟨0, by kernel_rfl⟩
instance : FA Go.Proofs.Tryd.prog 214 1 1 213 := ⟨0, by kernel_rfl⟩
instance : FA Go.Proofs.Tryd.prog 214 2 2 213 := ⟨0, by kernel_rfl⟩
instance : FA Go.Proofs.Tryd.prog 214 3 3 199 := ⟨0, by kernel_rfl⟩
instance : FA Go.Proofs.Tryd.prog 214 4 4 199 := ⟨0, by kernel_rfl⟩
instance : BP Go.Proofs.Tryd.prog 214 [(0, 1), (1, 1), (2, 1), (3, 1), (4, 1)] := ⟨by kernel_rfl⟩
instance : AG Go.Proofs.Tryd.prog 215 5 := ⟨by kernel_rfl, by kernel_rfl⟩
instance : TI Go.Proofs.Tryd.prog 215 5 16 (.agg #[(.int .i32 0), (.int .u16 0), (.int .u16 0), (.int .u32 0), (.int .u32 0)]) #[(.int .i32 0), (.int .u16 0), (.int .u16 0), (.int .u32 0), (.int .u32 0)] := ⟨by kernel_rfl, rfl⟩
instance : FA Go.Proofs.Tryd.prog 215 0 0 203 := ⟨0, by kernel_rfl⟩
instance : FA Go.Proofs.Tryd.prog 215 1 1 213 := ⟨0, by kernel_rfl⟩
instance : FA Go.Proofs.Tryd.prog 215 2 2 213 := ⟨0, by kernel_rfl⟩
instance : FA Go.Proofs.Tryd.prog 215 3 3 199 := ⟨0, by kernel_rfl⟩
instance : FA Go.Proofs.Tryd.prog 215 4 4 199 := ⟨0, by kernel_rfl⟩
instance : BP Go.Proofs.Tryd.prog 215 [(0, 1), (1, 1), (2, 1), (3, 1), (4, 1)] := ⟨by kernel_rfl⟩
instance : TD Go.Proofs.Tryd.prog 216 (.slice 219) := ⟨Go.Proofs.Tryd.underlying216⟩
instance : SC Go.Proofs.Tryd.prog 216 := ⟨by kernel_rfl⟩
instance : TI Go.Proofs.Tryd.prog 216 1 24 (.slice none 0 0) #[(.slice none 0 0)] := ⟨by kernel_rfl, rfl⟩
instance : TD Go.Proofs.Tryd.prog 217 (.int .i32) := ⟨Go.Proofs.Tryd.underlying217⟩
instance : SC Go.Proofs.Tryd.prog 217 := ⟨by kernel_rfl⟩
instance : TI Go.Proofs.Tryd.prog 217 1 4 (.int .i32 0) #[(.int .i32 0)] := ⟨by kernel_rfl, rfl⟩
instance : AG Go.Proofs.Tryd.prog 218 4 := ⟨by kernel_rfl, by kernel_rfl⟩
instance : TI Go.Proofs.Tryd.prog 218 4 16 (.agg #[(.int .i32 0), (.int .i32 0), (.int .i32 0), (.int .i32 0)]) #[(.int .i32 0), (.int .i32 0), (.int .i32 0), (.int .i32 0)] := ⟨by kernel_rfl, rfl⟩
instance : FA Go.Proofs.Tryd.prog 218 0 0 203 := ⟨0, by kernel_rfl⟩
instance : FA Go.Proofs.Tryd.prog 218 1 1 204 := ⟨0, by kernel_rfl⟩
instance : FA Go.Proofs.Tryd.prog 218 2 2 217 := ⟨0, by kernel_rfl⟩
instance : FA Go.Proofs.Tryd.prog 218 3 3 217 := ⟨0, by kernel_rfl⟩
instance : BP Go.Proofs.Tryd.prog 218 [(0, 1), (1, 1), (2, 1), (3, 1)] := ⟨by kernel_rfl⟩
instance : AG Go.Proofs.Tryd.prog 219 4 := ⟨by kernel_rfl, by kernel_rfl⟩
instance : TI Go.Proofs.Tryd.prog 219 4 16 (.agg #[(.int .i32 0), (.int .i32 0), (.int .i32 0), (.int .i32 0)]) #[(.int .i32 0), (.int .i32 0), (.int .i32 0), (.int .i32 0)] := ⟨by kernel_rfl, rfl⟩
instance : FA Go.Proofs.Tryd.prog 219 0 0 203 := ⟨0, by kernel_rfl⟩
instance : FA Go.Proofs.Tryd.prog 219 1 1 204 := ⟨0, by kernel_rfl⟩
instance : FA Go.Proofs.Tryd.prog 219 2 2 217 := ⟨0, by kernel_rfl⟩
instance : FA Go.Proofs.Tryd.prog 219 3 3 217 := ⟨0, by kernel_rfl⟩
instance : BP Go.Proofs.Tryd.prog 219 [(0, 1), (1, 1), (2, 1), (3, 1)] := ⟨by kernel_rfl⟩
instance : TD Go.Proofs.Tryd.prog 220 (.pointer 123) := ⟨Go.Proofs.Tryd.underlying220⟩
instance : SC Go.Proofs.Tryd.prog 220 := ⟨by kernel_rfl⟩
instance : TI Go.Proofs.Tryd.prog 220 1 8 (.pointer none) #[(.pointer none)] := ⟨by kernel_rfl, rfl⟩
instance : FB Go.Proofs.Tryd.prog 2 := ⟨by kernel_rfl⟩
instance : FB Go.Proofs.Tryd.prog 3 := ⟨by kernel_rfl⟩
instance : FB Go.Proofs.Tryd.prog 4 := ⟨by kernel_rfl⟩
instance : FB Go.Proofs.Tryd.prog 5 := ⟨by kernel_rfl⟩
instance : FB Go.Proofs.Tryd.prog 6 := ⟨by kernel_rfl⟩
instance : FB Go.Proofs.Tryd.prog 7 := ⟨by kernel_rfl⟩
instance : FB Go.Proofs.Tryd.prog 8 := ⟨by kernel_rfl⟩
instance : FB Go.Proofs.Tryd.prog 9 := ⟨by kernel_rfl⟩
instance : FB Go.Proofs.Tryd.prog 10 := ⟨by kernel_rfl⟩
instance : FB Go.Proofs.Tryd.prog 11 := ⟨by kernel_rfl⟩
instance : FB Go.Proofs.Tryd.prog 12 := ⟨by kernel_rfl⟩
instance : FB Go.Proofs.Tryd.prog 13 := ⟨by kernel_rfl⟩
instance : FB Go.Proofs.Tryd.prog 14 := ⟨by kernel_rfl⟩
instance : FB Go.Proofs.Tryd.prog 15 := ⟨by kernel_rfl⟩
instance : FB Go.Proofs.Tryd.prog 16 := ⟨by kernel_rfl⟩
instance : FB Go.Proofs.Tryd.prog 17 := ⟨by kernel_rfl⟩
instance : FB Go.Proofs.Tryd.prog 18 := ⟨by kernel_rfl⟩
instance : FB Go.Proofs.Tryd.prog 19 := ⟨by kernel_rfl⟩
instance : FB Go.Proofs.Tryd.prog 20 := ⟨by kernel_rfl⟩
instance : FB Go.Proofs.Tryd.prog 21 := ⟨by kernel_rfl⟩
instance : FB Go.Proofs.Tryd.prog 22 := ⟨by kernel_rfl⟩
instance : FB Go.Proofs.Tryd.prog 23 := ⟨by kernel_rfl⟩
instance : FB Go.Proofs.Tryd.prog 24 := ⟨by kernel_rfl⟩
instance : FB Go.Proofs.Tryd.prog 25 := ⟨by kernel_rfl⟩
instance : FB Go.Proofs.Tryd.prog 26 := ⟨by kernel_rfl⟩
instance : FB Go.Proofs.Tryd.prog 27 := ⟨by kernel_rfl⟩
instance : FB Go.Proofs.Tryd.prog 28 := ⟨by kernel_rfl⟩
instance : FB Go.Proofs.Tryd.prog 29 := ⟨by kernel_rfl⟩
instance : FB Go.Proofs.Tryd.prog 30 := ⟨by kernel_rfl⟩
instance : FB Go.Proofs.Tryd.prog 31 := ⟨by kernel_rfl⟩
instance : FB Go.Proofs.Tryd.prog 32 := ⟨by kernel_rfl⟩
instance : FB Go.Proofs.Tryd.prog 33 := ⟨by kernel_rfl⟩
instance : FB Go.Proofs.Tryd.prog 34 := ⟨by kernel_rfl⟩
instance : FB Go.Proofs.Tryd.prog 35 := ⟨by kernel_rfl⟩
instance : FB Go.Proofs.Tryd.prog 36 := ⟨by kernel_rfl⟩
instance : FB Go.Proofs.Tryd.prog 37 := ⟨by kernel_rfl⟩
instance : FB Go.Proofs.Tryd.prog 38 := ⟨by kernel_rfl⟩
instance : FB Go.Proofs.Tryd.prog 39 := ⟨by kernel_rfl⟩
instance : FB Go.Proofs.Tryd.prog 40 := ⟨by kernel_rfl⟩
instance : FB Go.Proofs.Tryd.prog 41 := ⟨by kernel_rfl⟩
instance : FB Go.Proofs.Tryd.prog 42 := ⟨by kernel_rfl⟩
instance : FB Go.Proofs.Tryd.prog 43 := ⟨by kernel_rfl⟩
instance : FB Go.Proofs.Tryd.prog 44 := ⟨by kernel_rfl⟩
instance : FB Go.Proofs.Tryd.prog 45 := ⟨by kernel_rfl⟩
instance : FB Go.Proofs.Tryd.prog 46 := ⟨by kernel_rfl⟩
instance : FB Go.Proofs.Tryd.prog 47 := ⟨by kernel_rfl⟩
instance : FB Go.Proofs.Tryd.prog 48 := ⟨by kernel_rfl⟩
instance : FB Go.Proofs.Tryd.prog 49 := ⟨by kernel_rfl⟩
instance : FB Go.Proofs.Tryd.prog 50 := ⟨by kernel_rfl⟩
instance : FB Go.Proofs.Tryd.prog 51 := ⟨by kernel_rfl⟩
instance : FB Go.Proofs.Tryd.prog 52 := ⟨by kernel_rfl⟩
instance : FB Go.Proofs.Tryd.prog 53 := ⟨by kernel_rfl⟩
instance : FB Go.Proofs.Tryd.prog 54 := ⟨by kernel_rfl⟩
instance : FB Go.Proofs.Tryd.prog 55 := ⟨by kernel_rfl⟩
instance : FB Go.Proofs.Tryd.prog 56 := ⟨by kernel_rfl⟩
instance : FB Go.Proofs.Tryd.prog 57 := ⟨by kernel_rfl⟩
instance : FB Go.Proofs.Tryd.prog 58 := ⟨by kernel_rfl⟩
instance : FB Go.Proofs.Tryd.prog 59 := ⟨by kernel_rfl⟩
instance : FB Go.Proofs.Tryd.prog 60 := ⟨by kernel_rfl⟩
instance : FB Go.Proofs.Tryd.prog 61 := ⟨by kernel_rfl⟩
instance : FB Go.Proofs.Tryd.prog 62 := ⟨by kernel_rfl⟩
instance : FB Go.Proofs.Tryd.prog 63 := ⟨by kernel_rfl⟩
instance : FB Go.Proofs.Tryd.prog 64 := ⟨by kernel_rfl⟩
instance : FB Go.Proofs.Tryd.prog 65 := ⟨by kernel_rfl⟩
instance : FB Go.Proofs.Tryd.prog 66 := ⟨by kernel_rfl⟩
instance : FB Go.Proofs.Tryd.prog 67 := ⟨by kernel_rfl⟩
instance : FB Go.Proofs.Tryd.prog 68 := ⟨by kernel_rfl⟩
instance : FB Go.Proofs.Tryd.prog 69 := ⟨by kernel_rfl⟩
instance : FB Go.Proofs.Tryd.prog 70 := ⟨by kernel_rfl⟩
instance : FB Go.Proofs.Tryd.prog 71 := ⟨by kernel_rfl⟩
instance : FB Go.Proofs.Tryd.prog 72 := ⟨by kernel_rfl⟩
instance : FB Go.Proofs.Tryd.prog 73 := ⟨by kernel_rfl⟩
instance : FB Go.Proofs.Tryd.prog 74 := ⟨by kernel_rfl⟩
instance : FB Go.Proofs.Tryd.prog 75 := ⟨by kernel_rfl⟩
instance : FB Go.Proofs.Tryd.prog 76 := ⟨by kernel_rfl⟩
instance : FB Go.Proofs.Tryd.prog 77 := ⟨by kernel_rfl⟩
instance : FB Go.Proofs.Tryd.prog 78 := ⟨by kernel_rfl⟩
instance : FB Go.Proofs.Tryd.prog 79 := ⟨by kernel_rfl⟩
instance : FB Go.Proofs.Tryd.prog 80 := ⟨by kernel_rfl⟩
instance : FB Go.Proofs.Tryd.prog 81 := ⟨by kernel_rfl⟩
instance : FB Go.Proofs.Tryd.prog 82 := ⟨by kernel_rfl⟩
instance : FB Go.Proofs.Tryd.prog 83 := ⟨by kernel_rfl⟩
instance : FB Go.Proofs.Tryd.prog 84 := ⟨by kernel_rfl⟩
instance : FB Go.Proofs.Tryd.prog 85 := ⟨by kernel_rfl⟩
instance : FB Go.Proofs.Tryd.prog 86 := ⟨by kernel_rfl⟩
instance : FB Go.Proofs.Tryd.prog 87 := ⟨by kernel_rfl⟩
instance : FB Go.Proofs.Tryd.prog 88 := ⟨by kernel_rfl⟩
instance : FB Go.Proofs.Tryd.prog 89 := ⟨by kernel_rfl⟩
instance : FB Go.Proofs.Tryd.prog 90 := ⟨by kernel_rfl⟩
instance : FB Go.Proofs.Tryd.prog 91 := ⟨by kernel_rfl⟩
instance : FB Go.Proofs.Tryd.prog 92 := ⟨by kernel_rfl⟩
instance : FB Go.Proofs.Tryd.prog 93 := ⟨by kernel_rfl⟩
instance : FB Go.Proofs.Tryd.prog 94 := ⟨by kernel_rfl⟩
instance : FB Go.Proofs.Tryd.prog 95 := ⟨by kernel_rfl⟩
instance : FB Go.Proofs.Tryd.prog 99 := ⟨by kernel_rfl⟩
instance : FB Go.Proofs.Tryd.prog 100 := ⟨by kernel_rfl⟩
instance : FB Go.Proofs.Tryd.prog 101 := ⟨by kernel_rfl⟩
instance : FB Go.Proofs.Tryd.prog 102 := ⟨by kernel_rfl⟩
instance : FB Go.Proofs.Tryd.prog 103 := ⟨by kernel_rfl⟩
instance : FB Go.Proofs.Tryd.prog 104 := ⟨by kernel_rfl⟩
instance : FB Go.Proofs.Tryd.prog 105 := ⟨by kernel_rfl⟩
instance : FB Go.Proofs.Tryd.prog 109 := ⟨by kernel_rfl⟩
instance : FB Go.Proofs.Tryd.prog 110 := ⟨by kernel_rfl⟩
instance : FB Go.Proofs.Tryd.prog 111 := ⟨by kernel_rfl⟩
instance : FB Go.Proofs.Tryd.prog 112 := ⟨by kernel_rfl⟩
instance : FB Go.Proofs.Tryd.prog 113 := ⟨by kernel_rfl⟩
instance : FB Go.Proofs.Tryd.prog 114 := ⟨by kernel_rfl⟩
instance : FB Go.Proofs.Tryd.prog 115 := ⟨by kernel_rfl⟩
instance : FB Go.Proofs.Tryd.prog 116 := ⟨by kernel_rfl⟩
instance : FB Go.Proofs.Tryd.prog 117 := ⟨by kernel_rfl⟩
instance : FB Go.Proofs.Tryd.prog 151 := ⟨by kernel_rfl⟩
instance : FB Go.Proofs.Tryd.prog 152 := ⟨by kernel_rfl⟩
instance : FB Go.Proofs.Tryd.prog 157 := ⟨by kernel_rfl⟩
end Go.Proofs.YtabnpjbnoedfgaaDoor

/- Short forms for walks: results, calls of functions that only answer. Conditions: none; over any program. -/
namespace Go.Mus
/-- What the results are, where they lie in temporaries. -/
def resT (ρ : Env) : List ResultVar → Option (List Value)
  | [] => some []
  | .tmp t :: r => match look ρ t, resT ρ r with
    | some v, some vs => some (v :: vs)
    | _, _ => none
  | .cell _ _ :: _ => none
theorem resT_ok {P : Program} {h : Hp} {F : Frag} {ρ : Env} : ∀ {rs : List ResultVar} {vs : List Value}, resT ρ rs = some vs → resOK P h F rs ρ vs
  | [], vs, e => by simp only [resT, Option.some.injEq] at e; exact e.symm
  | .tmp t :: r, vs, e => by
    simp only [resT] at e
    split at e
    · rename_i v vs' h1 h2
      cases e
      exact ⟨v, vs', rfl, h1, resT_ok h2⟩
    · cases e
  | .cell _ _ :: _, vs, e => by cases e

/-- A function that answers, and keeps nothing. -/
abbrev Pu (P : Program) (main : Side) (f : FuncId) (args : Array Value) (h : Hp) (u : Value) : Prop := Fnc P main f args h [] (fun v A => v = u ∧ Shut A)

section
variable {P : Program} {main : Side} {fn : Func} {h : Hp} {R : Value → Frag → Prop} {e : Exit} {ρ : Env} {F : Frag} {ds : List Deferred}
theorem lvt {vs : List Value} (hR : R (pack vs) F) (he : e = .ret ∨ e = .normal := by first | exact .inl rfl | exact .inr rfl) (hv : resT ρ fn.results.toList = some vs := by rfl) : leave P main fn h R e ρ [] F :=
  leave_of he (by simp) (resT_ok hv) hR
/-- .. for one that answers. -/
theorem lvp {u : Value} {vs : List Value} (hu : pack vs = u) (he : e = .ret ∨ e = .normal := by first | exact .inl rfl | exact .inr rfl) (hv : resT ρ fn.results.toList = some vs := by rfl) (hs : Shut F := by repeat (first | exact Shut.nil | assumption | refine Shut.cons rfl ?_ | refine Shut.app ?_ ?_)) : leave P main fn h (fun v A => v = u ∧ Shut A) e ρ [] F :=
  lvt ⟨hu, hs⟩ he hv

/-- Marks of loops are taken off. -/
theorem Unw.marked {d : Nat} {K : Frag → Prop} {U : Obj → Frag} (hl : At d (.deferred (some [])) F U) (H : Unw P main h ds (U (.deferred none)) K) : Unw P main h (mark d :: ds) F K := by
  obtain ⟨F1, F2, e1, e2⟩ := hl.split
  show tr P h (Instr.takeDeferred d) F fun l F' => l = [] ∧ Unw P main h ds F' K
  simp only [Instr.takeDeferred, bind_eq, pure_eq]
  refine ⟨.deferred (some []), .inr (e1 ▸ by simp), (fun _ _ _ => by simp), rfl, ?_⟩
  refine ⟨.deferred (some []), F1, F2, e1, (fun _ _ _ => by simp), rfl, rfl, ?_⟩
  rw [e2] at H
  exact H
theorem lvm {d : Nat} {U : Obj → Frag} (H : leave P main fn h R e ρ ds (U (.deferred none))) (hl : At d (.deferred (some [])) F U := by repeat (first | exact At.head | apply At.tail | apply At.app)) : leave P main fn h R e ρ (mark d :: ds) F :=
  ⟨H.1, Unw.marked hl H.2⟩
end
section
variable {x : Cx} {Q : Post} {ρ : Env} {ds : List Deferred} {F : Frag} {ops : Array Oper} {i : Nat} {rest : List Nat} {d : Tmp} {ty : TypeId} {pos : String} {aft : Array Edge} {g : Option (Nat × Bool)} {L : Frag}
variable {f : FuncId} {args : List Operand} {ts : Array TypeId} {vs : List Value}
/-- A call of a function that answers. -/
theorem cp {u : Value} (H : ∀ h', Ext x.h h' → Lent F h' → Pu x.P x.main f vs.toArray h' u) (K : Ops x ops rest Q ((d, u) :: ρ) ds F) (ho : nthO ops.toList i = some ⟨some d, .call ⟨.value (.func f), args.toArray, ts⟩, ty, pos, aft, g⟩ := by rfl) [FB x.P f] (hv : evs ρ args = some vs := by rfl)
    (hw : want ops ρ ⟨some d, .call ⟨.value (.func f), args.toArray, ts⟩, ty, pos, aft, g⟩ := by first | exact wn | exact want_some rfl rfl rfl) (hd : Nat.blt d x.n = true := by rfl) : Ops x ops (i :: rest) Q ρ ds F :=
  Ops.eff (o := ⟨some d, .call ⟨.value (.func f), args.toArray, ts⟩, ty, pos, aft, g⟩) (e_call0 rfl hv H fun v A' hv => by
    obtain ⟨rfl, hs⟩ := hv
    exact Ops.sb (Sb.left .refl hs) K) (nthO_get ho) hw hd rfl
/-- A call that is handed nothing. -/
theorem c0 {R' : Value → Frag → Prop} (H : ∀ h', Ext x.h h' → Lent F h' → Fnc x.P x.main f vs.toArray h' [] R') (K : ∀ v A', R' v A' → Ops x ops rest Q ((d, v) :: ρ) ds (A' ++ F)) (ho : nthO ops.toList i = some ⟨some d, .call ⟨.value (.func f), args.toArray, ts⟩, ty, pos, aft, g⟩ := by rfl) [FB x.P f] (hv : evs ρ args = some vs := by rfl)
    (hw : want ops ρ ⟨some d, .call ⟨.value (.func f), args.toArray, ts⟩, ty, pos, aft, g⟩ := by first | exact wn | exact want_some rfl rfl rfl) (hd : Nat.blt d x.n = true := by rfl) : Ops x ops (i :: rest) Q ρ ds F :=
  Ops.eff (o := ⟨some d, .call ⟨.value (.func f), args.toArray, ts⟩, ty, pos, aft, g⟩) (e_call0 rfl hv H fun v A' hv => K v A' hv) (nthO_get ho) hw hd rfl
/-- A call that is handed a part. -/
theorem cg {A : Frag} {U : Frag → Frag} {R' : Value → Frag → Prop} (hs : Seg A F U) (H : ∀ h', Ext x.h h' → Lent (U []) h' → Fnc x.P x.main f vs.toArray h' A R') (K : ∀ v A', R' v A' → Ops x ops rest Q ((d, v) :: ρ) ds (U A')) (ho : nthO ops.toList i = some ⟨some d, .call ⟨.value (.func f), args.toArray, ts⟩, ty, pos, aft, g⟩ := by rfl) [FB x.P f] (hv : evs ρ args = some vs := by rfl)
    (hw : want ops ρ ⟨some d, .call ⟨.value (.func f), args.toArray, ts⟩, ty, pos, aft, g⟩ := by first | exact wn | exact want_some rfl rfl rfl) (hd : Nat.blt d x.n = true := by rfl) : Ops x ops (i :: rest) Q ρ ds F :=
  Ops.eff (o := ⟨some d, .call ⟨.value (.func f), args.toArray, ts⟩, ty, pos, aft, g⟩) (e_call rfl hv hs H fun v A' hv => K v A' hv) (nthO_get ho) hw hd rfl
/-- .. without a result. -/
theorem cgn {A : Frag} {U : Frag → Frag} {R' : Value → Frag → Prop} (hs : Seg A F U) (H : ∀ h', Ext x.h h' → Lent (U []) h' → Fnc x.P x.main f vs.toArray h' A R') (K : ∀ v A', R' v A' → Ops x ops rest Q ρ ds (U A')) (ho : nthO ops.toList i = some ⟨none, .call ⟨.value (.func f), args.toArray, ts⟩, ty, pos, aft, g⟩ := by rfl) [FB x.P f] (hv : evs ρ args = some vs := by rfl)
    (hw : want ops ρ ⟨none, .call ⟨.value (.func f), args.toArray, ts⟩, ty, pos, aft, g⟩ := by first | exact wn | exact want_some rfl rfl rfl) : Ops x ops (i :: rest) Q ρ ds F :=
  Ops.eff (o := ⟨none, .call ⟨.value (.func f), args.toArray, ts⟩, ty, pos, aft, g⟩) (e_call rfl hv hs H fun v A' hv => K v A' hv) (nthO_get ho) hw rfl rfl
end
section
variable {x : Cx} {Q : Post} {ρ : Env} {ds : List Deferred} {F : Frag} {ops : Array Oper} {i : Nat} {rest : List Nat} {d : Tmp} {op : Op} {ty : TypeId} {pos : String} {aft : Array Edge} {g : Option (Nat × Bool)} {L : Frag}
theorem look_again {d : Nat} {v : Value} (h : look ρ d = some v) : look ((d, v) :: ρ) = look ρ := by
  funext t
  show (bif Nat.beq t d then some v else look ρ t) = look ρ t
  cases e : Nat.beq t d with
  | true => rw [Nat.eq_of_beq_eq_true e, h]; rfl
  | false => rfl
/-- A guard's outcome, in an open order. -/
theorem Any.ask {fuel listed d' : Nat} {p : Prop} [Decidable p] (ht : p → Any x ops L fuel listed Q ((d', .bool true) :: ρ) ds F) (hf : ¬ p → Any x ops L fuel listed Q ((d', .bool false) :: ρ) ds F) (hv : look ρ d' = some (.bool (decide p)) := by rfl) : Any x ops L fuel listed Q ρ ds F := by
  by_cases hp : p
  · have := ht hp
    have e : look ρ d' = some (.bool true) := by rw [hv]; simp [hp]
    unfold Any at this ⊢
    rwa [look_again e] at this
  · have := hf hp
    have e : look ρ d' = some (.bool false) := by rw [hv]; simp [hp]
    unfold Any at this ⊢
    rwa [look_again e] at this
theorem Any.askB {fuel listed d' : Nat} {b : Bool} (ht : b = true → Any x ops L fuel listed Q ((d', .bool true) :: ρ) ds F) (hf : b = false → Any x ops L fuel listed Q ((d', .bool false) :: ρ) ds F) (hv : look ρ d' = some (.bool b) := by rfl) : Any x ops L fuel listed Q ρ ds F := by
  cases b with
  | true => have := ht rfl; unfold Any at this ⊢; rwa [look_again hv] at this
  | false => have := hf rfl; unfold Any at this ⊢; rwa [look_again hv] at this
theorem Ops.askB {j d' : Nat} {w b : Bool} {D : Option Tmp} (ht : b = true → Ops x ops (i :: rest) Q ((d', .bool true) :: ρ) ds F) (hf : b = false → Ops x ops (i :: rest) Q ((d', .bool false) :: ρ) ds F) (ho : nthO ops.toList i = some ⟨D, op, ty, pos, aft, some (j, w)⟩ := by rfl) (hj : (nthO ops.toList j).bind (·.dst) = some d' := by rfl) (hv : look ρ d' = some (.bool b) := by rfl) : Ops x ops (i :: rest) Q ρ ds F := by
  have key : ∀ u : Bool, b = u → Ops x ops (i :: rest) Q ((d', .bool u) :: ρ) ds F → Ops x ops (i :: rest) Q ρ ds F := by
    intro u hu H b' k cs Stop tmps hk M h1 h0 h2 h3 h4 h5 hc
    refine H b' k cs Stop tmps hk M h1 h0 h2 (fun t y hy => ?_) h4 h5 hc
    rw [look_again (hu ▸ hv)] at hy
    exact h3 t y hy
  cases b with
  | true => exact key true rfl (ht rfl)
  | false => exact key false rfl (hf rfl)
variable {f : FuncId} {args : List Operand} {ts : Array TypeId} {vs : List Value}
/-- A call of a function that answers, in an open order, where it alone may come up. -/
theorem acp {fuel listed : Nat} {u : Value} (H : ∀ h', Ext x.h h' → Lent F h' → Pu x.P x.main f vs.toArray h' u) (K : Any x ops L fuel (listed ||| 2 ^ i) Q ((d, u) :: ρ) ds F) (hS : lastT ops i = true ∨ Keeps L F := by first | exact .inr (by repeat (first | exact fun _ h => h | apply Keeps.cons | apply Keeps.app)) | exact .inl (by kernel_rfl))
    (ho : nthO ops.toList i = some ⟨some d, .call ⟨.value (.func f), args.toArray, ts⟩, ty, pos, aft, g⟩ := by rfl) [FB x.P f] (hv : evs ρ args = some vs := by rfl)
    (hw : wantε ops (look ρ) ⟨some d, .call ⟨.value (.func f), args.toArray, ts⟩, ty, pos, aft, g⟩ true := by first | exact an | exact wantε_some rfl rfl rfl rfl) (hd : Nat.blt d x.n = true := by rfl) (hr : rdys ops listed = [i] := by kernel_rfl) : Any x ops L (fuel + 1) listed Q ρ ds F :=
  Any.eff (o := ⟨some d, .call ⟨.value (.func f), args.toArray, ts⟩, ty, pos, aft, g⟩) (e_call0 rfl hv H fun v A' hv => by
    obtain ⟨rfl, hs⟩ := hv
    exact ⟨hS.imp id fun k p hp => List.mem_append_right _ (k p hp), Any.sb (Sb.left .refl hs) K⟩) hr (nthO_get ho) hw hd rfl
end
section
variable {x : Cx} {Q Q' : Post} {ρ : Env} {ds : List Deferred} {F : Frag}
theorem thn_mono {K K' : Env → List Deferred → Frag → Prop} {e : Exit} {ρ : Env} {ds : List Deferred} {F : Frag} (h : thn K Q e ρ ds F) (hk : ∀ ρ ds F, K ρ ds F → K' ρ ds F) : thn K' Q e ρ ds F := by
  cases e <;> first | exact hk _ _ _ h | exact h
/-- Loops with a state of several parts. -/
theorem W.loop2 {σ τ : Type} {c : Code} (C : σ → τ → Prop) (E : σ → τ → Env) (D : σ → τ → Frag) (μ : σ → τ → Nat) (s₀ : σ) (t₀ : τ) (h₀ : C s₀ t₀) (he : Sub (E s₀ t₀) ρ) (hF : Sb (D s₀ t₀) F)
    (round : ∀ s t, C s t → W x c (thn (fun ρ' ds' F' => ds' = ds ∧ ∃ s' t', C s' t' ∧ μ s' t' < μ s t ∧ Sub (E s' t') ρ' ∧ Sb (D s' t') F') Q) (E s t) ds (D s t)) : W x (.loop c) Q ρ ds F :=
  W.loop (σ := σ × τ) (fun p => C p.1 p.2) (fun p => E p.1 p.2) (fun p => D p.1 p.2) (fun p => μ p.1 p.2) (s₀, t₀) h₀ he hF fun p h => (round p.1 p.2 h).mono fun _ _ _ _ q => thn_mono q fun _ _ _ ⟨e, s', t', h1⟩ => ⟨e, (s', t'), h1⟩
theorem W.loop3 {σ τ υ : Type} {c : Code} (C : σ → τ → υ → Prop) (E : σ → τ → υ → Env) (D : σ → τ → υ → Frag) (μ : σ → τ → υ → Nat) (s₀ : σ) (t₀ : τ) (u₀ : υ) (h₀ : C s₀ t₀ u₀) (he : Sub (E s₀ t₀ u₀) ρ) (hF : Sb (D s₀ t₀ u₀) F)
    (round : ∀ s t u, C s t u → W x c (thn (fun ρ' ds' F' => ds' = ds ∧ ∃ s' t' u', C s' t' u' ∧ μ s' t' u' < μ s t u ∧ Sub (E s' t' u') ρ' ∧ Sb (D s' t' u') F') Q) (E s t u) ds (D s t u)) : W x (.loop c) Q ρ ds F :=
  W.loop (σ := σ × τ × υ) (fun p => C p.1 p.2.1 p.2.2) (fun p => E p.1 p.2.1 p.2.2) (fun p => D p.1 p.2.1 p.2.2) (fun p => μ p.1 p.2.1 p.2.2) (s₀, t₀, u₀) h₀ he hF fun p h => (round p.1 p.2.1 p.2.2 h).mono fun _ _ _ _ q => thn_mono q fun _ _ _ ⟨e, s', t', u', h1⟩ => ⟨e, (s', t', u'), h1⟩
end
/-- The cells of a row. -/
theorem Part.rowG {α : Type} {row : α → List Value} {w : Nat} [Rw row w] {c : Array Value} {off i : Nat} {l : List α} {p : α} (h : Part c off (flat row l)) (hi : l[i]? = some p) (k : Nat) (hk : k < w) : c[off + i * w + k]? = (row p)[k]? :=
  (h.rowP hi).get (by rw [Rw.len]; exact hk)

/-- An element of what is read. -/
theorem Sl.at {α : Type} {row : α → List Value} {w : Nat} [Rw row w] {h : Hp} {a : Option Addr} {n cap : Nat} {l : List α} {i : Nat} {p : α} (H : Sl h row (.slice a n cap) l) (hi : l[i]? = some p) :
    ∃ b off c E fz, a = some ⟨b, off, none⟩ ∧ h b = some (.cells c E fz) ∧ c.extract (off + i * w) (off + i * w + w) = (row p).toArray ∧ off + i * w + w ≤ c.size ∧ ∀ k, k < w → c[off + i * w + k]? = (row p)[k]? := by
  have hne : l ≠ [] := by rintro rfl; simp at hi
  obtain ⟨a', cap', e, hx⟩ := H
  cases e
  obtain ⟨b, off, c, E, fz, rfl, hb, hp⟩ := hx hne
  obtain ⟨h1, h2⟩ := hp.rowE hi
  exact ⟨b, off, c, E, fz, rfl, hb, h1, h2, fun k hk => hp.rowG hi k hk⟩
theorem has {α : Type} {l : List α} {i : Nat} (h : i < l.length) : ∃ p, l[i]? = some p ∧ l.drop i = p :: l.drop (i + 1) := ⟨l[i], List.getElem?_eq_getElem h, (List.getElem_cons_drop ..).symm⟩
theorem Sl.isSl {α : Type} {row : α → List Value} {w : Nat} [Rw row w] {h : Hp} {v : Value} {l : List α} (H : Sl h row v l) : ∃ a cap, v = .slice a l.length cap := by
  obtain ⟨a, cap, e, _⟩ := H
  exact ⟨a, cap, e⟩

/-- What is dropped: by itself. -/
theorem sbA {A B : Frag} (h : Sb A B := by repeat (first | exact Sb.refl | apply Sb.cons | refine Sb.skip rfl ?_ | exact Sb.nil (by assumption))) : Sb A B := h
end Go.Mus

/- Names for the numbers of functions and types. Conditions: none. -/
namespace Go.Mus
noncomputable abbrev prog : Program := Go.Proofs.Tryd.prog
abbrev n_law_FloorWithout : Nat := 3
noncomputable abbrev F_law_FloorWithout : Func := Go.Proofs.Tryd.f3
theorem at_law_FloorWithout : prog.funcs[n_law_FloorWithout]? = some F_law_FloorWithout := Go.Proofs.Tryd.func3
abbrev n_law_FloorLate : Nat := 4
noncomputable abbrev F_law_FloorLate : Func := Go.Proofs.Tryd.f4
theorem at_law_FloorLate : prog.funcs[n_law_FloorLate]? = some F_law_FloorLate := Go.Proofs.Tryd.func4
abbrev n_law_FloorPatience : Nat := 5
noncomputable abbrev F_law_FloorPatience : Func := Go.Proofs.Tryd.f5
theorem at_law_FloorPatience : prog.funcs[n_law_FloorPatience]? = some F_law_FloorPatience := Go.Proofs.Tryd.func5
abbrev n_law_FloorNeed : Nat := 6
noncomputable abbrev F_law_FloorNeed : Func := Go.Proofs.Tryd.f6
theorem at_law_FloorNeed : prog.funcs[n_law_FloorNeed]? = some F_law_FloorNeed := Go.Proofs.Tryd.func6
abbrev n_law_FloorMore : Nat := 7
noncomputable abbrev F_law_FloorMore : Func := Go.Proofs.Tryd.f7
theorem at_law_FloorMore : prog.funcs[n_law_FloorMore]? = some F_law_FloorMore := Go.Proofs.Tryd.func7
abbrev n_law_FloorSlower : Nat := 8
noncomputable abbrev F_law_FloorSlower : Func := Go.Proofs.Tryd.f8
theorem at_law_FloorSlower : prog.funcs[n_law_FloorSlower]? = some F_law_FloorSlower := Go.Proofs.Tryd.func8
abbrev n_law_FloorBest : Nat := 9
noncomputable abbrev F_law_FloorBest : Func := Go.Proofs.Tryd.f9
theorem at_law_FloorBest : prog.funcs[n_law_FloorBest]? = some F_law_FloorBest := Go.Proofs.Tryd.func9
abbrev n_law_FloorLater : Nat := 10
noncomputable abbrev F_law_FloorLater : Func := Go.Proofs.Tryd.f10
theorem at_law_FloorLater : prog.funcs[n_law_FloorLater]? = some F_law_FloorLater := Go.Proofs.Tryd.func10
abbrev n_law_FloorNumbered : Nat := 11
noncomputable abbrev F_law_FloorNumbered : Func := Go.Proofs.Tryd.f11
theorem at_law_FloorNumbered : prog.funcs[n_law_FloorNumbered]? = some F_law_FloorNumbered := Go.Proofs.Tryd.func11
abbrev n_law_FloorHeat : Nat := 12
noncomputable abbrev F_law_FloorHeat : Func := Go.Proofs.Tryd.f12
theorem at_law_FloorHeat : prog.funcs[n_law_FloorHeat]? = some F_law_FloorHeat := Go.Proofs.Tryd.func12
abbrev n_law_FloorAll : Nat := 13
noncomputable abbrev F_law_FloorAll : Func := Go.Proofs.Tryd.f13
theorem at_law_FloorAll : prog.funcs[n_law_FloorAll]? = some F_law_FloorAll := Go.Proofs.Tryd.func13
abbrev n_law_FloorKnown : Nat := 14
noncomputable abbrev F_law_FloorKnown : Func := Go.Proofs.Tryd.f14
theorem at_law_FloorKnown : prog.funcs[n_law_FloorKnown]? = some F_law_FloorKnown := Go.Proofs.Tryd.func14
abbrev n_kit_PlantOf : Nat := 15
noncomputable abbrev F_kit_PlantOf : Func := Go.Proofs.Tryd.f15
theorem at_kit_PlantOf : prog.funcs[n_kit_PlantOf]? = some F_kit_PlantOf := Go.Proofs.Tryd.func15
abbrev n_kit_NewHat : Nat := 16
noncomputable abbrev F_kit_NewHat : Func := Go.Proofs.Tryd.f16
theorem at_kit_NewHat : prog.funcs[n_kit_NewHat]? = some F_kit_NewHat := Go.Proofs.Tryd.func16
abbrev n_law_set : Nat := 17
noncomputable abbrev F_law_set : Func := Go.Proofs.Tryd.f17
theorem at_law_set : prog.funcs[n_law_set]? = some F_law_set := Go.Proofs.Tryd.func17
abbrev n_kit_DupPlant : Nat := 18
noncomputable abbrev F_kit_DupPlant : Func := Go.Proofs.Tryd.f18
theorem at_kit_DupPlant : prog.funcs[n_kit_DupPlant]? = some F_kit_DupPlant := Go.Proofs.Tryd.func18
abbrev n_floor_Late : Nat := 19
noncomputable abbrev F_floor_Late : Func := Go.Proofs.Tryd.f19
theorem at_floor_Late : prog.funcs[n_floor_Late]? = some F_floor_Late := Go.Proofs.Tryd.func19
abbrev n_law_served : Nat := 20
noncomputable abbrev F_law_served : Func := Go.Proofs.Tryd.f20
theorem at_law_served : prog.funcs[n_law_served]? = some F_law_served := Go.Proofs.Tryd.func20
abbrev n_floor_Patience : Nat := 21
noncomputable abbrev F_floor_Patience : Func := Go.Proofs.Tryd.f21
theorem at_floor_Patience : prog.funcs[n_floor_Patience]? = some F_floor_Patience := Go.Proofs.Tryd.func21
abbrev n_ref_Waiting : Nat := 22
noncomputable abbrev F_ref_Waiting : Func := Go.Proofs.Tryd.f22
theorem at_ref_Waiting : prog.funcs[n_ref_Waiting]? = some F_ref_Waiting := Go.Proofs.Tryd.func22
abbrev n_kit_Hat_To : Nat := 23
noncomputable abbrev F_kit_Hat_To : Func := Go.Proofs.Tryd.f23
theorem at_kit_Hat_To : prog.funcs[n_kit_Hat_To]? = some F_kit_Hat_To := Go.Proofs.Tryd.func23
abbrev n_floor_Need : Nat := 24
noncomputable abbrev F_floor_Need : Func := Go.Proofs.Tryd.f24
theorem at_floor_Need : prog.funcs[n_floor_Need]? = some F_floor_Need := Go.Proofs.Tryd.func24
abbrev n_kit_Hat_From : Nat := 25
noncomputable abbrev F_kit_Hat_From : Func := Go.Proofs.Tryd.f25
theorem at_kit_Hat_From : prog.funcs[n_kit_Hat_From]? = some F_kit_Hat_From := Go.Proofs.Tryd.func25
abbrev n_law_loaves : Nat := 26
noncomputable abbrev F_law_loaves : Func := Go.Proofs.Tryd.f26
theorem at_law_loaves : prog.funcs[n_law_loaves]? = some F_law_loaves := Go.Proofs.Tryd.func26
abbrev n_floor_Slower : Nat := 27
noncomputable abbrev F_floor_Slower : Func := Go.Proofs.Tryd.f27
theorem at_floor_Slower : prog.funcs[n_floor_Slower]? = some F_floor_Slower := Go.Proofs.Tryd.func27
abbrev n_law_tiny : Nat := 28
noncomputable abbrev F_law_tiny : Func := Go.Proofs.Tryd.f28
theorem at_law_tiny : prog.funcs[n_law_tiny]? = some F_law_tiny := Go.Proofs.Tryd.func28
abbrev n_floor_Best : Nat := 29
noncomputable abbrev F_floor_Best : Func := Go.Proofs.Tryd.f29
theorem at_floor_Best : prog.funcs[n_floor_Best]? = some F_floor_Best := Go.Proofs.Tryd.func29
abbrev n_floor_Count : Nat := 30
noncomputable abbrev F_floor_Count : Func := Go.Proofs.Tryd.f30
theorem at_floor_Count : prog.funcs[n_floor_Count]? = some F_floor_Count := Go.Proofs.Tryd.func30
abbrev n_law_lists : Nat := 31
noncomputable abbrev F_law_lists : Func := Go.Proofs.Tryd.f31
theorem at_law_lists : prog.funcs[n_law_lists]? = some F_law_lists := Go.Proofs.Tryd.func31
abbrev n_ref_Loaves : Nat := 32
noncomputable abbrev F_ref_Loaves : Func := Go.Proofs.Tryd.f32
theorem at_ref_Loaves : prog.funcs[n_ref_Loaves]? = some F_ref_Loaves := Go.Proofs.Tryd.func32
abbrev n_floor_Wrong : Nat := 33
noncomputable abbrev F_floor_Wrong : Func := Go.Proofs.Tryd.f33
theorem at_floor_Wrong : prog.funcs[n_floor_Wrong]? = some F_floor_Wrong := Go.Proofs.Tryd.func33
abbrev n_kit_EqBerths : Nat := 34
noncomputable abbrev F_kit_EqBerths : Func := Go.Proofs.Tryd.f34
theorem at_kit_EqBerths : prog.funcs[n_kit_EqBerths]? = some F_kit_EqBerths := Go.Proofs.Tryd.func34
abbrev n_floor_Verdict : Nat := 35
noncomputable abbrev F_floor_Verdict : Func := Go.Proofs.Tryd.f35
theorem at_floor_Verdict : prog.funcs[n_floor_Verdict]? = some F_floor_Verdict := Go.Proofs.Tryd.func35
abbrev n_kit_DupBerths : Nat := 36
noncomputable abbrev F_kit_DupBerths : Func := Go.Proofs.Tryd.f36
theorem at_kit_DupBerths : prog.funcs[n_kit_DupBerths]? = some F_kit_DupBerths := Go.Proofs.Tryd.func36
abbrev n_law_later : Nat := 37
noncomputable abbrev F_law_later : Func := Go.Proofs.Tryd.f37
theorem at_law_later : prog.funcs[n_law_later]? = some F_law_later := Go.Proofs.Tryd.func37
abbrev n_floor_Stands : Nat := 38
noncomputable abbrev F_floor_Stands : Func := Go.Proofs.Tryd.f38
theorem at_floor_Stands : prog.funcs[n_floor_Stands]? = some F_floor_Stands := Go.Proofs.Tryd.func38
abbrev n_law_same : Nat := 39
noncomputable abbrev F_law_same : Func := Go.Proofs.Tryd.f39
theorem at_law_same : prog.funcs[n_law_same]? = some F_law_same := Go.Proofs.Tryd.func39
abbrev n_law_heats : Nat := 40
noncomputable abbrev F_law_heats : Func := Go.Proofs.Tryd.f40
theorem at_law_heats : prog.funcs[n_law_heats]? = some F_law_heats := Go.Proofs.Tryd.func40
abbrev n_law_shows : Nat := 41
noncomputable abbrev F_law_shows : Func := Go.Proofs.Tryd.f41
theorem at_law_shows : prog.funcs[n_law_shows]? = some F_law_shows := Go.Proofs.Tryd.func41
abbrev n_floor_Doubt : Nat := 42
noncomputable abbrev F_floor_Doubt : Func := Go.Proofs.Tryd.f42
theorem at_floor_Doubt : prog.funcs[n_floor_Doubt]? = some F_floor_Doubt := Go.Proofs.Tryd.func42
abbrev n_law_cones : Nat := 43
noncomputable abbrev F_law_cones : Func := Go.Proofs.Tryd.f43
theorem at_law_cones : prog.funcs[n_law_cones]? = some F_law_cones := Go.Proofs.Tryd.func43
abbrev n_floor_Empty : Nat := 44
noncomputable abbrev F_floor_Empty : Func := Go.Proofs.Tryd.f44
theorem at_floor_Empty : prog.funcs[n_floor_Empty]? = some F_floor_Empty := Go.Proofs.Tryd.func44
abbrev n_kit_EqInts : Nat := 45
noncomputable abbrev F_kit_EqInts : Func := Go.Proofs.Tryd.f45
theorem at_kit_EqInts : prog.funcs[n_kit_EqInts]? = some F_kit_EqInts := Go.Proofs.Tryd.func45
abbrev n_floor_Ready : Nat := 46
noncomputable abbrev F_floor_Ready : Func := Go.Proofs.Tryd.f46
theorem at_floor_Ready : prog.funcs[n_floor_Ready]? = some F_floor_Ready := Go.Proofs.Tryd.func46
abbrev n_law_plant : Nat := 47
noncomputable abbrev F_law_plant : Func := Go.Proofs.Tryd.f47
theorem at_law_plant : prog.funcs[n_law_plant]? = some F_law_plant := Go.Proofs.Tryd.func47
abbrev n_floor_Check : Nat := 48
noncomputable abbrev F_floor_Check : Func := Go.Proofs.Tryd.f48
theorem at_floor_Check : prog.funcs[n_floor_Check]? = some F_floor_Check := Go.Proofs.Tryd.func48
abbrev n_law_plan : Nat := 49
noncomputable abbrev F_law_plan : Func := Go.Proofs.Tryd.f49
theorem at_law_plan : prog.funcs[n_law_plan]? = some F_law_plan := Go.Proofs.Tryd.func49
abbrev n_floor_CheckPlan : Nat := 50
noncomputable abbrev F_floor_CheckPlan : Func := Go.Proofs.Tryd.f50
theorem at_floor_CheckPlan : prog.funcs[n_floor_CheckPlan]? = some F_floor_CheckPlan := Go.Proofs.Tryd.func50
abbrev n_law_none : Nat := 51
noncomputable abbrev F_law_none : Func := Go.Proofs.Tryd.f51
theorem at_law_none : prog.funcs[n_law_none]? = some F_law_none := Go.Proofs.Tryd.func51
abbrev n_kit_EqLists : Nat := 52
noncomputable abbrev F_kit_EqLists : Func := Go.Proofs.Tryd.f52
theorem at_kit_EqLists : prog.funcs[n_kit_EqLists]? = some F_kit_EqLists := Go.Proofs.Tryd.func52
abbrev n_kit_FloorOf : Nat := 53
noncomputable abbrev F_kit_FloorOf : Func := Go.Proofs.Tryd.f53
theorem at_kit_FloorOf : prog.funcs[n_kit_FloorOf]? = some F_kit_FloorOf := Go.Proofs.Tryd.func53
abbrev n_kit_Hat_One : Nat := 54
noncomputable abbrev F_kit_Hat_One : Func := Go.Proofs.Tryd.f54
theorem at_kit_Hat_One : prog.funcs[n_kit_Hat_One]? = some F_kit_Hat_One := Go.Proofs.Tryd.func54
abbrev n_floor_Late_1 : Nat := 55
noncomputable abbrev F_floor_Late_1 : Func := Go.Proofs.Tryd.f55
theorem at_floor_Late_1 : prog.funcs[n_floor_Late_1]? = some F_floor_Late_1 := Go.Proofs.Tryd.func55
abbrev n_floor_search_right : Nat := 56
noncomputable abbrev F_floor_search_right : Func := Go.Proofs.Tryd.f56
theorem at_floor_search_right : prog.funcs[n_floor_search_right]? = some F_floor_search_right := Go.Proofs.Tryd.func56
abbrev n_floor_first_int : Nat := 57
noncomputable abbrev F_floor_first_int : Func := Go.Proofs.Tryd.f57
theorem at_floor_first_int : prog.funcs[n_floor_first_int]? = some F_floor_first_int := Go.Proofs.Tryd.func57
abbrev n_floor_numbers : Nat := 58
noncomputable abbrev F_floor_numbers : Func := Go.Proofs.Tryd.f58
theorem at_floor_numbers : prog.funcs[n_floor_numbers]? = some F_floor_numbers := Go.Proofs.Tryd.func58
abbrev n_floor_Patience_1 : Nat := 59
noncomputable abbrev F_floor_Patience_1 : Func := Go.Proofs.Tryd.f59
theorem at_floor_Patience_1 : prog.funcs[n_floor_Patience_1]? = some F_floor_Patience_1 := Go.Proofs.Tryd.func59
abbrev n_slices_Clone_Strike : Nat := 60
noncomputable abbrev F_slices_Clone_Strike : Func := Go.Proofs.Tryd.f60
theorem at_slices_Clone_Strike : prog.funcs[n_slices_Clone_Strike]? = some F_slices_Clone_Strike := Go.Proofs.Tryd.func60
abbrev n_floor_bound : Nat := 61
noncomputable abbrev F_floor_bound : Func := Go.Proofs.Tryd.f61
theorem at_floor_bound : prog.funcs[n_floor_bound]? = some F_floor_bound := Go.Proofs.Tryd.func61
abbrev n_floor_search_some : Nat := 62
noncomputable abbrev F_floor_search_some : Func := Go.Proofs.Tryd.f62
theorem at_floor_search_some : prog.funcs[n_floor_search_some]? = some F_floor_search_some := Go.Proofs.Tryd.func62
abbrev n_kit_Hat_stir : Nat := 63
noncomputable abbrev F_kit_Hat_stir : Func := Go.Proofs.Tryd.f63
theorem at_kit_Hat_stir : prog.funcs[n_kit_Hat_stir]? = some F_kit_Hat_stir := Go.Proofs.Tryd.func63
abbrev n_floor_begin : Nat := 64
noncomputable abbrev F_floor_begin : Func := Go.Proofs.Tryd.f64
theorem at_floor_begin : prog.funcs[n_floor_begin]? = some F_floor_begin := Go.Proofs.Tryd.func64
abbrev n_floor_Need_1 : Nat := 65
noncomputable abbrev F_floor_Need_1 : Func := Go.Proofs.Tryd.f65
theorem at_floor_Need_1 : prog.funcs[n_floor_Need_1]? = some F_floor_Need_1 := Go.Proofs.Tryd.func65
abbrev n_floor_changed : Nat := 66
noncomputable abbrev F_floor_changed : Func := Go.Proofs.Tryd.f66
theorem at_floor_changed : prog.funcs[n_floor_changed]? = some F_floor_changed := Go.Proofs.Tryd.func66
abbrev n_floor_Need_1_1 : Nat := 67
noncomputable abbrev F_floor_Need_1_1 : Func := Go.Proofs.Tryd.f67
theorem at_floor_Need_1_1 : prog.funcs[n_floor_Need_1_1]? = some F_floor_Need_1_1 := Go.Proofs.Tryd.func67
abbrev n_floor_hall_best : Nat := 68
noncomputable abbrev F_floor_hall_best : Func := Go.Proofs.Tryd.f68
theorem at_floor_hall_best : prog.funcs[n_floor_hall_best]? = some F_floor_hall_best := Go.Proofs.Tryd.func68
abbrev n_slices_Reverse_int : Nat := 69
noncomputable abbrev F_slices_Reverse_int : Func := Go.Proofs.Tryd.f69
theorem at_slices_Reverse_int : prog.funcs[n_slices_Reverse_int]? = some F_slices_Reverse_int := Go.Proofs.Tryd.func69
abbrev n_floor_Slower_1 : Nat := 70
noncomputable abbrev F_floor_Slower_1 : Func := Go.Proofs.Tryd.f70
theorem at_floor_Slower_1 : prog.funcs[n_floor_Slower_1]? = some F_floor_Slower_1 := Go.Proofs.Tryd.func70
abbrev n_floor_Slower_1_1 : Nat := 71
noncomputable abbrev F_floor_Slower_1_1 : Func := Go.Proofs.Tryd.f71
theorem at_floor_Slower_1_1 : prog.funcs[n_floor_Slower_1_1]? = some F_floor_Slower_1_1 := Go.Proofs.Tryd.func71
abbrev n_kit_BerthsOf : Nat := 72
noncomputable abbrev F_kit_BerthsOf : Func := Go.Proofs.Tryd.f72
theorem at_kit_BerthsOf : prog.funcs[n_kit_BerthsOf]? = some F_kit_BerthsOf := Go.Proofs.Tryd.func72
abbrev n_floor_hall_told : Nat := 73
noncomputable abbrev F_floor_hall_told : Func := Go.Proofs.Tryd.f73
theorem at_floor_hall_told : prog.funcs[n_floor_hall_told]? = some F_floor_hall_told := Go.Proofs.Tryd.func73
abbrev n_floor_asked : Nat := 74
noncomputable abbrev F_floor_asked : Func := Go.Proofs.Tryd.f74
theorem at_floor_asked : prog.funcs[n_floor_asked]? = some F_floor_asked := Go.Proofs.Tryd.func74
abbrev n_errors_As : Nat := 75
noncomputable abbrev F_errors_As : Func := Go.Proofs.Tryd.f75
theorem at_errors_As : prog.funcs[n_errors_As]? = some F_errors_As := Go.Proofs.Tryd.func75
abbrev n_floor_hall_inspect : Nat := 76
noncomputable abbrev F_floor_hall_inspect : Func := Go.Proofs.Tryd.f76
theorem at_floor_hall_inspect : prog.funcs[n_floor_hall_inspect]? = some F_floor_hall_inspect := Go.Proofs.Tryd.func76
abbrev n_floor_outside : Nat := 77
noncomputable abbrev F_floor_outside : Func := Go.Proofs.Tryd.f77
theorem at_floor_outside : prog.funcs[n_floor_outside]? = some F_floor_outside := Go.Proofs.Tryd.func77
abbrev n_floor_hall_stands : Nat := 78
noncomputable abbrev F_floor_hall_stands : Func := Go.Proofs.Tryd.f78
theorem at_floor_hall_stands : prog.funcs[n_floor_hall_stands]? = some F_floor_hall_stands := Go.Proofs.Tryd.func78
abbrev n_kit_DupInts : Nat := 79
noncomputable abbrev F_kit_DupInts : Func := Go.Proofs.Tryd.f79
theorem at_kit_DupInts : prog.funcs[n_kit_DupInts]? = some F_kit_DupInts := Go.Proofs.Tryd.func79
abbrev n_law_between : Nat := 80
noncomputable abbrev F_law_between : Func := Go.Proofs.Tryd.f80
theorem at_law_between : prog.funcs[n_law_between]? = some F_law_between := Go.Proofs.Tryd.func80
abbrev n_floor_checkFloor : Nat := 81
noncomputable abbrev F_floor_checkFloor : Func := Go.Proofs.Tryd.f81
theorem at_floor_checkFloor : prog.funcs[n_floor_checkFloor]? = some F_floor_checkFloor := Go.Proofs.Tryd.func81
abbrev n_floor_search_right_1 : Nat := 82
noncomputable abbrev F_floor_search_right_1 : Func := Go.Proofs.Tryd.f82
theorem at_floor_search_right_1 : prog.funcs[n_floor_search_right_1]? = some F_floor_search_right_1 := Go.Proofs.Tryd.func82
abbrev n_floor_planOf : Nat := 83
noncomputable abbrev F_floor_planOf : Func := Go.Proofs.Tryd.f83
theorem at_floor_planOf : prog.funcs[n_floor_planOf]? = some F_floor_planOf := Go.Proofs.Tryd.func83
abbrev n_floor_search_right_1_1 : Nat := 84
noncomputable abbrev F_floor_search_right_1_1 : Func := Go.Proofs.Tryd.f84
theorem at_floor_search_right_1_1 : prog.funcs[n_floor_search_right_1_1]? = some F_floor_search_right_1_1 := Go.Proofs.Tryd.func84
abbrev n_floor_search_berths : Nat := 85
noncomputable abbrev F_floor_search_berths : Func := Go.Proofs.Tryd.f85
theorem at_floor_search_berths : prog.funcs[n_floor_search_berths]? = some F_floor_search_berths := Go.Proofs.Tryd.func85
abbrev n_floor_search_with : Nat := 86
noncomputable abbrev F_floor_search_with : Func := Go.Proofs.Tryd.f86
theorem at_floor_search_with : prog.funcs[n_floor_search_with]? = some F_floor_search_with := Go.Proofs.Tryd.func86
abbrev n_floor_search_right_1_1_1 : Nat := 87
noncomputable abbrev F_floor_search_right_1_1_1 : Func := Go.Proofs.Tryd.f87
theorem at_floor_search_right_1_1_1 : prog.funcs[n_floor_search_right_1_1_1]? = some F_floor_search_right_1_1_1 := Go.Proofs.Tryd.func87
abbrev n_slices_IndexFunc_int : Nat := 88
noncomputable abbrev F_slices_IndexFunc_int : Func := Go.Proofs.Tryd.f88
theorem at_slices_IndexFunc_int : prog.funcs[n_slices_IndexFunc_int]? = some F_slices_IndexFunc_int := Go.Proofs.Tryd.func88
abbrev n_slices_Clone_Floor : Nat := 89
noncomputable abbrev F_slices_Clone_Floor : Func := Go.Proofs.Tryd.f89
theorem at_slices_Clone_Floor : prog.funcs[n_slices_Clone_Floor]? = some F_slices_Clone_Floor := Go.Proofs.Tryd.func89
abbrev n_floor_most_add : Nat := 90
noncomputable abbrev F_floor_most_add : Func := Go.Proofs.Tryd.f90
theorem at_floor_most_add : prog.funcs[n_floor_most_add]? = some F_floor_most_add := Go.Proofs.Tryd.func90
abbrev n_floor_free : Nat := 91
noncomputable abbrev F_floor_free : Func := Go.Proofs.Tryd.f91
theorem at_floor_free : prog.funcs[n_floor_free]? = some F_floor_free := Go.Proofs.Tryd.func91
abbrev n_floor_search_all : Nat := 92
noncomputable abbrev F_floor_search_all : Func := Go.Proofs.Tryd.f92
theorem at_floor_search_all : prog.funcs[n_floor_search_all]? = some F_floor_search_all := Go.Proofs.Tryd.func92
abbrev n_floor_hall_loaves : Nat := 93
noncomputable abbrev F_floor_hall_loaves : Func := Go.Proofs.Tryd.f93
theorem at_floor_hall_loaves : prog.funcs[n_floor_hall_loaves]? = some F_floor_hall_loaves := Go.Proofs.Tryd.func93
abbrev n_kit_Hat_Seldom : Nat := 94
noncomputable abbrev F_kit_Hat_Seldom : Func := Go.Proofs.Tryd.f94
theorem at_kit_Hat_Seldom : prog.funcs[n_kit_Hat_Seldom]? = some F_kit_Hat_Seldom := Go.Proofs.Tryd.func94
abbrev n_slices_Clone_Berth : Nat := 95
noncomputable abbrev F_slices_Clone_Berth : Func := Go.Proofs.Tryd.f95
theorem at_slices_Clone_Berth : prog.funcs[n_slices_Clone_Berth]? = some F_slices_Clone_Berth := Go.Proofs.Tryd.func95
abbrev n_reflectlite_ValueOf : Nat := 96
noncomputable abbrev F_reflectlite_ValueOf : Func := Go.Proofs.Tryd.f96
theorem at_reflectlite_ValueOf : prog.funcs[n_reflectlite_ValueOf]? = some F_reflectlite_ValueOf := Go.Proofs.Tryd.func96
abbrev n_reflectlite_Value_Type : Nat := 97
noncomputable abbrev F_reflectlite_Value_Type : Func := Go.Proofs.Tryd.f97
theorem at_reflectlite_Value_Type : prog.funcs[n_reflectlite_Value_Type]? = some F_reflectlite_Value_Type := Go.Proofs.Tryd.func97
abbrev n_reflectlite_Value_IsNil : Nat := 98
noncomputable abbrev F_reflectlite_Value_IsNil : Func := Go.Proofs.Tryd.f98
theorem at_reflectlite_Value_IsNil : prog.funcs[n_reflectlite_Value_IsNil]? = some F_reflectlite_Value_IsNil := Go.Proofs.Tryd.func98
abbrev n_errors_as : Nat := 99
noncomputable abbrev F_errors_as : Func := Go.Proofs.Tryd.f99
theorem at_errors_as : prog.funcs[n_errors_as]? = some F_errors_as := Go.Proofs.Tryd.func99
abbrev n_floor_hall_look : Nat := 100
noncomputable abbrev F_floor_hall_look : Func := Go.Proofs.Tryd.f100
theorem at_floor_hall_look : prog.funcs[n_floor_hall_look]? = some F_floor_hall_look := Go.Proofs.Tryd.func100
abbrev n_floor_hall_set : Nat := 101
noncomputable abbrev F_floor_hall_set : Func := Go.Proofs.Tryd.f101
theorem at_floor_hall_set : prog.funcs[n_floor_hall_set]? = some F_floor_hall_set := Go.Proofs.Tryd.func101
abbrev n_floor_search_berths_1 : Nat := 102
noncomputable abbrev F_floor_search_berths_1 : Func := Go.Proofs.Tryd.f102
theorem at_floor_search_berths_1 : prog.funcs[n_floor_search_berths_1]? = some F_floor_search_berths_1 := Go.Proofs.Tryd.func102
abbrev n_floor_search_with_1 : Nat := 103
noncomputable abbrev F_floor_search_with_1 : Func := Go.Proofs.Tryd.f103
theorem at_floor_search_with_1 : prog.funcs[n_floor_search_with_1]? = some F_floor_search_with_1 := Go.Proofs.Tryd.func103
abbrev n_slices_Collect_plan : Nat := 104
noncomputable abbrev F_slices_Collect_plan : Func := Go.Proofs.Tryd.f104
theorem at_slices_Collect_plan : prog.funcs[n_slices_Collect_plan]? = some F_slices_Collect_plan := Go.Proofs.Tryd.func104
abbrev n_floor_search_all_1 : Nat := 105
noncomputable abbrev F_floor_search_all_1 : Func := Go.Proofs.Tryd.f105
theorem at_floor_search_all_1 : prog.funcs[n_floor_search_all_1]? = some F_floor_search_all_1 := Go.Proofs.Tryd.func105
abbrev n_reflectlite_TypeOf : Nat := 106
noncomputable abbrev F_reflectlite_TypeOf : Func := Go.Proofs.Tryd.f106
theorem at_reflectlite_TypeOf : prog.funcs[n_reflectlite_TypeOf]? = some F_reflectlite_TypeOf := Go.Proofs.Tryd.func106
abbrev n_reflectlite_Value_Elem : Nat := 107
noncomputable abbrev F_reflectlite_Value_Elem : Func := Go.Proofs.Tryd.f107
theorem at_reflectlite_Value_Elem : prog.funcs[n_reflectlite_Value_Elem]? = some F_reflectlite_Value_Elem := Go.Proofs.Tryd.func107
abbrev n_reflectlite_Value_Set : Nat := 108
noncomputable abbrev F_reflectlite_Value_Set : Func := Go.Proofs.Tryd.f108
theorem at_reflectlite_Value_Set : prog.funcs[n_reflectlite_Value_Set]? = some F_reflectlite_Value_Set := Go.Proofs.Tryd.func108
abbrev n_floor_hall_set_1 : Nat := 109
noncomputable abbrev F_floor_hall_set_1 : Func := Go.Proofs.Tryd.f109
theorem at_floor_hall_set_1 : prog.funcs[n_floor_hall_set_1]? = some F_floor_hall_set_1 := Go.Proofs.Tryd.func109
abbrev n_slices_SortStableFunc_int : Nat := 110
noncomputable abbrev F_slices_SortStableFunc_int : Func := Go.Proofs.Tryd.f110
theorem at_slices_SortStableFunc_int : prog.funcs[n_slices_SortStableFunc_int]? = some F_slices_SortStableFunc_int := Go.Proofs.Tryd.func110
abbrev n_floor_hall_set_1_1 : Nat := 111
noncomputable abbrev F_floor_hall_set_1_1 : Func := Go.Proofs.Tryd.f111
theorem at_floor_hall_set_1_1 : prog.funcs[n_floor_hall_set_1_1]? = some F_floor_hall_set_1_1 := Go.Proofs.Tryd.func111
abbrev n_slices_AppendSeq_plan : Nat := 112
noncomputable abbrev F_slices_AppendSeq_plan : Func := Go.Proofs.Tryd.f112
theorem at_slices_AppendSeq_plan : prog.funcs[n_slices_AppendSeq_plan]? = some F_slices_AppendSeq_plan := Go.Proofs.Tryd.func112
abbrev n_slices_stableCmpFunc_int : Nat := 113
noncomputable abbrev F_slices_stableCmpFunc_int : Func := Go.Proofs.Tryd.f113
theorem at_slices_stableCmpFunc_int : prog.funcs[n_slices_stableCmpFunc_int]? = some F_slices_stableCmpFunc_int := Go.Proofs.Tryd.func113
abbrev n_slices_insertionSortCmpFunc_int : Nat := 114
noncomputable abbrev F_slices_insertionSortCmpFunc_int : Func := Go.Proofs.Tryd.f114
theorem at_slices_insertionSortCmpFunc_int : prog.funcs[n_slices_insertionSortCmpFunc_int]? = some F_slices_insertionSortCmpFunc_int := Go.Proofs.Tryd.func114
abbrev n_slices_symMergeCmpFunc_int : Nat := 115
noncomputable abbrev F_slices_symMergeCmpFunc_int : Func := Go.Proofs.Tryd.f115
theorem at_slices_symMergeCmpFunc_int : prog.funcs[n_slices_symMergeCmpFunc_int]? = some F_slices_symMergeCmpFunc_int := Go.Proofs.Tryd.func115
abbrev n_slices_rotateCmpFunc_int : Nat := 116
noncomputable abbrev F_slices_rotateCmpFunc_int : Func := Go.Proofs.Tryd.f116
theorem at_slices_rotateCmpFunc_int : prog.funcs[n_slices_rotateCmpFunc_int]? = some F_slices_rotateCmpFunc_int := Go.Proofs.Tryd.func116
abbrev n_slices_swapRangeCmpFunc_int : Nat := 117
noncomputable abbrev F_slices_swapRangeCmpFunc_int : Func := Go.Proofs.Tryd.f117
theorem at_slices_swapRangeCmpFunc_int : prog.funcs[n_slices_swapRangeCmpFunc_int]? = some F_slices_swapRangeCmpFunc_int := Go.Proofs.Tryd.func117
abbrev n_runtime_boundsError_Error : Nat := 118
noncomputable abbrev F_runtime_boundsError_Error : Func := Go.Proofs.Tryd.f118
theorem at_runtime_boundsError_Error : prog.funcs[n_runtime_boundsError_Error]? = some F_runtime_boundsError_Error := Go.Proofs.Tryd.func118
abbrev n_runtime_boundsError_RuntimeError : Nat := 119
noncomputable abbrev F_runtime_boundsError_RuntimeError : Func := Go.Proofs.Tryd.f119
theorem at_runtime_boundsError_RuntimeError : prog.funcs[n_runtime_boundsError_RuntimeError]? = some F_runtime_boundsError_RuntimeError := Go.Proofs.Tryd.func119
abbrev n_runtime_errorString_Error : Nat := 120
noncomputable abbrev F_runtime_errorString_Error : Func := Go.Proofs.Tryd.f120
theorem at_runtime_errorString_Error : prog.funcs[n_runtime_errorString_Error]? = some F_runtime_errorString_Error := Go.Proofs.Tryd.func120
abbrev n_runtime_errorString_RuntimeError : Nat := 121
noncomputable abbrev F_runtime_errorString_RuntimeError : Func := Go.Proofs.Tryd.f121
theorem at_runtime_errorString_RuntimeError : prog.funcs[n_runtime_errorString_RuntimeError]? = some F_runtime_errorString_RuntimeError := Go.Proofs.Tryd.func121
abbrev n_runtime_plainError_Error : Nat := 122
noncomputable abbrev F_runtime_plainError_Error : Func := Go.Proofs.Tryd.f122
theorem at_runtime_plainError_Error : prog.funcs[n_runtime_plainError_Error]? = some F_runtime_plainError_Error := Go.Proofs.Tryd.func122
abbrev n_runtime_plainError_RuntimeError : Nat := 123
noncomputable abbrev F_runtime_plainError_RuntimeError : Func := Go.Proofs.Tryd.f123
theorem at_runtime_plainError_RuntimeError : prog.funcs[n_runtime_plainError_RuntimeError]? = some F_runtime_plainError_RuntimeError := Go.Proofs.Tryd.func123
abbrev n_runtime_errorAddressString_Error : Nat := 124
noncomputable abbrev F_runtime_errorAddressString_Error : Func := Go.Proofs.Tryd.f124
theorem at_runtime_errorAddressString_Error : prog.funcs[n_runtime_errorAddressString_Error]? = some F_runtime_errorAddressString_Error := Go.Proofs.Tryd.func124
abbrev n_runtime_errorAddressString_RuntimeError : Nat := 125
noncomputable abbrev F_runtime_errorAddressString_RuntimeError : Func := Go.Proofs.Tryd.f125
theorem at_runtime_errorAddressString_RuntimeError : prog.funcs[n_runtime_errorAddressString_RuntimeError]? = some F_runtime_errorAddressString_RuntimeError := Go.Proofs.Tryd.func125
abbrev n_runtime_TypeAssertionError_Error : Nat := 126
noncomputable abbrev F_runtime_TypeAssertionError_Error : Func := Go.Proofs.Tryd.f126
theorem at_runtime_TypeAssertionError_Error : prog.funcs[n_runtime_TypeAssertionError_Error]? = some F_runtime_TypeAssertionError_Error := Go.Proofs.Tryd.func126
abbrev n_runtime_TypeAssertionError_RuntimeError : Nat := 127
noncomputable abbrev F_runtime_TypeAssertionError_RuntimeError : Func := Go.Proofs.Tryd.f127
theorem at_runtime_TypeAssertionError_RuntimeError : prog.funcs[n_runtime_TypeAssertionError_RuntimeError]? = some F_runtime_TypeAssertionError_RuntimeError := Go.Proofs.Tryd.func127
abbrev n_runtime_PanicNilError_Error : Nat := 128
noncomputable abbrev F_runtime_PanicNilError_Error : Func := Go.Proofs.Tryd.f128
theorem at_runtime_PanicNilError_Error : prog.funcs[n_runtime_PanicNilError_Error]? = some F_runtime_PanicNilError_Error := Go.Proofs.Tryd.func128
abbrev n_runtime_PanicNilError_RuntimeError : Nat := 129
noncomputable abbrev F_runtime_PanicNilError_RuntimeError : Func := Go.Proofs.Tryd.f129
theorem at_runtime_PanicNilError_RuntimeError : prog.funcs[n_runtime_PanicNilError_RuntimeError]? = some F_runtime_PanicNilError_RuntimeError := Go.Proofs.Tryd.func129
abbrev n_abi_Type_Align : Nat := 130
noncomputable abbrev F_abi_Type_Align : Func := Go.Proofs.Tryd.f130
theorem at_abi_Type_Align : prog.funcs[n_abi_Type_Align]? = some F_abi_Type_Align := Go.Proofs.Tryd.func130
abbrev n_abi_Type_Elem : Nat := 131
noncomputable abbrev F_abi_Type_Elem : Func := Go.Proofs.Tryd.f131
theorem at_abi_Type_Elem : prog.funcs[n_abi_Type_Elem]? = some F_abi_Type_Elem := Go.Proofs.Tryd.func131
abbrev n_abi_Type_Kind : Nat := 132
noncomputable abbrev F_abi_Type_Kind : Func := Go.Proofs.Tryd.f132
theorem at_abi_Type_Kind : prog.funcs[n_abi_Type_Kind]? = some F_abi_Type_Kind := Go.Proofs.Tryd.func132
abbrev n_runtime_maps_unhashableTypeError_Error : Nat := 133
noncomputable abbrev F_runtime_maps_unhashableTypeError_Error : Func := Go.Proofs.Tryd.f133
theorem at_runtime_maps_unhashableTypeError_Error : prog.funcs[n_runtime_maps_unhashableTypeError_Error]? = some F_runtime_maps_unhashableTypeError_Error := Go.Proofs.Tryd.func133
abbrev n_runtime_maps_unhashableTypeError_RuntimeError : Nat := 134
noncomputable abbrev F_runtime_maps_unhashableTypeError_RuntimeError : Func := Go.Proofs.Tryd.f134
theorem at_runtime_maps_unhashableTypeError_RuntimeError : prog.funcs[n_runtime_maps_unhashableTypeError_RuntimeError]? = some F_runtime_maps_unhashableTypeError_RuntimeError := Go.Proofs.Tryd.func134
abbrev n_api_Errno_Error : Nat := 135
noncomputable abbrev F_api_Errno_Error : Func := Go.Proofs.Tryd.f135
theorem at_api_Errno_Error : prog.funcs[n_api_Errno_Error]? = some F_api_Errno_Error := Go.Proofs.Tryd.func135
abbrev n_floor_wrong_Error : Nat := 136
noncomputable abbrev F_floor_wrong_Error : Func := Go.Proofs.Tryd.f136
theorem at_floor_wrong_Error : prog.funcs[n_floor_wrong_Error]? = some F_floor_wrong_Error := Go.Proofs.Tryd.func136
abbrev n_reflectlite_flag_mustBeAssignable : Nat := 137
noncomputable abbrev F_reflectlite_flag_mustBeAssignable : Func := Go.Proofs.Tryd.f137
theorem at_reflectlite_flag_mustBeAssignable : prog.funcs[n_reflectlite_flag_mustBeAssignable]? = some F_reflectlite_flag_mustBeAssignable := Go.Proofs.Tryd.func137
abbrev n_reflectlite_Value_Kind : Nat := 138
noncomputable abbrev F_reflectlite_Value_Kind : Func := Go.Proofs.Tryd.f138
theorem at_reflectlite_Value_Kind : prog.funcs[n_reflectlite_Value_Kind]? = some F_reflectlite_Value_Kind := Go.Proofs.Tryd.func138
abbrev n_abi_Kind_String : Nat := 139
noncomputable abbrev F_abi_Kind_String : Func := Go.Proofs.Tryd.f139
theorem at_abi_Kind_String : prog.funcs[n_abi_Kind_String]? = some F_abi_Kind_String := Go.Proofs.Tryd.func139
abbrev n_abi_Type_Size : Nat := 140
noncomputable abbrev F_abi_Type_Size : Func := Go.Proofs.Tryd.f140
theorem at_abi_Type_Size : prog.funcs[n_abi_Type_Size]? = some F_abi_Type_Size := Go.Proofs.Tryd.func140
abbrev n_reflectlite_rtype_AssignableTo : Nat := 141
noncomputable abbrev F_reflectlite_rtype_AssignableTo : Func := Go.Proofs.Tryd.f141
theorem at_reflectlite_rtype_AssignableTo : prog.funcs[n_reflectlite_rtype_AssignableTo]? = some F_reflectlite_rtype_AssignableTo := Go.Proofs.Tryd.func141
abbrev n_reflectlite_rtype_Comparable : Nat := 142
noncomputable abbrev F_reflectlite_rtype_Comparable : Func := Go.Proofs.Tryd.f142
theorem at_reflectlite_rtype_Comparable : prog.funcs[n_reflectlite_rtype_Comparable]? = some F_reflectlite_rtype_Comparable := Go.Proofs.Tryd.func142
abbrev n_reflectlite_rtype_Elem : Nat := 143
noncomputable abbrev F_reflectlite_rtype_Elem : Func := Go.Proofs.Tryd.f143
theorem at_reflectlite_rtype_Elem : prog.funcs[n_reflectlite_rtype_Elem]? = some F_reflectlite_rtype_Elem := Go.Proofs.Tryd.func143
abbrev n_reflectlite_rtype_Implements : Nat := 144
noncomputable abbrev F_reflectlite_rtype_Implements : Func := Go.Proofs.Tryd.f144
theorem at_reflectlite_rtype_Implements : prog.funcs[n_reflectlite_rtype_Implements]? = some F_reflectlite_rtype_Implements := Go.Proofs.Tryd.func144
abbrev n_reflectlite_rtype_Name : Nat := 145
noncomputable abbrev F_reflectlite_rtype_Name : Func := Go.Proofs.Tryd.f145
theorem at_reflectlite_rtype_Name : prog.funcs[n_reflectlite_rtype_Name]? = some F_reflectlite_rtype_Name := Go.Proofs.Tryd.func145
abbrev n_reflectlite_rtype_PkgPath : Nat := 146
noncomputable abbrev F_reflectlite_rtype_PkgPath : Func := Go.Proofs.Tryd.f146
theorem at_reflectlite_rtype_PkgPath : prog.funcs[n_reflectlite_rtype_PkgPath]? = some F_reflectlite_rtype_PkgPath := Go.Proofs.Tryd.func146
abbrev n_reflectlite_rtype_String : Nat := 147
noncomputable abbrev F_reflectlite_rtype_String : Func := Go.Proofs.Tryd.f147
theorem at_reflectlite_rtype_String : prog.funcs[n_reflectlite_rtype_String]? = some F_reflectlite_rtype_String := Go.Proofs.Tryd.func147
abbrev n_reflectlite_rtype_common : Nat := 148
noncomputable abbrev F_reflectlite_rtype_common : Func := Go.Proofs.Tryd.f148
theorem at_reflectlite_rtype_common : prog.funcs[n_reflectlite_rtype_common]? = some F_reflectlite_rtype_common := Go.Proofs.Tryd.func148
abbrev n_reflectlite_rtype_uncommon : Nat := 149
noncomputable abbrev F_reflectlite_rtype_uncommon : Func := Go.Proofs.Tryd.f149
theorem at_reflectlite_rtype_uncommon : prog.funcs[n_reflectlite_rtype_uncommon]? = some F_reflectlite_rtype_uncommon := Go.Proofs.Tryd.func149
abbrev n_reflectlite_ValueError_Error : Nat := 150
noncomputable abbrev F_reflectlite_ValueError_Error : Func := Go.Proofs.Tryd.f150
theorem at_reflectlite_ValueError_Error : prog.funcs[n_reflectlite_ValueError_Error]? = some F_reflectlite_ValueError_Error := Go.Proofs.Tryd.func150
abbrev n_floor_full_day : Nat := 151
noncomputable abbrev F_floor_full_day : Func := Go.Proofs.Tryd.f151
theorem at_floor_full_day : prog.funcs[n_floor_full_day]? = some F_floor_full_day := Go.Proofs.Tryd.func151
abbrev n_floor_cold_day : Nat := 152
noncomputable abbrev F_floor_cold_day : Func := Go.Proofs.Tryd.f152
theorem at_floor_cold_day : prog.funcs[n_floor_cold_day]? = some F_floor_cold_day := Go.Proofs.Tryd.func152
abbrev n_abi_UncommonType_ExportedMethods : Nat := 153
noncomputable abbrev F_abi_UncommonType_ExportedMethods : Func := Go.Proofs.Tryd.f153
theorem at_abi_UncommonType_ExportedMethods : prog.funcs[n_abi_UncommonType_ExportedMethods]? = some F_abi_UncommonType_ExportedMethods := Go.Proofs.Tryd.func153
abbrev t_int64 : TypeId := 2
abbrev t_int : TypeId := 3
abbrev t_bool : TypeId := 4
abbrev t_uint8 : TypeId := 5
abbrev t_abi_BoundsErrorCode : TypeId := 6
abbrev t_runtime_boundsError : TypeId := 8
abbrev t_string : TypeId := 9
abbrev t_runtime_errorString : TypeId := 10
abbrev t_runtime_plainError : TypeId := 11
abbrev t_uintptr : TypeId := 12
abbrev t_runtime_errorAddressString : TypeId := 14
abbrev t_p_runtime_TypeAssertionError : TypeId := 15
abbrev t_p_runtime_PanicNilError : TypeId := 16
abbrev t_p_abi_Type : TypeId := 17
abbrev t_maps_unhashableTypeError : TypeId := 19
abbrev t_any : TypeId := 20
abbrev t_int32 : TypeId := 21
abbrev t_sl_int : TypeId := 22
abbrev t_sl_Floor : TypeId := 23
abbrev t_sl_Strike : TypeId := 24
abbrev t_Plant : TypeId := 26
abbrev t_p_Hat : TypeId := 28
abbrev t_Errno : TypeId := 32
abbrev t_Span : TypeId := 42
abbrev t_Floor : TypeId := 44
abbrev t_Strike : TypeId := 47
abbrev t_sl_Plant : TypeId := 50
abbrev t_sl_Berth : TypeId := 51
abbrev t_sl_sl_Berth : TypeId := 56
abbrev t_Berth : TypeId := 62
abbrev t_sl_sl_int : TypeId := 68
abbrev t_uint64 : TypeId := 86
abbrev t_Hat : TypeId := 88
abbrev t_hall : TypeId := 90
abbrev t_search : TypeId := 93
abbrev t_iter_Seq_plan : TypeId := 95
abbrev t_p_Floor : TypeId := 104
abbrev t_sl_plan : TypeId := 106
abbrev t_most : TypeId := 108
abbrev t_a4_Berth : TypeId := 113
abbrev t_plan : TypeId := 114
abbrev t_fault : TypeId := 118
abbrev t_wrong : TypeId := 120
abbrev t_error : TypeId := 123
abbrev t_p_wrong : TypeId := 125
abbrev t_a22_Span : TypeId := 128
abbrev t_days : TypeId := 129
abbrev t_iter_Seq_Berth : TypeId := 137
abbrev t_p_plan : TypeId := 140
abbrev t_uint : TypeId := 142
abbrev t_map_plan_bool : TypeId := 145
abbrev t_unsafe_Pointer : TypeId := 148
abbrev t_reflectlite_flag : TypeId := 149
abbrev t_reflectlite_Value : TypeId := 151
abbrev t_reflectlite_Type : TypeId := 154
abbrev t_abi_Kind : TypeId := 156
abbrev t_iter_Seq_int : TypeId := 162
abbrev t_p_most : TypeId := 165
abbrev t_sl_chan_plan : TypeId := 167
abbrev t_chan_plan : TypeId := 168
abbrev t_reflectlite_rtype : TypeId := 171
abbrev t_p_reflectlite_ValueError : TypeId := 172
abbrev t_sl_error : TypeId := 182
abbrev t_full : TypeId := 185
abbrev t_cold : TypeId := 186
abbrev t_runtime_TypeAssertionError : TypeId := 194
abbrev t_a0_p_runtime_PanicNilError : TypeId := 195
abbrev t_runtime_PanicNilError : TypeId := 197
abbrev t_uint32 : TypeId := 199
abbrev t_abi_TFlag : TypeId := 200
abbrev t_p_uint8 : TypeId := 202
abbrev t_abi_NameOff : TypeId := 203
abbrev t_abi_TypeOff : TypeId := 204
abbrev t_abi_Type : TypeId := 206
abbrev t_reflectlite_ValueError : TypeId := 210
abbrev t_p_abi_UncommonType : TypeId := 211
abbrev t_uint16 : TypeId := 213
abbrev t_abi_UncommonType : TypeId := 215
abbrev t_sl_abi_Method : TypeId := 216
abbrev t_abi_TextOff : TypeId := 217
abbrev t_abi_Method : TypeId := 219
abbrev t_p_error : TypeId := 220
instance : MO prog := ⟨by kernel_rfl⟩
end Go.Mus

/- More laws: slices of arrays, copy, arrays of zeros, results in cells. Conditions: none; over any program. -/
namespace Go.Mus
section rules
variable {x : Cx} {Q : Post} {ρ : Env} {ds : List Deferred} {F : Frag} {ops : Array Oper} {S : Frag → Prop} {i : Nat} {rest : List Nat} {o : Oper} {v : Value} {R : Value → Frag → Prop}
/-- A whole array, as a slice. -/
theorem y_sliceArr {t n E s by' : Nat} {z : Value} {zc : Array Value} {y : Operand} {b off : Nat} (ho : o.op = .slice t y none none none) [TD x.P t (.array n E)] [TI x.P E s by' z zc] (hy : ev ρ y = some (.pointer (some ⟨b, off, none⟩))) : Yv x S ρ o (.slice (some ⟨b, off, none⟩) n n) := fun e he F hF h' hE => by
  simp only [execOp, ho, he y _ hy, Instr.sliceAt, Instr.sureAddr, Instr.sliceBounds, bind_eq, pure_eq, bind_assoc, bind_pure, Option.map_none, trb_underlying, trb_sizeOf, Nat.zero_mul, add_spot, Nat.add_zero, ite_self, Nat.sub_zero]
  exact ⟨rfl, rfl⟩
/-- Its first ones. -/
theorem y_sliceArrHi {t n E s by' : Nat} {z : Value} {zc : Array Value} {y hi : Operand} {b off : Nat} {k : IntKind} {m : Nat} (ho : o.op = .slice t y none (some hi) none) [TD x.P t (.array n E)] [TI x.P E s by' z zc] (hy : ev ρ y = some (.pointer (some ⟨b, off, none⟩))) (hh : ev ρ hi = some (.int k (m : Int))) (hm : m ≤ n := by omega) : Yv x S ρ o (.slice (some ⟨b, off, none⟩) m n) := fun e he F hF h' hE => by
  have e1 : (0 : Int) ≤ m ∧ (m : Int) ≤ n := by omega
  simp only [execOp, ho, he y _ hy, he hi _ hh, Instr.sliceAt, Instr.sureAddr, Instr.sliceBounds, Instr.sliceBound, asIntOf, bind_eq, pure_eq, bind_assoc, bind_pure, Option.map_none, Option.map_some, trb_underlying, trb_sizeOf, if_pos e1, Int.toNat_natCast, Nat.zero_mul, add_spot, Nat.add_zero, ite_self, Nat.sub_zero]
  exact ⟨rfl, rfl⟩
/-- The first ones of a slice. -/
theorem y_sliceHi {t E s by' : Nat} {z : Value} {zc : Array Value} {y hi : Operand} {a : Option Addr} {k : IntKind} {l cap m : Nat} (ho : o.op = .slice t y none (some hi) none) [TD x.P t (.slice E)] [TI x.P E s by' z zc] (hy : ev ρ y = some (.slice a l cap)) (hh : ev ρ hi = some (.int k (m : Int))) (ha : a.map (·.spot) = some none ∨ a = none) (hm : m ≤ cap := by omega) : Yv x S ρ o (.slice a m cap) := fun e he F hF h' hE => by
  have e1 : (0 : Int) ≤ m ∧ (m : Int) ≤ cap := by omega
  have e2 : a.map (·.add (0 * s)) = a := by
    rcases ha with ha | rfl
    · cases a with
      | none => cases ha
      | some a => simp at ha; simp [add_spot ha, ← ha]
    · rfl
  simp only [execOp, ho, he y _ hy, he hi _ hh, Instr.sliceAt, Instr.slice, Instr.sliceBounds, Instr.sliceBound, asIntOf, bind_eq, pure_eq, bind_assoc, bind_pure, Option.map_none, Option.map_some, trb_underlying, trb_sizeOf, if_pos e1, Int.toNat_natCast, e2, ite_self, Nat.sub_zero]
  exact ⟨rfl, rfl⟩
/-- None of a slice: it has no room. -/
theorem y_slice00 {t E s by' : Nat} {z : Value} {zc : Array Value} {y hi mx : Operand} {a : Option Addr} {k k' : IntKind} {l cap : Nat} (ho : o.op = .slice t y none (some hi) (some mx)) [TD x.P t (.slice E)] [TI x.P E s by' z zc] (hy : ev ρ y = some (.slice a l cap)) (hh : ev ρ hi = some (.int k 0)) (hm : ev ρ mx = some (.int k' 0)) : Yv x S ρ o (.slice a 0 0) := fun e he F hF h' hE => by
  have e1 : (0 : Int) ≤ 0 ∧ (0 : Int) ≤ cap := by omega
  have e2 : (0 : Int) ≤ 0 ∧ (0 : Int) ≤ (0 : Nat) := by omega
  simp only [execOp, ho, he y _ hy, he hi _ hh, he mx _ hm, Instr.sliceAt, Instr.slice, Instr.sliceBounds, Instr.sliceBound, asIntOf, bind_eq, pure_eq, bind_assoc, bind_pure, Option.map_none, Option.map_some, trb_underlying, trb_sizeOf, if_pos e1, Int.toNat_zero, if_pos e2, if_true, Nat.sub_zero]
  exact ⟨rfl, rfl⟩

/-- An array of zeros. -/
theorem y_build0 {t n E s b s' b' : Nat} {z z' : Value} {zc zc' : Array Value} (ho : o.op = .build t #[]) [TD x.P t (.array n E)] [TI x.P t s b z zc] [TI x.P E s' b' z' zc'] : Yv x S ρ o (.agg zc) := fun e he F hF h' hE => by
  obtain ⟨j, _, _, _, _, hz⟩ := TI.out (inferInstance : TI x.P t s b z zc)
  simp only [execOp, ho, Instr.build, bind_eq, pure_eq, bind_assoc, bind_pure, trb_zeroValue, trb_underlying, trb_sizeOf, hz, List.map_toArray, List.map_nil, Instr.fill]
  exact ⟨rfl, rfl⟩

/-- copy, from what is read into a block of one's own. -/
theorem e_copy {α : Type} {row : α → List Value} {w : Nat} [Rw row w] {t t' E by' : Nat} {z : Value} {zc : Array Value} {y yx : Operand} {xv : Value} {b off n cap : Nat} {c : Array Value} {C : TypeId} {l : List α} {U : Obj → Frag} (ho : o.op = .call ⟨.builtin .copy, #[y, yx], #[t, t']⟩) [TD x.P t (.slice E)] [TI x.P E w by' z zc]
    (hy : ev ρ y = some (.slice (some ⟨b, off, none⟩) n cap)) (hx : ev ρ yx = some xv) (hs : Sl x.h row xv l) (hle : l.length ≤ n) (hl : At b (.cells c C (0, 0)) F U) (hc : off + l.length * w ≤ c.size)
    (H : R (.int .i64 l.length) (U (.cells (putAll c off (flat row l)) C (0, 0)))) : Ef x ρ o F R :=
  Ef.of_tr fun e he h' hE => by
    have hs' := Sl.ext hE hs
    obtain ⟨a, cp, rfl⟩ := hs.isSl
    have hmin : Nat.min l.length n = l.length := Nat.min_eq_left hle
    simp only [execOp, ho, resolve, invoke, builtin, Builtin.copy_, List.map_toArray, List.map_cons, List.map_nil, he y _ hy, he yx _ hx, List.getElem?_toArray, List.getElem?_cons_zero, List.getElem?_cons_succ, bind_eq, pure_eq, bind_assoc, bind_pure, trb_underlying, Builtin.lenOf, trb_sizeOf, hmin]
    refine tr_bind (tr_first hs' ?_)
    refine tr_bind (tr_storeCells (flat row l) 0 c (flat_ones l) hl (by rw [flat_len]; omega) ?_)
    exact ⟨_, .inl rfl, by simpa [goInt] using H⟩
end rules
theorem Ef.of_y {x : Cx} {ρ : Env} {F : Frag} {o : Oper} {v : Value} {R : Value → Frag → Prop} (hy : Yv x (· = F) ρ o v) (H : R v F) : Ef x ρ o F R := fun e he =>
  ⟨F, [], by simp, fun h' e1 e2 => tr_mono (hy e he F rfl h' e1) fun nx F' ⟨h1, h2⟩ => by
    subst h1 h2
    exact ⟨F', by simp, H⟩⟩

section
variable {x : Cx} {Q : Post} {ρ : Env} {ds : List Deferred} {F : Frag} {ops : Array Oper} {i : Nat} {rest : List Nat} {d : Tmp} {ty : TypeId} {pos : String} {aft : Array Edge} {g : Option (Nat × Bool)} {L : Frag}
variable {args : List Operand} {ts : Array TypeId} {vs : List Value} {y : Operand} {fv u : Value}
/-- A function value that answers. -/
abbrev PuV (P : Program) (main : Side) (fv : Value) (vs : List Value) (h : Hp) (u : Value) : Prop := CallV P main fv vs h [] (fun v A => v = u ∧ Shut A)
theorem e_callV0 {o : Oper} {R : Value → Frag → Prop} (ho : o.op = .call ⟨.value y, args.toArray, ts⟩) (hy : ev ρ y = some fv) (hv : evs ρ args = some vs) (H : ∀ h', Ext x.h h' → Lent F h' → PuV x.P x.main fv vs h' u) (K : ∀ A, Shut A → R u (A ++ F)) : Ef x ρ o F R :=
  e_callV ho hy hv (Seg.head (A := []) (G := F)) H fun v A' hv => by
    obtain ⟨rfl, hs⟩ := hv
    exact K A' hs
theorem cv (H : ∀ h', Ext x.h h' → Lent F h' → PuV x.P x.main fv vs h' u) (K : Ops x ops rest Q ((d, u) :: ρ) ds F) (ho : nthO ops.toList i = some ⟨some d, .call ⟨.value y, args.toArray, ts⟩, ty, pos, aft, g⟩ := by rfl) (hy : ev ρ y = some fv := by rfl) (hv : evs ρ args = some vs := by rfl)
    (hw : want ops ρ ⟨some d, .call ⟨.value y, args.toArray, ts⟩, ty, pos, aft, g⟩ := by first | exact wn | exact want_some rfl rfl rfl) (hd : Nat.blt d x.n = true := by rfl) : Ops x ops (i :: rest) Q ρ ds F :=
  Ops.eff (o := ⟨some d, .call ⟨.value y, args.toArray, ts⟩, ty, pos, aft, g⟩) (e_callV0 rfl hy hv H fun A hs => Ops.sb (Sb.left .refl hs) K) (nthO_get ho) hw hd rfl
theorem acv {fuel listed : Nat} (H : ∀ h', Ext x.h h' → Lent F h' → PuV x.P x.main fv vs h' u) (K : Any x ops L fuel (listed ||| 2 ^ i) Q ((d, u) :: ρ) ds F) (hS : lastT ops i = true ∨ Keeps L F := by first | exact .inr (by repeat (first | exact fun _ h => h | apply Keeps.cons | apply Keeps.app)) | exact .inl (by kernel_rfl))
    (ho : nthO ops.toList i = some ⟨some d, .call ⟨.value y, args.toArray, ts⟩, ty, pos, aft, g⟩ := by rfl) (hy : ev ρ y = some fv := by rfl) (hv : evs ρ args = some vs := by rfl)
    (hw : wantε ops (look ρ) ⟨some d, .call ⟨.value y, args.toArray, ts⟩, ty, pos, aft, g⟩ true := by first | exact an | exact wantε_some rfl rfl rfl rfl) (hd : Nat.blt d x.n = true := by rfl) (hr : rdys ops listed = [i] := by kernel_rfl) : Any x ops L (fuel + 1) listed Q ρ ds F :=
  Any.eff (o := ⟨some d, .call ⟨.value y, args.toArray, ts⟩, ty, pos, aft, g⟩) (e_callV0 rfl hy hv H fun A hs => ⟨hS.imp id fun k p hp => List.mem_append_right _ (k p hp), Any.sb (Sb.left .refl hs) K⟩) hr (nthO_get ho) hw hd rfl
/-- An operation behind a guard that was passed over itself. -/
theorem Ops.noU {op : Op} {j d' : Nat} {w : Bool} (H : Ops x ops rest Q ((d, undef) :: ρ) ds F) (ho : nthO ops.toList i = some ⟨some d, op, ty, pos, aft, some (j, w)⟩ := by rfl) (hj : (nthO ops.toList j).bind (·.dst) = some d' := by rfl) (hv : look ρ d' = some undef := by rfl) (hd : Nat.blt d x.n = true := by rfl) : Ops x ops (i :: rest) Q ρ ds F := by
  intro b k cs Stop tmps hk M h1 h0 h2 h3 h4 h5 hc
  have hj' : (ops[j]?).bind (·.dst) = some d' := by rw [nthO_eq] at hj; simpa using hj
  have hw : Region.wanted ⟨some d, op, ty, pos, aft, some (j, w)⟩ (yielded ops tmps) = false := by
    simp only [Region.wanted, yielded, hj', Option.bind_some, h3 d' _ hv]
    rfl
  obtain ⟨p1, p2⟩ := h3.put' (o := ⟨some d, op, ty, pos, aft, some (j, w)⟩) h4 hd undef
  refine .idle rfl (fun _ => st_unwanted (nthO_get ho) hw) ?_
  rw [finish_fat (cs := cs) (nthO_get ho) undef]
  exact H b k cs Stop _ _ _ h1 h0 h2 p1 p2 h5 hc
/-- A new slice of some values. -/
theorem Ops.bsl {t E s b len : Nat} {z : Value} {zc : Array Value} {parts : List (Nat × Operand)} {cs : Array Value} (H : ∀ β, Ops x ops rest Q ((d, .slice (some ⟨β, 0, none⟩) len len) :: ρ) ds ((β, .cells cs E (0, 0)) :: F)) (ho : nthO ops.toList i = some ⟨some d, .buildSlice t len parts.toArray, ty, pos, aft, g⟩ := by rfl) [TD x.P t (.slice E)] [TI x.P E s b z zc] (hv : evs ρ (parts.map (·.2)) = some vs := by rfl) (hls : 0 < len * s := by decide) (hl : len * s ≤ 2 ^ 24 := by decide)
    (hf : Instr.fill (fun i => some (i * s, s)) ((List.range (len * s)).map (fun i => zc[i % zc.size]!)).toArray ((parts.map (·.1)).zip vs) = some cs := by rfl)
    (hw : want ops ρ ⟨some d, .buildSlice t len parts.toArray, ty, pos, aft, g⟩ := by first | exact wn | exact want_some rfl rfl rfl) (hd : Nat.blt d x.n = true := by rfl) : Ops x ops (i :: rest) Q ρ ds F :=
  Ops.eff (o := ⟨some d, .buildSlice t len parts.toArray, ty, pos, aft, g⟩) (e_buildSlice rfl hv hls hl (by rw [show (Array.range (len * s)).map (zc[· % zc.size]!) = ((List.range (len * s)).map (fun i => zc[i % zc.size]!)).toArray by apply Array.ext'; simp]; exact hf) fun β _ _ => H β) (nthO_get ho) hw hd rfl
theorem Ops.bsl0 {t E s b : Nat} {z : Value} {zc : Array Value} (H : ∀ β, Ops x ops rest Q ((d, .slice (some ⟨β, 0, none⟩) 0 0) :: ρ) ds ((β, .cells #[] E (0, 0)) :: F)) (ho : nthO ops.toList i = some ⟨some d, .buildSlice t 0 #[], ty, pos, aft, g⟩ := by rfl) [TD x.P t (.slice E)] [TI x.P E s b z zc]
    (hw : want ops ρ ⟨some d, .buildSlice t 0 #[], ty, pos, aft, g⟩ := by first | exact wn | exact want_some rfl rfl rfl) (hd : Nat.blt d x.n = true := by rfl) : Ops x ops (i :: rest) Q ρ ds F :=
  Ops.eff (o := ⟨some d, .buildSlice t 0 #[], ty, pos, aft, g⟩) (e_buildSlice0 rfl fun β _ _ => H β) (nthO_get ho) hw hd rfl
/-- A function value is handed a part. -/
theorem cgv {A : Frag} {U : Frag → Frag} {R' : Value → Frag → Prop} (hs : Seg A F U) (H : ∀ h', Ext x.h h' → Lent (U []) h' → CallV x.P x.main fv vs h' A R') (K : ∀ v A', R' v A' → Ops x ops rest Q ((d, v) :: ρ) ds (U A')) (ho : nthO ops.toList i = some ⟨some d, .call ⟨.value y, args.toArray, ts⟩, ty, pos, aft, g⟩ := by rfl) (hy : ev ρ y = some fv := by rfl) (hv : evs ρ args = some vs := by rfl)
    (hw : want ops ρ ⟨some d, .call ⟨.value y, args.toArray, ts⟩, ty, pos, aft, g⟩ := by first | exact wn | exact want_some rfl rfl rfl) (hd : Nat.blt d x.n = true := by rfl) : Ops x ops (i :: rest) Q ρ ds F :=
  Ops.eff (o := ⟨some d, .call ⟨.value y, args.toArray, ts⟩, ty, pos, aft, g⟩) (e_callV rfl hy hv hs H fun v A' r => K v A' r) (nthO_get ho) hw hd rfl
theorem segAll {A : Frag} : Seg A (A ++ []) (· ++ []) := Seg.head
/-- A call that is handed all. -/
theorem cga {f : FuncId} {R' : Value → Frag → Prop} (H : ∀ h', Ext x.h h' → Fnc x.P x.main f vs.toArray h' F R') (K : ∀ v A', R' v A' → Ops x ops rest Q ((d, v) :: ρ) ds A') (ho : nthO ops.toList i = some ⟨some d, .call ⟨.value (.func f), args.toArray, ts⟩, ty, pos, aft, g⟩ := by rfl) [FB x.P f] (hv : evs ρ args = some vs := by rfl)
    (hw : want ops ρ ⟨some d, .call ⟨.value (.func f), args.toArray, ts⟩, ty, pos, aft, g⟩ := by first | exact wn | exact want_some rfl rfl rfl) (hd : Nat.blt d x.n = true := by rfl) : Ops x ops (i :: rest) Q ρ ds F :=
  Ops.perm (F' := F ++ []) (by simp) (cg segAll (fun h' e _ => H h' e) (fun v A' r => Ops.perm (F' := A') (by simp) (K v A' r)) ho hv hw hd)
/-- Two loads that may come up in either order. -/
theorem a2 {fuel listed i j d d' : Nat} {op op' : Op} {ty' : TypeId} {pos' : String} {aft' : Array Edge} {g' : Option (Nat × Bool)} {v w : Value} (ho : nthO ops.toList i = some ⟨some d, op, ty, pos, aft, g⟩) (ho' : nthO ops.toList j = some ⟨some d', op', ty', pos', aft', g'⟩)
    (hy : Yv x (· = F) ρ ⟨some d, op, ty, pos, aft, g⟩ v) (hy2 : Yv x (· = F) ((d', w) :: ρ) ⟨some d, op, ty, pos, aft, g⟩ v) (hy' : Yv x (· = F) ρ ⟨some d', op', ty', pos', aft', g'⟩ w) (hy2' : Yv x (· = F) ((d, v) :: ρ) ⟨some d', op', ty', pos', aft', g'⟩ w)
    (hw : wantε ops (look ρ) ⟨some d, op, ty, pos, aft, g⟩ true) (hw2 : wantε ops (look ((d', w) :: ρ)) ⟨some d, op, ty, pos, aft, g⟩ true) (hw' : wantε ops (look ρ) ⟨some d', op', ty', pos', aft', g'⟩ true) (hw2' : wantε ops (look ((d, v) :: ρ)) ⟨some d', op', ty', pos', aft', g'⟩ true)
    (hd : Nat.blt d x.n = true) (hd' : Nat.blt d' x.n = true) (hn : noDefer op = true) (hn' : noDefer op' = true)
    (H : Any x ops [] fuel ((listed ||| 2 ^ i) ||| 2 ^ j) Q ((d', w) :: (d, v) :: ρ) ds F) (hne : Nat.beq d d' = false := by rfl)
    (hr : rdys ops listed = [i, j] := by kernel_rfl) (hr1 : rdys ops (listed ||| 2 ^ i) = [j] := by kernel_rfl) (hr2 : rdys ops (listed ||| 2 ^ j) = [i] := by kernel_rfl) : Any x ops [] (fuel + 2) listed Q ρ ds F := by
  have hk : ∀ F : Frag, Keeps [] F := fun _ p hp => by cases hp
  refine Any.eff2 (o := ⟨some d, op, ty, pos, aft, g⟩) (o' := ⟨some d', op', ty', pos', aft', g'⟩) hr (nthO_get ho) (nthO_get ho') hw hw' hd hd' hn hn' (Ef.of_y hy ⟨.inr (hk _), ?_⟩) (Ef.of_y hy' ⟨.inr (hk _), ?_⟩)
  · exact Any.eff (o := ⟨some d', op', ty', pos', aft', g'⟩) (Ef.of_y hy2' ⟨.inr (hk _), H⟩) hr1 (nthO_get ho') hw2' hd' hn'
  · refine Any.eff (o := ⟨some d, op, ty, pos, aft, g⟩) (Ef.of_y hy2 ⟨.inr (hk _), ?_⟩) hr2 (nthO_get ho) hw2 hd hn
    have e1 : (listed ||| 2 ^ j) ||| 2 ^ i = (listed ||| 2 ^ i) ||| 2 ^ j := by rw [Nat.or_assoc, Nat.or_comm (2 ^ j), ← Nat.or_assoc]
    have e2 : look ((d, v) :: (d', w) :: ρ) = look ((d', w) :: (d, v) :: ρ) := by
      funext t
      show (bif Nat.beq t d then some v else bif Nat.beq t d' then some w else look ρ t) = (bif Nat.beq t d' then some w else bif Nat.beq t d then some v else look ρ t)
      cases h1 : Nat.beq t d with
      | false => rfl
      | true =>
        have : t = d := Nat.eq_of_beq_eq_true h1
        subst this
        rw [hne]; rfl
    rw [e1]
    unfold Any at H ⊢
    show anyT _ _ _ _ _ _ (look ((d, v) :: (d', w) :: ρ)) _
    rw [e2]
    exact H
end
/-! ### Results that lie in cells -/
section
variable {P : Program} {h : Hp} {F : Frag} {ρ : Env} {r : List ResultVar} {vs : List Value}
theorem rNil : resOK P h F [] ρ [] := rfl
theorem rTmp {t : Tmp} {v : Value} (H : resOK P h F r ρ vs) (hv : look ρ t = some v := by rfl) : resOK P h F (.tmp t :: r) ρ (v :: vs) := ⟨v, vs, rfl, hv, H⟩
theorem rAgg {a : Tmp} {t n b : Nat} {c : Array Value} {E : TypeId} {fz : Nat × Nat} (H : resOK P h F r ρ vs) [i : AG P t n] (ha : look ρ a = some (.pointer (some ⟨b, 0, none⟩)) := by rfl) (hl : (b, Obj.cells c E fz) ∈ F := by repeat (first | exact List.Mem.head _ | apply List.Mem.tail)) (hn : c.size = n := by first | rfl | assumption) : resOK P h F (.cell a t :: r) ρ (.agg c :: vs) :=
  ⟨_, vs, b, 0, c, E, fz, rfl, ha, .inr hl, .inr ⟨n, i, by omega, by congr 1; apply Array.ext'; simp [← hn]⟩, H⟩
theorem rSc {a : Tmp} {t b : Nat} {v : Value} {c : Array Value} {E : TypeId} {fz : Nat × Nat} (H : resOK P h F r ρ vs) [i : SC P t] (ha : look ρ a = some (.pointer (some ⟨b, 0, none⟩)) := by rfl) (hl : (b, Obj.cells c E fz) ∈ F := by repeat (first | exact List.Mem.head _ | apply List.Mem.tail)) (hv : c[0]? = some v := by first | rfl | assumption) : resOK P h F (.cell a t :: r) ρ (v :: vs) :=
  ⟨v, vs, b, 0, c, E, fz, rfl, ha, .inr hl, .inl ⟨i, hv⟩, H⟩
variable {main : Side} {fn : Func} {R : Value → Frag → Prop} {e : Exit}
theorem lvc (hR : R (pack vs) F) (he : e = .ret ∨ e = .normal := by first | exact .inl rfl | exact .inr rfl) (hv : resOK P h F fn.results.toList ρ vs := by (repeat (first | exact rNil | refine rTmp ?_ | refine rAgg ?_ | refine rSc ?_))) : leave P main fn h R e ρ [] F :=
  leave_of he (by simp) hv hR
end
end Go.Mus
