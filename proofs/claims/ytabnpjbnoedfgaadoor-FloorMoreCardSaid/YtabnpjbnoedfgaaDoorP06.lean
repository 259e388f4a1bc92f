/- The types and functions of the program, as facts. Conditions: none. (And 1 texts more.) -/
import Derived.Test.YtabnpjbnoedfgaaDoorProg
import Derived.Test.YtabnpjbnoedfgaaDoorP03
import Derived.KernelRfl
import Derived.Test.YtabnpjbnoedfgaaDoorP05
set_option linter.unusedVariables false
set_option linter.unusedSimpArgs false

/- The types and functions of the program, as facts. Conditions: none. -/
namespace Go.Proofs.YtabnpjbnoedfgaaDoor
open Go Go.Mus
set_option maxRecDepth 100000
instance : TD Go.Proofs.Tryd.prog 2 (.int .i64) := ⟨Go.Proofs.Tryd.underlying2⟩
instance : SC Go.Proofs.Tryd.prog 2 := ⟨by kernel_rfl⟩
instance : TI Go.Proofs.Tryd.prog 2 1 8 (.int .i64 0) #[(.int .i64 0)] := ⟨by kernel_rfl, rfl⟩
instance : TD Go.Proofs.Tryd.prog 3 (.int .i64) := ⟨Go.Proofs.Tryd.underlying3⟩
instance : SC Go.Proofs.Tryd.prog 3 := ⟨by kernel_rfl⟩
instance : TI Go.Proofs.Tryd.prog 3 1 8 (.int .i64 0) #[(.int .i64 0)] := ⟨by kernel_rfl, rfl⟩
instance : TD Go.Proofs.Tryd.prog 4 .bool := ⟨Go.Proofs.Tryd.underlying4⟩
instance : SC Go.Proofs.Tryd.prog 4 := ⟨by kernel_rfl⟩
instance : TI Go.Proofs.Tryd.prog 4 1 1 (.bool false) #[(.bool false)] := ⟨by kernel_rfl, rfl⟩
instance : TD Go.Proofs.Tryd.prog 5 (.int .u8) := ⟨Go.Proofs.Tryd.underlying5⟩
instance : SC Go.Proofs.Tryd.prog 5 := ⟨by kernel_rfl⟩
instance : TI Go.Proofs.Tryd.prog 5 1 1 (.int .u8 0) #[(.int .u8 0)] := ⟨by kernel_rfl, rfl⟩
instance : TD Go.Proofs.Tryd.prog 6 (.int .u8) := ⟨Go.Proofs.Tryd.underlying6⟩
instance : SC Go.Proofs.Tryd.prog 6 := ⟨by kernel_rfl⟩
instance : TI Go.Proofs.Tryd.prog 6 1 1 (.int .u8 0) #[(.int .u8 0)] := ⟨by kernel_rfl, rfl⟩
instance : AG Go.Proofs.Tryd.prog 7 4 := ⟨by kernel_rfl, by kernel_rfl⟩
instance : TI Go.Proofs.Tryd.prog 7 4 24 (.agg #[(.int .i64 0), (.int .i64 0), (.bool false), (.int .u8 0)]) #[(.int .i64 0), (.int .i64 0), (.bool false), (.int .u8 0)] := ⟨by kernel_rfl, rfl⟩
instance : FA Go.Proofs.Tryd.prog 7 0 0 2 := ⟨0, by kernel_rfl⟩
instance : FA Go.Proofs.Tryd.prog 7 1 1 3 := ⟨0, by kernel_rfl⟩
instance : FA Go.Proofs.Tryd.prog 7 2 2 4 := ⟨0, by kernel_rfl⟩
instance : FA Go.Proofs.Tryd.prog 7 3 3 6 := ⟨0, by kernel_rfl⟩
instance : BP Go.Proofs.Tryd.prog 7 [(0, 1), (1, 1), (2, 1), (3, 1)] := ⟨by kernel_rfl⟩
instance : AG Go.Proofs.Tryd.prog 8 4 := ⟨by kernel_rfl, by kernel_rfl⟩
instance : TI Go.Proofs.Tryd.prog 8 4 24 (.agg #[(.int .i64 0), (.int .i64 0), (.bool false), (.int .u8 0)]) #[(.int .i64 0), (.int .i64 0), (.bool false), (.int .u8 0)] := ⟨by kernel_rfl, rfl⟩
instance : FA Go.Proofs.Tryd.prog 8 0 0 2 := ⟨0, by kernel_rfl⟩
instance : FA Go.Proofs.Tryd.prog 8 1 1 3 := ⟨0, by kernel_rfl⟩
instance : FA Go.Proofs.Tryd.prog 8 2 2 4 := ⟨0, by kernel_rfl⟩
instance : FA Go.Proofs.Tryd.prog 8 3 3 6 := ⟨0, by kernel_rfl⟩
instance : BP Go.Proofs.Tryd.prog 8 [(0, 1), (1, 1), (2, 1), (3, 1)] := ⟨by kernel_rfl⟩
instance : TD Go.Proofs.Tryd.prog 9 .string := ⟨Go.Proofs.Tryd.underlying9⟩
instance : SC Go.Proofs.Tryd.prog 9 := ⟨by kernel_rfl⟩
instance : TI Go.Proofs.Tryd.prog 9 1 16 (.string ⟨#[]⟩) #[(.string ⟨#[]⟩)] := ⟨by kernel_rfl, rfl⟩
instance : TD Go.Proofs.Tryd.prog 10 .string := ⟨Go.Proofs.Tryd.underlying10⟩
instance : SC Go.Proofs.Tryd.prog 10 := ⟨by kernel_rfl⟩
instance : TI Go.Proofs.Tryd.prog 10 1 16 (.string ⟨#[]⟩) #[(.string ⟨#[]⟩)] := ⟨by kernel_rfl, rfl⟩
instance : TD Go.Proofs.Tryd.prog 11 .string := ⟨Go.Proofs.Tryd.underlying11⟩
instance : SC Go.Proofs.Tryd.prog 11 := ⟨by kernel_rfl⟩
instance : TI Go.Proofs.Tryd.prog 11 1 16 (.string ⟨#[]⟩) #[(.string ⟨#[]⟩)] := ⟨by kernel_rfl, rfl⟩
instance : TD Go.Proofs.Tryd.prog 12 (.int .u64) := ⟨Go.Proofs.Tryd.underlying12⟩
instance : SC Go.Proofs.Tryd.prog 12 := ⟨by kernel_rfl⟩
instance : TI Go.Proofs.Tryd.prog 12 1 8 (.int .u64 0) #[(.int .u64 0)] := ⟨by kernel_rfl, rfl⟩
instance : AG Go.Proofs.Tryd.prog 13 2 := ⟨by kernel_rfl, by kernel_rfl⟩
instance : TI Go.Proofs.Tryd.prog 13 2 24 (.agg #[(.string ⟨#[]⟩), (.int .u64 0)]) #[(.string ⟨#[]⟩), (.int .u64 0)] := ⟨by kernel_rfl, rfl⟩
instance : FA Go.Proofs.Tryd.prog 13 0 0 9 := ⟨0, by kernel_rfl⟩
instance : FA Go.Proofs.Tryd.prog 13 1 1 12 := ⟨0, by kernel_rfl⟩
instance : BP Go.Proofs.Tryd.prog 13 [(0, 1), (1, 1)] := ⟨by kernel_rfl⟩
instance : AG Go.Proofs.Tryd.prog 14 2 := ⟨by kernel_rfl, by kernel_rfl⟩
instance : TI Go.Proofs.Tryd.prog 14 2 24 (.agg #[(.string ⟨#[]⟩), (.int .u64 0)]) #[(.string ⟨#[]⟩), (.int .u64 0)] := ⟨by kernel_rfl, rfl⟩
instance : FA Go.Proofs.Tryd.prog 14 0 0 9 := ⟨0, by kernel_rfl⟩
instance : FA Go.Proofs.Tryd.prog 14 1 1 12 := ⟨0, by kernel_rfl⟩
instance : BP Go.Proofs.Tryd.prog 14 [(0, 1), (1, 1)] := ⟨by kernel_rfl⟩
instance : TD Go.Proofs.Tryd.prog 15 (.pointer 194) := ⟨Go.Proofs.Tryd.underlying15⟩
instance : SC Go.Proofs.Tryd.prog 15 := ⟨by kernel_rfl⟩
instance : TI Go.Proofs.Tryd.prog 15 1 8 (.pointer none) #[(.pointer none)] := ⟨by kernel_rfl, rfl⟩
instance : TD Go.Proofs.Tryd.prog 16 (.pointer 197) := ⟨Go.Proofs.Tryd.underlying16⟩
instance : SC Go.Proofs.Tryd.prog 16 := ⟨by kernel_rfl⟩
instance : TI Go.Proofs.Tryd.prog 16 1 8 (.pointer none) #[(.pointer none)] := ⟨by kernel_rfl, rfl⟩
instance : TD Go.Proofs.Tryd.prog 17 (.pointer 206) := ⟨Go.Proofs.Tryd.underlying17⟩
instance : SC Go.Proofs.Tryd.prog 17 := ⟨by kernel_rfl⟩
instance : TI Go.Proofs.Tryd.prog 17 1 8 (.pointer none) #[(.pointer none)] := ⟨by kernel_rfl, rfl⟩
instance : AG Go.Proofs.Tryd.prog 18 1 := ⟨by kernel_rfl, by kernel_rfl⟩
instance : TI Go.Proofs.Tryd.prog 18 1 8 (.agg #[(.pointer none)]) #[(.pointer none)] := ⟨by kernel_rfl, rfl⟩
instance : FA Go.Proofs.Tryd.prog 18 0 0 17 := ⟨0, by kernel_rfl⟩
instance : BP Go.Proofs.Tryd.prog 18 [(0, 1)] := ⟨by kernel_rfl⟩
instance : AG Go.Proofs.Tryd.prog 19 1 := ⟨by kernel_rfl, by kernel_rfl⟩
instance : TI Go.Proofs.Tryd.prog 19 1 8 (.agg #[(.pointer none)]) #[(.pointer none)] := ⟨by kernel_rfl, rfl⟩
instance : FA Go.Proofs.Tryd.prog 19 0 0 17 := ⟨0, by kernel_rfl⟩
instance : BP Go.Proofs.Tryd.prog 19 [(0, 1)] := ⟨by kernel_rfl⟩
instance : TD Go.Proofs.Tryd.prog 20 (.interface #[]) := ⟨Go.Proofs.Tryd.underlying20⟩
instance : SC Go.Proofs.Tryd.prog 20 := ⟨by kernel_rfl⟩
instance : TI Go.Proofs.Tryd.prog 20 1 16 .nilIface #[.nilIface] := ⟨by kernel_rfl, rfl⟩
instance : TD Go.Proofs.Tryd.prog 21 (.int .i32) := ⟨Go.Proofs.Tryd.underlying21⟩
instance : SC Go.Proofs.Tryd.prog 21 := ⟨by kernel_rfl⟩
instance : TI Go.Proofs.Tryd.prog 21 1 4 (.int .i32 0) #[(.int .i32 0)] := ⟨by kernel_rfl, rfl⟩
instance : TD Go.Proofs.Tryd.prog 22 (.slice 3) := ⟨Go.Proofs.Tryd.underlying22⟩
instance : SC Go.Proofs.Tryd.prog 22 := ⟨by kernel_rfl⟩
instance : TI Go.Proofs.Tryd.prog 22 1 24 (.slice none 0 0) #[(.slice none 0 0)] := ⟨by kernel_rfl, rfl⟩
instance : TD Go.Proofs.Tryd.prog 23 (.slice 44) := ⟨Go.Proofs.Tryd.underlying23⟩
instance : SC Go.Proofs.Tryd.prog 23 := ⟨by kernel_rfl⟩
instance : TI Go.Proofs.Tryd.prog 23 1 24 (.slice none 0 0) #[(.slice none 0 0)] := ⟨by kernel_rfl, rfl⟩
instance : TD Go.Proofs.Tryd.prog 24 (.slice 47) := ⟨Go.Proofs.Tryd.underlying24⟩
instance : SC Go.Proofs.Tryd.prog 24 := ⟨by kernel_rfl⟩
instance : TI Go.Proofs.Tryd.prog 24 1 24 (.slice none 0 0) #[(.slice none 0 0)] := ⟨by kernel_rfl, rfl⟩
instance : AG Go.Proofs.Tryd.prog 25 2 := ⟨by kernel_rfl, by kernel_rfl⟩
instance : TI Go.Proofs.Tryd.prog 25 2 48 (.agg #[(.slice none 0 0), (.slice none 0 0)]) #[(.slice none 0 0), (.slice none 0 0)] := ⟨by kernel_rfl, rfl⟩
instance : FA Go.Proofs.Tryd.prog 25 0 0 23 := ⟨0, by kernel_rfl⟩
instance : FA Go.Proofs.Tryd.prog 25 1 1 24 := ⟨0, by kernel_rfl⟩
instance : BP Go.Proofs.Tryd.prog 25 [(0, 1), (1, 1)] := ⟨by kernel_rfl⟩
instance : AG Go.Proofs.Tryd.prog 26 2 := ⟨by kernel_rfl, by kernel_rfl⟩
instance : TI Go.Proofs.Tryd.prog 26 2 48 (.agg #[(.slice none 0 0), (.slice none 0 0)]) #[(.slice none 0 0), (.slice none 0 0)] := ⟨by kernel_rfl, rfl⟩
instance : FA Go.Proofs.Tryd.prog 26 0 0 23 := ⟨0, by kernel_rfl⟩
instance : FA Go.Proofs.Tryd.prog 26 1 1 24 := ⟨0, by kernel_rfl⟩
instance : BP Go.Proofs.Tryd.prog 26 [(0, 1), (1, 1)] := ⟨by kernel_rfl⟩
instance : TD Go.Proofs.Tryd.prog 28 (.pointer 88) := ⟨Go.Proofs.Tryd.underlying28⟩
instance : SC Go.Proofs.Tryd.prog 28 := ⟨by kernel_rfl⟩
instance : TI Go.Proofs.Tryd.prog 28 1 8 (.pointer none) #[(.pointer none)] := ⟨by kernel_rfl, rfl⟩
instance : TD Go.Proofs.Tryd.prog 32 (.int .i64) := ⟨Go.Proofs.Tryd.underlying32⟩
instance : SC Go.Proofs.Tryd.prog 32 := ⟨by kernel_rfl⟩
instance : TI Go.Proofs.Tryd.prog 32 1 8 (.int .i64 0) #[(.int .i64 0)] := ⟨by kernel_rfl, rfl⟩
instance : AG Go.Proofs.Tryd.prog 41 2 := ⟨by kernel_rfl, by kernel_rfl⟩
instance : TI Go.Proofs.Tryd.prog 41 2 16 (.agg #[(.int .i64 0), (.int .i64 0)]) #[(.int .i64 0), (.int .i64 0)] := ⟨by kernel_rfl, rfl⟩
instance : FA Go.Proofs.Tryd.prog 41 0 0 3 := ⟨0, by kernel_rfl⟩
instance : FA Go.Proofs.Tryd.prog 41 1 1 3 := ⟨0, by kernel_rfl⟩
instance : BP Go.Proofs.Tryd.prog 41 [(0, 1), (1, 1)] := ⟨by kernel_rfl⟩
instance : AG Go.Proofs.Tryd.prog 42 2 := ⟨by kernel_rfl, by kernel_rfl⟩
instance : TI Go.Proofs.Tryd.prog 42 2 16 (.agg #[(.int .i64 0), (.int .i64 0)]) #[(.int .i64 0), (.int .i64 0)] := ⟨by kernel_rfl, rfl⟩
instance : FA Go.Proofs.Tryd.prog 42 0 0 3 := ⟨0, by kernel_rfl⟩
instance : FA Go.Proofs.Tryd.prog 42 1 1 3 := ⟨0, by kernel_rfl⟩
instance : BP Go.Proofs.Tryd.prog 42 [(0, 1), (1, 1)] := ⟨by kernel_rfl⟩
instance : AG Go.Proofs.Tryd.prog 43 4 := ⟨by kernel_rfl, by kernel_rfl⟩
instance : TI Go.Proofs.Tryd.prog 43 4 32 (.agg #[(.int .i64 0), (.int .i64 0), (.int .i64 0), (.int .i64 0)]) #[(.int .i64 0), (.int .i64 0), (.int .i64 0), (.int .i64 0)] := ⟨by kernel_rfl, rfl⟩
instance : FA Go.Proofs.Tryd.prog 43 0 0 3 := ⟨0, by kernel_rfl⟩
instance : FA Go.Proofs.Tryd.prog 43 1 1 42 := ⟨1, by kernel_rfl⟩
instance : FA Go.Proofs.Tryd.prog 43 2 3 3 := ⟨0, by kernel_rfl⟩
instance : BP Go.Proofs.Tryd.prog 43 [(0, 1), (1, 2), (3, 1)] := ⟨by kernel_rfl⟩
instance : AG Go.Proofs.Tryd.prog 44 4 := ⟨by kernel_rfl, by kernel_rfl⟩
instance : TI Go.Proofs.Tryd.prog 44 4 32 (.agg #[(.int .i64 0), (.int .i64 0), (.int .i64 0), (.int .i64 0)]) #[(.int .i64 0), (.int .i64 0), (.int .i64 0), (.int .i64 0)] := ⟨by kernel_rfl, rfl⟩
instance : FA Go.Proofs.Tryd.prog 44 0 0 3 := ⟨0, by kernel_rfl⟩
instance : FA Go.Proofs.Tryd.prog 44 1 1 42 := ⟨1, by kernel_rfl⟩
instance : FA Go.Proofs.Tryd.prog 44 2 3 3 := ⟨0, by kernel_rfl⟩
instance : BP Go.Proofs.Tryd.prog 44 [(0, 1), (1, 2), (3, 1)] := ⟨by kernel_rfl⟩
instance : AG Go.Proofs.Tryd.prog 46 3 := ⟨by kernel_rfl, by kernel_rfl⟩
instance : TI Go.Proofs.Tryd.prog 46 3 24 (.agg #[(.int .i64 0), (.int .i64 0), (.int .i64 0)]) #[(.int .i64 0), (.int .i64 0), (.int .i64 0)] := ⟨by kernel_rfl, rfl⟩
instance : FA Go.Proofs.Tryd.prog 46 0 0 3 := ⟨0, by kernel_rfl⟩
instance : FA Go.Proofs.Tryd.prog 46 1 1 3 := ⟨0, by kernel_rfl⟩
instance : FA Go.Proofs.Tryd.prog 46 2 2 3 := ⟨0, by kernel_rfl⟩
instance : BP Go.Proofs.Tryd.prog 46 [(0, 1), (1, 1), (2, 1)] := ⟨by kernel_rfl⟩
instance : AG Go.Proofs.Tryd.prog 47 3 := ⟨by kernel_rfl, by kernel_rfl⟩
instance : TI Go.Proofs.Tryd.prog 47 3 24 (.agg #[(.int .i64 0), (.int .i64 0), (.int .i64 0)]) #[(.int .i64 0), (.int .i64 0), (.int .i64 0)] := ⟨by kernel_rfl, rfl⟩
instance : FA Go.Proofs.Tryd.prog 47 0 0 3 := ⟨0, by kernel_rfl⟩
instance : FA Go.Proofs.Tryd.prog 47 1 1 3 := ⟨0, by kernel_rfl⟩
instance : FA Go.Proofs.Tryd.prog 47 2 2 3 := ⟨0, by kernel_rfl⟩
instance : BP Go.Proofs.Tryd.prog 47 [(0, 1), (1, 1), (2, 1)] := ⟨by kernel_rfl⟩
instance : TD Go.Proofs.Tryd.prog 50 (.slice 26) := ⟨Go.Proofs.Tryd.underlying50⟩
instance : SC Go.Proofs.Tryd.prog 50 := ⟨by kernel_rfl⟩
instance : TI Go.Proofs.Tryd.prog 50 1 24 (.slice none 0 0) #[(.slice none 0 0)] := ⟨by kernel_rfl, rfl⟩
instance : TD Go.Proofs.Tryd.prog 51 (.slice 62) := ⟨Go.Proofs.Tryd.underlying51⟩
instance : SC Go.Proofs.Tryd.prog 51 := ⟨by kernel_rfl⟩
instance : TI Go.Proofs.Tryd.prog 51 1 24 (.slice none 0 0) #[(.slice none 0 0)] := ⟨by kernel_rfl, rfl⟩
instance : TD Go.Proofs.Tryd.prog 56 (.slice 51) := ⟨Go.Proofs.Tryd.underlying56⟩
instance : SC Go.Proofs.Tryd.prog 56 := ⟨by kernel_rfl⟩
instance : TI Go.Proofs.Tryd.prog 56 1 24 (.slice none 0 0) #[(.slice none 0 0)] := ⟨by kernel_rfl, rfl⟩
instance : AG Go.Proofs.Tryd.prog 61 2 := ⟨by kernel_rfl, by kernel_rfl⟩
instance : TI Go.Proofs.Tryd.prog 61 2 16 (.agg #[(.int .i64 0), (.int .i64 0)]) #[(.int .i64 0), (.int .i64 0)] := ⟨by kernel_rfl, rfl⟩
instance : FA Go.Proofs.Tryd.prog 61 0 0 3 := ⟨0, by kernel_rfl⟩
instance : FA Go.Proofs.Tryd.prog 61 1 1 3 := ⟨0, by kernel_rfl⟩
instance : BP Go.Proofs.Tryd.prog 61 [(0, 1), (1, 1)] := ⟨by kernel_rfl⟩
instance : AG Go.Proofs.Tryd.prog 62 2 := ⟨by kernel_rfl, by kernel_rfl⟩
instance : TI Go.Proofs.Tryd.prog 62 2 16 (.agg #[(.int .i64 0), (.int .i64 0)]) #[(.int .i64 0), (.int .i64 0)] := ⟨by kernel_rfl, rfl⟩
instance : FA Go.Proofs.Tryd.prog 62 0 0 3 := ⟨0, by kernel_rfl⟩
instance : FA Go.Proofs.Tryd.prog 62 1 1 3 := ⟨0, by kernel_rfl⟩
instance : BP Go.Proofs.Tryd.prog 62 [(0, 1), (1, 1)] := ⟨by kernel_rfl⟩
instance : TD Go.Proofs.Tryd.prog 68 (.slice 22) := ⟨Go.Proofs.Tryd.underlying68⟩
instance : SC Go.Proofs.Tryd.prog 68 := ⟨by kernel_rfl⟩
instance : TI Go.Proofs.Tryd.prog 68 1 24 (.slice none 0 0) #[(.slice none 0 0)] := ⟨by kernel_rfl, rfl⟩
instance : TD Go.Proofs.Tryd.prog 86 (.int .u64) := ⟨Go.Proofs.Tryd.underlying86⟩
instance : SC Go.Proofs.Tryd.prog 86 := ⟨by kernel_rfl⟩
instance : TI Go.Proofs.Tryd.prog 86 1 8 (.int .u64 0) #[(.int .u64 0)] := ⟨by kernel_rfl, rfl⟩
instance : AG Go.Proofs.Tryd.prog 87 3 := ⟨by kernel_rfl, by kernel_rfl⟩
instance : TI Go.Proofs.Tryd.prog 87 3 40 (.agg #[(.slice none 0 0), (.int .i64 0), (.int .u64 0)]) #[(.slice none 0 0), (.int .i64 0), (.int .u64 0)] := ⟨by kernel_rfl, rfl⟩
instance : FA Go.Proofs.Tryd.prog 87 0 0 22 := ⟨0, by kernel_rfl⟩
instance : FA Go.Proofs.Tryd.prog 87 1 1 3 := ⟨0, by kernel_rfl⟩
instance : FA Go.Proofs.Tryd.prog 87 2 2 86 := ⟨0, by kernel_rfl⟩
instance : BP Go.Proofs.Tryd.prog 87 [(0, 1), (1, 1), (2, 1)] := ⟨by kernel_rfl⟩
instance : AG Go.Proofs.Tryd.prog 88 3 := ⟨by kernel_rfl, by kernel_rfl⟩
instance : TI Go.Proofs.Tryd.prog 88 3 40 (.agg #[(.slice none 0 0), (.int .i64 0), (.int .u64 0)]) #[(.slice none 0 0), (.int .i64 0), (.int .u64 0)] := ⟨by kernel_rfl, rfl⟩
instance : FA Go.Proofs.Tryd.prog 88 0 0 22 := ⟨0, by kernel_rfl⟩
instance : FA Go.Proofs.Tryd.prog 88 1 1 3 := ⟨0, by kernel_rfl⟩
instance : FA Go.Proofs.Tryd.prog 88 2 2 86 := ⟨0, by kernel_rfl⟩
instance : BP Go.Proofs.Tryd.prog 88 [(0, 1), (1, 1), (2, 1)] := ⟨by kernel_rfl⟩
instance : AG Go.Proofs.Tryd.prog 89 2 := ⟨by kernel_rfl, by kernel_rfl⟩
instance : TI Go.Proofs.Tryd.prog 89 2 48 (.agg #[(.slice none 0 0), (.slice none 0 0)]) #[(.slice none 0 0), (.slice none 0 0)] := ⟨by kernel_rfl, rfl⟩
instance : FA Go.Proofs.Tryd.prog 89 0 0 26 := ⟨1, by kernel_rfl⟩
instance : BP Go.Proofs.Tryd.prog 89 [(0, 2)] := ⟨by kernel_rfl⟩
instance : AG Go.Proofs.Tryd.prog 90 2 := ⟨by kernel_rfl, by kernel_rfl⟩
instance : TI Go.Proofs.Tryd.prog 90 2 48 (.agg #[(.slice none 0 0), (.slice none 0 0)]) #[(.slice none 0 0), (.slice none 0 0)] := ⟨by kernel_rfl, rfl⟩
instance : FA Go.Proofs.Tryd.prog 90 0 0 26 := ⟨1, by kernel_rfl⟩
instance : BP Go.Proofs.Tryd.prog 90 [(0, 2)] := ⟨by kernel_rfl⟩
instance : AG Go.Proofs.Tryd.prog 92 3 := ⟨by kernel_rfl, by kernel_rfl⟩
instance : TI Go.Proofs.Tryd.prog 92 3 56 (.agg #[(.slice none 0 0), (.slice none 0 0), .nilFunc]) #[(.slice none 0 0), (.slice none 0 0), .nilFunc] := ⟨by kernel_rfl, rfl⟩
instance : FA Go.Proofs.Tryd.prog 92 0 0 90 := ⟨1, by kernel_rfl⟩
instance : FA Go.Proofs.Tryd.prog 92 1 2 91 := ⟨0, by kernel_rfl⟩
instance : BP Go.Proofs.Tryd.prog 92 [(0, 2), (2, 1)] := ⟨by kernel_rfl⟩
instance : AG Go.Proofs.Tryd.prog 93 3 := ⟨by kernel_rfl, by kernel_rfl⟩
instance : TI Go.Proofs.Tryd.prog 93 3 56 (.agg #[(.slice none 0 0), (.slice none 0 0), .nilFunc]) #[(.slice none 0 0), (.slice none 0 0), .nilFunc] := ⟨by kernel_rfl, rfl⟩
instance : FA Go.Proofs.Tryd.prog 93 0 0 90 := ⟨1, by kernel_rfl⟩
instance : FA Go.Proofs.Tryd.prog 93 1 2 91 := ⟨0, by kernel_rfl⟩
instance : BP Go.Proofs.Tryd.prog 93 [(0, 2), (2, 1)] := ⟨by kernel_rfl⟩
instance : TD Go.Proofs.Tryd.prog 104 (.pointer 44) := ⟨Go.Proofs.Tryd.underlying104⟩
instance : SC Go.Proofs.Tryd.prog 104 := ⟨by kernel_rfl⟩
instance : TI Go.Proofs.Tryd.prog 104 1 8 (.pointer none) #[(.pointer none)] := ⟨by kernel_rfl, rfl⟩
instance : TD Go.Proofs.Tryd.prog 106 (.slice 114) := ⟨Go.Proofs.Tryd.underlying106⟩
instance : SC Go.Proofs.Tryd.prog 106 := ⟨by kernel_rfl⟩
instance : TI Go.Proofs.Tryd.prog 106 1 24 (.slice none 0 0) #[(.slice none 0 0)] := ⟨by kernel_rfl, rfl⟩
instance : AG Go.Proofs.Tryd.prog 107 2 := ⟨by kernel_rfl, by kernel_rfl⟩
instance : TI Go.Proofs.Tryd.prog 107 2 32 (.agg #[(.int .i64 0), (.slice none 0 0)]) #[(.int .i64 0), (.slice none 0 0)] := ⟨by kernel_rfl, rfl⟩
instance : FA Go.Proofs.Tryd.prog 107 0 0 3 := ⟨0, by kernel_rfl⟩
instance : FA Go.Proofs.Tryd.prog 107 1 1 106 := ⟨0, by kernel_rfl⟩
instance : BP Go.Proofs.Tryd.prog 107 [(0, 1), (1, 1)] := ⟨by kernel_rfl⟩
instance : AG Go.Proofs.Tryd.prog 108 2 := ⟨by kernel_rfl, by kernel_rfl⟩
instance : TI Go.Proofs.Tryd.prog 108 2 32 (.agg #[(.int .i64 0), (.slice none 0 0)]) #[(.int .i64 0), (.slice none 0 0)] := ⟨by kernel_rfl, rfl⟩
instance : FA Go.Proofs.Tryd.prog 108 0 0 3 := ⟨0, by kernel_rfl⟩
instance : FA Go.Proofs.Tryd.prog 108 1 1 106 := ⟨0, by kernel_rfl⟩
instance : BP Go.Proofs.Tryd.prog 108 [(0, 1), (1, 1)] := ⟨by kernel_rfl⟩
instance : TD Go.Proofs.Tryd.prog 113 (.array 4 62) := ⟨Go.Proofs.Tryd.underlying113⟩
instance : AG Go.Proofs.Tryd.prog 113 8 := ⟨by kernel_rfl, by kernel_rfl⟩
instance : TI Go.Proofs.Tryd.prog 113 8 64 (.agg #[(.int .i64 0), (.int .i64 0), (.int .i64 0), (.int .i64 0), (.int .i64 0), (.int .i64 0), (.int .i64 0), (.int .i64 0)]) #[(.int .i64 0), (.int .i64 0), (.int .i64 0), (.int .i64 0), (.int .i64 0), (.int .i64 0), (.int .i64 0), (.int .i64 0)] := ⟨by kernel_rfl, rfl⟩
instance : TD Go.Proofs.Tryd.prog 114 (.array 4 62) := ⟨Go.Proofs.Tryd.underlying114⟩
instance : AG Go.Proofs.Tryd.prog 114 8 := ⟨by kernel_rfl, by kernel_rfl⟩
instance : TI Go.Proofs.Tryd.prog 114 8 64 (.agg #[(.int .i64 0), (.int .i64 0), (.int .i64 0), (.int .i64 0), (.int .i64 0), (.int .i64 0), (.int .i64 0), (.int .i64 0)]) #[(.int .i64 0), (.int .i64 0), (.int .i64 0), (.int .i64 0), (.int .i64 0), (.int .i64 0), (.int .i64 0), (.int .i64 0)] := ⟨by kernel_rfl, rfl⟩
instance : TD Go.Proofs.Tryd.prog 117 (.interface #[("muscovado/floor.day", 126)]) := ⟨Go.Proofs.Tryd.underlying117⟩
instance : SC Go.Proofs.Tryd.prog 117 := ⟨by kernel_rfl⟩
instance : TI Go.Proofs.Tryd.prog 117 1 16 .nilIface #[.nilIface] := ⟨by kernel_rfl, rfl⟩
instance : TD Go.Proofs.Tryd.prog 118 (.interface #[("muscovado/floor.day", 126)]) := ⟨Go.Proofs.Tryd.underlying118⟩
instance : SC Go.Proofs.Tryd.prog 118 := ⟨by kernel_rfl⟩
instance : TI Go.Proofs.Tryd.prog 118 1 16 .nilIface #[.nilIface] := ⟨by kernel_rfl, rfl⟩
instance : AG Go.Proofs.Tryd.prog 119 2 := ⟨by kernel_rfl, by kernel_rfl⟩
instance : TI Go.Proofs.Tryd.prog 119 2 24 (.agg #[.nilIface, (.int .i64 0)]) #[.nilIface, (.int .i64 0)] := ⟨by kernel_rfl, rfl⟩
instance : FA Go.Proofs.Tryd.prog 119 0 0 118 := ⟨0, by kernel_rfl⟩
instance : FA Go.Proofs.Tryd.prog 119 1 1 3 := ⟨0, by kernel_rfl⟩
instance : BP Go.Proofs.Tryd.prog 119 [(0, 1), (1, 1)] := ⟨by kernel_rfl⟩
instance : AG Go.Proofs.Tryd.prog 120 2 := ⟨by kernel_rfl, by kernel_rfl⟩
instance : TI Go.Proofs.Tryd.prog 120 2 24 (.agg #[.nilIface, (.int .i64 0)]) #[.nilIface, (.int .i64 0)] := ⟨by kernel_rfl, rfl⟩
instance : FA Go.Proofs.Tryd.prog 120 0 0 118 := ⟨0, by kernel_rfl⟩
instance : FA Go.Proofs.Tryd.prog 120 1 1 3 := ⟨0, by kernel_rfl⟩
instance : BP Go.Proofs.Tryd.prog 120 [(0, 1), (1, 1)] := ⟨by kernel_rfl⟩
instance : TD Go.Proofs.Tryd.prog 122 (.interface #[("Error", 192)]) := ⟨Go.Proofs.Tryd.underlying122⟩
instance : SC Go.Proofs.Tryd.prog 122 := ⟨by kernel_rfl⟩
instance : TI Go.Proofs.Tryd.prog 122 1 16 .nilIface #[.nilIface] := ⟨by kernel_rfl, rfl⟩
instance : TD Go.Proofs.Tryd.prog 123 (.interface #[("Error", 192)]) := ⟨Go.Proofs.Tryd.underlying123⟩
instance : SC Go.Proofs.Tryd.prog 123 := ⟨by kernel_rfl⟩
instance : TI Go.Proofs.Tryd.prog 123 1 16 .nilIface #[.nilIface] := ⟨by kernel_rfl, rfl⟩
instance : TD Go.Proofs.Tryd.prog 125 (.pointer 120) := ⟨Go.Proofs.Tryd.underlying125⟩
instance : SC Go.Proofs.Tryd.prog 125 := ⟨by kernel_rfl⟩
instance : TI Go.Proofs.Tryd.prog 125 1 8 (.pointer none) #[(.pointer none)] := ⟨by kernel_rfl, rfl⟩
instance : TD Go.Proofs.Tryd.prog 128 (.array 22 42) := ⟨Go.Proofs.Tryd.underlying128⟩
instance : AG Go.Proofs.Tryd.prog 128 44 := ⟨by kernel_rfl, by kernel_rfl⟩
instance : TI Go.Proofs.Tryd.prog 128 44 352 (.agg #[(.int .i64 0), (.int .i64 0), (.int .i64 0), (.int .i64 0), (.int .i64 0), (.int .i64 0), (.int .i64 0), (.int .i64 0), (.int .i64 0), (.int .i64 0), (.int .i64 0), (.int .i64 0), (.int .i64 0), (.int .i64 0), (.int .i64 0), (.int .i64 0), (.int .i64 0), (.int .i64 0), (.int .i64 0), (.int .i64 0), (.int .i64 0), (.int .i64 0), (.int .i64 0), (.int .i64 0), (.int .i64 0), (.int .i64 0), (.int .i64 0), (.int .i64 0), (.int .i64 0), (.int .i64 0), (.int .i64 0), (.int .i64 0), (.int .i64 0), (.int .i64 0), (.int .i64 0), (.int .i64 0), (.int .i64 0), (.int .i64 0), (.int .i64 0), (.int .i64 0), (.int .i64 0), (.int .i64 0), (.int .i64 0), (.int .i64 0)]) #[(.int .i64 0), (.int .i64 0), (.int .i64 0), (.int .i64 0), (.int .i64 0), (.int .i64 0), (.int .i64 0), (.int .i64 0), (.int .i64 0), (.int .i64 0), (.int .i64 0), (.int .i64 0), (.int .i64 0), (.int .i64 0), (.int .i64 0), (.int .i64 0), (.int .i64 0), (.int .i64 0), (.int .i64 0), (.int .i64 0), (.int .i64 0), (.int .i64 0), (.int .i64 0), (.int .i64 0), (.int .i64 0), (.int .i64 0), (.int .i64 0), (.int .i64 0), (.int .i64 0), (.int .i64 0), (.int .i64 0), (.int .i64 0), (.int .i64 0), (.int .i64 0), (.int .i64 0), (.int .i64 0), (.int .i64 0), (.int .i64 0), (.int .i64 0), (.int .i64 0), (.int .i64 0), (.int .i64 0), (.int .i64 0), (.int .i64 0)] := ⟨by kernel_rfl, rfl⟩
instance : TD Go.Proofs.Tryd.prog 129 (.array 22 42) := ⟨Go.Proofs.Tryd.underlying129⟩
instance : AG Go.Proofs.Tryd.prog 129 44 := ⟨by kernel_rfl, by kernel_rfl⟩
instance : TI Go.Proofs.Tryd.prog 129 44 352 (.agg #[(.int .i64 0), (.int .i64 0), (.int .i64 0), (.int .i64 0), (.int .i64 0), (.int .i64 0), (.int .i64 0), (.int .i64 0), (.int .i64 0), (.int .i64 0), (.int .i64 0), (.int .i64 0), (.int .i64 0), (.int .i64 0), (.int .i64 0), (.int .i64 0), (.int .i64 0), (.int .i64 0), (.int .i64 0), (.int .i64 0), (.int .i64 0), (.int .i64 0), (.int .i64 0), (.int .i64 0), (.int .i64 0), (.int .i64 0), (.int .i64 0), (.int .i64 0), (.int .i64 0), (.int .i64 0), (.int .i64 0), (.int .i64 0), (.int .i64 0), (.int .i64 0), (.int .i64 0), (.int .i64 0), (.int .i64 0), (.int .i64 0), (.int .i64 0), (.int .i64 0), (.int .i64 0), (.int .i64 0), (.int .i64 0), (.int .i64 0)]) #[(.int .i64 0), (.int .i64 0), (.int .i64 0), (.int .i64 0), (.int .i64 0), (.int .i64 0), (.int .i64 0), (.int .i64 0), (.int .i64 0), (.int .i64 0), (.int .i64 0), (.int .i64 0), (.int .i64 0), (.int .i64 0), (.int .i64 0), (.int .i64 0), (.int .i64 0), (.int .i64 0), (.int .i64 0), (.int .i64 0), (.int .i64 0), (.int .i64 0), (.int .i64 0), (.int .i64 0), (.int .i64 0), (.int .i64 0), (.int .i64 0), (.int .i64 0), (.int .i64 0), (.int .i64 0), (.int .i64 0), (.int .i64 0), (.int .i64 0), (.int .i64 0), (.int .i64 0), (.int .i64 0), (.int .i64 0), (.int .i64 0), (.int .i64 0), (.int .i64 0), (.int .i64 0), (.int .i64 0), (.int .i64 0), (.int .i64 0)] := ⟨by kernel_rfl, rfl⟩
instance : TD Go.Proofs.Tryd.prog 140 (.pointer 114) := ⟨Go.Proofs.Tryd.underlying140⟩
instance : SC Go.Proofs.Tryd.prog 140 := ⟨by kernel_rfl⟩
instance : TI Go.Proofs.Tryd.prog 140 1 8 (.pointer none) #[(.pointer none)] := ⟨by kernel_rfl, rfl⟩
instance : TD Go.Proofs.Tryd.prog 142 (.int .u64) := ⟨Go.Proofs.Tryd.underlying142⟩
instance : SC Go.Proofs.Tryd.prog 142 := ⟨by kernel_rfl⟩
instance : TI Go.Proofs.Tryd.prog 142 1 8 (.int .u64 0) #[(.int .u64 0)] := ⟨by kernel_rfl, rfl⟩
instance : TD Go.Proofs.Tryd.prog 145 (.map 114 4) := ⟨Go.Proofs.Tryd.underlying145⟩
instance : SC Go.Proofs.Tryd.prog 145 := ⟨by kernel_rfl⟩
instance : TI Go.Proofs.Tryd.prog 145 1 8 (.map none) #[(.map none)] := ⟨by kernel_rfl, rfl⟩
instance : SC Go.Proofs.Tryd.prog 148 := ⟨by kernel_rfl⟩
instance : TI Go.Proofs.Tryd.prog 148 1 8 (.pointer none) #[(.pointer none)] := ⟨by kernel_rfl, rfl⟩
instance : TD Go.Proofs.Tryd.prog 149 (.int .u64) := ⟨Go.Proofs.Tryd.underlying149⟩
instance : SC Go.Proofs.Tryd.prog 149 := ⟨by kernel_rfl⟩
instance : TI Go.Proofs.Tryd.prog 149 1 8 (.int .u64 0) #[(.int .u64 0)] := ⟨by kernel_rfl, rfl⟩
instance : AG Go.Proofs.Tryd.prog 150 3 := ⟨by kernel_rfl, by kernel_rfl⟩
instance : TI Go.Proofs.Tryd.prog 150 3 24 (.agg #[(.pointer none), (.pointer none), (.int .u64 0)]) #[(.pointer none), (.pointer none), (.int .u64 0)] := ⟨by kernel_rfl, rfl⟩
instance : FA Go.Proofs.Tryd.prog 150 0 0 17 := ⟨0, by kernel_rfl⟩
instance : FA Go.Proofs.Tryd.prog 150 1 1 148 := ⟨0, by kernel_rfl⟩
instance : FA Go.Proofs.Tryd.prog 150 2 2 149 := ⟨0, by kernel_rfl⟩
instance : BP Go.Proofs.Tryd.prog 150 [(0, 1), (1, 1), (2, 1)] := ⟨by kernel_rfl⟩
instance : AG Go.Proofs.Tryd.prog 151 3 := ⟨by kernel_rfl, by kernel_rfl⟩
instance : TI Go.Proofs.Tryd.prog 151 3 24 (.agg #[(.pointer none), (.pointer none), (.int .u64 0)]) #[(.pointer none), (.pointer none), (.int .u64 0)] := ⟨by kernel_rfl, rfl⟩
instance : FA Go.Proofs.Tryd.prog 151 0 0 17 := ⟨0, by kernel_rfl⟩
instance : FA Go.Proofs.Tryd.prog 151 1 1 148 := ⟨0, by kernel_rfl⟩
instance : FA Go.Proofs.Tryd.prog 151 2 2 149 := ⟨0, by kernel_rfl⟩
instance : BP Go.Proofs.Tryd.prog 151 [(0, 1), (1, 1), (2, 1)] := ⟨by kernel_rfl⟩
instance : TD Go.Proofs.Tryd.prog 153 (.interface #[("AssignableTo", 158), ("Comparable", 30), ("Elem", 155), ("Implements", 158), ("Kind", 157), ("Name", 192), ("PkgPath", 192), ("Size", 207), ("String", 192), ("internal/reflectlite.common", 198), ("internal/reflectlite.uncommon", 208)]) := ⟨Go.Proofs.Tryd.underlying153⟩
instance : SC Go.Proofs.Tryd.prog 153 := ⟨by kernel_rfl⟩
instance : TI Go.Proofs.Tryd.prog 153 1 16 .nilIface #[.nilIface] := ⟨by kernel_rfl, rfl⟩
instance : TD Go.Proofs.Tryd.prog 154 (.interface #[("AssignableTo", 158), ("Comparable", 30), ("Elem", 155), ("Implements", 158), ("Kind", 157), ("Name", 192), ("PkgPath", 192), ("Size", 207), ("String", 192), ("internal/reflectlite.common", 198), ("internal/reflectlite.uncommon", 208)]) := ⟨Go.Proofs.Tryd.underlying154⟩
instance : SC Go.Proofs.Tryd.prog 154 := ⟨by kernel_rfl⟩
instance : TI Go.Proofs.Tryd.prog 154 1 16 .nilIface #[.nilIface] := ⟨by kernel_rfl, rfl⟩
instance : TD Go.Proofs.Tryd.prog 156 (.int .u8) := ⟨Go.Proofs.Tryd.underlying156⟩
instance : SC Go.Proofs.Tryd.prog 156 := ⟨by kernel_rfl⟩
instance : TI Go.Proofs.Tryd.prog 156 1 1 (.int .u8 0) #[(.int .u8 0)] := ⟨by kernel_rfl, rfl⟩
instance : TD Go.Proofs.Tryd.prog 165 (.pointer 108) := ⟨Go.Proofs.Tryd.underlying165⟩
instance : SC Go.Proofs.Tryd.prog 165 := ⟨by kernel_rfl⟩
instance : TI Go.Proofs.Tryd.prog 165 1 8 (.pointer none) #[(.pointer none)] := ⟨by kernel_rfl, rfl⟩
instance : TD Go.Proofs.Tryd.prog 167 (.slice 168) := ⟨Go.Proofs.Tryd.underlying167⟩
instance : SC Go.Proofs.Tryd.prog 167 := ⟨by kernel_rfl⟩
instance : TI Go.Proofs.Tryd.prog 167 1 24 (.slice none 0 0) #[(.slice none 0 0)] := ⟨by kernel_rfl, rfl⟩
instance : TD Go.Proofs.Tryd.prog 168 (.chan .both 114) := ⟨Go.Proofs.Tryd.underlying168⟩
instance : SC Go.Proofs.Tryd.prog 168 := ⟨by kernel_rfl⟩
instance : TI Go.Proofs.Tryd.prog 168 1 8 (.chan none) #[(.chan none)] := ⟨by kernel_rfl, rfl⟩
instance : AG Go.Proofs.Tryd.prog 170 1 := ⟨by kernel_rfl, by kernel_rfl⟩
instance : TI Go.Proofs.Tryd.prog 170 1 8 (.agg #[(.pointer none)]) #[(.pointer none)] := ⟨by kernel_rfl, rfl⟩
instance : FA Go.Proofs.Tryd.prog 170 0 0 17 := ⟨0, by kernel_rfl⟩
instance : BP Go.Proofs.Tryd.prog 170 [(0, 1)] := ⟨by kernel_rfl⟩
instance : AG Go.Proofs.Tryd.prog 171 1 := ⟨by kernel_rfl, by kernel_rfl⟩
instance : TI Go.Proofs.Tryd.prog 171 1 8 (.agg #[(.pointer none)]) #[(.pointer none)] := ⟨by kernel_rfl, rfl⟩
instance : FA Go.Proofs.Tryd.prog 171 0 0 17 := ⟨0, by kernel_rfl⟩
instance : BP Go.Proofs.Tryd.prog 171 [(0, 1)] := ⟨by kernel_rfl⟩
instance : TD Go.Proofs.Tryd.prog 172 (.pointer 210) := ⟨Go.Proofs.Tryd.underlying172⟩
instance : SC Go.Proofs.Tryd.prog 172 := ⟨by kernel_rfl⟩
instance : TI Go.Proofs.Tryd.prog 172 1 8 (.pointer none) #[(.pointer none)] := ⟨by kernel_rfl, rfl⟩
instance : TD Go.Proofs.Tryd.prog 176 (.interface #[("As", 178)]) := ⟨Go.Proofs.Tryd.underlying176⟩
instance : SC Go.Proofs.Tryd.prog 176 := ⟨by kernel_rfl⟩
instance : TI Go.Proofs.Tryd.prog 176 1 16 .nilIface #[.nilIface] := ⟨by kernel_rfl, rfl⟩
instance : TD Go.Proofs.Tryd.prog 179 (.interface #[("Unwrap", 180)]) := ⟨Go.Proofs.Tryd.underlying179⟩
instance : SC Go.Proofs.Tryd.prog 179 := ⟨by kernel_rfl⟩
instance : TI Go.Proofs.Tryd.prog 179 1 16 .nilIface #[.nilIface] := ⟨by kernel_rfl, rfl⟩
instance : TD Go.Proofs.Tryd.prog 181 (.interface #[("Unwrap", 183)]) := ⟨Go.Proofs.Tryd.underlying181⟩
instance : SC Go.Proofs.Tryd.prog 181 := ⟨by kernel_rfl⟩
instance : TI Go.Proofs.Tryd.prog 181 1 16 .nilIface #[.nilIface] := ⟨by kernel_rfl, rfl⟩
instance : TD Go.Proofs.Tryd.prog 182 (.slice 123) := ⟨Go.Proofs.Tryd.underlying182⟩
instance : SC Go.Proofs.Tryd.prog 182 := ⟨by kernel_rfl⟩
instance : TI Go.Proofs.Tryd.prog 182 1 24 (.slice none 0 0) #[(.slice none 0 0)] := ⟨by kernel_rfl, rfl⟩
instance : AG Go.Proofs.Tryd.prog 184 1 := ⟨by kernel_rfl, by kernel_rfl⟩
instance : TI Go.Proofs.Tryd.prog 184 1 8 (.agg #[(.int .i64 0)]) #[(.int .i64 0)] := ⟨by kernel_rfl, rfl⟩
instance : FA Go.Proofs.Tryd.prog 184 0 0 3 := ⟨0, by kernel_rfl⟩
instance : BP Go.Proofs.Tryd.prog 184 [(0, 1)] := ⟨by kernel_rfl⟩
instance : AG Go.Proofs.Tryd.prog 185 1 := ⟨by kernel_rfl, by kernel_rfl⟩
instance : TI Go.Proofs.Tryd.prog 185 1 8 (.agg #[(.int .i64 0)]) #[(.int .i64 0)] := ⟨by kernel_rfl, rfl⟩
instance : FA Go.Proofs.Tryd.prog 185 0 0 3 := ⟨0, by kernel_rfl⟩
instance : BP Go.Proofs.Tryd.prog 185 [(0, 1)] := ⟨by kernel_rfl⟩
instance : AG Go.Proofs.Tryd.prog 186 1 := ⟨by kernel_rfl, by kernel_rfl⟩
instance : TI Go.Proofs.Tryd.prog 186 1 8 (.agg #[(.int .i64 0)]) #[(.int .i64 0)] := ⟨by kernel_rfl, rfl⟩
instance : FA Go.Proofs.Tryd.prog 186 0 0 3 := ⟨0, by kernel_rfl⟩
instance : BP Go.Proofs.Tryd.prog 186 [(0, 1)] := ⟨by kernel_rfl⟩
instance : AG Go.Proofs.Tryd.prog 193 4 := ⟨by kernel_rfl, by kernel_rfl⟩
instance : TI Go.Proofs.Tryd.prog 193 4 40 (.agg #[(.pointer none), (.pointer none), (.pointer none), (.string ⟨#[]⟩)]) #[(.pointer none), (.pointer none), (.pointer none), (.string ⟨#[]⟩)] := ⟨by kernel_rfl, rfl⟩
instance : FA Go.Proofs.Tryd.prog 193 0 0 17 := ⟨0, by kernel_rfl⟩
instance : FA Go.Proofs.Tryd.prog 193 1 1 17 := ⟨0, by kernel_rfl⟩
instance : FA Go.Proofs.Tryd.prog 193 2 2 17 := ⟨0, by kernel_rfl⟩
instance : FA Go.Proofs.Tryd.prog 193 3 3 9 := ⟨0, by kernel_rfl⟩
instance : BP Go.Proofs.Tryd.prog 193 [(0, 1), (1, 1), (2, 1), (3, 1)] := ⟨by kernel_rfl⟩
instance : AG Go.Proofs.Tryd.prog 194 4 := ⟨by kernel_rfl, by kernel_rfl⟩
instance : TI Go.Proofs.Tryd.prog 194 4 40 (.agg #[(.pointer none), (.pointer none), (.pointer none), (.string ⟨#[]⟩)]) #[(.pointer none), (.pointer none), (.pointer none), (.string ⟨#[]⟩)] := ⟨by kernel_rfl, rfl⟩
instance : FA Go.Proofs.Tryd.prog 194 0 0 17 := ⟨0, by kernel_rfl⟩
instance : FA Go.Proofs.Tryd.prog 194 1 1 17 := ⟨0, by kernel_rfl⟩
instance : FA Go.Proofs.Tryd.prog 194 2 2 17 := ⟨0, by kernel_rfl⟩
instance : FA Go.Proofs.Tryd.prog 194 3 3 9 := ⟨0, by kernel_rfl⟩
instance : BP Go.Proofs.Tryd.prog 194 [(0, 1), (1, 1), (2, 1), (3, 1)] := ⟨by kernel_rfl⟩
instance : TD Go.Proofs.Tryd.prog 195 (.array 0 16) := ⟨Go.Proofs.Tryd.underlying195⟩
instance : AG Go.Proofs.Tryd.prog 195 0 := ⟨by kernel_rfl, by kernel_rfl⟩
instance : TI Go.Proofs.Tryd.prog 195 0 0 (.agg #[]) #[] := ⟨by kernel_rfl, rfl⟩
instance : AG Go.Proofs.Tryd.prog 196 0 := ⟨by kernel_rfl, by kernel_rfl⟩
instance : TI Go.Proofs.Tryd.prog 196 0 0 (.agg #[]) #[] := ⟨by kernel_rfl, rfl⟩
instance : BP Go.Proofs.Tryd.prog 196 [(0, 0)] := ⟨by kernel_rfl⟩
instance : AG Go.Proofs.Tryd.prog 197 0 := ⟨by kernel_rfl, by kernel_rfl⟩
instance : TI Go.Proofs.Tryd.prog 197 0 0 (.agg #[]) #[] := ⟨by kernel_rfl, rfl⟩
instance : BP Go.Proofs.Tryd.prog 197 [(0, 0)] := ⟨by kernel_rfl⟩
instance : TD Go.Proofs.Tryd.prog 199 (.int .u32) := ⟨Go.Proofs.Tryd.underlying199⟩
instance : SC Go.Proofs.Tryd.prog 199 := ⟨by kernel_rfl⟩
instance : TI Go.Proofs.Tryd.prog 199 1 4 (.int .u32 0) #[(.int .u32 0)] := ⟨by kernel_rfl, rfl⟩
instance : TD Go.Proofs.Tryd.prog 200 (.int .u8) := ⟨Go.Proofs.Tryd.underlying200⟩
instance : SC Go.Proofs.Tryd.prog 200 := ⟨by kernel_rfl⟩
instance : TI Go.Proofs.Tryd.prog 200 1 1 (.int .u8 0) #[(.int .u8 0)] := ⟨by kernel_rfl, rfl⟩
instance : TD Go.Proofs.Tryd.prog 202 (.pointer 5) := ⟨Go.Proofs.Tryd.underlying202⟩
instance : SC Go.Proofs.Tryd.prog 202 := ⟨by kernel_rfl⟩
instance : TI Go.Proofs.Tryd.prog 202 1 8 (.pointer none) #[(.pointer none)] := ⟨by kernel_rfl, rfl⟩
instance : TD Go.Proofs.Tryd.prog 203 (.int .i32) := ⟨Go.Proofs.Tryd.underlying203⟩
instance : SC Go.Proofs.Tryd.prog 203 := ⟨by kernel_rfl⟩
instance : TI Go.Proofs.Tryd.prog 203 1 4 (.int .i32 0) #[(.int .i32 0)] := ⟨by kernel_rfl, rfl⟩
instance : TD Go.Proofs.Tryd.prog 204 (.int .i32) := ⟨Go.Proofs.Tryd.underlying204⟩
instance : SC Go.Proofs.Tryd.prog 204 := ⟨by kernel_rfl⟩
instance : TI Go.Proofs.Tryd.prog 204 1 4 (.int .i32 0) #[(.int .i32 0)] := ⟨by kernel_rfl, rfl⟩
instance : AG Go.Proofs.Tryd.prog 205 11 := ⟨by kernel_rfl, by kernel_rfl⟩
instance : TI Go.Proofs.Tryd.prog 205 11 48 (.agg #[(.int .u64 0), (.int .u64 0), (.int .u32 0), (.int .u8 0), (.int .u8 0), (.int .u8 0), (.int .u8 0), .nilFunc, (.pointer none), (.int .i32 0), (.int .i32 0)]) #[(.int .u64 0), (.int .u64 0), (.int .u32 0), (.int .u8 0), (.int .u8 0), (.int .u8 0), (.int .u8 0), .nilFunc, (.pointer none), (.int .i32 0), (.int .i32 0)] := ⟨by kernel_rfl, rfl⟩
instance : FA Go.Proofs.Tryd.prog 205 0 0 12 := ⟨0, by kernel_rfl⟩
instance : FA Go.Proofs.Tryd.prog 205 1 1 12 := ⟨0, by kernel_rfl⟩
instance : FA Go.Proofs.Tryd.prog 205 2 2 199 := ⟨0, by kernel_rfl⟩
instance : FA Go.Proofs.Tryd.prog 205 3 3 200 := ⟨0, by kernel_rfl⟩
instance : FA Go.Proofs.Tryd.prog 205 4 4 5 := ⟨0, by kernel_rfl⟩
instance : FA Go.Proofs.Tryd.prog 205 5 5 5 := ⟨0, by kernel_rfl⟩
instance : FA Go.Proofs.Tryd.prog 205 6 6 156 := ⟨0, by kernel_rfl⟩
instance : FA Go.Proofs.Tryd.prog 205 7 7 201 := ⟨0, by kernel_rfl⟩
instance : FA Go.Proofs.Tryd.prog 205 8 8 202 := ⟨0, by kernel_rfl⟩
instance : FA Go.Proofs.Tryd.prog 205 9 9 203 := ⟨0, by kernel_rfl⟩
instance : FA Go.Proofs.Tryd.prog 205 10 10 204 := ⟨0, by kernel_rfl⟩
instance : BP Go.Proofs.Tryd.prog 205 [(0, 1), (1, 1), (2, 1), (3, 1), (4, 1), (5, 1), (6, 1), (7, 1), (8, 1), (9, 1), (10, 1)] := ⟨by kernel_rfl⟩
instance : AG Go.Proofs.Tryd.prog 206 11 := ⟨by kernel_rfl, by kernel_rfl⟩
instance : TI Go.Proofs.Tryd.prog 206 11 48 (.agg #[(.int .u64 0), (.int .u64 0), (.int .u32 0), (.int .u8 0), (.int .u8 0), (.int .u8 0), (.int .u8 0), .nilFunc, (.pointer none), (.int .i32 0), (.int .i32 0)]) #[(.int .u64 0), (.int .u64 0), (.int .u32 0), (.int .u8 0), (.int .u8 0), (.int .u8 0), (.int .u8 0), .nilFunc, (.pointer none), (.int .i32 0), (.int .i32 0)] := ⟨by kernel_rfl, rfl⟩
instance : FA Go.Proofs.Tryd.prog 206 0 0 12 := ⟨0, by kernel_rfl⟩
instance : FA Go.Proofs.Tryd.prog 206 1 1 12 := ⟨0, by kernel_rfl⟩
instance : FA Go.Proofs.Tryd.prog 206 2 2 199 := ⟨0, by kernel_rfl⟩
instance : FA Go.Proofs.Tryd.prog 206 3 3 200 := ⟨0, by kernel_rfl⟩
instance : FA Go.Proofs.Tryd.prog 206 4 4 5 := ⟨0, by kernel_rfl⟩
instance : FA Go.Proofs.Tryd.prog 206 5 5 5 := ⟨0, by kernel_rfl⟩
instance : FA Go.Proofs.Tryd.prog 206 6 6 156 := ⟨0, by kernel_rfl⟩
instance : FA Go.Proofs.Tryd.prog 206 7 7 201 := ⟨0, by kernel_rfl⟩
instance : FA Go.Proofs.Tryd.prog 206 8 8 202 := ⟨0, by kernel_rfl⟩
instance : FA Go.Proofs.Tryd.prog 206 9 9 203 := ⟨0, by kernel_rfl⟩
instance : FA Go.Proofs.Tryd.prog 206 10 10 204 := ⟨0, by kernel_rfl⟩
instance : BP Go.Proofs.Tryd.prog 206 [(0, 1), (1, 1), (2, 1), (3, 1), (4, 1), (5, 1), (6, 1), (7, 1), (8, 1), (9, 1), (10, 1)] := ⟨by kernel_rfl⟩
instance : AG Go.Proofs.Tryd.prog 209 2 := ⟨by kernel_rfl, by kernel_rfl⟩
instance : TI Go.Proofs.Tryd.prog 209 2 24 (.agg #[(.string ⟨#[]⟩), (.int .u8 0)]) #[(.string ⟨#[]⟩), (.int .u8 0)] := ⟨by kernel_rfl, rfl⟩
instance : FA Go.Proofs.Tryd.prog 209 0 0 9 := ⟨0, by kernel_rfl⟩
instance : FA Go.Proofs.Tryd.prog 209 1 1 156 := ⟨0, by kernel_rfl⟩
instance : BP Go.Proofs.Tryd.prog 209 [(0, 1), (1, 1)] := ⟨by kernel_rfl⟩
instance : AG Go.Proofs.Tryd.prog 210 2 := ⟨by kernel_rfl, by kernel_rfl⟩
instance : TI Go.Proofs.Tryd.prog 210 2 24 (.agg #[(.string ⟨#[]⟩), (.int .u8 0)]) #[(.string ⟨#[]⟩), (.int .u8 0)] := ⟨by kernel_rfl, rfl⟩
instance : FA Go.Proofs.Tryd.prog 210 0 0 9 := ⟨0, by kernel_rfl⟩
instance : FA Go.Proofs.Tryd.prog 210 1 1 156 := ⟨0, by kernel_rfl⟩
instance : BP Go.Proofs.Tryd.prog 210 [(0, 1), (1, 1)] := ⟨by kernel_rfl⟩
instance : TD Go.Proofs.Tryd.prog 211 (.pointer 215) := ⟨Go.Proofs.Tryd.underlying211⟩
instance : SC Go.Proofs.Tryd.prog 211 := ⟨by kernel_rfl⟩
instance : TI Go.Proofs.Tryd.prog 211 1 8 (.pointer none) #[(.pointer none)] := ⟨by kernel_rfl, rfl⟩
instance : TD Go.Proofs.Tryd.prog 213 (.int .u16) := ⟨Go.Proofs.Tryd.underlying213⟩
instance : SC Go.Proofs.Tryd.prog 213 := ⟨by kernel_rfl⟩
instance : TI Go.Proofs.Tryd.prog 213 1 2 (.int .u16 0) #[(.int .u16 0)] := ⟨by kernel_rfl, rfl⟩
instance : AG Go.Proofs.Tryd.prog 214 5 := ⟨by kernel_rfl, by kernel_rfl⟩
instance : TI Go.Proofs.Tryd.prog 214 5 16 (.agg #[(.int .i32 0), (.int .u16 0), (.int .u16 0), (.int .u32 0), (.int .u32 0)]) #[(.int .i32 0), (.int .u16 0), (.int .u16 0), (.int .u32 0), (.int .u32 0)] := ⟨by kernel_rfl, rfl⟩
instance : FA Go.Proofs.Tryd.prog 214 0 0 203 := ⟨0, by kernel_rfl⟩
instance : FA Go.Proofs.Tryd.prog 214 1 1 213 := ⟨0, by kernel_rfl⟩
instance : FA Go.Proofs.Tryd.prog 214 2 2 213 := ⟨0, by kernel_rfl⟩
instance : FA Go.Proofs.Tryd.prog 214 3 3 199 := ⟨0, by kernel_rfl⟩
instance : FA Go.Proofs.Tryd.prog 214 4 4 199 := ⟨0, by kernel_rfl⟩
instance : BP Go.Proofs.Tryd.prog 214 [(0, 1), (1, 1), (2, 1), (3, 1), (4, 1)] := ⟨by kernel_rfl⟩
instance : AG Go.Proofs.Tryd.prog 215 5 := ⟨by kernel_rfl, by kernel_rfl⟩
instance : TI Go.Proofs.Tryd.prog 215 5 16 (.agg #[(.int .i32 0), (.int .u16 0), (.int .u16 0), (.int .u32 0), (.int .u32 0)]) #[(.int .i32 0), (.int .u16 0), (.int .u16 0), (.int .u32 0), (.int .u32 0)] := ⟨by kernel_rfl, rfl⟩
instance : FA Go.Proofs.Tryd.prog 215 0 0 203 := ⟨0, by kernel_rfl⟩
instance : FA Go.Proofs.Tryd.prog 215 1 1 213 := ⟨0, by kernel_rfl⟩
instance : FA Go.Proofs.Tryd.prog 215 2 2 213 := ⟨0, by kernel_rfl⟩
instance : FA Go.Proofs.Tryd.prog 215 3 3 199 := ⟨0, by kernel_rfl⟩
instance : FA Go.Proofs.Tryd.prog 215 4 4 199 := ⟨0, by kernel_rfl⟩
instance : BP Go.Proofs.Tryd.prog 215 [(0, 1), (1, 1), (2, 1), (3, 1), (4, 1)] := ⟨by kernel_rfl⟩
instance : TD Go.Proofs.Tryd.prog 216 (.slice 219) := ⟨Go.Proofs.Tryd.underlying216⟩
instance : SC Go.Proofs.Tryd.prog 216 := ⟨by kernel_rfl⟩
instance : TI Go.Proofs.Tryd.prog 216 1 24 (.slice none 0 0) #[(.slice none 0 0)] := ⟨by kernel_rfl, rfl⟩
instance : TD Go.Proofs.Tryd.prog 217 (.int .i32) := ⟨Go.Proofs.Tryd.underlying217⟩
instance : SC Go.Proofs.Tryd.prog 217 := ⟨by kernel_rfl⟩
instance : TI Go.Proofs.Tryd.prog 217 1 4 (.int .i32 0) #[(.int .i32 0)] := ⟨by kernel_rfl, rfl⟩
instance : AG Go.Proofs.Tryd.prog 218 4 := ⟨by kernel_rfl, by kernel_rfl⟩
instance : TI Go.Proofs.Tryd.prog 218 4 16 (.agg #[(.int .i32 0), (.int .i32 0), (.int .i32 0), (.int .i32 0)]) #[(.int .i32 0), (.int .i32 0), (.int .i32 0), (.int .i32 0)] := ⟨by kernel_rfl, rfl⟩
instance : FA Go.Proofs.Tryd.prog 218 0 0 203 := ⟨0, by kernel_rfl⟩
instance : FA Go.Proofs.Tryd.prog 218 1 1 204 := ⟨0, by kernel_rfl⟩
instance : FA Go.Proofs.Tryd.prog 218 2 2 217 := ⟨0, by kernel_rfl⟩
instance : FA Go.Proofs.Tryd.prog 218 3 3 217 := ⟨0, by kernel_rfl⟩
instance : BP Go.Proofs.Tryd.prog 218 [(0, 1), (1, 1), (2, 1), (3, 1)] := ⟨by kernel_rfl⟩
instance : AG Go.Proofs.Tryd.prog 219 4 := ⟨by kernel_rfl, by kernel_rfl⟩
instance : TI Go.Proofs.Tryd.prog 219 4 16 (.agg #[(.int .i32 0), (.int .i32 0), (.int .i32 0), (.int .i32 0)]) #[(.int .i32 0), (.int .i32 0), (.int .i32 0), (.int .i32 0)] := ⟨by kernel_rfl, rfl⟩
instance : FA Go.Proofs.Tryd.prog 219 0 0 203 := ⟨0, by kernel_rfl⟩
instance : FA Go.Proofs.Tryd.prog 219 1 1 204 := ⟨0, by kernel_rfl⟩
instance : FA Go.Proofs.Tryd.prog 219 2 2 217 := ⟨0, by kernel_rfl⟩
instance : FA Go.Proofs.Tryd.prog 219 3 3 217 := ⟨0, by kernel_rfl⟩
instance : BP Go.Proofs.Tryd.prog 219 [(0, 1), (1, 1), (2, 1), (3, 1)] := ⟨by kernel_rfl⟩
instance : TD Go.Proofs.Tryd.prog 220 (.pointer 123) := ⟨Go.Proofs.Tryd.underlying220⟩
instance : SC Go.Proofs.Tryd.prog 220 := ⟨by kernel_rfl⟩
instance : TI Go.Proofs.Tryd.prog 220 1 8 (.pointer none) #[(.pointer none)] := ⟨by kernel_rfl, rfl⟩
instance : FB Go.Proofs.Tryd.prog 2 := ⟨by kernel_rfl⟩
instance : FB Go.Proofs.Tryd.prog 3 := ⟨by kernel_rfl⟩
instance : FB Go.Proofs.Tryd.prog 4 := ⟨by kernel_rfl⟩
instance : FB Go.Proofs.Tryd.prog 5 := ⟨by kernel_rfl⟩
instance : FB Go.Proofs.Tryd.prog 6 := ⟨by kernel_rfl⟩
instance : FB Go.Proofs.Tryd.prog 7 := ⟨by kernel_rfl⟩
instance : FB Go.Proofs.Tryd.prog 8 := ⟨by kernel_rfl⟩
instance : FB Go.Proofs.Tryd.prog 9 := ⟨by kernel_rfl⟩
instance : FB Go.Proofs.Tryd.prog 10 := ⟨by kernel_rfl⟩
instance : FB Go.Proofs.Tryd.prog 11 := ⟨by kernel_rfl⟩
instance : FB Go.Proofs.Tryd.prog 12 := ⟨by kernel_rfl⟩
instance : FB Go.Proofs.Tryd.prog 13 := ⟨by kernel_rfl⟩
instance : FB Go.Proofs.Tryd.prog 14 := ⟨by kernel_rfl⟩
instance : FB Go.Proofs.Tryd.prog 15 := ⟨by kernel_rfl⟩
instance : FB Go.Proofs.Tryd.prog 16 := ⟨by kernel_rfl⟩
instance : FB Go.Proofs.Tryd.prog 17 := ⟨by kernel_rfl⟩
instance : FB Go.Proofs.Tryd.prog 18 := ⟨by kernel_rfl⟩
instance : FB Go.Proofs.Tryd.prog 19 := ⟨by kernel_rfl⟩
instance : FB Go.Proofs.Tryd.prog 20 := ⟨by kernel_rfl⟩
instance : FB Go.Proofs.Tryd.prog 21 := ⟨by kernel_rfl⟩
instance : FB Go.Proofs.Tryd.prog 22 := ⟨by kernel_rfl⟩
instance : FB Go.Proofs.Tryd.prog 23 := ⟨by kernel_rfl⟩
instance : FB Go.Proofs.Tryd.prog 24 := ⟨by kernel_rfl⟩
instance : FB Go.Proofs.Tryd.prog 25 := ⟨by kernel_rfl⟩
instance : FB Go.Proofs.Tryd.prog 26 := ⟨by kernel_rfl⟩
instance : FB Go.Proofs.Tryd.prog 27 := ⟨by kernel_rfl⟩
instance : FB Go.Proofs.Tryd.prog 28 := ⟨by kernel_rfl⟩
instance : FB Go.Proofs.Tryd.prog 29 := ⟨by kernel_rfl⟩
instance : FB Go.Proofs.Tryd.prog 30 := ⟨by kernel_rfl⟩
instance : FB Go.Proofs.Tryd.prog 31 := ⟨by kernel_rfl⟩
instance : FB Go.Proofs.Tryd.prog 32 := ⟨by kernel_rfl⟩
instance : FB Go.Proofs.Tryd.prog 33 := ⟨by kernel_rfl⟩
instance : FB Go.Proofs.Tryd.prog 34 := ⟨by kernel_rfl⟩
instance : FB Go.Proofs.Tryd.prog 35 := ⟨by kernel_rfl⟩
instance : FB Go.Proofs.Tryd.prog 36 := ⟨by kernel_rfl⟩
instance : FB Go.Proofs.Tryd.prog 37 := ⟨by kernel_rfl⟩
instance : FB Go.Proofs.Tryd.prog 38 := ⟨by kernel_rfl⟩
instance : FB Go.Proofs.Tryd.prog 39 := ⟨by kernel_rfl⟩
instance : FB Go.Proofs.Tryd.prog 40 := ⟨by kernel_rfl⟩
instance : FB Go.Proofs.Tryd.prog 41 := ⟨by kernel_rfl⟩
instance : FB Go.Proofs.Tryd.prog 42 := ⟨by kernel_rfl⟩
instance : FB Go.Proofs.Tryd.prog 43 := ⟨by kernel_rfl⟩
instance : FB Go.Proofs.Tryd.prog 44 := ⟨by kernel_rfl⟩
instance : FB Go.Proofs.Tryd.prog 45 := ⟨by kernel_rfl⟩
instance : FB Go.Proofs.Tryd.prog 46 := ⟨by kernel_rfl⟩
instance : FB Go.Proofs.Tryd.prog 47 := ⟨by kernel_rfl⟩
instance : FB Go.Proofs.Tryd.prog 48 := ⟨by kernel_rfl⟩
instance : FB Go.Proofs.Tryd.prog 49 := ⟨by kernel_rfl⟩
instance : FB Go.Proofs.Tryd.prog 50 := ⟨by kernel_rfl⟩
instance : FB Go.Proofs.Tryd.prog 51 := ⟨by kernel_rfl⟩
instance : FB Go.Proofs.Tryd.prog 52 := ⟨by kernel_rfl⟩
instance : FB Go.Proofs.Tryd.prog 53 := ⟨by kernel_rfl⟩
instance : FB Go.Proofs.Tryd.prog 54 := ⟨by kernel_rfl⟩
instance : FB Go.Proofs.Tryd.prog 55 := ⟨by kernel_rfl⟩
instance : FB Go.Proofs.Tryd.prog 56 := ⟨by kernel_rfl⟩
instance : FB Go.Proofs.Tryd.prog 57 := ⟨by kernel_rfl⟩
instance : FB Go.Proofs.Tryd.prog 58 := ⟨by kernel_rfl⟩
instance : FB Go.Proofs.Tryd.prog 59 := ⟨by kernel_rfl⟩
instance : FB Go.Proofs.Tryd.prog 60 := ⟨by kernel_rfl⟩
instance : FB Go.Proofs.Tryd.prog 61 := ⟨by kernel_rfl⟩
instance : FB Go.Proofs.Tryd.prog 62 := ⟨by kernel_rfl⟩
instance : FB Go.Proofs.Tryd.prog 63 := ⟨by kernel_rfl⟩
instance : FB Go.Proofs.Tryd.prog 64 := ⟨by kernel_rfl⟩
instance : FB Go.Proofs.Tryd.prog 65 := ⟨by kernel_rfl⟩
instance : FB Go.Proofs.Tryd.prog 66 := ⟨by kernel_rfl⟩
instance : FB Go.Proofs.Tryd.prog 67 := ⟨by kernel_rfl⟩
instance : FB Go.Proofs.Tryd.prog 68 := ⟨by kernel_rfl⟩
instance : FB Go.Proofs.Tryd.prog 69 := ⟨by kernel_rfl⟩
instance : FB Go.Proofs.Tryd.prog 70 := ⟨by kernel_rfl⟩
instance : FB Go.Proofs.Tryd.prog 71 := ⟨by kernel_rfl⟩
instance : FB Go.Proofs.Tryd.prog 72 := ⟨by kernel_rfl⟩
instance : FB Go.Proofs.Tryd.prog 73 := ⟨by kernel_rfl⟩
instance : FB Go.Proofs.Tryd.prog 74 := ⟨by kernel_rfl⟩
instance : FB Go.Proofs.Tryd.prog 75 := ⟨by kernel_rfl⟩
instance : FB Go.Proofs.Tryd.prog 76 := ⟨by kernel_rfl⟩
instance : FB Go.Proofs.Tryd.prog 77 := ⟨by kernel_rfl⟩
instance : FB Go.Proofs.Tryd.prog 78 := ⟨by kernel_rfl⟩
instance : FB Go.Proofs.Tryd.prog 79 := ⟨by kernel_rfl⟩
instance : FB Go.Proofs.Tryd.prog 80 := ⟨by kernel_rfl⟩
instance : FB Go.Proofs.Tryd.prog 81 := ⟨by kernel_rfl⟩
instance : FB Go.Proofs.Tryd.prog 82 := ⟨by kernel_rfl⟩
instance : FB Go.Proofs.Tryd.prog 83 := ⟨by kernel_rfl⟩
instance : FB Go.Proofs.Tryd.prog 84 := ⟨by kernel_rfl⟩
instance : FB Go.Proofs.Tryd.prog 85 := ⟨by kernel_rfl⟩
instance : FB Go.Proofs.Tryd.prog 86 := ⟨by kernel_rfl⟩
instance : FB Go.Proofs.Tryd.prog 87 := ⟨by kernel_rfl⟩
instance : FB Go.Proofs.Tryd.prog 88 := ⟨by kernel_rfl⟩
instance : FB Go.Proofs.Tryd.prog 89 := ⟨by kernel_rfl⟩
instance : FB Go.Proofs.Tryd.prog 90 := ⟨by kernel_rfl⟩
instance : FB Go.Proofs.Tryd.prog 91 := ⟨by kernel_rfl⟩
instance : FB Go.Proofs.Tryd.prog 92 := ⟨by kernel_rfl⟩
instance : FB Go.Proofs.Tryd.prog 93 := ⟨by kernel_rfl⟩
instance : FB Go.Proofs.Tryd.prog 94 := ⟨by kernel_rfl⟩
instance : FB Go.Proofs.Tryd.prog 95 := ⟨by kernel_rfl⟩
instance : FB Go.Proofs.Tryd.prog 99 := ⟨by kernel_rfl⟩
instance : FB Go.Proofs.Tryd.prog 100 := ⟨by kernel_rfl⟩
instance : FB Go.Proofs.Tryd.prog 101 := ⟨by kernel_rfl⟩
instance : FB Go.Proofs.Tryd.prog 102 := ⟨by kernel_rfl⟩
instance : FB Go.Proofs.Tryd.prog 103 := ⟨by kernel_rfl⟩
instance : FB Go.Proofs.Tryd.prog 104 := ⟨by kernel_rfl⟩
instance : FB Go.Proofs.Tryd.prog 105 := ⟨by kernel_rfl⟩
instance : FB Go.Proofs.Tryd.prog 109 := ⟨by kernel_rfl⟩
instance : FB Go.Proofs.Tryd.prog 110 := ⟨by kernel_rfl⟩
instance : FB Go.Proofs.Tryd.prog 111 := ⟨by kernel_rfl⟩
instance : FB Go.Proofs.Tryd.prog 112 := ⟨by kernel_rfl⟩
instance : FB Go.Proofs.Tryd.prog 113 := ⟨by kernel_rfl⟩
instance : FB Go.Proofs.Tryd.prog 114 := ⟨by kernel_rfl⟩
instance : FB Go.Proofs.Tryd.prog 115 := ⟨by kernel_rfl⟩
instance : FB Go.Proofs.Tryd.prog 116 := ⟨by kernel_rfl⟩
instance : FB Go.Proofs.Tryd.prog 117 := ⟨by kernel_rfl⟩
instance : FB Go.Proofs.Tryd.prog 151 := ⟨by kernel_rfl⟩
instance : FB Go.Proofs.Tryd.prog 152 := ⟨by kernel_rfl⟩
instance : FB Go.Proofs.Tryd.prog 157 := ⟨by kernel_rfl⟩
end Go.Proofs.YtabnpjbnoedfgaaDoor

/- Short forms for walks: results, calls of functions that only answer. Conditions: none; over any program. -/
namespace Go.Mus

/-- What the results are, where they lie in temporaries. -/
def resT (ρ : Env) : List ResultVar → Option (List Value)
  | [] => some []
  | .tmp t :: r => match look ρ t, resT ρ r with
    | some v, some vs => some (v :: vs)
    | _, _ => none
  | .cell _ _ :: _ => none
theorem resT_ok {P : Program} {h : Hp} {F : Frag} {ρ : Env} : ∀ {rs : List ResultVar} {vs : List Value}, resT ρ rs = some vs → resOK P h F rs ρ vs
  | [], vs, e => by simp only [resT, Option.some.injEq] at e; exact e.symm
  | .tmp t :: r, vs, e => by
    simp only [resT] at e
    split at e
    · rename_i v vs' h1 h2
      cases e
      exact ⟨v, vs', rfl, h1, resT_ok h2⟩
    · cases e
  | .cell _ _ :: _, vs, e => by cases e

/-- A function that answers, and keeps nothing. -/
abbrev Pu (P : Program) (main : Side) (f : FuncId) (args : Array Value) (h : Hp) (u : Value) : Prop := Fnc P main f args h [] (fun v A => v = u ∧ Shut A)

section
variable {P : Program} {main : Side} {fn : Func} {h : Hp} {R : Value → Frag → Prop} {e : Exit} {ρ : Env} {F : Frag} {ds : List Deferred}
theorem lvt {vs : List Value} (hR : R (pack vs) F) (he : e = .ret ∨ e = .normal := by first | exact .inl rfl | exact .inr rfl) (hv : resT ρ fn.results.toList = some vs := by rfl) : leave P main fn h R e ρ [] F :=
  leave_of he (by simp) (resT_ok hv) hR
/-- .. for one that answers. -/
theorem lvp {u : Value} {vs : List Value} (hu : pack vs = u) (he : e = .ret ∨ e = .normal := by first | exact .inl rfl | exact .inr rfl) (hv : resT ρ fn.results.toList = some vs := by rfl) (hs : Shut F := by repeat (first | exact Shut.nil | assumption | refine Shut.cons rfl ?_ | refine Shut.app ?_ ?_)) : leave P main fn h (fun v A => v = u ∧ Shut A) e ρ [] F :=
  lvt ⟨hu, hs⟩ he hv

/-- Marks of loops are taken off. -/
theorem Unw.marked {d : Nat} {K : Frag → Prop} {U : Obj → Frag} (hl : At d (.deferred (some [])) F U) (H : Unw P main h ds (U (.deferred none)) K) : Unw P main h (mark d :: ds) F K := by
  obtain ⟨F1, F2, e1, e2⟩ := hl.split
  show tr P h (Instr.takeDeferred d) F fun l F' => l = [] ∧ Unw P main h ds F' K
  simp only [Instr.takeDeferred, bind_eq, pure_eq]
  refine ⟨.deferred (some []), .inr (e1 ▸ by simp), (fun _ _ _ => by simp), rfl, ?_⟩
  refine ⟨.deferred (some []), F1, F2, e1, (fun _ _ _ => by simp), rfl, rfl, ?_⟩
  rw [e2] at H
  exact H
theorem lvm {d : Nat} {U : Obj → Frag} (H : leave P main fn h R e ρ ds (U (.deferred none))) (hl : At d (.deferred (some [])) F U := by repeat (first | exact At.head | apply At.tail | apply At.app)) : leave P main fn h R e ρ (mark d :: ds) F :=
  ⟨H.1, Unw.marked hl H.2⟩
end

section
variable {x : Cx} {Q : Post} {ρ : Env} {ds : List Deferred} {F : Frag} {ops : Array Oper} {i : Nat} {rest : List Nat} {d : Tmp} {ty : TypeId} {pos : String} {aft : Array Edge} {g : Option (Nat × Bool)} {L : Frag}
variable {f : FuncId} {args : List Operand} {ts : Array TypeId} {vs : List Value}

/-- A call of a function that answers. -/
theorem cp {u : Value} (H : ∀ h', Ext x.h h' → Lent F h' → Pu x.P x.main f vs.toArray h' u) (K : Ops x ops rest Q ((d, u) :: ρ) ds F) (ho : nthO ops.toList i = some ⟨some d, .call ⟨.value (.func f), args.toArray, ts⟩, ty, pos, aft, g⟩ := by rfl) [FB x.P f] (hv : evs ρ args = some vs := by rfl)
    (hw : want ops ρ ⟨some d, .call ⟨.value (.func f), args.toArray, ts⟩, ty, pos, aft, g⟩ := by first | exact wn | exact want_some rfl rfl rfl) (hd : Nat.blt d x.n = true := by rfl) : Ops x ops (i :: rest) Q ρ ds F :=
  Ops.eff (o := ⟨some d, .call ⟨.value (.func f), args.toArray, ts⟩, ty, pos, aft, g⟩) (e_call0 rfl hv H fun v A' hv => by
    obtain ⟨rfl, hs⟩ := hv
    exact Ops.sb (Sb.left .refl hs) K) (nthO_get ho) hw hd rfl
/-- A call that is handed nothing. -/
theorem c0 {R' : Value → Frag → Prop} (H : ∀ h', Ext x.h h' → Lent F h' → Fnc x.P x.main f vs.toArray h' [] R') (K : ∀ v A', R' v A' → Ops x ops rest Q ((d, v) :: ρ) ds (A' ++ F)) (ho : nthO ops.toList i = some ⟨some d, .call ⟨.value (.func f), args.toArray, ts⟩, ty, pos, aft, g⟩ := by rfl) [FB x.P f] (hv : evs ρ args = some vs := by rfl)
    (hw : want ops ρ ⟨some d, .call ⟨.value (.func f), args.toArray, ts⟩, ty, pos, aft, g⟩ := by first | exact wn | exact want_some rfl rfl rfl) (hd : Nat.blt d x.n = true := by rfl) : Ops x ops (i :: rest) Q ρ ds F :=
  Ops.eff (o := ⟨some d, .call ⟨.value (.func f), args.toArray, ts⟩, ty, pos, aft, g⟩) (e_call0 rfl hv H fun v A' hv => K v A' hv) (nthO_get ho) hw hd rfl
/-- A call that is handed a part. -/
theorem cg {A : Frag} {U : Frag → Frag} {R' : Value → Frag → Prop} (hs : Seg A F U) (H : ∀ h', Ext x.h h' → Lent (U []) h' → Fnc x.P x.main f vs.toArray h' A R') (K : ∀ v A', R' v A' → Ops x ops rest Q ((d, v) :: ρ) ds (U A')) (ho : nthO ops.toList i = some ⟨some d, .call ⟨.value (.func f), args.toArray, ts⟩, ty, pos, aft, g⟩ := by rfl) [FB x.P f] (hv : evs ρ args = some vs := by rfl)
    (hw : want ops ρ ⟨some d, .call ⟨.value (.func f), args.toArray, ts⟩, ty, pos, aft, g⟩ := by first | exact wn | exact want_some rfl rfl rfl) (hd : Nat.blt d x.n = true := by rfl) : Ops x ops (i :: rest) Q ρ ds F :=
  Ops.eff (o := ⟨some d, .call ⟨.value (.func f), args.toArray, ts⟩, ty, pos, aft, g⟩) (e_call rfl hv hs H fun v A' hv => K v A' hv) (nthO_get ho) hw hd rfl
/-- .. without a result. -/
theorem cgn {A : Frag} {U : Frag → Frag} {R' : Value → Frag → Prop} (hs : Seg A F U) (H : ∀ h', Ext x.h h' → Lent (U []) h' → Fnc x.P x.main f vs.toArray h' A R') (K : ∀ v A', R' v A' → Ops x ops rest Q ρ ds (U A')) (ho : nthO ops.toList i = some ⟨none, .call ⟨.value (.func f), args.toArray, ts⟩, ty, pos, aft, g⟩ := by rfl) [FB x.P f] (hv : evs ρ args = some vs := by rfl)
    (hw : want ops ρ ⟨none, .call ⟨.value (.func f), args.toArray, ts⟩, ty, pos, aft, g⟩ := by first | exact wn | exact want_some rfl rfl rfl) : Ops x ops (i :: rest) Q ρ ds F :=
  Ops.eff (o := ⟨none, .call ⟨.value (.func f), args.toArray, ts⟩, ty, pos, aft, g⟩) (e_call rfl hv hs H fun v A' hv => K v A' hv) (nthO_get ho) hw rfl rfl
end

section
variable {x : Cx} {Q : Post} {ρ : Env} {ds : List Deferred} {F : Frag} {ops : Array Oper} {i : Nat} {rest : List Nat} {d : Tmp} {op : Op} {ty : TypeId} {pos : String} {aft : Array Edge} {g : Option (Nat × Bool)} {L : Frag}
theorem look_again {d : Nat} {v : Value} (h : look ρ d = some v) : look ((d, v) :: ρ) = look ρ := by
  funext t
  show (bif Nat.beq t d then some v else look ρ t) = look ρ t
  cases e : Nat.beq t d with
  | true => rw [Nat.eq_of_beq_eq_true e, h]; rfl
  | false => rfl
/-- A guard's outcome, in an open order. -/
theorem Any.ask {fuel listed d' : Nat} {p : Prop} [Decidable p] (ht : p → Any x ops L fuel listed Q ((d', .bool true) :: ρ) ds F) (hf : ¬ p → Any x ops L fuel listed Q ((d', .bool false) :: ρ) ds F) (hv : look ρ d' = some (.bool (decide p)) := by rfl) : Any x ops L fuel listed Q ρ ds F := by
  by_cases hp : p
  · have := ht hp
    have e : look ρ d' = some (.bool true) := by rw [hv]; simp [hp]
    unfold Any at this ⊢
    rwa [look_again e] at this
  · have := hf hp
    have e : look ρ d' = some (.bool false) := by rw [hv]; simp [hp]
    unfold Any at this ⊢
    rwa [look_again e] at this
theorem Any.askB {fuel listed d' : Nat} {b : Bool} (ht : b = true → Any x ops L fuel listed Q ((d', .bool true) :: ρ) ds F) (hf : b = false → Any x ops L fuel listed Q ((d', .bool false) :: ρ) ds F) (hv : look ρ d' = some (.bool b) := by rfl) : Any x ops L fuel listed Q ρ ds F := by
  cases b with
  | true => have := ht rfl; unfold Any at this ⊢; rwa [look_again hv] at this
  | false => have := hf rfl; unfold Any at this ⊢; rwa [look_again hv] at this
theorem Ops.askB {j d' : Nat} {w b : Bool} {D : Option Tmp} (ht : b = true → Ops x ops (i :: rest) Q ((d', .bool true) :: ρ) ds F) (hf : b = false → Ops x ops (i :: rest) Q ((d', .bool false) :: ρ) ds F) (ho : nthO ops.toList i = some ⟨D, op, ty, pos, aft, some (j, w)⟩ := by rfl) (hj : (nthO ops.toList j).bind (·.dst) = some d' := by rfl) (hv : look ρ d' = some (.bool b) := by rfl) : Ops x ops (i :: rest) Q ρ ds F := by
  have key : ∀ u : Bool, b = u → Ops x ops (i :: rest) Q ((d', .bool u) :: ρ) ds F → Ops x ops (i :: rest) Q ρ ds F := by
    intro u hu H b' k cs Stop tmps hk M h1 h0 h2 h3 h4 h5 hc
    refine H b' k cs Stop tmps hk M h1 h0 h2 (fun t y hy => ?_) h4 h5 hc
    rw [look_again (hu ▸ hv)] at hy
    exact h3 t y hy
  cases b with
  | true => exact key true rfl (ht rfl)
  | false => exact key false rfl (hf rfl)
variable {f : FuncId} {args : List Operand} {ts : Array TypeId} {vs : List Value}
/-- A call of a function that answers, in an open order, where it alone may come up. -/
theorem acp {fuel listed : Nat} {u : Value} (H : ∀ h', Ext x.h h' → Lent F h' → Pu x.P x.main f vs.toArray h' u) (K : Any x ops L fuel (listed ||| 2 ^ i) Q ((d, u) :: ρ) ds F) (hS : lastT ops i = true ∨ Keeps L F := by first | exact .inr (by repeat (first | exact fun _ h => h | apply Keeps.cons | apply Keeps.app)) | exact .inl (by kernel_rfl))
    (ho : nthO ops.toList i = some ⟨some d, .call ⟨.value (.func f), args.toArray, ts⟩, ty, pos, aft, g⟩ := by rfl) [FB x.P f] (hv : evs ρ args = some vs := by rfl)
    (hw : wantε ops (look ρ) ⟨some d, .call ⟨.value (.func f), args.toArray, ts⟩, ty, pos, aft, g⟩ true := by first | exact an | exact wantε_some rfl rfl rfl rfl) (hd : Nat.blt d x.n = true := by rfl) (hr : rdys ops listed = [i] := by kernel_rfl) : Any x ops L (fuel + 1) listed Q ρ ds F :=
  Any.eff (o := ⟨some d, .call ⟨.value (.func f), args.toArray, ts⟩, ty, pos, aft, g⟩) (e_call0 rfl hv H fun v A' hv => by
    obtain ⟨rfl, hs⟩ := hv
    exact ⟨hS.imp id fun k p hp => List.mem_append_right _ (k p hp), Any.sb (Sb.left .refl hs) K⟩) hr (nthO_get ho) hw hd rfl
end

section
variable {x : Cx} {Q Q' : Post} {ρ : Env} {ds : List Deferred} {F : Frag}
theorem thn_mono {K K' : Env → List Deferred → Frag → Prop} {e : Exit} {ρ : Env} {ds : List Deferred} {F : Frag} (h : thn K Q e ρ ds F) (hk : ∀ ρ ds F, K ρ ds F → K' ρ ds F) : thn K' Q e ρ ds F := by
  cases e <;> first | exact hk _ _ _ h | exact h
/-- Loops with a state of several parts. -/
theorem W.loop2 {σ τ : Type} {c : Code} (C : σ → τ → Prop) (E : σ → τ → Env) (D : σ → τ → Frag) (μ : σ → τ → Nat) (s₀ : σ) (t₀ : τ) (h₀ : C s₀ t₀) (he : Sub (E s₀ t₀) ρ) (hF : Sb (D s₀ t₀) F)
    (round : ∀ s t, C s t → W x c (thn (fun ρ' ds' F' => ds' = ds ∧ ∃ s' t', C s' t' ∧ μ s' t' < μ s t ∧ Sub (E s' t') ρ' ∧ Sb (D s' t') F') Q) (E s t) ds (D s t)) : W x (.loop c) Q ρ ds F :=
  W.loop (σ := σ × τ) (fun p => C p.1 p.2) (fun p => E p.1 p.2) (fun p => D p.1 p.2) (fun p => μ p.1 p.2) (s₀, t₀) h₀ he hF fun p h => (round p.1 p.2 h).mono fun _ _ _ _ q => thn_mono q fun _ _ _ ⟨e, s', t', h1⟩ => ⟨e, (s', t'), h1⟩
theorem W.loop3 {σ τ υ : Type} {c : Code} (C : σ → τ → υ → Prop) (E : σ → τ → υ → Env) (D : σ → τ → υ → Frag) (μ : σ → τ → υ → Nat) (s₀ : σ) (t₀ : τ) (u₀ : υ) (h₀ : C s₀ t₀ u₀) (he : Sub (E s₀ t₀ u₀) ρ) (hF : Sb (D s₀ t₀ u₀) F)
    (round : ∀ s t u, C s t u → W x c (thn (fun ρ' ds' F' => ds' = ds ∧ ∃ s' t' u', C s' t' u' ∧ μ s' t' u' < μ s t u ∧ Sub (E s' t' u') ρ' ∧ Sb (D s' t' u') F') Q) (E s t u) ds (D s t u)) : W x (.loop c) Q ρ ds F :=
  W.loop (σ := σ × τ × υ) (fun p => C p.1 p.2.1 p.2.2) (fun p => E p.1 p.2.1 p.2.2) (fun p => D p.1 p.2.1 p.2.2) (fun p => μ p.1 p.2.1 p.2.2) (s₀, t₀, u₀) h₀ he hF fun p h => (round p.1 p.2.1 p.2.2 h).mono fun _ _ _ _ q => thn_mono q fun _ _ _ ⟨e, s', t', u', h1⟩ => ⟨e, (s', t', u'), h1⟩
end

/-- The cells of a row. -/
theorem Part.rowG {α : Type} {row : α → List Value} {w : Nat} [Rw row w] {c : Array Value} {off i : Nat} {l : List α} {p : α} (h : Part c off (flat row l)) (hi : l[i]? = some p) (k : Nat) (hk : k < w) : c[off + i * w + k]? = (row p)[k]? :=
  (h.rowP hi).get (by rw [Rw.len]; exact hk)

/-- An element of what is read. -/
theorem Sl.at {α : Type} {row : α → List Value} {w : Nat} [Rw row w] {h : Hp} {a : Option Addr} {n cap : Nat} {l : List α} {i : Nat} {p : α} (H : Sl h row (.slice a n cap) l) (hi : l[i]? = some p) :
    ∃ b off c E fz, a = some ⟨b, off, none⟩ ∧ h b = some (.cells c E fz) ∧ c.extract (off + i * w) (off + i * w + w) = (row p).toArray ∧ off + i * w + w ≤ c.size ∧ ∀ k, k < w → c[off + i * w + k]? = (row p)[k]? := by
  have hne : l ≠ [] := by rintro rfl; simp at hi
  obtain ⟨a', cap', e, hx⟩ := H
  cases e
  obtain ⟨b, off, c, E, fz, rfl, hb, hp⟩ := hx hne
  obtain ⟨h1, h2⟩ := hp.rowE hi
  exact ⟨b, off, c, E, fz, rfl, hb, h1, h2, fun k hk => hp.rowG hi k hk⟩
theorem has {α : Type} {l : List α} {i : Nat} (h : i < l.length) : ∃ p, l[i]? = some p ∧ l.drop i = p :: l.drop (i + 1) := ⟨l[i], List.getElem?_eq_getElem h, (List.getElem_cons_drop ..).symm⟩
theorem Sl.isSl {α : Type} {row : α → List Value} {w : Nat} [Rw row w] {h : Hp} {v : Value} {l : List α} (H : Sl h row v l) : ∃ a cap, v = .slice a l.length cap := by
  obtain ⟨a, cap, e, _⟩ := H
  exact ⟨a, cap, e⟩

/-- What is dropped: by itself. -/
theorem sbA {A B : Frag} (h : Sb A B := by repeat (first | exact Sb.refl | apply Sb.cons | refine Sb.skip rfl ?_ | exact Sb.nil (by assumption))) : Sb A B := h
end Go.Mus
