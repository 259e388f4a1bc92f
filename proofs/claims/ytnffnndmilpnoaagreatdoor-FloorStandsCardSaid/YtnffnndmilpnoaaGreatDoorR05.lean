/- The types and functions of the program, as facts. Conditions: none. (And 1 texts more.) -/
import Derived.Test.YtnffnndmilpnoaaGreatDoorProg
import Derived.Test.YtnffnndmilpnoaaGreatDoorR02
import Derived.KernelRfl
import Derived.Test.YtnffnndmilpnoaaGreatDoorR04
set_option linter.unusedVariables false
set_option linter.unusedSimpArgs false
set_option linter.unusedSectionVars false

/- The types and functions of the program, as facts. Conditions: none. -/
namespace Go.Proofs.YtnffnndmilpnoaaGreatDoor
open Go Go.Mus
set_option maxRecDepth 100000
instance : TD Go.Proofs.Tryz.prog 2 (.int .i64) := ⟨Go.Proofs.Tryz.underlying2⟩
instance : SC Go.Proofs.Tryz.prog 2 := ⟨by kernel_rfl⟩
instance : TI Go.Proofs.Tryz.prog 2 1 8 (.int .i64 0) #[(.int .i64 0)] := ⟨by kernel_rfl, rfl⟩
instance : TD Go.Proofs.Tryz.prog 3 (.int .i64) := ⟨Go.Proofs.Tryz.underlying3⟩
instance : SC Go.Proofs.Tryz.prog 3 := ⟨by kernel_rfl⟩
instance : TI Go.Proofs.Tryz.prog 3 1 8 (.int .i64 0) #[(.int .i64 0)] := ⟨by kernel_rfl, rfl⟩
instance : TD Go.Proofs.Tryz.prog 4 .bool := ⟨Go.Proofs.Tryz.underlying4⟩
instance : SC Go.Proofs.Tryz.prog 4 := ⟨by kernel_rfl⟩
instance : TI Go.Proofs.Tryz.prog 4 1 1 (.bool false) #[(.bool false)] := ⟨by kernel_rfl, rfl⟩
instance : TD Go.Proofs.Tryz.prog 5 (.int .u8) := ⟨Go.Proofs.Tryz.underlying5⟩
instance : SC Go.Proofs.Tryz.prog 5 := ⟨by kernel_rfl⟩
instance : TI Go.Proofs.Tryz.prog 5 1 1 (.int .u8 0) #[(.int .u8 0)] := ⟨by kernel_rfl, rfl⟩
instance : TD Go.Proofs.Tryz.prog 6 (.int .u8) := ⟨Go.Proofs.Tryz.underlying6⟩
instance : SC Go.Proofs.Tryz.prog 6 := ⟨by kernel_rfl⟩
instance : TI Go.Proofs.Tryz.prog 6 1 1 (.int .u8 0) #[(.int .u8 0)] := ⟨by kernel_rfl, rfl⟩
instance : AG Go.Proofs.Tryz.prog 7 4 := ⟨by kernel_rfl, by kernel_rfl⟩
instance : TI Go.Proofs.Tryz.prog 7 4 24 (.agg #[(.int .i64 0), (.int .i64 0), (.bool false), (.int .u8 0)]) #[(.int .i64 0), (.int .i64 0), (.bool false), (.int .u8 0)] := ⟨by kernel_rfl, rfl⟩
instance : FA Go.Proofs.Tryz.prog 7 0 0 2 := ⟨0, by kernel_rfl⟩
instance : FA Go.Proofs.Tryz.prog 7 1 1 3 := ⟨0, by kernel_rfl⟩
instance : FA Go.Proofs.Tryz.prog 7 2 2 4 := ⟨0, by kernel_rfl⟩
instance : FA Go.Proofs.Tryz.prog 7 3 3 6 := ⟨0, by kernel_rfl⟩
instance : BP Go.Proofs.Tryz.prog 7 [(0, 1), (1, 1), (2, 1), (3, 1)] := ⟨by kernel_rfl⟩
instance : AG Go.Proofs.Tryz.prog 8 4 := ⟨by kernel_rfl, by kernel_rfl⟩
instance : TI Go.Proofs.Tryz.prog 8 4 24 (.agg #[(.int .i64 0), (.int .i64 0), (.bool false), (.int .u8 0)]) #[(.int .i64 0), (.int .i64 0), (.bool false), (.int .u8 0)] := ⟨by kernel_rfl, rfl⟩
instance : FA Go.Proofs.Tryz.prog 8 0 0 2 := ⟨0, by kernel_rfl⟩
instance : FA Go.Proofs.Tryz.prog 8 1 1 3 := ⟨0, by kernel_rfl⟩
instance : FA Go.Proofs.Tryz.prog 8 2 2 4 := ⟨0, by kernel_rfl⟩
instance : FA Go.Proofs.Tryz.prog 8 3 3 6 := ⟨0, by kernel_rfl⟩
instance : BP Go.Proofs.Tryz.prog 8 [(0, 1), (1, 1), (2, 1), (3, 1)] := ⟨by kernel_rfl⟩
instance : TD Go.Proofs.Tryz.prog 9 .string := ⟨Go.Proofs.Tryz.underlying9⟩
instance : SC Go.Proofs.Tryz.prog 9 := ⟨by kernel_rfl⟩
instance : TI Go.Proofs.Tryz.prog 9 1 16 (.string ⟨#[]⟩) #[(.string ⟨#[]⟩)] := ⟨by kernel_rfl, rfl⟩
instance : TD Go.Proofs.Tryz.prog 10 .string := ⟨Go.Proofs.Tryz.underlying10⟩
instance : SC Go.Proofs.Tryz.prog 10 := ⟨by kernel_rfl⟩
instance : TI Go.Proofs.Tryz.prog 10 1 16 (.string ⟨#[]⟩) #[(.string ⟨#[]⟩)] := ⟨by kernel_rfl, rfl⟩
instance : TD Go.Proofs.Tryz.prog 11 .string := ⟨Go.Proofs.Tryz.underlying11⟩
instance : SC Go.Proofs.Tryz.prog 11 := ⟨by kernel_rfl⟩
instance : TI Go.Proofs.Tryz.prog 11 1 16 (.string ⟨#[]⟩) #[(.string ⟨#[]⟩)] := ⟨by kernel_rfl, rfl⟩
instance : TD Go.Proofs.Tryz.prog 12 (.int .u64) := ⟨Go.Proofs.Tryz.underlying12⟩
instance : SC Go.Proofs.Tryz.prog 12 := ⟨by kernel_rfl⟩
instance : TI Go.Proofs.Tryz.prog 12 1 8 (.int .u64 0) #[(.int .u64 0)] := ⟨by kernel_rfl, rfl⟩
instance : AG Go.Proofs.Tryz.prog 13 2 := ⟨by kernel_rfl, by kernel_rfl⟩
instance : TI Go.Proofs.Tryz.prog 13 2 24 (.agg #[(.string ⟨#[]⟩), (.int .u64 0)]) #[(.string ⟨#[]⟩), (.int .u64 0)] := ⟨by kernel_rfl, rfl⟩
instance : FA Go.Proofs.Tryz.prog 13 0 0 9 := ⟨0, by kernel_rfl⟩
instance : FA Go.Proofs.Tryz.prog 13 1 1 12 := ⟨0, by kernel_rfl⟩
instance : BP Go.Proofs.Tryz.prog 13 [(0, 1), (1, 1)] := ⟨by kernel_rfl⟩
instance : AG Go.Proofs.Tryz.prog 14 2 := ⟨by kernel_rfl, by kernel_rfl⟩
instance : TI Go.Proofs.Tryz.prog 14 2 24 (.agg #[(.string ⟨#[]⟩), (.int .u64 0)]) #[(.string ⟨#[]⟩), (.int .u64 0)] := ⟨by kernel_rfl, rfl⟩
instance : FA Go.Proofs.Tryz.prog 14 0 0 9 := ⟨0, by kernel_rfl⟩
instance : FA Go.Proofs.Tryz.prog 14 1 1 12 := ⟨0, by kernel_rfl⟩
instance : BP Go.Proofs.Tryz.prog 14 [(0, 1), (1, 1)] := ⟨by kernel_rfl⟩
instance : TD Go.Proofs.Tryz.prog 15 (.pointer 255) := ⟨Go.Proofs.Tryz.underlying15⟩
instance : SC Go.Proofs.Tryz.prog 15 := ⟨by kernel_rfl⟩
instance : TI Go.Proofs.Tryz.prog 15 1 8 (.pointer none) #[(.pointer none)] := ⟨by kernel_rfl, rfl⟩
instance : TD Go.Proofs.Tryz.prog 16 (.pointer 258) := ⟨Go.Proofs.Tryz.underlying16⟩
instance : SC Go.Proofs.Tryz.prog 16 := ⟨by kernel_rfl⟩
instance : TI Go.Proofs.Tryz.prog 16 1 8 (.pointer none) #[(.pointer none)] := ⟨by kernel_rfl, rfl⟩
instance : TD Go.Proofs.Tryz.prog 17 (.pointer 267) := ⟨Go.Proofs.Tryz.underlying17⟩
instance : SC Go.Proofs.Tryz.prog 17 := ⟨by kernel_rfl⟩
instance : TI Go.Proofs.Tryz.prog 17 1 8 (.pointer none) #[(.pointer none)] := ⟨by kernel_rfl, rfl⟩
instance : AG Go.Proofs.Tryz.prog 18 1 := ⟨by kernel_rfl, by kernel_rfl⟩
instance : TI Go.Proofs.Tryz.prog 18 1 8 (.agg #[(.pointer none)]) #[(.pointer none)] := ⟨by kernel_rfl, rfl⟩
instance : FA Go.Proofs.Tryz.prog 18 0 0 17 := ⟨0, by kernel_rfl⟩
instance : BP Go.Proofs.Tryz.prog 18 [(0, 1)] := ⟨by kernel_rfl⟩
instance : AG Go.Proofs.Tryz.prog 19 1 := ⟨by kernel_rfl, by kernel_rfl⟩
instance : TI Go.Proofs.Tryz.prog 19 1 8 (.agg #[(.pointer none)]) #[(.pointer none)] := ⟨by kernel_rfl, rfl⟩
instance : FA Go.Proofs.Tryz.prog 19 0 0 17 := ⟨0, by kernel_rfl⟩
instance : BP Go.Proofs.Tryz.prog 19 [(0, 1)] := ⟨by kernel_rfl⟩
instance : TD Go.Proofs.Tryz.prog 20 (.interface #[]) := ⟨Go.Proofs.Tryz.underlying20⟩
instance : SC Go.Proofs.Tryz.prog 20 := ⟨by kernel_rfl⟩
instance : TI Go.Proofs.Tryz.prog 20 1 16 .nilIface #[.nilIface] := ⟨by kernel_rfl, rfl⟩
instance : TD Go.Proofs.Tryz.prog 21 (.int .i32) := ⟨Go.Proofs.Tryz.underlying21⟩
instance : SC Go.Proofs.Tryz.prog 21 := ⟨by kernel_rfl⟩
instance : TI Go.Proofs.Tryz.prog 21 1 4 (.int .i32 0) #[(.int .i32 0)] := ⟨by kernel_rfl, rfl⟩
instance : TD Go.Proofs.Tryz.prog 22 (.slice 29) := ⟨Go.Proofs.Tryz.underlying22⟩
instance : SC Go.Proofs.Tryz.prog 22 := ⟨by kernel_rfl⟩
instance : TI Go.Proofs.Tryz.prog 22 1 24 (.slice none 0 0) #[(.slice none 0 0)] := ⟨by kernel_rfl, rfl⟩
instance : TD Go.Proofs.Tryz.prog 23 (.slice 31) := ⟨Go.Proofs.Tryz.underlying23⟩
instance : SC Go.Proofs.Tryz.prog 23 := ⟨by kernel_rfl⟩
instance : TI Go.Proofs.Tryz.prog 23 1 24 (.slice none 0 0) #[(.slice none 0 0)] := ⟨by kernel_rfl, rfl⟩
instance : AG Go.Proofs.Tryz.prog 24 2 := ⟨by kernel_rfl, by kernel_rfl⟩
instance : TI Go.Proofs.Tryz.prog 24 2 48 (.agg #[(.slice none 0 0), (.slice none 0 0)]) #[(.slice none 0 0), (.slice none 0 0)] := ⟨by kernel_rfl, rfl⟩
instance : FA Go.Proofs.Tryz.prog 24 0 0 22 := ⟨0, by kernel_rfl⟩
instance : FA Go.Proofs.Tryz.prog 24 1 1 23 := ⟨0, by kernel_rfl⟩
instance : BP Go.Proofs.Tryz.prog 24 [(0, 1), (1, 1)] := ⟨by kernel_rfl⟩
instance : AG Go.Proofs.Tryz.prog 25 2 := ⟨by kernel_rfl, by kernel_rfl⟩
instance : TI Go.Proofs.Tryz.prog 25 2 48 (.agg #[(.slice none 0 0), (.slice none 0 0)]) #[(.slice none 0 0), (.slice none 0 0)] := ⟨by kernel_rfl, rfl⟩
instance : FA Go.Proofs.Tryz.prog 25 0 0 22 := ⟨0, by kernel_rfl⟩
instance : FA Go.Proofs.Tryz.prog 25 1 1 23 := ⟨0, by kernel_rfl⟩
instance : BP Go.Proofs.Tryz.prog 25 [(0, 1), (1, 1)] := ⟨by kernel_rfl⟩
instance : AG Go.Proofs.Tryz.prog 26 2 := ⟨by kernel_rfl, by kernel_rfl⟩
instance : TI Go.Proofs.Tryz.prog 26 2 16 (.agg #[(.int .i64 0), (.int .i64 0)]) #[(.int .i64 0), (.int .i64 0)] := ⟨by kernel_rfl, rfl⟩
instance : FA Go.Proofs.Tryz.prog 26 0 0 3 := ⟨0, by kernel_rfl⟩
instance : FA Go.Proofs.Tryz.prog 26 1 1 3 := ⟨0, by kernel_rfl⟩
instance : BP Go.Proofs.Tryz.prog 26 [(0, 1), (1, 1)] := ⟨by kernel_rfl⟩
instance : AG Go.Proofs.Tryz.prog 27 2 := ⟨by kernel_rfl, by kernel_rfl⟩
instance : TI Go.Proofs.Tryz.prog 27 2 16 (.agg #[(.int .i64 0), (.int .i64 0)]) #[(.int .i64 0), (.int .i64 0)] := ⟨by kernel_rfl, rfl⟩
instance : FA Go.Proofs.Tryz.prog 27 0 0 3 := ⟨0, by kernel_rfl⟩
instance : FA Go.Proofs.Tryz.prog 27 1 1 3 := ⟨0, by kernel_rfl⟩
instance : BP Go.Proofs.Tryz.prog 27 [(0, 1), (1, 1)] := ⟨by kernel_rfl⟩
instance : AG Go.Proofs.Tryz.prog 28 4 := ⟨by kernel_rfl, by kernel_rfl⟩
instance : TI Go.Proofs.Tryz.prog 28 4 32 (.agg #[(.int .i64 0), (.int .i64 0), (.int .i64 0), (.int .i64 0)]) #[(.int .i64 0), (.int .i64 0), (.int .i64 0), (.int .i64 0)] := ⟨by kernel_rfl, rfl⟩
instance : FA Go.Proofs.Tryz.prog 28 0 0 3 := ⟨0, by kernel_rfl⟩
instance : FA Go.Proofs.Tryz.prog 28 1 1 27 := ⟨1, by kernel_rfl⟩
instance : FA Go.Proofs.Tryz.prog 28 2 3 3 := ⟨0, by kernel_rfl⟩
instance : BP Go.Proofs.Tryz.prog 28 [(0, 1), (1, 2), (3, 1)] := ⟨by kernel_rfl⟩
instance : AG Go.Proofs.Tryz.prog 29 4 := ⟨by kernel_rfl, by kernel_rfl⟩
instance : TI Go.Proofs.Tryz.prog 29 4 32 (.agg #[(.int .i64 0), (.int .i64 0), (.int .i64 0), (.int .i64 0)]) #[(.int .i64 0), (.int .i64 0), (.int .i64 0), (.int .i64 0)] := ⟨by kernel_rfl, rfl⟩
instance : FA Go.Proofs.Tryz.prog 29 0 0 3 := ⟨0, by kernel_rfl⟩
instance : FA Go.Proofs.Tryz.prog 29 1 1 27 := ⟨1, by kernel_rfl⟩
instance : FA Go.Proofs.Tryz.prog 29 2 3 3 := ⟨0, by kernel_rfl⟩
instance : BP Go.Proofs.Tryz.prog 29 [(0, 1), (1, 2), (3, 1)] := ⟨by kernel_rfl⟩
instance : AG Go.Proofs.Tryz.prog 30 3 := ⟨by kernel_rfl, by kernel_rfl⟩
instance : TI Go.Proofs.Tryz.prog 30 3 24 (.agg #[(.int .i64 0), (.int .i64 0), (.int .i64 0)]) #[(.int .i64 0), (.int .i64 0), (.int .i64 0)] := ⟨by kernel_rfl, rfl⟩
instance : FA Go.Proofs.Tryz.prog 30 0 0 3 := ⟨0, by kernel_rfl⟩
instance : FA Go.Proofs.Tryz.prog 30 1 1 3 := ⟨0, by kernel_rfl⟩
instance : FA Go.Proofs.Tryz.prog 30 2 2 3 := ⟨0, by kernel_rfl⟩
instance : BP Go.Proofs.Tryz.prog 30 [(0, 1), (1, 1), (2, 1)] := ⟨by kernel_rfl⟩
instance : AG Go.Proofs.Tryz.prog 31 3 := ⟨by kernel_rfl, by kernel_rfl⟩
instance : TI Go.Proofs.Tryz.prog 31 3 24 (.agg #[(.int .i64 0), (.int .i64 0), (.int .i64 0)]) #[(.int .i64 0), (.int .i64 0), (.int .i64 0)] := ⟨by kernel_rfl, rfl⟩
instance : FA Go.Proofs.Tryz.prog 31 0 0 3 := ⟨0, by kernel_rfl⟩
instance : FA Go.Proofs.Tryz.prog 31 1 1 3 := ⟨0, by kernel_rfl⟩
instance : FA Go.Proofs.Tryz.prog 31 2 2 3 := ⟨0, by kernel_rfl⟩
instance : BP Go.Proofs.Tryz.prog 31 [(0, 1), (1, 1), (2, 1)] := ⟨by kernel_rfl⟩
instance : TD Go.Proofs.Tryz.prog 32 (.slice 80) := ⟨Go.Proofs.Tryz.underlying32⟩
instance : SC Go.Proofs.Tryz.prog 32 := ⟨by kernel_rfl⟩
instance : TI Go.Proofs.Tryz.prog 32 1 24 (.slice none 0 0) #[(.slice none 0 0)] := ⟨by kernel_rfl, rfl⟩
instance : TD Go.Proofs.Tryz.prog 33 (.slice 3) := ⟨Go.Proofs.Tryz.underlying33⟩
instance : SC Go.Proofs.Tryz.prog 33 := ⟨by kernel_rfl⟩
instance : TI Go.Proofs.Tryz.prog 33 1 24 (.slice none 0 0) #[(.slice none 0 0)] := ⟨by kernel_rfl, rfl⟩
instance : TD Go.Proofs.Tryz.prog 36 (.pointer 89) := ⟨Go.Proofs.Tryz.underlying36⟩
instance : SC Go.Proofs.Tryz.prog 36 := ⟨by kernel_rfl⟩
instance : TI Go.Proofs.Tryz.prog 36 1 8 (.pointer none) #[(.pointer none)] := ⟨by kernel_rfl, rfl⟩
instance : TD Go.Proofs.Tryz.prog 38 (.slice 25) := ⟨Go.Proofs.Tryz.underlying38⟩
instance : SC Go.Proofs.Tryz.prog 38 := ⟨by kernel_rfl⟩
instance : TI Go.Proofs.Tryz.prog 38 1 24 (.slice none 0 0) #[(.slice none 0 0)] := ⟨by kernel_rfl, rfl⟩
instance : TD Go.Proofs.Tryz.prog 41 (.slice 32) := ⟨Go.Proofs.Tryz.underlying41⟩
instance : SC Go.Proofs.Tryz.prog 41 := ⟨by kernel_rfl⟩
instance : TI Go.Proofs.Tryz.prog 41 1 24 (.slice none 0 0) #[(.slice none 0 0)] := ⟨by kernel_rfl, rfl⟩
instance : TD Go.Proofs.Tryz.prog 45 (.int .i64) := ⟨Go.Proofs.Tryz.underlying45⟩
instance : SC Go.Proofs.Tryz.prog 45 := ⟨by kernel_rfl⟩
instance : TI Go.Proofs.Tryz.prog 45 1 8 (.int .i64 0) #[(.int .i64 0)] := ⟨by kernel_rfl, rfl⟩
instance : TD Go.Proofs.Tryz.prog 64 (.slice 33) := ⟨Go.Proofs.Tryz.underlying64⟩
instance : SC Go.Proofs.Tryz.prog 64 := ⟨by kernel_rfl⟩
instance : TI Go.Proofs.Tryz.prog 64 1 24 (.slice none 0 0) #[(.slice none 0 0)] := ⟨by kernel_rfl, rfl⟩
instance : TD Go.Proofs.Tryz.prog 69 (.slice 27) := ⟨Go.Proofs.Tryz.underlying69⟩
instance : SC Go.Proofs.Tryz.prog 69 := ⟨by kernel_rfl⟩
instance : TI Go.Proofs.Tryz.prog 69 1 24 (.slice none 0 0) #[(.slice none 0 0)] := ⟨by kernel_rfl, rfl⟩
instance : TD Go.Proofs.Tryz.prog 70 (.slice 148) := ⟨Go.Proofs.Tryz.underlying70⟩
instance : SC Go.Proofs.Tryz.prog 70 := ⟨by kernel_rfl⟩
instance : TI Go.Proofs.Tryz.prog 70 1 24 (.slice none 0 0) #[(.slice none 0 0)] := ⟨by kernel_rfl, rfl⟩
instance : AG Go.Proofs.Tryz.prog 71 5 := ⟨by kernel_rfl, by kernel_rfl⟩
instance : TI Go.Proofs.Tryz.prog 71 5 120 (.agg #[(.slice none 0 0), (.slice none 0 0), (.slice none 0 0), (.slice none 0 0), (.slice none 0 0)]) #[(.slice none 0 0), (.slice none 0 0), (.slice none 0 0), (.slice none 0 0), (.slice none 0 0)] := ⟨by kernel_rfl, rfl⟩
instance : FA Go.Proofs.Tryz.prog 71 0 0 69 := ⟨0, by kernel_rfl⟩
instance : FA Go.Proofs.Tryz.prog 71 1 1 33 := ⟨0, by kernel_rfl⟩
instance : FA Go.Proofs.Tryz.prog 71 2 2 33 := ⟨0, by kernel_rfl⟩
instance : FA Go.Proofs.Tryz.prog 71 3 3 69 := ⟨0, by kernel_rfl⟩
instance : FA Go.Proofs.Tryz.prog 71 4 4 70 := ⟨0, by kernel_rfl⟩
instance : BP Go.Proofs.Tryz.prog 71 [(0, 1), (1, 1), (2, 1), (3, 1), (4, 1)] := ⟨by kernel_rfl⟩
instance : AG Go.Proofs.Tryz.prog 72 5 := ⟨by kernel_rfl, by kernel_rfl⟩
instance : TI Go.Proofs.Tryz.prog 72 5 120 (.agg #[(.slice none 0 0), (.slice none 0 0), (.slice none 0 0), (.slice none 0 0), (.slice none 0 0)]) #[(.slice none 0 0), (.slice none 0 0), (.slice none 0 0), (.slice none 0 0), (.slice none 0 0)] := ⟨by kernel_rfl, rfl⟩
instance : FA Go.Proofs.Tryz.prog 72 0 0 69 := ⟨0, by kernel_rfl⟩
instance : FA Go.Proofs.Tryz.prog 72 1 1 33 := ⟨0, by kernel_rfl⟩
instance : FA Go.Proofs.Tryz.prog 72 2 2 33 := ⟨0, by kernel_rfl⟩
instance : FA Go.Proofs.Tryz.prog 72 3 3 69 := ⟨0, by kernel_rfl⟩
instance : FA Go.Proofs.Tryz.prog 72 4 4 70 := ⟨0, by kernel_rfl⟩
instance : BP Go.Proofs.Tryz.prog 72 [(0, 1), (1, 1), (2, 1), (3, 1), (4, 1)] := ⟨by kernel_rfl⟩
instance : AG Go.Proofs.Tryz.prog 79 2 := ⟨by kernel_rfl, by kernel_rfl⟩
instance : TI Go.Proofs.Tryz.prog 79 2 16 (.agg #[(.int .i64 0), (.int .i64 0)]) #[(.int .i64 0), (.int .i64 0)] := ⟨by kernel_rfl, rfl⟩
instance : FA Go.Proofs.Tryz.prog 79 0 0 3 := ⟨0, by kernel_rfl⟩
instance : FA Go.Proofs.Tryz.prog 79 1 1 3 := ⟨0, by kernel_rfl⟩
instance : BP Go.Proofs.Tryz.prog 79 [(0, 1), (1, 1)] := ⟨by kernel_rfl⟩
instance : AG Go.Proofs.Tryz.prog 80 2 := ⟨by kernel_rfl, by kernel_rfl⟩
instance : TI Go.Proofs.Tryz.prog 80 2 16 (.agg #[(.int .i64 0), (.int .i64 0)]) #[(.int .i64 0), (.int .i64 0)] := ⟨by kernel_rfl, rfl⟩
instance : FA Go.Proofs.Tryz.prog 80 0 0 3 := ⟨0, by kernel_rfl⟩
instance : FA Go.Proofs.Tryz.prog 80 1 1 3 := ⟨0, by kernel_rfl⟩
instance : BP Go.Proofs.Tryz.prog 80 [(0, 1), (1, 1)] := ⟨by kernel_rfl⟩
instance : TD Go.Proofs.Tryz.prog 87 (.int .u64) := ⟨Go.Proofs.Tryz.underlying87⟩
instance : SC Go.Proofs.Tryz.prog 87 := ⟨by kernel_rfl⟩
instance : TI Go.Proofs.Tryz.prog 87 1 8 (.int .u64 0) #[(.int .u64 0)] := ⟨by kernel_rfl, rfl⟩
instance : AG Go.Proofs.Tryz.prog 88 3 := ⟨by kernel_rfl, by kernel_rfl⟩
instance : TI Go.Proofs.Tryz.prog 88 3 40 (.agg #[(.slice none 0 0), (.int .i64 0), (.int .u64 0)]) #[(.slice none 0 0), (.int .i64 0), (.int .u64 0)] := ⟨by kernel_rfl, rfl⟩
instance : FA Go.Proofs.Tryz.prog 88 0 0 33 := ⟨0, by kernel_rfl⟩
instance : FA Go.Proofs.Tryz.prog 88 1 1 3 := ⟨0, by kernel_rfl⟩
instance : FA Go.Proofs.Tryz.prog 88 2 2 87 := ⟨0, by kernel_rfl⟩
instance : BP Go.Proofs.Tryz.prog 88 [(0, 1), (1, 1), (2, 1)] := ⟨by kernel_rfl⟩
instance : AG Go.Proofs.Tryz.prog 89 3 := ⟨by kernel_rfl, by kernel_rfl⟩
instance : TI Go.Proofs.Tryz.prog 89 3 40 (.agg #[(.slice none 0 0), (.int .i64 0), (.int .u64 0)]) #[(.slice none 0 0), (.int .i64 0), (.int .u64 0)] := ⟨by kernel_rfl, rfl⟩
instance : FA Go.Proofs.Tryz.prog 89 0 0 33 := ⟨0, by kernel_rfl⟩
instance : FA Go.Proofs.Tryz.prog 89 1 1 3 := ⟨0, by kernel_rfl⟩
instance : FA Go.Proofs.Tryz.prog 89 2 2 87 := ⟨0, by kernel_rfl⟩
instance : BP Go.Proofs.Tryz.prog 89 [(0, 1), (1, 1), (2, 1)] := ⟨by kernel_rfl⟩
instance : AG Go.Proofs.Tryz.prog 95 2 := ⟨by kernel_rfl, by kernel_rfl⟩
instance : TI Go.Proofs.Tryz.prog 95 2 48 (.agg #[(.slice none 0 0), (.slice none 0 0)]) #[(.slice none 0 0), (.slice none 0 0)] := ⟨by kernel_rfl, rfl⟩
instance : FA Go.Proofs.Tryz.prog 95 0 0 25 := ⟨1, by kernel_rfl⟩
instance : BP Go.Proofs.Tryz.prog 95 [(0, 2)] := ⟨by kernel_rfl⟩
instance : AG Go.Proofs.Tryz.prog 96 2 := ⟨by kernel_rfl, by kernel_rfl⟩
instance : TI Go.Proofs.Tryz.prog 96 2 48 (.agg #[(.slice none 0 0), (.slice none 0 0)]) #[(.slice none 0 0), (.slice none 0 0)] := ⟨by kernel_rfl, rfl⟩
instance : FA Go.Proofs.Tryz.prog 96 0 0 25 := ⟨1, by kernel_rfl⟩
instance : BP Go.Proofs.Tryz.prog 96 [(0, 2)] := ⟨by kernel_rfl⟩
instance : TD Go.Proofs.Tryz.prog 97 (.array 4 80) := ⟨Go.Proofs.Tryz.underlying97⟩
instance : AG Go.Proofs.Tryz.prog 97 8 := ⟨by kernel_rfl, by kernel_rfl⟩
instance : TI Go.Proofs.Tryz.prog 97 8 64 (.agg #[(.int .i64 0), (.int .i64 0), (.int .i64 0), (.int .i64 0), (.int .i64 0), (.int .i64 0), (.int .i64 0), (.int .i64 0)]) #[(.int .i64 0), (.int .i64 0), (.int .i64 0), (.int .i64 0), (.int .i64 0), (.int .i64 0), (.int .i64 0), (.int .i64 0)] := ⟨by kernel_rfl, rfl⟩
instance : TD Go.Proofs.Tryz.prog 98 (.array 4 80) := ⟨Go.Proofs.Tryz.underlying98⟩
instance : AG Go.Proofs.Tryz.prog 98 8 := ⟨by kernel_rfl, by kernel_rfl⟩
instance : TI Go.Proofs.Tryz.prog 98 8 64 (.agg #[(.int .i64 0), (.int .i64 0), (.int .i64 0), (.int .i64 0), (.int .i64 0), (.int .i64 0), (.int .i64 0), (.int .i64 0)]) #[(.int .i64 0), (.int .i64 0), (.int .i64 0), (.int .i64 0), (.int .i64 0), (.int .i64 0), (.int .i64 0), (.int .i64 0)] := ⟨by kernel_rfl, rfl⟩
instance : TD Go.Proofs.Tryz.prog 101 (.array 22 27) := ⟨Go.Proofs.Tryz.underlying101⟩
instance : AG Go.Proofs.Tryz.prog 101 44 := ⟨by kernel_rfl, by kernel_rfl⟩
instance : TI Go.Proofs.Tryz.prog 101 44 352 (.agg #[(.int .i64 0), (.int .i64 0), (.int .i64 0), (.int .i64 0), (.int .i64 0), (.int .i64 0), (.int .i64 0), (.int .i64 0), (.int .i64 0), (.int .i64 0), (.int .i64 0), (.int .i64 0), (.int .i64 0), (.int .i64 0), (.int .i64 0), (.int .i64 0), (.int .i64 0), (.int .i64 0), (.int .i64 0), (.int .i64 0), (.int .i64 0), (.int .i64 0), (.int .i64 0), (.int .i64 0), (.int .i64 0), (.int .i64 0), (.int .i64 0), (.int .i64 0), (.int .i64 0), (.int .i64 0), (.int .i64 0), (.int .i64 0), (.int .i64 0), (.int .i64 0), (.int .i64 0), (.int .i64 0), (.int .i64 0), (.int .i64 0), (.int .i64 0), (.int .i64 0), (.int .i64 0), (.int .i64 0), (.int .i64 0), (.int .i64 0)]) #[(.int .i64 0), (.int .i64 0), (.int .i64 0), (.int .i64 0), (.int .i64 0), (.int .i64 0), (.int .i64 0), (.int .i64 0), (.int .i64 0), (.int .i64 0), (.int .i64 0), (.int .i64 0), (.int .i64 0), (.int .i64 0), (.int .i64 0), (.int .i64 0), (.int .i64 0), (.int .i64 0), (.int .i64 0), (.int .i64 0), (.int .i64 0), (.int .i64 0), (.int .i64 0), (.int .i64 0), (.int .i64 0), (.int .i64 0), (.int .i64 0), (.int .i64 0), (.int .i64 0), (.int .i64 0), (.int .i64 0), (.int .i64 0), (.int .i64 0), (.int .i64 0), (.int .i64 0), (.int .i64 0), (.int .i64 0), (.int .i64 0), (.int .i64 0), (.int .i64 0), (.int .i64 0), (.int .i64 0), (.int .i64 0), (.int .i64 0)] := ⟨by kernel_rfl, rfl⟩
instance : TD Go.Proofs.Tryz.prog 102 (.array 22 27) := ⟨Go.Proofs.Tryz.underlying102⟩
instance : AG Go.Proofs.Tryz.prog 102 44 := ⟨by kernel_rfl, by kernel_rfl⟩
instance : TI Go.Proofs.Tryz.prog 102 44 352 (.agg #[(.int .i64 0), (.int .i64 0), (.int .i64 0), (.int .i64 0), (.int .i64 0), (.int .i64 0), (.int .i64 0), (.int .i64 0), (.int .i64 0), (.int .i64 0), (.int .i64 0), (.int .i64 0), (.int .i64 0), (.int .i64 0), (.int .i64 0), (.int .i64 0), (.int .i64 0), (.int .i64 0), (.int .i64 0), (.int .i64 0), (.int .i64 0), (.int .i64 0), (.int .i64 0), (.int .i64 0), (.int .i64 0), (.int .i64 0), (.int .i64 0), (.int .i64 0), (.int .i64 0), (.int .i64 0), (.int .i64 0), (.int .i64 0), (.int .i64 0), (.int .i64 0), (.int .i64 0), (.int .i64 0), (.int .i64 0), (.int .i64 0), (.int .i64 0), (.int .i64 0), (.int .i64 0), (.int .i64 0), (.int .i64 0), (.int .i64 0)]) #[(.int .i64 0), (.int .i64 0), (.int .i64 0), (.int .i64 0), (.int .i64 0), (.int .i64 0), (.int .i64 0), (.int .i64 0), (.int .i64 0), (.int .i64 0), (.int .i64 0), (.int .i64 0), (.int .i64 0), (.int .i64 0), (.int .i64 0), (.int .i64 0), (.int .i64 0), (.int .i64 0), (.int .i64 0), (.int .i64 0), (.int .i64 0), (.int .i64 0), (.int .i64 0), (.int .i64 0), (.int .i64 0), (.int .i64 0), (.int .i64 0), (.int .i64 0), (.int .i64 0), (.int .i64 0), (.int .i64 0), (.int .i64 0), (.int .i64 0), (.int .i64 0), (.int .i64 0), (.int .i64 0), (.int .i64 0), (.int .i64 0), (.int .i64 0), (.int .i64 0), (.int .i64 0), (.int .i64 0), (.int .i64 0), (.int .i64 0)] := ⟨by kernel_rfl, rfl⟩
instance : TD Go.Proofs.Tryz.prog 106 (.slice 98) := ⟨Go.Proofs.Tryz.underlying106⟩
instance : SC Go.Proofs.Tryz.prog 106 := ⟨by kernel_rfl⟩
instance : TI Go.Proofs.Tryz.prog 106 1 24 (.slice none 0 0) #[(.slice none 0 0)] := ⟨by kernel_rfl, rfl⟩
instance : AG Go.Proofs.Tryz.prog 107 2 := ⟨by kernel_rfl, by kernel_rfl⟩
instance : TI Go.Proofs.Tryz.prog 107 2 32 (.agg #[(.int .i64 0), (.slice none 0 0)]) #[(.int .i64 0), (.slice none 0 0)] := ⟨by kernel_rfl, rfl⟩
instance : FA Go.Proofs.Tryz.prog 107 0 0 3 := ⟨0, by kernel_rfl⟩
instance : FA Go.Proofs.Tryz.prog 107 1 1 106 := ⟨0, by kernel_rfl⟩
instance : BP Go.Proofs.Tryz.prog 107 [(0, 1), (1, 1)] := ⟨by kernel_rfl⟩
instance : AG Go.Proofs.Tryz.prog 108 2 := ⟨by kernel_rfl, by kernel_rfl⟩
instance : TI Go.Proofs.Tryz.prog 108 2 32 (.agg #[(.int .i64 0), (.slice none 0 0)]) #[(.int .i64 0), (.slice none 0 0)] := ⟨by kernel_rfl, rfl⟩
instance : FA Go.Proofs.Tryz.prog 108 0 0 3 := ⟨0, by kernel_rfl⟩
instance : FA Go.Proofs.Tryz.prog 108 1 1 106 := ⟨0, by kernel_rfl⟩
instance : BP Go.Proofs.Tryz.prog 108 [(0, 1), (1, 1)] := ⟨by kernel_rfl⟩
instance : AG Go.Proofs.Tryz.prog 114 3 := ⟨by kernel_rfl, by kernel_rfl⟩
instance : TI Go.Proofs.Tryz.prog 114 3 56 (.agg #[(.slice none 0 0), (.slice none 0 0), .nilFunc]) #[(.slice none 0 0), (.slice none 0 0), .nilFunc] := ⟨by kernel_rfl, rfl⟩
instance : FA Go.Proofs.Tryz.prog 114 0 0 96 := ⟨1, by kernel_rfl⟩
instance : FA Go.Proofs.Tryz.prog 114 1 2 113 := ⟨0, by kernel_rfl⟩
instance : BP Go.Proofs.Tryz.prog 114 [(0, 2), (2, 1)] := ⟨by kernel_rfl⟩
instance : AG Go.Proofs.Tryz.prog 115 3 := ⟨by kernel_rfl, by kernel_rfl⟩
instance : TI Go.Proofs.Tryz.prog 115 3 56 (.agg #[(.slice none 0 0), (.slice none 0 0), .nilFunc]) #[(.slice none 0 0), (.slice none 0 0), .nilFunc] := ⟨by kernel_rfl, rfl⟩
instance : FA Go.Proofs.Tryz.prog 115 0 0 96 := ⟨1, by kernel_rfl⟩
instance : FA Go.Proofs.Tryz.prog 115 1 2 113 := ⟨0, by kernel_rfl⟩
instance : BP Go.Proofs.Tryz.prog 115 [(0, 2), (2, 1)] := ⟨by kernel_rfl⟩
instance : TD Go.Proofs.Tryz.prog 120 (.interface #[("muscovado/floor.day", 129)]) := ⟨Go.Proofs.Tryz.underlying120⟩
instance : SC Go.Proofs.Tryz.prog 120 := ⟨by kernel_rfl⟩
instance : TI Go.Proofs.Tryz.prog 120 1 16 .nilIface #[.nilIface] := ⟨by kernel_rfl, rfl⟩
instance : TD Go.Proofs.Tryz.prog 121 (.interface #[("muscovado/floor.day", 129)]) := ⟨Go.Proofs.Tryz.underlying121⟩
instance : SC Go.Proofs.Tryz.prog 121 := ⟨by kernel_rfl⟩
instance : TI Go.Proofs.Tryz.prog 121 1 16 .nilIface #[.nilIface] := ⟨by kernel_rfl, rfl⟩
instance : AG Go.Proofs.Tryz.prog 122 2 := ⟨by kernel_rfl, by kernel_rfl⟩
instance : TI Go.Proofs.Tryz.prog 122 2 24 (.agg #[.nilIface, (.int .i64 0)]) #[.nilIface, (.int .i64 0)] := ⟨by kernel_rfl, rfl⟩
instance : FA Go.Proofs.Tryz.prog 122 0 0 121 := ⟨0, by kernel_rfl⟩
instance : FA Go.Proofs.Tryz.prog 122 1 1 3 := ⟨0, by kernel_rfl⟩
instance : BP Go.Proofs.Tryz.prog 122 [(0, 1), (1, 1)] := ⟨by kernel_rfl⟩
instance : AG Go.Proofs.Tryz.prog 123 2 := ⟨by kernel_rfl, by kernel_rfl⟩
instance : TI Go.Proofs.Tryz.prog 123 2 24 (.agg #[.nilIface, (.int .i64 0)]) #[.nilIface, (.int .i64 0)] := ⟨by kernel_rfl, rfl⟩
instance : FA Go.Proofs.Tryz.prog 123 0 0 121 := ⟨0, by kernel_rfl⟩
instance : FA Go.Proofs.Tryz.prog 123 1 1 3 := ⟨0, by kernel_rfl⟩
instance : BP Go.Proofs.Tryz.prog 123 [(0, 1), (1, 1)] := ⟨by kernel_rfl⟩
instance : TD Go.Proofs.Tryz.prog 125 (.interface #[("Error", 253)]) := ⟨Go.Proofs.Tryz.underlying125⟩
instance : SC Go.Proofs.Tryz.prog 125 := ⟨by kernel_rfl⟩
instance : TI Go.Proofs.Tryz.prog 125 1 16 .nilIface #[.nilIface] := ⟨by kernel_rfl, rfl⟩
instance : TD Go.Proofs.Tryz.prog 126 (.interface #[("Error", 253)]) := ⟨Go.Proofs.Tryz.underlying126⟩
instance : SC Go.Proofs.Tryz.prog 126 := ⟨by kernel_rfl⟩
instance : TI Go.Proofs.Tryz.prog 126 1 16 .nilIface #[.nilIface] := ⟨by kernel_rfl, rfl⟩
instance : TD Go.Proofs.Tryz.prog 128 (.pointer 123) := ⟨Go.Proofs.Tryz.underlying128⟩
instance : SC Go.Proofs.Tryz.prog 128 := ⟨by kernel_rfl⟩
instance : TI Go.Proofs.Tryz.prog 128 1 8 (.pointer none) #[(.pointer none)] := ⟨by kernel_rfl, rfl⟩
instance : TD Go.Proofs.Tryz.prog 140 (.pointer 29) := ⟨Go.Proofs.Tryz.underlying140⟩
instance : SC Go.Proofs.Tryz.prog 140 := ⟨by kernel_rfl⟩
instance : TI Go.Proofs.Tryz.prog 140 1 8 (.pointer none) #[(.pointer none)] := ⟨by kernel_rfl, rfl⟩
instance : AG Go.Proofs.Tryz.prog 147 3 := ⟨by kernel_rfl, by kernel_rfl⟩
instance : TI Go.Proofs.Tryz.prog 147 3 24 (.agg #[(.int .i64 0), (.int .i64 0), (.int .i64 0)]) #[(.int .i64 0), (.int .i64 0), (.int .i64 0)] := ⟨by kernel_rfl, rfl⟩
instance : FA Go.Proofs.Tryz.prog 147 0 0 3 := ⟨0, by kernel_rfl⟩
instance : FA Go.Proofs.Tryz.prog 147 1 1 3 := ⟨0, by kernel_rfl⟩
instance : FA Go.Proofs.Tryz.prog 147 2 2 3 := ⟨0, by kernel_rfl⟩
instance : BP Go.Proofs.Tryz.prog 147 [(0, 1), (1, 1), (2, 1)] := ⟨by kernel_rfl⟩
instance : AG Go.Proofs.Tryz.prog 148 3 := ⟨by kernel_rfl, by kernel_rfl⟩
instance : TI Go.Proofs.Tryz.prog 148 3 24 (.agg #[(.int .i64 0), (.int .i64 0), (.int .i64 0)]) #[(.int .i64 0), (.int .i64 0), (.int .i64 0)] := ⟨by kernel_rfl, rfl⟩
instance : FA Go.Proofs.Tryz.prog 148 0 0 3 := ⟨0, by kernel_rfl⟩
instance : FA Go.Proofs.Tryz.prog 148 1 1 3 := ⟨0, by kernel_rfl⟩
instance : FA Go.Proofs.Tryz.prog 148 2 2 3 := ⟨0, by kernel_rfl⟩
instance : BP Go.Proofs.Tryz.prog 148 [(0, 1), (1, 1), (2, 1)] := ⟨by kernel_rfl⟩
instance : TD Go.Proofs.Tryz.prog 151 (.pointer 196) := ⟨Go.Proofs.Tryz.underlying151⟩
instance : SC Go.Proofs.Tryz.prog 151 := ⟨by kernel_rfl⟩
instance : TI Go.Proofs.Tryz.prog 151 1 8 (.pointer none) #[(.pointer none)] := ⟨by kernel_rfl, rfl⟩
instance : TD Go.Proofs.Tryz.prog 154 (.int .u8) := ⟨Go.Proofs.Tryz.underlying154⟩
instance : SC Go.Proofs.Tryz.prog 154 := ⟨by kernel_rfl⟩
instance : TI Go.Proofs.Tryz.prog 154 1 1 (.int .u8 0) #[(.int .u8 0)] := ⟨by kernel_rfl, rfl⟩
instance : TD Go.Proofs.Tryz.prog 159 (.int .u64) := ⟨Go.Proofs.Tryz.underlying159⟩
instance : SC Go.Proofs.Tryz.prog 159 := ⟨by kernel_rfl⟩
instance : TI Go.Proofs.Tryz.prog 159 1 8 (.int .u64 0) #[(.int .u64 0)] := ⟨by kernel_rfl, rfl⟩
instance : TD Go.Proofs.Tryz.prog 165 (.map 98 4) := ⟨Go.Proofs.Tryz.underlying165⟩
instance : SC Go.Proofs.Tryz.prog 165 := ⟨by kernel_rfl⟩
instance : TI Go.Proofs.Tryz.prog 165 1 8 (.map none) #[(.map none)] := ⟨by kernel_rfl, rfl⟩
instance : TD Go.Proofs.Tryz.prog 175 (.pointer 98) := ⟨Go.Proofs.Tryz.underlying175⟩
instance : SC Go.Proofs.Tryz.prog 175 := ⟨by kernel_rfl⟩
instance : TI Go.Proofs.Tryz.prog 175 1 8 (.pointer none) #[(.pointer none)] := ⟨by kernel_rfl, rfl⟩
instance : SC Go.Proofs.Tryz.prog 176 := ⟨by kernel_rfl⟩
instance : TI Go.Proofs.Tryz.prog 176 1 8 (.pointer none) #[(.pointer none)] := ⟨by kernel_rfl, rfl⟩
instance : TD Go.Proofs.Tryz.prog 177 (.int .u64) := ⟨Go.Proofs.Tryz.underlying177⟩
instance : SC Go.Proofs.Tryz.prog 177 := ⟨by kernel_rfl⟩
instance : TI Go.Proofs.Tryz.prog 177 1 8 (.int .u64 0) #[(.int .u64 0)] := ⟨by kernel_rfl, rfl⟩
instance : AG Go.Proofs.Tryz.prog 178 3 := ⟨by kernel_rfl, by kernel_rfl⟩
instance : TI Go.Proofs.Tryz.prog 178 3 24 (.agg #[(.pointer none), (.pointer none), (.int .u64 0)]) #[(.pointer none), (.pointer none), (.int .u64 0)] := ⟨by kernel_rfl, rfl⟩
instance : FA Go.Proofs.Tryz.prog 178 0 0 17 := ⟨0, by kernel_rfl⟩
instance : FA Go.Proofs.Tryz.prog 178 1 1 176 := ⟨0, by kernel_rfl⟩
instance : FA Go.Proofs.Tryz.prog 178 2 2 177 := ⟨0, by kernel_rfl⟩
instance : BP Go.Proofs.Tryz.prog 178 [(0, 1), (1, 1), (2, 1)] := ⟨by kernel_rfl⟩
instance : AG Go.Proofs.Tryz.prog 179 3 := ⟨by kernel_rfl, by kernel_rfl⟩
instance : TI Go.Proofs.Tryz.prog 179 3 24 (.agg #[(.pointer none), (.pointer none), (.int .u64 0)]) #[(.pointer none), (.pointer none), (.int .u64 0)] := ⟨by kernel_rfl, rfl⟩
instance : FA Go.Proofs.Tryz.prog 179 0 0 17 := ⟨0, by kernel_rfl⟩
instance : FA Go.Proofs.Tryz.prog 179 1 1 176 := ⟨0, by kernel_rfl⟩
instance : FA Go.Proofs.Tryz.prog 179 2 2 177 := ⟨0, by kernel_rfl⟩
instance : BP Go.Proofs.Tryz.prog 179 [(0, 1), (1, 1), (2, 1)] := ⟨by kernel_rfl⟩
instance : TD Go.Proofs.Tryz.prog 181 (.interface #[("AssignableTo", 186), ("Comparable", 35), ("Elem", 183), ("Implements", 186), ("Kind", 185), ("Name", 253), ("PkgPath", 253), ("Size", 268), ("String", 253), ("internal/reflectlite.common", 259), ("internal/reflectlite.uncommon", 269)]) := ⟨Go.Proofs.Tryz.underlying181⟩
instance : SC Go.Proofs.Tryz.prog 181 := ⟨by kernel_rfl⟩
instance : TI Go.Proofs.Tryz.prog 181 1 16 .nilIface #[.nilIface] := ⟨by kernel_rfl, rfl⟩
instance : TD Go.Proofs.Tryz.prog 182 (.interface #[("AssignableTo", 186), ("Comparable", 35), ("Elem", 183), ("Implements", 186), ("Kind", 185), ("Name", 253), ("PkgPath", 253), ("Size", 268), ("String", 253), ("internal/reflectlite.common", 259), ("internal/reflectlite.uncommon", 269)]) := ⟨Go.Proofs.Tryz.underlying182⟩
instance : SC Go.Proofs.Tryz.prog 182 := ⟨by kernel_rfl⟩
instance : TI Go.Proofs.Tryz.prog 182 1 16 .nilIface #[.nilIface] := ⟨by kernel_rfl, rfl⟩
instance : TD Go.Proofs.Tryz.prog 184 (.int .u8) := ⟨Go.Proofs.Tryz.underlying184⟩
instance : SC Go.Proofs.Tryz.prog 184 := ⟨by kernel_rfl⟩
instance : TI Go.Proofs.Tryz.prog 184 1 1 (.int .u8 0) #[(.int .u8 0)] := ⟨by kernel_rfl, rfl⟩
instance : TD Go.Proofs.Tryz.prog 194 (.map 198 201) := ⟨Go.Proofs.Tryz.underlying194⟩
instance : SC Go.Proofs.Tryz.prog 194 := ⟨by kernel_rfl⟩
instance : TI Go.Proofs.Tryz.prog 194 1 8 (.map none) #[(.map none)] := ⟨by kernel_rfl, rfl⟩
instance : AG Go.Proofs.Tryz.prog 195 6 := ⟨by kernel_rfl, by kernel_rfl⟩
instance : TI Go.Proofs.Tryz.prog 195 6 128 (.agg #[(.slice none 0 0), (.slice none 0 0), (.slice none 0 0), (.slice none 0 0), (.slice none 0 0), (.map none)]) #[(.slice none 0 0), (.slice none 0 0), (.slice none 0 0), (.slice none 0 0), (.slice none 0 0), (.map none)] := ⟨by kernel_rfl, rfl⟩
instance : FA Go.Proofs.Tryz.prog 195 0 0 72 := ⟨4, by kernel_rfl⟩
instance : FA Go.Proofs.Tryz.prog 195 1 5 194 := ⟨0, by kernel_rfl⟩
instance : BP Go.Proofs.Tryz.prog 195 [(0, 5), (5, 1)] := ⟨by kernel_rfl⟩
instance : AG Go.Proofs.Tryz.prog 196 6 := ⟨by kernel_rfl, by kernel_rfl⟩
instance : TI Go.Proofs.Tryz.prog 196 6 128 (.agg #[(.slice none 0 0), (.slice none 0 0), (.slice none 0 0), (.slice none 0 0), (.slice none 0 0), (.map none)]) #[(.slice none 0 0), (.slice none 0 0), (.slice none 0 0), (.slice none 0 0), (.slice none 0 0), (.map none)] := ⟨by kernel_rfl, rfl⟩
instance : FA Go.Proofs.Tryz.prog 196 0 0 72 := ⟨4, by kernel_rfl⟩
instance : FA Go.Proofs.Tryz.prog 196 1 5 194 := ⟨0, by kernel_rfl⟩
instance : BP Go.Proofs.Tryz.prog 196 [(0, 5), (5, 1)] := ⟨by kernel_rfl⟩
instance : TD Go.Proofs.Tryz.prog 197 (.array 5 3) := ⟨Go.Proofs.Tryz.underlying197⟩
instance : AG Go.Proofs.Tryz.prog 197 5 := ⟨by kernel_rfl, by kernel_rfl⟩
instance : TI Go.Proofs.Tryz.prog 197 5 40 (.agg #[(.int .i64 0), (.int .i64 0), (.int .i64 0), (.int .i64 0), (.int .i64 0)]) #[(.int .i64 0), (.int .i64 0), (.int .i64 0), (.int .i64 0), (.int .i64 0)] := ⟨by kernel_rfl, rfl⟩
instance : TD Go.Proofs.Tryz.prog 198 (.array 5 3) := ⟨Go.Proofs.Tryz.underlying198⟩
instance : AG Go.Proofs.Tryz.prog 198 5 := ⟨by kernel_rfl, by kernel_rfl⟩
instance : TI Go.Proofs.Tryz.prog 198 5 40 (.agg #[(.int .i64 0), (.int .i64 0), (.int .i64 0), (.int .i64 0), (.int .i64 0)]) #[(.int .i64 0), (.int .i64 0), (.int .i64 0), (.int .i64 0), (.int .i64 0)] := ⟨by kernel_rfl, rfl⟩
instance : TD Go.Proofs.Tryz.prog 199 (.array 3 27) := ⟨Go.Proofs.Tryz.underlying199⟩
instance : AG Go.Proofs.Tryz.prog 199 6 := ⟨by kernel_rfl, by kernel_rfl⟩
instance : TI Go.Proofs.Tryz.prog 199 6 48 (.agg #[(.int .i64 0), (.int .i64 0), (.int .i64 0), (.int .i64 0), (.int .i64 0), (.int .i64 0)]) #[(.int .i64 0), (.int .i64 0), (.int .i64 0), (.int .i64 0), (.int .i64 0), (.int .i64 0)] := ⟨by kernel_rfl, rfl⟩
instance : AG Go.Proofs.Tryz.prog 200 12 := ⟨by kernel_rfl, by kernel_rfl⟩
instance : TI Go.Proofs.Tryz.prog 200 12 96 (.agg #[(.int .i64 0), (.int .i64 0), (.int .i64 0), (.int .i64 0), (.int .i64 0), (.int .i64 0), (.int .i64 0), (.int .i64 0), (.int .i64 0), (.int .i64 0), (.int .i64 0), (.int .i64 0)]) #[(.int .i64 0), (.int .i64 0), (.int .i64 0), (.int .i64 0), (.int .i64 0), (.int .i64 0), (.int .i64 0), (.int .i64 0), (.int .i64 0), (.int .i64 0), (.int .i64 0), (.int .i64 0)] := ⟨by kernel_rfl, rfl⟩
instance : FA Go.Proofs.Tryz.prog 200 0 0 198 := ⟨4, by kernel_rfl⟩
instance : FA Go.Proofs.Tryz.prog 200 1 5 199 := ⟨5, by kernel_rfl⟩
instance : FA Go.Proofs.Tryz.prog 200 2 11 3 := ⟨0, by kernel_rfl⟩
instance : BP Go.Proofs.Tryz.prog 200 [(0, 5), (5, 6), (11, 1)] := ⟨by kernel_rfl⟩
instance : AG Go.Proofs.Tryz.prog 201 12 := ⟨by kernel_rfl, by kernel_rfl⟩
instance : TI Go.Proofs.Tryz.prog 201 12 96 (.agg #[(.int .i64 0), (.int .i64 0), (.int .i64 0), (.int .i64 0), (.int .i64 0), (.int .i64 0), (.int .i64 0), (.int .i64 0), (.int .i64 0), (.int .i64 0), (.int .i64 0), (.int .i64 0)]) #[(.int .i64 0), (.int .i64 0), (.int .i64 0), (.int .i64 0), (.int .i64 0), (.int .i64 0), (.int .i64 0), (.int .i64 0), (.int .i64 0), (.int .i64 0), (.int .i64 0), (.int .i64 0)] := ⟨by kernel_rfl, rfl⟩
instance : FA Go.Proofs.Tryz.prog 201 0 0 198 := ⟨4, by kernel_rfl⟩
instance : FA Go.Proofs.Tryz.prog 201 1 5 199 := ⟨5, by kernel_rfl⟩
instance : FA Go.Proofs.Tryz.prog 201 2 11 3 := ⟨0, by kernel_rfl⟩
instance : BP Go.Proofs.Tryz.prog 201 [(0, 5), (5, 6), (11, 1)] := ⟨by kernel_rfl⟩
instance : TD Go.Proofs.Tryz.prog 206 (.pointer 108) := ⟨Go.Proofs.Tryz.underlying206⟩
instance : SC Go.Proofs.Tryz.prog 206 := ⟨by kernel_rfl⟩
instance : TI Go.Proofs.Tryz.prog 206 1 8 (.pointer none) #[(.pointer none)] := ⟨by kernel_rfl, rfl⟩
instance : TD Go.Proofs.Tryz.prog 208 (.slice 209) := ⟨Go.Proofs.Tryz.underlying208⟩
instance : SC Go.Proofs.Tryz.prog 208 := ⟨by kernel_rfl⟩
instance : TI Go.Proofs.Tryz.prog 208 1 24 (.slice none 0 0) #[(.slice none 0 0)] := ⟨by kernel_rfl, rfl⟩
instance : TD Go.Proofs.Tryz.prog 209 (.chan .both 98) := ⟨Go.Proofs.Tryz.underlying209⟩
instance : SC Go.Proofs.Tryz.prog 209 := ⟨by kernel_rfl⟩
instance : TI Go.Proofs.Tryz.prog 209 1 8 (.chan none) #[(.chan none)] := ⟨by kernel_rfl, rfl⟩
instance : AG Go.Proofs.Tryz.prog 214 1 := ⟨by kernel_rfl, by kernel_rfl⟩
instance : TI Go.Proofs.Tryz.prog 214 1 8 (.agg #[(.pointer none)]) #[(.pointer none)] := ⟨by kernel_rfl, rfl⟩
instance : FA Go.Proofs.Tryz.prog 214 0 0 17 := ⟨0, by kernel_rfl⟩
instance : BP Go.Proofs.Tryz.prog 214 [(0, 1)] := ⟨by kernel_rfl⟩
instance : AG Go.Proofs.Tryz.prog 215 1 := ⟨by kernel_rfl, by kernel_rfl⟩
instance : TI Go.Proofs.Tryz.prog 215 1 8 (.agg #[(.pointer none)]) #[(.pointer none)] := ⟨by kernel_rfl, rfl⟩
instance : FA Go.Proofs.Tryz.prog 215 0 0 17 := ⟨0, by kernel_rfl⟩
instance : BP Go.Proofs.Tryz.prog 215 [(0, 1)] := ⟨by kernel_rfl⟩
instance : TD Go.Proofs.Tryz.prog 216 (.pointer 271) := ⟨Go.Proofs.Tryz.underlying216⟩
instance : SC Go.Proofs.Tryz.prog 216 := ⟨by kernel_rfl⟩
instance : TI Go.Proofs.Tryz.prog 216 1 8 (.pointer none) #[(.pointer none)] := ⟨by kernel_rfl, rfl⟩
instance : TD Go.Proofs.Tryz.prog 220 (.interface #[("As", 222)]) := ⟨Go.Proofs.Tryz.underlying220⟩
instance : SC Go.Proofs.Tryz.prog 220 := ⟨by kernel_rfl⟩
instance : TI Go.Proofs.Tryz.prog 220 1 16 .nilIface #[.nilIface] := ⟨by kernel_rfl, rfl⟩
instance : TD Go.Proofs.Tryz.prog 223 (.interface #[("Unwrap", 224)]) := ⟨Go.Proofs.Tryz.underlying223⟩
instance : SC Go.Proofs.Tryz.prog 223 := ⟨by kernel_rfl⟩
instance : TI Go.Proofs.Tryz.prog 223 1 16 .nilIface #[.nilIface] := ⟨by kernel_rfl, rfl⟩
instance : TD Go.Proofs.Tryz.prog 225 (.interface #[("Unwrap", 227)]) := ⟨Go.Proofs.Tryz.underlying225⟩
instance : SC Go.Proofs.Tryz.prog 225 := ⟨by kernel_rfl⟩
instance : TI Go.Proofs.Tryz.prog 225 1 16 .nilIface #[.nilIface] := ⟨by kernel_rfl, rfl⟩
instance : TD Go.Proofs.Tryz.prog 226 (.slice 126) := ⟨Go.Proofs.Tryz.underlying226⟩
instance : SC Go.Proofs.Tryz.prog 226 := ⟨by kernel_rfl⟩
instance : TI Go.Proofs.Tryz.prog 226 1 24 (.slice none 0 0) #[(.slice none 0 0)] := ⟨by kernel_rfl, rfl⟩
instance : AG Go.Proofs.Tryz.prog 228 1 := ⟨by kernel_rfl, by kernel_rfl⟩
instance : TI Go.Proofs.Tryz.prog 228 1 8 (.agg #[(.int .i64 0)]) #[(.int .i64 0)] := ⟨by kernel_rfl, rfl⟩
instance : FA Go.Proofs.Tryz.prog 228 0 0 3 := ⟨0, by kernel_rfl⟩
instance : BP Go.Proofs.Tryz.prog 228 [(0, 1)] := ⟨by kernel_rfl⟩
instance : AG Go.Proofs.Tryz.prog 229 1 := ⟨by kernel_rfl, by kernel_rfl⟩
instance : TI Go.Proofs.Tryz.prog 229 1 8 (.agg #[(.int .i64 0)]) #[(.int .i64 0)] := ⟨by kernel_rfl, rfl⟩
instance : FA Go.Proofs.Tryz.prog 229 0 0 3 := ⟨0, by kernel_rfl⟩
instance : BP Go.Proofs.Tryz.prog 229 [(0, 1)] := ⟨by kernel_rfl⟩
instance : AG Go.Proofs.Tryz.prog 230 1 := ⟨by kernel_rfl, by kernel_rfl⟩
instance : TI Go.Proofs.Tryz.prog 230 1 8 (.agg #[(.int .i64 0)]) #[(.int .i64 0)] := ⟨by kernel_rfl, rfl⟩
instance : FA Go.Proofs.Tryz.prog 230 0 0 3 := ⟨0, by kernel_rfl⟩
instance : BP Go.Proofs.Tryz.prog 230 [(0, 1)] := ⟨by kernel_rfl⟩
instance : TD Go.Proofs.Tryz.prog 234 (.array 3 3) := ⟨Go.Proofs.Tryz.underlying234⟩
instance : AG Go.Proofs.Tryz.prog 234 3 := ⟨by kernel_rfl, by kernel_rfl⟩
instance : TI Go.Proofs.Tryz.prog 234 3 24 (.agg #[(.int .i64 0), (.int .i64 0), (.int .i64 0)]) #[(.int .i64 0), (.int .i64 0), (.int .i64 0)] := ⟨by kernel_rfl, rfl⟩
instance : AG Go.Proofs.Tryz.prog 254 4 := ⟨by kernel_rfl, by kernel_rfl⟩
instance : TI Go.Proofs.Tryz.prog 254 4 40 (.agg #[(.pointer none), (.pointer none), (.pointer none), (.string ⟨#[]⟩)]) #[(.pointer none), (.pointer none), (.pointer none), (.string ⟨#[]⟩)] := ⟨by kernel_rfl, rfl⟩
instance : FA Go.Proofs.Tryz.prog 254 0 0 17 := ⟨0, by kernel_rfl⟩
instance : FA Go.Proofs.Tryz.prog 254 1 1 17 := ⟨0, by kernel_rfl⟩
instance : FA Go.Proofs.Tryz.prog 254 2 2 17 := ⟨0, by kernel_rfl⟩
instance : FA Go.Proofs.Tryz.prog 254 3 3 9 := ⟨0, by kernel_rfl⟩
instance : BP Go.Proofs.Tryz.prog 254 [(0, 1), (1, 1), (2, 1), (3, 1)] := ⟨by kernel_rfl⟩
instance : AG Go.Proofs.Tryz.prog 255 4 := ⟨by kernel_rfl, by kernel_rfl⟩
instance : TI Go.Proofs.Tryz.prog 255 4 40 (.agg #[(.pointer none), (.pointer none), (.pointer none), (.string ⟨#[]⟩)]) #[(.pointer none), (.pointer none), (.pointer none), (.string ⟨#[]⟩)] := ⟨by kernel_rfl, rfl⟩
instance : FA Go.Proofs.Tryz.prog 255 0 0 17 := ⟨0, by kernel_rfl⟩
instance : FA Go.Proofs.Tryz.prog 255 1 1 17 := ⟨0, by kernel_rfl⟩
instance : FA Go.Proofs.Tryz.prog 255 2 2 17 := ⟨0, by kernel_rfl⟩
instance : FA Go.Proofs.Tryz.prog 255 3 3 9 := ⟨0, by kernel_rfl⟩
instance : BP Go.Proofs.Tryz.prog 255 [(0, 1), (1, 1), (2, 1), (3, 1)] := ⟨by kernel_rfl⟩
instance : TD Go.Proofs.Tryz.prog 256 (.array 0 16) := ⟨Go.Proofs.Tryz.underlying256⟩
instance : AG Go.Proofs.Tryz.prog 256 0 := ⟨by kernel_rfl, by kernel_rfl⟩
instance : TI Go.Proofs.Tryz.prog 256 0 0 (.agg #[]) #[] := ⟨by kernel_rfl, rfl⟩
instance : AG Go.Proofs.Tryz.prog 257 0 := ⟨by kernel_rfl, by kernel_rfl⟩
instance : TI Go.Proofs.Tryz.prog 257 0 0 (.agg #[]) #[] := ⟨by kernel_rfl, rfl⟩
instance : BP Go.Proofs.Tryz.prog 257 [(0, 0)] := ⟨by kernel_rfl⟩
instance : AG Go.Proofs.Tryz.prog 258 0 := ⟨by kernel_rfl, by kernel_rfl⟩
instance : TI Go.Proofs.Tryz.prog 258 0 0 (.agg #[]) #[] := ⟨by kernel_rfl, rfl⟩
instance : BP Go.Proofs.Tryz.prog 258 [(0, 0)] := ⟨by kernel_rfl⟩
instance : TD Go.Proofs.Tryz.prog 260 (.int .u32) := ⟨Go.Proofs.Tryz.underlying260⟩
instance : SC Go.Proofs.Tryz.prog 260 := ⟨by kernel_rfl⟩
instance : TI Go.Proofs.Tryz.prog 260 1 4 (.int .u32 0) #[(.int .u32 0)] := ⟨by kernel_rfl, rfl⟩
instance : TD Go.Proofs.Tryz.prog 261 (.int .u8) := ⟨Go.Proofs.Tryz.underlying261⟩
instance : SC Go.Proofs.Tryz.prog 261 := ⟨by kernel_rfl⟩
instance : TI Go.Proofs.Tryz.prog 261 1 1 (.int .u8 0) #[(.int .u8 0)] := ⟨by kernel_rfl, rfl⟩
instance : TD Go.Proofs.Tryz.prog 263 (.pointer 5) := ⟨Go.Proofs.Tryz.underlying263⟩
instance : SC Go.Proofs.Tryz.prog 263 := ⟨by kernel_rfl⟩
instance : TI Go.Proofs.Tryz.prog 263 1 8 (.pointer none) #[(.pointer none)] := ⟨by kernel_rfl, rfl⟩
instance : TD Go.Proofs.Tryz.prog 264 (.int .i32) := ⟨Go.Proofs.Tryz.underlying264⟩
instance : SC Go.Proofs.Tryz.prog 264 := ⟨by kernel_rfl⟩
instance : TI Go.Proofs.Tryz.prog 264 1 4 (.int .i32 0) #[(.int .i32 0)] := ⟨by kernel_rfl, rfl⟩
instance : TD Go.Proofs.Tryz.prog 265 (.int .i32) := ⟨Go.Proofs.Tryz.underlying265⟩
instance : SC Go.Proofs.Tryz.prog 265 := ⟨by kernel_rfl⟩
instance : TI Go.Proofs.Tryz.prog 265 1 4 (.int .i32 0) #[(.int .i32 0)] := ⟨by kernel_rfl, rfl⟩
instance : AG Go.Proofs.Tryz.prog 266 11 := ⟨by kernel_rfl, by kernel_rfl⟩
instance : TI Go.Proofs.Tryz.prog 266 11 48 (.agg #[(.int .u64 0), (.int .u64 0), (.int .u32 0), (.int .u8 0), (.int .u8 0), (.int .u8 0), (.int .u8 0), .nilFunc, (.pointer none), (.int .i32 0), (.int .i32 0)]) #[(.int .u64 0), (.int .u64 0), (.int .u32 0), (.int .u8 0), (.int .u8 0), (.int .u8 0), (.int .u8 0), .nilFunc, (.pointer none), (.int .i32 0), (.int .i32 0)] := ⟨by kernel_rfl, rfl⟩
instance : FA Go.Proofs.Tryz.prog 266 0 0 12 := ⟨0, by kernel_rfl⟩
instance : FA Go.Proofs.Tryz.prog 266 1 1 12 := ⟨0, by kernel_rfl⟩
instance : FA Go.Proofs.Tryz.prog 266 2 2 260 := ⟨0, by kernel_rfl⟩
instance : FA Go.Proofs.Tryz.prog 266 3 3 261 := ⟨0, by kernel_rfl⟩
instance : FA Go.Proofs.Tryz.prog 266 4 4 5 := ⟨0, by kernel_rfl⟩
instance : FA Go.Proofs.Tryz.prog 266 5 5 5 := ⟨0, by kernel_rfl⟩
instance : FA Go.Proofs.Tryz.prog 266 6 6 184 := ⟨0, by kernel_rfl⟩
instance : FA Go.Proofs.Tryz.prog 266 7 7 262 := ⟨0, by kernel_rfl⟩
instance : FA Go.Proofs.Tryz.prog 266 8 8 263 := ⟨0, by kernel_rfl⟩
instance : FA Go.Proofs.Tryz.prog 266 9 9 264 := ⟨0, by kernel_rfl⟩
instance : FA Go.Proofs.Tryz.prog 266 10 10 265 := ⟨0, by kernel_rfl⟩
instance : BP Go.Proofs.Tryz.prog 266 [(0, 1), (1, 1), (2, 1), (3, 1), (4, 1), (5, 1), (6, 1), (7, 1), (8, 1), (9, 1), (10, 1)] := ⟨by kernel_rfl⟩
instance : AG Go.Proofs.Tryz.prog 267 11 := ⟨by kernel_rfl, by kernel_rfl⟩
instance : TI Go.Proofs.Tryz.prog 267 11 48 (.agg #[(.int .u64 0), (.int .u64 0), (.int .u32 0), (.int .u8 0), (.int .u8 0), (.int .u8 0), (.int .u8 0), .nilFunc, (.pointer none), (.int .i32 0), (.int .i32 0)]) #[(.int .u64 0), (.int .u64 0), (.int .u32 0), (.int .u8 0), (.int .u8 0), (.int .u8 0), (.int .u8 0), .nilFunc, (.pointer none), (.int .i32 0), (.int .i32 0)] := ⟨by kernel_rfl, rfl⟩
instance : FA Go.Proofs.Tryz.prog 267 0 0 12 := ⟨0, by kernel_rfl⟩
instance : FA Go.Proofs.Tryz.prog 267 1 1 12 := ⟨0, by kernel_rfl⟩
instance : FA Go.Proofs.Tryz.prog 267 2 2 260 := ⟨0, by kernel_rfl⟩
instance : FA Go.Proofs.Tryz.prog 267 3 3 261 := ⟨0, by kernel_rfl⟩
instance : FA Go.Proofs.Tryz.prog 267 4 4 5 := ⟨0, by kernel_rfl⟩
instance : FA Go.Proofs.Tryz.prog 267 5 5 5 := ⟨0, by kernel_rfl⟩
instance : FA Go.Proofs.Tryz.prog 267 6 6 184 := ⟨0, by kernel_rfl⟩
instance : FA Go.Proofs.Tryz.prog 267 7 7 262 := ⟨0, by kernel_rfl⟩
instance : FA Go.Proofs.Tryz.prog 267 8 8 263 := ⟨0, by kernel_rfl⟩
instance : FA Go.Proofs.Tryz.prog 267 9 9 264 := ⟨0, by kernel_rfl⟩
instance : FA Go.Proofs.Tryz.prog 267 10 10 265 := ⟨0, by kernel_rfl⟩
instance : BP Go.Proofs.Tryz.prog 267 [(0, 1), (1, 1), (2, 1), (3, 1), (4, 1), (5, 1), (6, 1), (7, 1), (8, 1), (9, 1), (10, 1)] := ⟨by kernel_rfl⟩
instance : AG Go.Proofs.Tryz.prog 270 2 := ⟨by kernel_rfl, by kernel_rfl⟩
instance : TI Go.Proofs.Tryz.prog 270 2 24 (.agg #[(.string ⟨#[]⟩), (.int .u8 0)]) #[(.string ⟨#[]⟩), (.int .u8 0)] := ⟨by kernel_rfl, rfl⟩
instance : FA Go.Proofs.Tryz.prog 270 0 0 9 := ⟨0, by kernel_rfl⟩
instance : FA Go.Proofs.Tryz.prog 270 1 1 184 := ⟨0, by kernel_rfl⟩
instance : BP Go.Proofs.Tryz.prog 270 [(0, 1), (1, 1)] := ⟨by kernel_rfl⟩
instance : AG Go.Proofs.Tryz.prog 271 2 := ⟨by kernel_rfl, by kernel_rfl⟩
instance : TI Go.Proofs.Tryz.prog 271 2 24 (.agg #[(.string ⟨#[]⟩), (.int .u8 0)]) #[(.string ⟨#[]⟩), (.int .u8 0)] := ⟨by kernel_rfl, rfl⟩
instance : FA Go.Proofs.Tryz.prog 271 0 0 9 := ⟨0, by kernel_rfl⟩
instance : FA Go.Proofs.Tryz.prog 271 1 1 184 := ⟨0, by kernel_rfl⟩
instance : BP Go.Proofs.Tryz.prog 271 [(0, 1), (1, 1)] := ⟨by kernel_rfl⟩
instance : TD Go.Proofs.Tryz.prog 272 (.pointer 276) := ⟨Go.Proofs.Tryz.underlying272⟩
instance : SC Go.Proofs.Tryz.prog 272 := ⟨by kernel_rfl⟩
instance : TI Go.Proofs.Tryz.prog 272 1 8 (.pointer none) #[(.pointer none)] := ⟨by kernel_rfl, rfl⟩
instance : TD Go.Proofs.Tryz.prog 274 (.int .u16) := ⟨Go.Proofs.Tryz.underlying274⟩
instance : SC Go.Proofs.Tryz.prog 274 := ⟨by kernel_rfl⟩
instance : TI Go.Proofs.Tryz.prog 274 1 2 (.int .u16 0) #[(.int .u16 0)] := ⟨by kernel_rfl, rfl⟩
instance : AG Go.Proofs.Tryz.prog 275 5 := ⟨by kernel_rfl, by kernel_rfl⟩
instance : TI Go.Proofs.Tryz.prog 275 5 16 (.agg #[(.int .i32 0), (.int .u16 0), (.int .u16 0), (.int .u32 0), (.int .u32 0)]) #[(.int .i32 0), (.int .u16 0), (.int .u16 0), (.int .u32 0), (.int .u32 0)] := ⟨by kernel_rfl, rfl⟩
instance : FA Go.Proofs.Tryz.prog 275 0 0 264 := ⟨0, by kernel_rfl⟩
instance : FA Go.Proofs.Tryz.prog 275 1 1 274 := ⟨0, by kernel_rfl⟩
instance : FA Go.Proofs.Tryz.prog 275 2 2 274 := ⟨0, by kernel_rfl⟩
instance : FA Go.Proofs.Tryz.prog 275 3 3 260 := ⟨0, by kernel_rfl⟩
instance : FA Go.Proofs.Tryz.prog 275 4 4 260 := ⟨0, by kernel_rfl⟩
instance : BP Go.Proofs.Tryz.prog 275 [(0, 1), (1, 1), (2, 1), (3, 1), (4, 1)] := ⟨by kernel_rfl⟩
instance : AG Go.Proofs.Tryz.prog 276 5 := ⟨by kernel_rfl, by kernel_rfl⟩
instance : TI Go.Proofs.Tryz.prog 276 5 16 (.agg #[(.int .i32 0), (.int .u16 0), (.int .u16 0), (.int .u32 0), (.int .u32 0)]) #[(.int .i32 0), (.int .u16 0), (.int .u16 0), (.int .u32 0), (.int .u32 0)] := ⟨by kernel_rfl, rfl⟩
instance : FA Go.Proofs.Tryz.prog 276 0 0 264 := ⟨0, by kernel_rfl⟩
instance : FA Go.Proofs.Tryz.prog 276 1 1 274 := ⟨0, by kernel_rfl⟩
instance : FA Go.Proofs.Tryz.prog 276 2 2 274 := ⟨0, by kernel_rfl⟩
instance : FA Go.Proofs.Tryz.prog 276 3 3 260 := ⟨0, by kernel_rfl⟩
instance : FA Go.Proofs.Tryz.prog 276 4 4 260 := ⟨0, by kernel_rfl⟩
instance : BP Go.Proofs.Tryz.prog 276 [(0, 1), (1, 1), (2, 1), (3, 1), (4, 1)] := ⟨by kernel_rfl⟩
instance : TD Go.Proofs.Tryz.prog 277 (.slice 280) := ⟨Go.Proofs.Tryz.underlying277⟩
instance : SC Go.Proofs.Tryz.prog 277 := ⟨by kernel_rfl⟩
instance : TI Go.Proofs.Tryz.prog 277 1 24 (.slice none 0 0) #[(.slice none 0 0)] := ⟨by kernel_rfl, rfl⟩
instance : TD Go.Proofs.Tryz.prog 278 (.int .i32) := ⟨Go.Proofs.Tryz.underlying278⟩
instance : SC Go.Proofs.Tryz.prog 278 := ⟨by kernel_rfl⟩
instance : TI Go.Proofs.Tryz.prog 278 1 4 (.int .i32 0) #[(.int .i32 0)] := ⟨by kernel_rfl, rfl⟩
instance : AG Go.Proofs.Tryz.prog 279 4 := ⟨by kernel_rfl, by kernel_rfl⟩
instance : TI Go.Proofs.Tryz.prog 279 4 16 (.agg #[(.int .i32 0), (.int .i32 0), (.int .i32 0), (.int .i32 0)]) #[(.int .i32 0), (.int .i32 0), (.int .i32 0), (.int .i32 0)] := ⟨by kernel_rfl, rfl⟩
instance : FA Go.Proofs.Tryz.prog 279 0 0 264 := ⟨0, by kernel_rfl⟩
instance : FA Go.Proofs.Tryz.prog 279 1 1 265 := ⟨0, by kernel_rfl⟩
instance : FA Go.Proofs.Tryz.prog 279 2 2 278 := ⟨0, by kernel_rfl⟩
instance : FA Go.Proofs.Tryz.prog 279 3 3 278 := ⟨0, by kernel_rfl⟩
instance : BP Go.Proofs.Tryz.prog 279 [(0, 1), (1, 1), (2, 1), (3, 1)] := ⟨by kernel_rfl⟩
instance : AG Go.Proofs.Tryz.prog 280 4 := ⟨by kernel_rfl, by kernel_rfl⟩
instance : TI Go.Proofs.Tryz.prog 280 4 16 (.agg #[(.int .i32 0), (.int .i32 0), (.int .i32 0), (.int .i32 0)]) #[(.int .i32 0), (.int .i32 0), (.int .i32 0), (.int .i32 0)] := ⟨by kernel_rfl, rfl⟩
instance : FA Go.Proofs.Tryz.prog 280 0 0 264 := ⟨0, by kernel_rfl⟩
instance : FA Go.Proofs.Tryz.prog 280 1 1 265 := ⟨0, by kernel_rfl⟩
instance : FA Go.Proofs.Tryz.prog 280 2 2 278 := ⟨0, by kernel_rfl⟩
instance : FA Go.Proofs.Tryz.prog 280 3 3 278 := ⟨0, by kernel_rfl⟩
instance : BP Go.Proofs.Tryz.prog 280 [(0, 1), (1, 1), (2, 1), (3, 1)] := ⟨by kernel_rfl⟩
instance : TD Go.Proofs.Tryz.prog 281 (.pointer 126) := ⟨Go.Proofs.Tryz.underlying281⟩
instance : SC Go.Proofs.Tryz.prog 281 := ⟨by kernel_rfl⟩
instance : TI Go.Proofs.Tryz.prog 281 1 8 (.pointer none) #[(.pointer none)] := ⟨by kernel_rfl, rfl⟩
instance : FB Go.Proofs.Tryz.prog 2 := ⟨by kernel_rfl⟩
instance : FB Go.Proofs.Tryz.prog 3 := ⟨by kernel_rfl⟩
instance : FB Go.Proofs.Tryz.prog 4 := ⟨by kernel_rfl⟩
instance : FB Go.Proofs.Tryz.prog 5 := ⟨by kernel_rfl⟩
instance : FB Go.Proofs.Tryz.prog 6 := ⟨by kernel_rfl⟩
instance : FB Go.Proofs.Tryz.prog 7 := ⟨by kernel_rfl⟩
instance : FB Go.Proofs.Tryz.prog 8 := ⟨by kernel_rfl⟩
instance : FB Go.Proofs.Tryz.prog 9 := ⟨by kernel_rfl⟩
instance : FB Go.Proofs.Tryz.prog 10 := ⟨by kernel_rfl⟩
instance : FB Go.Proofs.Tryz.prog 11 := ⟨by kernel_rfl⟩
instance : FB Go.Proofs.Tryz.prog 12 := ⟨by kernel_rfl⟩
instance : FB Go.Proofs.Tryz.prog 13 := ⟨by kernel_rfl⟩
instance : FB Go.Proofs.Tryz.prog 14 := ⟨by kernel_rfl⟩
instance : FB Go.Proofs.Tryz.prog 15 := ⟨by kernel_rfl⟩
instance : FB Go.Proofs.Tryz.prog 16 := ⟨by kernel_rfl⟩
instance : FB Go.Proofs.Tryz.prog 17 := ⟨by kernel_rfl⟩
instance : FB Go.Proofs.Tryz.prog 18 := ⟨by kernel_rfl⟩
instance : FB Go.Proofs.Tryz.prog 19 := ⟨by kernel_rfl⟩
instance : FB Go.Proofs.Tryz.prog 20 := ⟨by kernel_rfl⟩
instance : FB Go.Proofs.Tryz.prog 21 := ⟨by kernel_rfl⟩
instance : FB Go.Proofs.Tryz.prog 22 := ⟨by kernel_rfl⟩
instance : FB Go.Proofs.Tryz.prog 23 := ⟨by kernel_rfl⟩
instance : FB Go.Proofs.Tryz.prog 24 := ⟨by kernel_rfl⟩
instance : FB Go.Proofs.Tryz.prog 25 := ⟨by kernel_rfl⟩
instance : FB Go.Proofs.Tryz.prog 26 := ⟨by kernel_rfl⟩
instance : FB Go.Proofs.Tryz.prog 27 := ⟨by kernel_rfl⟩
instance : FB Go.Proofs.Tryz.prog 28 := ⟨by kernel_rfl⟩
instance : FB Go.Proofs.Tryz.prog 29 := ⟨by kernel_rfl⟩
instance : FB Go.Proofs.Tryz.prog 30 := ⟨by kernel_rfl⟩
instance : FB Go.Proofs.Tryz.prog 31 := ⟨by kernel_rfl⟩
instance : FB Go.Proofs.Tryz.prog 32 := ⟨by kernel_rfl⟩
instance : FB Go.Proofs.Tryz.prog 33 := ⟨by kernel_rfl⟩
instance : FB Go.Proofs.Tryz.prog 34 := ⟨by kernel_rfl⟩
instance : FB Go.Proofs.Tryz.prog 35 := ⟨by kernel_rfl⟩
instance : FB Go.Proofs.Tryz.prog 36 := ⟨by kernel_rfl⟩
instance : FB Go.Proofs.Tryz.prog 37 := ⟨by kernel_rfl⟩
instance : FB Go.Proofs.Tryz.prog 38 := ⟨by kernel_rfl⟩
instance : FB Go.Proofs.Tryz.prog 39 := ⟨by kernel_rfl⟩
instance : FB Go.Proofs.Tryz.prog 40 := ⟨by kernel_rfl⟩
instance : FB Go.Proofs.Tryz.prog 41 := ⟨by kernel_rfl⟩
instance : FB Go.Proofs.Tryz.prog 42 := ⟨by kernel_rfl⟩
instance : FB Go.Proofs.Tryz.prog 43 := ⟨by kernel_rfl⟩
instance : FB Go.Proofs.Tryz.prog 44 := ⟨by kernel_rfl⟩
instance : FB Go.Proofs.Tryz.prog 45 := ⟨by kernel_rfl⟩
instance : FB Go.Proofs.Tryz.prog 46 := ⟨by kernel_rfl⟩
instance : FB Go.Proofs.Tryz.prog 47 := ⟨by kernel_rfl⟩
instance : FB Go.Proofs.Tryz.prog 48 := ⟨by kernel_rfl⟩
instance : FB Go.Proofs.Tryz.prog 49 := ⟨by kernel_rfl⟩
instance : FB Go.Proofs.Tryz.prog 50 := ⟨by kernel_rfl⟩
instance : FB Go.Proofs.Tryz.prog 51 := ⟨by kernel_rfl⟩
instance : FB Go.Proofs.Tryz.prog 52 := ⟨by kernel_rfl⟩
instance : FB Go.Proofs.Tryz.prog 53 := ⟨by kernel_rfl⟩
instance : FB Go.Proofs.Tryz.prog 54 := ⟨by kernel_rfl⟩
instance : FB Go.Proofs.Tryz.prog 55 := ⟨by kernel_rfl⟩
instance : FB Go.Proofs.Tryz.prog 56 := ⟨by kernel_rfl⟩
instance : FB Go.Proofs.Tryz.prog 57 := ⟨by kernel_rfl⟩
instance : FB Go.Proofs.Tryz.prog 58 := ⟨by kernel_rfl⟩
instance : FB Go.Proofs.Tryz.prog 59 := ⟨by kernel_rfl⟩
instance : FB Go.Proofs.Tryz.prog 60 := ⟨by kernel_rfl⟩
instance : FB Go.Proofs.Tryz.prog 61 := ⟨by kernel_rfl⟩
instance : FB Go.Proofs.Tryz.prog 62 := ⟨by kernel_rfl⟩
instance : FB Go.Proofs.Tryz.prog 63 := ⟨by kernel_rfl⟩
instance : FB Go.Proofs.Tryz.prog 64 := ⟨by kernel_rfl⟩
instance : FB Go.Proofs.Tryz.prog 65 := ⟨by kernel_rfl⟩
instance : FB Go.Proofs.Tryz.prog 66 := ⟨by kernel_rfl⟩
instance : FB Go.Proofs.Tryz.prog 67 := ⟨by kernel_rfl⟩
instance : FB Go.Proofs.Tryz.prog 68 := ⟨by kernel_rfl⟩
instance : FB Go.Proofs.Tryz.prog 69 := ⟨by kernel_rfl⟩
instance : FB Go.Proofs.Tryz.prog 70 := ⟨by kernel_rfl⟩
instance : FB Go.Proofs.Tryz.prog 71 := ⟨by kernel_rfl⟩
instance : FB Go.Proofs.Tryz.prog 72 := ⟨by kernel_rfl⟩
instance : FB Go.Proofs.Tryz.prog 73 := ⟨by kernel_rfl⟩
instance : FB Go.Proofs.Tryz.prog 74 := ⟨by kernel_rfl⟩
instance : FB Go.Proofs.Tryz.prog 75 := ⟨by kernel_rfl⟩
instance : FB Go.Proofs.Tryz.prog 76 := ⟨by kernel_rfl⟩
instance : FB Go.Proofs.Tryz.prog 77 := ⟨by kernel_rfl⟩
instance : FB Go.Proofs.Tryz.prog 78 := ⟨by kernel_rfl⟩
instance : FB Go.Proofs.Tryz.prog 79 := ⟨by kernel_rfl⟩
instance : FB Go.Proofs.Tryz.prog 80 := ⟨by kernel_rfl⟩
instance : FB Go.Proofs.Tryz.prog 81 := ⟨by kernel_rfl⟩
instance : FB Go.Proofs.Tryz.prog 82 := ⟨by kernel_rfl⟩
instance : FB Go.Proofs.Tryz.prog 83 := ⟨by kernel_rfl⟩
instance : FB Go.Proofs.Tryz.prog 84 := ⟨by kernel_rfl⟩
instance : FB Go.Proofs.Tryz.prog 85 := ⟨by kernel_rfl⟩
instance : FB Go.Proofs.Tryz.prog 86 := ⟨by kernel_rfl⟩
instance : FB Go.Proofs.Tryz.prog 87 := ⟨by kernel_rfl⟩
instance : FB Go.Proofs.Tryz.prog 88 := ⟨by kernel_rfl⟩
instance : FB Go.Proofs.Tryz.prog 89 := ⟨by kernel_rfl⟩
instance : FB Go.Proofs.Tryz.prog 90 := ⟨by kernel_rfl⟩
instance : FB Go.Proofs.Tryz.prog 91 := ⟨by kernel_rfl⟩
instance : FB Go.Proofs.Tryz.prog 92 := ⟨by kernel_rfl⟩
instance : FB Go.Proofs.Tryz.prog 93 := ⟨by kernel_rfl⟩
instance : FB Go.Proofs.Tryz.prog 94 := ⟨by kernel_rfl⟩
instance : FB Go.Proofs.Tryz.prog 95 := ⟨by kernel_rfl⟩
instance : FB Go.Proofs.Tryz.prog 96 := ⟨by kernel_rfl⟩
instance : FB Go.Proofs.Tryz.prog 97 := ⟨by kernel_rfl⟩
instance : FB Go.Proofs.Tryz.prog 98 := ⟨by kernel_rfl⟩
instance : FB Go.Proofs.Tryz.prog 99 := ⟨by kernel_rfl⟩
instance : FB Go.Proofs.Tryz.prog 100 := ⟨by kernel_rfl⟩
instance : FB Go.Proofs.Tryz.prog 101 := ⟨by kernel_rfl⟩
instance : FB Go.Proofs.Tryz.prog 102 := ⟨by kernel_rfl⟩
instance : FB Go.Proofs.Tryz.prog 103 := ⟨by kernel_rfl⟩
instance : FB Go.Proofs.Tryz.prog 104 := ⟨by kernel_rfl⟩
instance : FB Go.Proofs.Tryz.prog 105 := ⟨by kernel_rfl⟩
instance : FB Go.Proofs.Tryz.prog 106 := ⟨by kernel_rfl⟩
instance : FB Go.Proofs.Tryz.prog 107 := ⟨by kernel_rfl⟩
instance : FB Go.Proofs.Tryz.prog 108 := ⟨by kernel_rfl⟩
instance : FB Go.Proofs.Tryz.prog 109 := ⟨by kernel_rfl⟩
instance : FB Go.Proofs.Tryz.prog 110 := ⟨by kernel_rfl⟩
instance : FB Go.Proofs.Tryz.prog 111 := ⟨by kernel_rfl⟩
instance : FB Go.Proofs.Tryz.prog 112 := ⟨by kernel_rfl⟩
instance : FB Go.Proofs.Tryz.prog 113 := ⟨by kernel_rfl⟩
instance : FB Go.Proofs.Tryz.prog 114 := ⟨by kernel_rfl⟩
instance : FB Go.Proofs.Tryz.prog 115 := ⟨by kernel_rfl⟩
instance : FB Go.Proofs.Tryz.prog 116 := ⟨by kernel_rfl⟩
instance : FB Go.Proofs.Tryz.prog 117 := ⟨by kernel_rfl⟩
instance : FB Go.Proofs.Tryz.prog 121 := ⟨by kernel_rfl⟩
instance : FB Go.Proofs.Tryz.prog 122 := ⟨by kernel_rfl⟩
instance : FB Go.Proofs.Tryz.prog 123 := ⟨by kernel_rfl⟩
instance : FB Go.Proofs.Tryz.prog 124 := ⟨by kernel_rfl⟩
instance : FB Go.Proofs.Tryz.prog 125 := ⟨by kernel_rfl⟩
instance : FB Go.Proofs.Tryz.prog 126 := ⟨by kernel_rfl⟩
instance : FB Go.Proofs.Tryz.prog 127 := ⟨by kernel_rfl⟩
instance : FB Go.Proofs.Tryz.prog 128 := ⟨by kernel_rfl⟩
instance : FB Go.Proofs.Tryz.prog 129 := ⟨by kernel_rfl⟩
instance : FB Go.Proofs.Tryz.prog 130 := ⟨by kernel_rfl⟩
instance : FB Go.Proofs.Tryz.prog 131 := ⟨by kernel_rfl⟩
instance : FB Go.Proofs.Tryz.prog 132 := ⟨by kernel_rfl⟩
instance : FB Go.Proofs.Tryz.prog 133 := ⟨by kernel_rfl⟩
instance : FB Go.Proofs.Tryz.prog 134 := ⟨by kernel_rfl⟩
instance : FB Go.Proofs.Tryz.prog 135 := ⟨by kernel_rfl⟩
instance : FB Go.Proofs.Tryz.prog 136 := ⟨by kernel_rfl⟩
instance : FB Go.Proofs.Tryz.prog 137 := ⟨by kernel_rfl⟩
instance : FB Go.Proofs.Tryz.prog 138 := ⟨by kernel_rfl⟩
instance : FB Go.Proofs.Tryz.prog 139 := ⟨by kernel_rfl⟩
instance : FB Go.Proofs.Tryz.prog 140 := ⟨by kernel_rfl⟩
instance : FB Go.Proofs.Tryz.prog 141 := ⟨by kernel_rfl⟩
instance : FB Go.Proofs.Tryz.prog 142 := ⟨by kernel_rfl⟩
instance : FB Go.Proofs.Tryz.prog 146 := ⟨by kernel_rfl⟩
instance : FB Go.Proofs.Tryz.prog 147 := ⟨by kernel_rfl⟩
instance : FB Go.Proofs.Tryz.prog 148 := ⟨by kernel_rfl⟩
instance : FB Go.Proofs.Tryz.prog 149 := ⟨by kernel_rfl⟩
instance : FB Go.Proofs.Tryz.prog 150 := ⟨by kernel_rfl⟩
instance : FB Go.Proofs.Tryz.prog 151 := ⟨by kernel_rfl⟩
instance : FB Go.Proofs.Tryz.prog 152 := ⟨by kernel_rfl⟩
instance : FB Go.Proofs.Tryz.prog 153 := ⟨by kernel_rfl⟩
instance : FB Go.Proofs.Tryz.prog 154 := ⟨by kernel_rfl⟩
instance : FB Go.Proofs.Tryz.prog 155 := ⟨by kernel_rfl⟩
instance : FB Go.Proofs.Tryz.prog 156 := ⟨by kernel_rfl⟩
instance : FB Go.Proofs.Tryz.prog 157 := ⟨by kernel_rfl⟩
instance : FB Go.Proofs.Tryz.prog 158 := ⟨by kernel_rfl⟩
instance : FB Go.Proofs.Tryz.prog 159 := ⟨by kernel_rfl⟩
instance : FB Go.Proofs.Tryz.prog 160 := ⟨by kernel_rfl⟩
instance : FB Go.Proofs.Tryz.prog 161 := ⟨by kernel_rfl⟩
instance : FB Go.Proofs.Tryz.prog 162 := ⟨by kernel_rfl⟩
instance : FB Go.Proofs.Tryz.prog 163 := ⟨by kernel_rfl⟩
instance : FB Go.Proofs.Tryz.prog 164 := ⟨by kernel_rfl⟩
instance : FB Go.Proofs.Tryz.prog 165 := ⟨by kernel_rfl⟩
instance : FB Go.Proofs.Tryz.prog 166 := ⟨by kernel_rfl⟩
instance : FB Go.Proofs.Tryz.prog 167 := ⟨by kernel_rfl⟩
instance : FB Go.Proofs.Tryz.prog 168 := ⟨by kernel_rfl⟩
instance : FB Go.Proofs.Tryz.prog 203 := ⟨by kernel_rfl⟩
instance : FB Go.Proofs.Tryz.prog 204 := ⟨by kernel_rfl⟩
instance : FB Go.Proofs.Tryz.prog 209 := ⟨by kernel_rfl⟩
end Go.Proofs.YtnffnndmilpnoaaGreatDoor

/- Short forms for walks: results, calls of functions that only answer. Conditions: none; over any program. -/
namespace Go.Mus
/-- What the results are, where they lie in temporaries. -/
def resT (ρ : Env) : List ResultVar → Option (List Value)
  | [] => some []
  | .tmp t :: r => match look ρ t, resT ρ r with
    | some v, some vs => some (v :: vs)
    | _, _ => none
  | .cell _ _ :: _ => none
theorem resT_ok {P : Program} {h : Hp} {F : Frag} {ρ : Env} : ∀ {rs : List ResultVar} {vs : List Value}, resT ρ rs = some vs → resOK P h F rs ρ vs
  | [], vs, e => by simp only [resT, Option.some.injEq] at e; exact e.symm
  | .tmp t :: r, vs, e => by
    simp only [resT] at e
    split at e
    · rename_i v vs' h1 h2
      cases e
      exact ⟨v, vs', rfl, h1, resT_ok h2⟩
    · cases e
  | .cell _ _ :: _, vs, e => by cases e

/-- A function that answers, and keeps nothing. -/
abbrev Pu (P : Program) (main : Side) (f : FuncId) (args : Array Value) (h : Hp) (u : Value) : Prop := Fnc P main f args h [] (fun v A => v = u ∧ Shut A)

section
variable {P : Program} {main : Side} {fn : Func} {h : Hp} {R : Value → Frag → Prop} {e : Exit} {ρ : Env} {F : Frag} {ds : List Deferred}
theorem lvt {vs : List Value} (hR : R (pack vs) F) (he : e = .ret ∨ e = .normal := by first | exact .inl rfl | exact .inr rfl) (hv : resT ρ fn.results.toList = some vs := by rfl) : leave P main fn h R e ρ [] F :=
  leave_of he (by simp) (resT_ok hv) hR
/-- .. for one that answers. -/
theorem lvp {u : Value} {vs : List Value} (hu : pack vs = u) (he : e = .ret ∨ e = .normal := by first | exact .inl rfl | exact .inr rfl) (hv : resT ρ fn.results.toList = some vs := by rfl) (hs : Shut F := by repeat (first | exact Shut.nil | assumption | refine Shut.cons rfl ?_ | refine Shut.app ?_ ?_)) : leave P main fn h (fun v A => v = u ∧ Shut A) e ρ [] F :=
  lvt ⟨hu, hs⟩ he hv

/-- Marks of loops are taken off. -/
theorem Unw.marked {d : Nat} {K : Frag → Prop} {U : Obj → Frag} (hl : At d (.deferred (some [])) F U) (H : Unw P main h ds (U (.deferred none)) K) : Unw P main h (mark d :: ds) F K := by
  obtain ⟨F1, F2, e1, e2⟩ := hl.split
  show tr P h (Instr.takeDeferred d) F fun l F' => l = [] ∧ Unw P main h ds F' K
  simp only [Instr.takeDeferred, bind_eq, pure_eq]
  refine ⟨.deferred (some []), .inr (e1 ▸ by simp), (fun _ _ _ => by simp), rfl, ?_⟩
  refine ⟨.deferred (some []), F1, F2, e1, (fun _ _ _ => by simp), rfl, rfl, ?_⟩
  rw [e2] at H
  exact H
theorem lvm {d : Nat} {U : Obj → Frag} (H : leave P main fn h R e ρ ds (U (.deferred none))) (hl : At d (.deferred (some [])) F U := by repeat (first | exact At.head | apply At.tail | apply At.app)) : leave P main fn h R e ρ (mark d :: ds) F :=
  ⟨H.1, Unw.marked hl H.2⟩
end
section
variable {x : Cx} {Q : Post} {ρ : Env} {ds : List Deferred} {F : Frag} {ops : Array Oper} {i : Nat} {rest : List Nat} {d : Tmp} {ty : TypeId} {pos : String} {aft : Array Edge} {g : Option (Nat × Bool)} {L : Frag}
variable {f : FuncId} {args : List Operand} {ts : Array TypeId} {vs : List Value}
/-- A call of a function that answers. -/
theorem cp {u : Value} (H : ∀ h', Ext x.h h' → Lent F h' → Pu x.P x.main f vs.toArray h' u) (K : Ops x ops rest Q ((d, u) :: ρ) ds F) (ho : nthO ops.toList i = some ⟨some d, .call ⟨.value (.func f), args.toArray, ts⟩, ty, pos, aft, g⟩ := by rfl) [FB x.P f] (hv : evs ρ args = some vs := by rfl)
    (hw : want ops ρ ⟨some d, .call ⟨.value (.func f), args.toArray, ts⟩, ty, pos, aft, g⟩ := by first | exact wn | exact want_some rfl rfl rfl) (hd : Nat.blt d x.n = true := by rfl) : Ops x ops (i :: rest) Q ρ ds F :=
  Ops.eff (o := ⟨some d, .call ⟨.value (.func f), args.toArray, ts⟩, ty, pos, aft, g⟩) (e_call0 rfl hv H fun v A' hv => by
    obtain ⟨rfl, hs⟩ := hv
    exact Ops.sb (Sb.left .refl hs) K) (nthO_get ho) hw hd rfl
/-- A call that is handed nothing. -/
theorem c0 {R' : Value → Frag → Prop} (H : ∀ h', Ext x.h h' → Lent F h' → Fnc x.P x.main f vs.toArray h' [] R') (K : ∀ v A', R' v A' → Ops x ops rest Q ((d, v) :: ρ) ds (A' ++ F)) (ho : nthO ops.toList i = some ⟨some d, .call ⟨.value (.func f), args.toArray, ts⟩, ty, pos, aft, g⟩ := by rfl) [FB x.P f] (hv : evs ρ args = some vs := by rfl)
    (hw : want ops ρ ⟨some d, .call ⟨.value (.func f), args.toArray, ts⟩, ty, pos, aft, g⟩ := by first | exact wn | exact want_some rfl rfl rfl) (hd : Nat.blt d x.n = true := by rfl) : Ops x ops (i :: rest) Q ρ ds F :=
  Ops.eff (o := ⟨some d, .call ⟨.value (.func f), args.toArray, ts⟩, ty, pos, aft, g⟩) (e_call0 rfl hv H fun v A' hv => K v A' hv) (nthO_get ho) hw hd rfl
/-- A call that is handed a part. -/
theorem cg {A : Frag} {U : Frag → Frag} {R' : Value → Frag → Prop} (hs : Seg A F U) (H : ∀ h', Ext x.h h' → Lent (U []) h' → Fnc x.P x.main f vs.toArray h' A R') (K : ∀ v A', R' v A' → Ops x ops rest Q ((d, v) :: ρ) ds (U A')) (ho : nthO ops.toList i = some ⟨some d, .call ⟨.value (.func f), args.toArray, ts⟩, ty, pos, aft, g⟩ := by rfl) [FB x.P f] (hv : evs ρ args = some vs := by rfl)
    (hw : want ops ρ ⟨some d, .call ⟨.value (.func f), args.toArray, ts⟩, ty, pos, aft, g⟩ := by first | exact wn | exact want_some rfl rfl rfl) (hd : Nat.blt d x.n = true := by rfl) : Ops x ops (i :: rest) Q ρ ds F :=
  Ops.eff (o := ⟨some d, .call ⟨.value (.func f), args.toArray, ts⟩, ty, pos, aft, g⟩) (e_call rfl hv hs H fun v A' hv => K v A' hv) (nthO_get ho) hw hd rfl
/-- .. without a result. -/
theorem cgn {A : Frag} {U : Frag → Frag} {R' : Value → Frag → Prop} (hs : Seg A F U) (H : ∀ h', Ext x.h h' → Lent (U []) h' → Fnc x.P x.main f vs.toArray h' A R') (K : ∀ v A', R' v A' → Ops x ops rest Q ρ ds (U A')) (ho : nthO ops.toList i = some ⟨none, .call ⟨.value (.func f), args.toArray, ts⟩, ty, pos, aft, g⟩ := by rfl) [FB x.P f] (hv : evs ρ args = some vs := by rfl)
    (hw : want ops ρ ⟨none, .call ⟨.value (.func f), args.toArray, ts⟩, ty, pos, aft, g⟩ := by first | exact wn | exact want_some rfl rfl rfl) : Ops x ops (i :: rest) Q ρ ds F :=
  Ops.eff (o := ⟨none, .call ⟨.value (.func f), args.toArray, ts⟩, ty, pos, aft, g⟩) (e_call rfl hv hs H fun v A' hv => K v A' hv) (nthO_get ho) hw rfl rfl
end
section
variable {x : Cx} {Q : Post} {ρ : Env} {ds : List Deferred} {F : Frag} {ops : Array Oper} {i : Nat} {rest : List Nat} {d : Tmp} {op : Op} {ty : TypeId} {pos : String} {aft : Array Edge} {g : Option (Nat × Bool)} {L : Frag}
theorem look_again {d : Nat} {v : Value} (h : look ρ d = some v) : look ((d, v) :: ρ) = look ρ := by
  funext t
  show (bif Nat.beq t d then some v else look ρ t) = look ρ t
  cases e : Nat.beq t d with
  | true => rw [Nat.eq_of_beq_eq_true e, h]; rfl
  | false => rfl
/-- A guard's outcome, in an open order. -/
theorem Any.ask {fuel listed d' : Nat} {p : Prop} [Decidable p] (ht : p → Any x ops L fuel listed Q ((d', .bool true) :: ρ) ds F) (hf : ¬ p → Any x ops L fuel listed Q ((d', .bool false) :: ρ) ds F) (hv : look ρ d' = some (.bool (decide p)) := by rfl) : Any x ops L fuel listed Q ρ ds F := by
  by_cases hp : p
  · have := ht hp
    have e : look ρ d' = some (.bool true) := by rw [hv]; simp [hp]
    unfold Any at this ⊢
    rwa [look_again e] at this
  · have := hf hp
    have e : look ρ d' = some (.bool false) := by rw [hv]; simp [hp]
    unfold Any at this ⊢
    rwa [look_again e] at this
theorem Any.askB {fuel listed d' : Nat} {b : Bool} (ht : b = true → Any x ops L fuel listed Q ((d', .bool true) :: ρ) ds F) (hf : b = false → Any x ops L fuel listed Q ((d', .bool false) :: ρ) ds F) (hv : look ρ d' = some (.bool b) := by rfl) : Any x ops L fuel listed Q ρ ds F := by
  cases b with
  | true => have := ht rfl; unfold Any at this ⊢; rwa [look_again hv] at this
  | false => have := hf rfl; unfold Any at this ⊢; rwa [look_again hv] at this
theorem Ops.askB {j d' : Nat} {w b : Bool} {D : Option Tmp} (ht : b = true → Ops x ops (i :: rest) Q ((d', .bool true) :: ρ) ds F) (hf : b = false → Ops x ops (i :: rest) Q ((d', .bool false) :: ρ) ds F) (ho : nthO ops.toList i = some ⟨D, op, ty, pos, aft, some (j, w)⟩ := by rfl) (hj : (nthO ops.toList j).bind (·.dst) = some d' := by rfl) (hv : look ρ d' = some (.bool b) := by rfl) : Ops x ops (i :: rest) Q ρ ds F := by
  have key : ∀ u : Bool, b = u → Ops x ops (i :: rest) Q ((d', .bool u) :: ρ) ds F → Ops x ops (i :: rest) Q ρ ds F := by
    intro u hu H b' k cs Stop tmps hk M h1 h0 h2 h3 h4 h5 hc
    refine H b' k cs Stop tmps hk M h1 h0 h2 (fun t y hy => ?_) h4 h5 hc
    rw [look_again (hu ▸ hv)] at hy
    exact h3 t y hy
  cases b with
  | true => exact key true rfl (ht rfl)
  | false => exact key false rfl (hf rfl)
variable {f : FuncId} {args : List Operand} {ts : Array TypeId} {vs : List Value}
/-- A call of a function that answers, in an open order, where it alone may come up. -/
theorem acp {fuel listed : Nat} {u : Value} (H : ∀ h', Ext x.h h' → Lent F h' → Pu x.P x.main f vs.toArray h' u) (K : Any x ops L fuel (listed ||| 2 ^ i) Q ((d, u) :: ρ) ds F) (hS : lastT ops i = true ∨ Keeps L F := by first | exact .inr (by repeat (first | exact fun _ h => h | apply Keeps.cons | apply Keeps.app)) | exact .inl (by kernel_rfl))
    (ho : nthO ops.toList i = some ⟨some d, .call ⟨.value (.func f), args.toArray, ts⟩, ty, pos, aft, g⟩ := by rfl) [FB x.P f] (hv : evs ρ args = some vs := by rfl)
    (hw : wantε ops (look ρ) ⟨some d, .call ⟨.value (.func f), args.toArray, ts⟩, ty, pos, aft, g⟩ true := by first | exact an | exact wantε_some rfl rfl rfl rfl) (hd : Nat.blt d x.n = true := by rfl) (hr : rdys ops listed = [i] := by kernel_rfl) : Any x ops L (fuel + 1) listed Q ρ ds F :=
  Any.eff (o := ⟨some d, .call ⟨.value (.func f), args.toArray, ts⟩, ty, pos, aft, g⟩) (e_call0 rfl hv H fun v A' hv => by
    obtain ⟨rfl, hs⟩ := hv
    exact ⟨hS.imp id fun k p hp => List.mem_append_right _ (k p hp), Any.sb (Sb.left .refl hs) K⟩) hr (nthO_get ho) hw hd rfl
end
section
variable {x : Cx} {Q Q' : Post} {ρ : Env} {ds : List Deferred} {F : Frag}
theorem thn_mono {K K' : Env → List Deferred → Frag → Prop} {e : Exit} {ρ : Env} {ds : List Deferred} {F : Frag} (h : thn K Q e ρ ds F) (hk : ∀ ρ ds F, K ρ ds F → K' ρ ds F) : thn K' Q e ρ ds F := by
  cases e <;> first | exact hk _ _ _ h | exact h
/-- Loops with a state of several parts. -/
theorem W.loop2 {σ τ : Type} {c : Code} (C : σ → τ → Prop) (E : σ → τ → Env) (D : σ → τ → Frag) (μ : σ → τ → Nat) (s₀ : σ) (t₀ : τ) (h₀ : C s₀ t₀) (he : Sub (E s₀ t₀) ρ) (hF : Sb (D s₀ t₀) F)
    (round : ∀ s t, C s t → W x c (thn (fun ρ' ds' F' => ds' = ds ∧ ∃ s' t', C s' t' ∧ μ s' t' < μ s t ∧ Sub (E s' t') ρ' ∧ Sb (D s' t') F') Q) (E s t) ds (D s t)) : W x (.loop c) Q ρ ds F :=
  W.loop (σ := σ × τ) (fun p => C p.1 p.2) (fun p => E p.1 p.2) (fun p => D p.1 p.2) (fun p => μ p.1 p.2) (s₀, t₀) h₀ he hF fun p h => (round p.1 p.2 h).mono fun _ _ _ _ q => thn_mono q fun _ _ _ ⟨e, s', t', h1⟩ => ⟨e, (s', t'), h1⟩
theorem W.loop3 {σ τ υ : Type} {c : Code} (C : σ → τ → υ → Prop) (E : σ → τ → υ → Env) (D : σ → τ → υ → Frag) (μ : σ → τ → υ → Nat) (s₀ : σ) (t₀ : τ) (u₀ : υ) (h₀ : C s₀ t₀ u₀) (he : Sub (E s₀ t₀ u₀) ρ) (hF : Sb (D s₀ t₀ u₀) F)
    (round : ∀ s t u, C s t u → W x c (thn (fun ρ' ds' F' => ds' = ds ∧ ∃ s' t' u', C s' t' u' ∧ μ s' t' u' < μ s t u ∧ Sub (E s' t' u') ρ' ∧ Sb (D s' t' u') F') Q) (E s t u) ds (D s t u)) : W x (.loop c) Q ρ ds F :=
  W.loop (σ := σ × τ × υ) (fun p => C p.1 p.2.1 p.2.2) (fun p => E p.1 p.2.1 p.2.2) (fun p => D p.1 p.2.1 p.2.2) (fun p => μ p.1 p.2.1 p.2.2) (s₀, t₀, u₀) h₀ he hF fun p h => (round p.1 p.2.1 p.2.2 h).mono fun _ _ _ _ q => thn_mono q fun _ _ _ ⟨e, s', t', u', h1⟩ => ⟨e, (s', t', u'), h1⟩
end
/-- The cells of a row. -/
theorem Part.rowG {α : Type} {row : α → List Value} {w : Nat} [Rw row w] {c : Array Value} {off i : Nat} {l : List α} {p : α} (h : Part c off (flat row l)) (hi : l[i]? = some p) (k : Nat) (hk : k < w) : c[off + i * w + k]? = (row p)[k]? :=
  (h.rowP hi).get (by rw [Rw.len]; exact hk)

/-- An element of what is read. -/
theorem Sl.at {α : Type} {row : α → List Value} {w : Nat} [Rw row w] {h : Hp} {a : Option Addr} {n cap : Nat} {l : List α} {i : Nat} {p : α} (H : Sl h row (.slice a n cap) l) (hi : l[i]? = some p) :
    ∃ b off c E fz, a = some ⟨b, off, none⟩ ∧ h b = some (.cells c E fz) ∧ c.extract (off + i * w) (off + i * w + w) = (row p).toArray ∧ off + i * w + w ≤ c.size ∧ ∀ k, k < w → c[off + i * w + k]? = (row p)[k]? := by
  have hne : l ≠ [] := by rintro rfl; simp at hi
  obtain ⟨a', cap', e, hx⟩ := H
  cases e
  obtain ⟨b, off, c, E, fz, rfl, hb, hp⟩ := hx hne
  obtain ⟨h1, h2⟩ := hp.rowE hi
  exact ⟨b, off, c, E, fz, rfl, hb, h1, h2, fun k hk => hp.rowG hi k hk⟩
theorem has {α : Type} {l : List α} {i : Nat} (h : i < l.length) : ∃ p, l[i]? = some p ∧ l.drop i = p :: l.drop (i + 1) := ⟨l[i], List.getElem?_eq_getElem h, (List.getElem_cons_drop ..).symm⟩
theorem Sl.isSl {α : Type} {row : α → List Value} {w : Nat} [Rw row w] {h : Hp} {v : Value} {l : List α} (H : Sl h row v l) : ∃ a cap, v = .slice a l.length cap := by
  obtain ⟨a, cap, e, _⟩ := H
  exact ⟨a, cap, e⟩

/-- What is dropped: by itself. -/
theorem sbA {A B : Frag} (h : Sb A B := by repeat (first | exact Sb.refl | apply Sb.cons | refine Sb.skip rfl ?_ | exact Sb.nil (by assumption))) : Sb A B := h
end Go.Mus
