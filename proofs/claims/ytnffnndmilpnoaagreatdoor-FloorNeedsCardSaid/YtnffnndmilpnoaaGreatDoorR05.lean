/- The types and functions of the program, as facts. Conditions: none. (And 9 texts more.) -/
import Derived.Test.YtnffnndmilpnoaaGreatDoorProg
import Derived.Test.YtnffnndmilpnoaaGreatDoorR02
import Derived.KernelRfl
import Derived.Test.YtnffnndmilpnoaaGreatDoorR04
set_option linter.unusedVariables false
set_option linter.unusedSimpArgs false
set_option linter.unusedSectionVars false

/- The types and functions of the program, as facts. Conditions: none. -/
namespace Go.Proofs.YtnffnndmilpnoaaGreatDoor
open Go Go.Mus
set_option maxRecDepth 100000
instance : TD Tryz.prog 2 (.int .i64) := ⟨Tryz.underlying2⟩
instance : SC Tryz.prog 2 := ⟨by kernel_rfl⟩
instance : TI Tryz.prog 2 1 8 (.int .i64 0) #[(.int .i64 0)] := ⟨by kernel_rfl, rfl⟩
instance : TD Tryz.prog 3 (.int .i64) := ⟨Tryz.underlying3⟩
instance : SC Tryz.prog 3 := ⟨by kernel_rfl⟩
instance : TI Tryz.prog 3 1 8 (.int .i64 0) #[(.int .i64 0)] := ⟨by kernel_rfl, rfl⟩
instance : TD Tryz.prog 4 .bool := ⟨Tryz.underlying4⟩
instance : SC Tryz.prog 4 := ⟨by kernel_rfl⟩
instance : TI Tryz.prog 4 1 1 (.bool false) #[(.bool false)] := ⟨by kernel_rfl, rfl⟩
instance : TD Tryz.prog 5 (.int .u8) := ⟨Tryz.underlying5⟩
instance : SC Tryz.prog 5 := ⟨by kernel_rfl⟩
instance : TI Tryz.prog 5 1 1 (.int .u8 0) #[(.int .u8 0)] := ⟨by kernel_rfl, rfl⟩
instance : TD Tryz.prog 6 (.int .u8) := ⟨Tryz.underlying6⟩
instance : SC Tryz.prog 6 := ⟨by kernel_rfl⟩
instance : TI Tryz.prog 6 1 1 (.int .u8 0) #[(.int .u8 0)] := ⟨by kernel_rfl, rfl⟩
instance : AG Tryz.prog 7 4 := ⟨by kernel_rfl, by kernel_rfl⟩
instance : TI Tryz.prog 7 4 24 (.agg #[(.int .i64 0), (.int .i64 0), (.bool false), (.int .u8 0)]) #[(.int .i64 0), (.int .i64 0), (.bool false), (.int .u8 0)] := ⟨by kernel_rfl, rfl⟩
instance : FA Tryz.prog 7 0 0 2 := ⟨0, by kernel_rfl⟩
instance : FA Tryz.prog 7 1 1 3 := ⟨0, by kernel_rfl⟩
instance : FA Tryz.prog 7 2 2 4 := ⟨0, by kernel_rfl⟩
instance : FA Tryz.prog 7 3 3 6 := ⟨0, by kernel_rfl⟩
instance : BP Tryz.prog 7 [(0, 1), (1, 1), (2, 1), (3, 1)] := ⟨by kernel_rfl⟩
instance : AG Tryz.prog 8 4 := ⟨by kernel_rfl, by kernel_rfl⟩
instance : TI Tryz.prog 8 4 24 (.agg #[(.int .i64 0), (.int .i64 0), (.bool false), (.int .u8 0)]) #[(.int .i64 0), (.int .i64 0), (.bool false), (.int .u8 0)] := ⟨by kernel_rfl, rfl⟩
instance : FA Tryz.prog 8 0 0 2 := ⟨0, by kernel_rfl⟩
instance : FA Tryz.prog 8 1 1 3 := ⟨0, by kernel_rfl⟩
instance : FA Tryz.prog 8 2 2 4 := ⟨0, by kernel_rfl⟩
instance : FA Tryz.prog 8 3 3 6 := ⟨0, by kernel_rfl⟩
instance : BP Tryz.prog 8 [(0, 1), (1, 1), (2, 1), (3, 1)] := ⟨by kernel_rfl⟩
instance : TD Tryz.prog 9 .string := ⟨Tryz.underlying9⟩
instance : SC Tryz.prog 9 := ⟨by kernel_rfl⟩
instance : TI Tryz.prog 9 1 16 (.string ⟨#[]⟩) #[(.string ⟨#[]⟩)] := ⟨by kernel_rfl, rfl⟩
instance : TD Tryz.prog 10 .string := ⟨Tryz.underlying10⟩
instance : SC Tryz.prog 10 := ⟨by kernel_rfl⟩
instance : TI Tryz.prog 10 1 16 (.string ⟨#[]⟩) #[(.string ⟨#[]⟩)] := ⟨by kernel_rfl, rfl⟩
instance : TD Tryz.prog 11 .string := ⟨Tryz.underlying11⟩
instance : SC Tryz.prog 11 := ⟨by kernel_rfl⟩
instance : TI Tryz.prog 11 1 16 (.string ⟨#[]⟩) #[(.string ⟨#[]⟩)] := ⟨by kernel_rfl, rfl⟩
instance : TD Tryz.prog 12 (.int .u64) := ⟨Tryz.underlying12⟩
instance : SC Tryz.prog 12 := ⟨by kernel_rfl⟩
instance : TI Tryz.prog 12 1 8 (.int .u64 0) #[(.int .u64 0)] := ⟨by kernel_rfl, rfl⟩
instance : AG Tryz.prog 13 2 := ⟨by kernel_rfl, by kernel_rfl⟩
instance : TI Tryz.prog 13 2 24 (.agg #[(.string ⟨#[]⟩), (.int .u64 0)]) #[(.string ⟨#[]⟩), (.int .u64 0)] := ⟨by kernel_rfl, rfl⟩
instance : FA Tryz.prog 13 0 0 9 := ⟨0, by kernel_rfl⟩
instance : FA Tryz.prog 13 1 1 12 := ⟨0, by kernel_rfl⟩
instance : BP Tryz.prog 13 [(0, 1), (1, 1)] := ⟨by kernel_rfl⟩
instance : AG Tryz.prog 14 2 := ⟨by kernel_rfl, by kernel_rfl⟩
instance : TI Tryz.prog 14 2 24 (.agg #[(.string ⟨#[]⟩), (.int .u64 0)]) #[(.string ⟨#[]⟩), (.int .u64 0)] := ⟨by kernel_rfl, rfl⟩
instance : FA Tryz.prog 14 0 0 9 := ⟨0, by kernel_rfl⟩
instance : FA Tryz.prog 14 1 1 12 := ⟨0, by kernel_rfl⟩
instance : BP Tryz.prog 14 [(0, 1), (1, 1)] := ⟨by kernel_rfl⟩
instance : TD Tryz.prog 15 (.pointer 255) := ⟨Tryz.underlying15⟩
instance : SC Tryz.prog 15 := ⟨by kernel_rfl⟩
instance : TI Tryz.prog 15 1 8 (.pointer none) #[(.pointer none)] := ⟨by kernel_rfl, rfl⟩
instance : TD Tryz.prog 16 (.pointer 258) := ⟨Tryz.underlying16⟩
instance : SC Tryz.prog 16 := ⟨by kernel_rfl⟩
instance : TI Tryz.prog 16 1 8 (.pointer none) #[(.pointer none)] := ⟨by kernel_rfl, rfl⟩
instance : TD Tryz.prog 17 (.pointer 267) := ⟨Tryz.underlying17⟩
instance : SC Tryz.prog 17 := ⟨by kernel_rfl⟩
instance : TI Tryz.prog 17 1 8 (.pointer none) #[(.pointer none)] := ⟨by kernel_rfl, rfl⟩
instance : AG Tryz.prog 18 1 := ⟨by kernel_rfl, by kernel_rfl⟩
instance : TI Tryz.prog 18 1 8 (.agg #[(.pointer none)]) #[(.pointer none)] := ⟨by kernel_rfl, rfl⟩
instance : FA Tryz.prog 18 0 0 17 := ⟨0, by kernel_rfl⟩
instance : BP Tryz.prog 18 [(0, 1)] := ⟨by kernel_rfl⟩
instance : AG Tryz.prog 19 1 := ⟨by kernel_rfl, by kernel_rfl⟩
instance : TI Tryz.prog 19 1 8 (.agg #[(.pointer none)]) #[(.pointer none)] := ⟨by kernel_rfl, rfl⟩
instance : FA Tryz.prog 19 0 0 17 := ⟨0, by kernel_rfl⟩
instance : BP Tryz.prog 19 [(0, 1)] := ⟨by kernel_rfl⟩
instance : TD Tryz.prog 20 (.interface #[]) := ⟨Tryz.underlying20⟩
instance : SC Tryz.prog 20 := ⟨by kernel_rfl⟩
instance : TI Tryz.prog 20 1 16 .nilIface #[.nilIface] := ⟨by kernel_rfl, rfl⟩
instance : TD Tryz.prog 21 (.int .i32) := ⟨Tryz.underlying21⟩
instance : SC Tryz.prog 21 := ⟨by kernel_rfl⟩
instance : TI Tryz.prog 21 1 4 (.int .i32 0) #[(.int .i32 0)] := ⟨by kernel_rfl, rfl⟩
instance : TD Tryz.prog 22 (.slice 29) := ⟨Tryz.underlying22⟩
instance : SC Tryz.prog 22 := ⟨by kernel_rfl⟩
instance : TI Tryz.prog 22 1 24 (.slice none 0 0) #[(.slice none 0 0)] := ⟨by kernel_rfl, rfl⟩
instance : TD Tryz.prog 23 (.slice 31) := ⟨Tryz.underlying23⟩
instance : SC Tryz.prog 23 := ⟨by kernel_rfl⟩
instance : TI Tryz.prog 23 1 24 (.slice none 0 0) #[(.slice none 0 0)] := ⟨by kernel_rfl, rfl⟩
instance : AG Tryz.prog 24 2 := ⟨by kernel_rfl, by kernel_rfl⟩
instance : TI Tryz.prog 24 2 48 (.agg #[(.slice none 0 0), (.slice none 0 0)]) #[(.slice none 0 0), (.slice none 0 0)] := ⟨by kernel_rfl, rfl⟩
instance : FA Tryz.prog 24 0 0 22 := ⟨0, by kernel_rfl⟩
instance : FA Tryz.prog 24 1 1 23 := ⟨0, by kernel_rfl⟩
instance : BP Tryz.prog 24 [(0, 1), (1, 1)] := ⟨by kernel_rfl⟩
instance : AG Tryz.prog 25 2 := ⟨by kernel_rfl, by kernel_rfl⟩
instance : TI Tryz.prog 25 2 48 (.agg #[(.slice none 0 0), (.slice none 0 0)]) #[(.slice none 0 0), (.slice none 0 0)] := ⟨by kernel_rfl, rfl⟩
instance : FA Tryz.prog 25 0 0 22 := ⟨0, by kernel_rfl⟩
instance : FA Tryz.prog 25 1 1 23 := ⟨0, by kernel_rfl⟩
instance : BP Tryz.prog 25 [(0, 1), (1, 1)] := ⟨by kernel_rfl⟩
instance : AG Tryz.prog 26 2 := ⟨by kernel_rfl, by kernel_rfl⟩
instance : TI Tryz.prog 26 2 16 (.agg #[(.int .i64 0), (.int .i64 0)]) #[(.int .i64 0), (.int .i64 0)] := ⟨by kernel_rfl, rfl⟩
instance : FA Tryz.prog 26 0 0 3 := ⟨0, by kernel_rfl⟩
instance : FA Tryz.prog 26 1 1 3 := ⟨0, by kernel_rfl⟩
instance : BP Tryz.prog 26 [(0, 1), (1, 1)] := ⟨by kernel_rfl⟩
instance : AG Tryz.prog 27 2 := ⟨by kernel_rfl, by kernel_rfl⟩
instance : TI Tryz.prog 27 2 16 (.agg #[(.int .i64 0), (.int .i64 0)]) #[(.int .i64 0), (.int .i64 0)] := ⟨by kernel_rfl, rfl⟩
instance : FA Tryz.prog 27 0 0 3 := ⟨0, by kernel_rfl⟩
instance : FA Tryz.prog 27 1 1 3 := ⟨0, by kernel_rfl⟩
instance : BP Tryz.prog 27 [(0, 1), (1, 1)] := ⟨by kernel_rfl⟩
instance : AG Tryz.prog 28 4 := ⟨by kernel_rfl, by kernel_rfl⟩
instance : TI Tryz.prog 28 4 32 (.agg #[(.int .i64 0), (.int .i64 0), (.int .i64 0), (.int .i64 0)]) #[(.int .i64 0), (.int .i64 0), (.int .i64 0), (.int .i64 0)] := ⟨by kernel_rfl, rfl⟩
instance : FA Tryz.prog 28 0 0 3 := ⟨0, by kernel_rfl⟩
instance : FA Tryz.prog 28 1 1 27 := ⟨1, by kernel_rfl⟩
instance : FA Tryz.prog 28 2 3 3 := ⟨0, by kernel_rfl⟩
instance : BP Tryz.prog 28 [(0, 1), (1, 2), (3, 1)] := ⟨by kernel_rfl⟩
instance : AG Tryz.prog 29 4 := ⟨by kernel_rfl, by kernel_rfl⟩
instance : TI Tryz.prog 29 4 32 (.agg #[(.int .i64 0), (.int .i64 0), (.int .i64 0), (.int .i64 0)]) #[(.int .i64 0), (.int .i64 0), (.int .i64 0), (.int .i64 0)] := ⟨by kernel_rfl, rfl⟩
instance : FA Tryz.prog 29 0 0 3 := ⟨0, by kernel_rfl⟩
instance : FA Tryz.prog 29 1 1 27 := ⟨1, by kernel_rfl⟩
instance : FA Tryz.prog 29 2 3 3 := ⟨0, by kernel_rfl⟩
instance : BP Tryz.prog 29 [(0, 1), (1, 2), (3, 1)] := ⟨by kernel_rfl⟩
instance : AG Tryz.prog 30 3 := ⟨by kernel_rfl, by kernel_rfl⟩
instance : TI Tryz.prog 30 3 24 (.agg #[(.int .i64 0), (.int .i64 0), (.int .i64 0)]) #[(.int .i64 0), (.int .i64 0), (.int .i64 0)] := ⟨by kernel_rfl, rfl⟩
instance : FA Tryz.prog 30 0 0 3 := ⟨0, by kernel_rfl⟩
instance : FA Tryz.prog 30 1 1 3 := ⟨0, by kernel_rfl⟩
instance : FA Tryz.prog 30 2 2 3 := ⟨0, by kernel_rfl⟩
instance : BP Tryz.prog 30 [(0, 1), (1, 1), (2, 1)] := ⟨by kernel_rfl⟩
instance : AG Tryz.prog 31 3 := ⟨by kernel_rfl, by kernel_rfl⟩
instance : TI Tryz.prog 31 3 24 (.agg #[(.int .i64 0), (.int .i64 0), (.int .i64 0)]) #[(.int .i64 0), (.int .i64 0), (.int .i64 0)] := ⟨by kernel_rfl, rfl⟩
instance : FA Tryz.prog 31 0 0 3 := ⟨0, by kernel_rfl⟩
instance : FA Tryz.prog 31 1 1 3 := ⟨0, by kernel_rfl⟩
instance : FA Tryz.prog 31 2 2 3 := ⟨0, by kernel_rfl⟩
instance : BP Tryz.prog 31 [(0, 1), (1, 1), (2, 1)] := ⟨by kernel_rfl⟩
instance : TD Tryz.prog 32 (.slice 80) := ⟨Tryz.underlying32⟩
instance : SC Tryz.prog 32 := ⟨by kernel_rfl⟩
instance : TI Tryz.prog 32 1 24 (.slice none 0 0) #[(.slice none 0 0)] := ⟨by kernel_rfl, rfl⟩
instance : TD Tryz.prog 33 (.slice 3) := ⟨Tryz.underlying33⟩
instance : SC Tryz.prog 33 := ⟨by kernel_rfl⟩
instance : TI Tryz.prog 33 1 24 (.slice none 0 0) #[(.slice none 0 0)] := ⟨by kernel_rfl, rfl⟩
instance : TD Tryz.prog 36 (.pointer 89) := ⟨Tryz.underlying36⟩
instance : SC Tryz.prog 36 := ⟨by kernel_rfl⟩
instance : TI Tryz.prog 36 1 8 (.pointer none) #[(.pointer none)] := ⟨by kernel_rfl, rfl⟩
instance : TD Tryz.prog 38 (.slice 25) := ⟨Tryz.underlying38⟩
instance : SC Tryz.prog 38 := ⟨by kernel_rfl⟩
instance : TI Tryz.prog 38 1 24 (.slice none 0 0) #[(.slice none 0 0)] := ⟨by kernel_rfl, rfl⟩
instance : TD Tryz.prog 41 (.slice 32) := ⟨Tryz.underlying41⟩
instance : SC Tryz.prog 41 := ⟨by kernel_rfl⟩
instance : TI Tryz.prog 41 1 24 (.slice none 0 0) #[(.slice none 0 0)] := ⟨by kernel_rfl, rfl⟩
instance : TD Tryz.prog 45 (.int .i64) := ⟨Tryz.underlying45⟩
instance : SC Tryz.prog 45 := ⟨by kernel_rfl⟩
instance : TI Tryz.prog 45 1 8 (.int .i64 0) #[(.int .i64 0)] := ⟨by kernel_rfl, rfl⟩
instance : TD Tryz.prog 64 (.slice 33) := ⟨Tryz.underlying64⟩
instance : SC Tryz.prog 64 := ⟨by kernel_rfl⟩
instance : TI Tryz.prog 64 1 24 (.slice none 0 0) #[(.slice none 0 0)] := ⟨by kernel_rfl, rfl⟩
instance : TD Tryz.prog 69 (.slice 27) := ⟨Tryz.underlying69⟩
instance : SC Tryz.prog 69 := ⟨by kernel_rfl⟩
instance : TI Tryz.prog 69 1 24 (.slice none 0 0) #[(.slice none 0 0)] := ⟨by kernel_rfl, rfl⟩
instance : TD Tryz.prog 70 (.slice 148) := ⟨Tryz.underlying70⟩
instance : SC Tryz.prog 70 := ⟨by kernel_rfl⟩
instance : TI Tryz.prog 70 1 24 (.slice none 0 0) #[(.slice none 0 0)] := ⟨by kernel_rfl, rfl⟩
instance : AG Tryz.prog 71 5 := ⟨by kernel_rfl, by kernel_rfl⟩
instance : TI Tryz.prog 71 5 120 (.agg #[(.slice none 0 0), (.slice none 0 0), (.slice none 0 0), (.slice none 0 0), (.slice none 0 0)]) #[(.slice none 0 0), (.slice none 0 0), (.slice none 0 0), (.slice none 0 0), (.slice none 0 0)] := ⟨by kernel_rfl, rfl⟩
instance : FA Tryz.prog 71 0 0 69 := ⟨0, by kernel_rfl⟩
instance : FA Tryz.prog 71 1 1 33 := ⟨0, by kernel_rfl⟩
instance : FA Tryz.prog 71 2 2 33 := ⟨0, by kernel_rfl⟩
instance : FA Tryz.prog 71 3 3 69 := ⟨0, by kernel_rfl⟩
instance : FA Tryz.prog 71 4 4 70 := ⟨0, by kernel_rfl⟩
instance : BP Tryz.prog 71 [(0, 1), (1, 1), (2, 1), (3, 1), (4, 1)] := ⟨by kernel_rfl⟩
instance : AG Tryz.prog 72 5 := ⟨by kernel_rfl, by kernel_rfl⟩
instance : TI Tryz.prog 72 5 120 (.agg #[(.slice none 0 0), (.slice none 0 0), (.slice none 0 0), (.slice none 0 0), (.slice none 0 0)]) #[(.slice none 0 0), (.slice none 0 0), (.slice none 0 0), (.slice none 0 0), (.slice none 0 0)] := ⟨by kernel_rfl, rfl⟩
instance : FA Tryz.prog 72 0 0 69 := ⟨0, by kernel_rfl⟩
instance : FA Tryz.prog 72 1 1 33 := ⟨0, by kernel_rfl⟩
instance : FA Tryz.prog 72 2 2 33 := ⟨0, by kernel_rfl⟩
instance : FA Tryz.prog 72 3 3 69 := ⟨0, by kernel_rfl⟩
instance : FA Tryz.prog 72 4 4 70 := ⟨0, by kernel_rfl⟩
instance : BP Tryz.prog 72 [(0, 1), (1, 1), (2, 1), (3, 1), (4, 1)] := ⟨by kernel_rfl⟩
instance : AG Tryz.prog 79 2 := ⟨by kernel_rfl, by kernel_rfl⟩
instance : TI Tryz.prog 79 2 16 (.agg #[(.int .i64 0), (.int .i64 0)]) #[(.int .i64 0), (.int .i64 0)] := ⟨by kernel_rfl, rfl⟩
instance : FA Tryz.prog 79 0 0 3 := ⟨0, by kernel_rfl⟩
instance : FA Tryz.prog 79 1 1 3 := ⟨0, by kernel_rfl⟩
instance : BP Tryz.prog 79 [(0, 1), (1, 1)] := ⟨by kernel_rfl⟩
instance : AG Tryz.prog 80 2 := ⟨by kernel_rfl, by kernel_rfl⟩
instance : TI Tryz.prog 80 2 16 (.agg #[(.int .i64 0), (.int .i64 0)]) #[(.int .i64 0), (.int .i64 0)] := ⟨by kernel_rfl, rfl⟩
instance : FA Tryz.prog 80 0 0 3 := ⟨0, by kernel_rfl⟩
instance : FA Tryz.prog 80 1 1 3 := ⟨0, by kernel_rfl⟩
instance : BP Tryz.prog 80 [(0, 1), (1, 1)] := ⟨by kernel_rfl⟩
instance : TD Tryz.prog 87 (.int .u64) := ⟨Tryz.underlying87⟩
instance : SC Tryz.prog 87 := ⟨by kernel_rfl⟩
instance : TI Tryz.prog 87 1 8 (.int .u64 0) #[(.int .u64 0)] := ⟨by kernel_rfl, rfl⟩
instance : AG Tryz.prog 88 3 := ⟨by kernel_rfl, by kernel_rfl⟩
instance : TI Tryz.prog 88 3 40 (.agg #[(.slice none 0 0), (.int .i64 0), (.int .u64 0)]) #[(.slice none 0 0), (.int .i64 0), (.int .u64 0)] := ⟨by kernel_rfl, rfl⟩
instance : FA Tryz.prog 88 0 0 33 := ⟨0, by kernel_rfl⟩
instance : FA Tryz.prog 88 1 1 3 := ⟨0, by kernel_rfl⟩
instance : FA Tryz.prog 88 2 2 87 := ⟨0, by kernel_rfl⟩
instance : BP Tryz.prog 88 [(0, 1), (1, 1), (2, 1)] := ⟨by kernel_rfl⟩
instance : AG Tryz.prog 89 3 := ⟨by kernel_rfl, by kernel_rfl⟩
instance : TI Tryz.prog 89 3 40 (.agg #[(.slice none 0 0), (.int .i64 0), (.int .u64 0)]) #[(.slice none 0 0), (.int .i64 0), (.int .u64 0)] := ⟨by kernel_rfl, rfl⟩
instance : FA Tryz.prog 89 0 0 33 := ⟨0, by kernel_rfl⟩
instance : FA Tryz.prog 89 1 1 3 := ⟨0, by kernel_rfl⟩
instance : FA Tryz.prog 89 2 2 87 := ⟨0, by kernel_rfl⟩
instance : BP Tryz.prog 89 [(0, 1), (1, 1), (2, 1)] := ⟨by kernel_rfl⟩
instance : AG Tryz.prog 95 2 := ⟨by kernel_rfl, by kernel_rfl⟩
instance : TI Tryz.prog 95 2 48 (.agg #[(.slice none 0 0), (.slice none 0 0)]) #[(.slice none 0 0), (.slice none 0 0)] := ⟨by kernel_rfl, rfl⟩
instance : FA Tryz.prog 95 0 0 25 := ⟨1, by kernel_rfl⟩
instance : BP Tryz.prog 95 [(0, 2)] := ⟨by kernel_rfl⟩
instance : AG Tryz.prog 96 2 := ⟨by kernel_rfl, by kernel_rfl⟩
instance : TI Tryz.prog 96 2 48 (.agg #[(.slice none 0 0), (.slice none 0 0)]) #[(.slice none 0 0), (.slice none 0 0)] := ⟨by kernel_rfl, rfl⟩
instance : FA Tryz.prog 96 0 0 25 := ⟨1, by kernel_rfl⟩
instance : BP Tryz.prog 96 [(0, 2)] := ⟨by kernel_rfl⟩
instance : TD Tryz.prog 97 (.array 4 80) := ⟨Tryz.underlying97⟩
instance : AG Tryz.prog 97 8 := ⟨by kernel_rfl, by kernel_rfl⟩
instance : TI Tryz.prog 97 8 64 (.agg #[(.int .i64 0), (.int .i64 0), (.int .i64 0), (.int .i64 0), (.int .i64 0), (.int .i64 0), (.int .i64 0), (.int .i64 0)]) #[(.int .i64 0), (.int .i64 0), (.int .i64 0), (.int .i64 0), (.int .i64 0), (.int .i64 0), (.int .i64 0), (.int .i64 0)] := ⟨by kernel_rfl, rfl⟩
instance : TD Tryz.prog 98 (.array 4 80) := ⟨Tryz.underlying98⟩
instance : AG Tryz.prog 98 8 := ⟨by kernel_rfl, by kernel_rfl⟩
instance : TI Tryz.prog 98 8 64 (.agg #[(.int .i64 0), (.int .i64 0), (.int .i64 0), (.int .i64 0), (.int .i64 0), (.int .i64 0), (.int .i64 0), (.int .i64 0)]) #[(.int .i64 0), (.int .i64 0), (.int .i64 0), (.int .i64 0), (.int .i64 0), (.int .i64 0), (.int .i64 0), (.int .i64 0)] := ⟨by kernel_rfl, rfl⟩
instance : TD Tryz.prog 101 (.array 22 27) := ⟨Tryz.underlying101⟩
instance : AG Tryz.prog 101 44 := ⟨by kernel_rfl, by kernel_rfl⟩
instance : TI Tryz.prog 101 44 352 (.agg #[(.int .i64 0), (.int .i64 0), (.int .i64 0), (.int .i64 0), (.int .i64 0), (.int .i64 0), (.int .i64 0), (.int .i64 0), (.int .i64 0), (.int .i64 0), (.int .i64 0), (.int .i64 0), (.int .i64 0), (.int .i64 0), (.int .i64 0), (.int .i64 0), (.int .i64 0), (.int .i64 0), (.int .i64 0), (.int .i64 0), (.int .i64 0), (.int .i64 0), (.int .i64 0), (.int .i64 0), (.int .i64 0), (.int .i64 0), (.int .i64 0), (.int .i64 0), (.int .i64 0), (.int .i64 0), (.int .i64 0), (.int .i64 0), (.int .i64 0), (.int .i64 0), (.int .i64 0), (.int .i64 0), (.int .i64 0), (.int .i64 0), (.int .i64 0), (.int .i64 0), (.int .i64 0), (.int .i64 0), (.int .i64 0), (.int .i64 0)]) #[(.int .i64 0), (.int .i64 0), (.int .i64 0), (.int .i64 0), (.int .i64 0), (.int .i64 0), (.int .i64 0), (.int .i64 0), (.int .i64 0), (.int .i64 0), (.int .i64 0), (.int .i64 0), (.int .i64 0), (.int .i64 0), (.int .i64 0), (.int .i64 0), (.int .i64 0), (.int .i64 0), (.int .i64 0), (.int .i64 0), (.int .i64 0), (.int .i64 0), (.int .i64 0), (.int .i64 0), (.int .i64 0), (.int .i64 0), (.int .i64 0), (.int .i64 0), (.int .i64 0), (.int .i64 0), (.int .i64 0), (.int .i64 0), (.int .i64 0), (.int .i64 0), (.int .i64 0), (.int .i64 0), (.int .i64 0), (.int .i64 0), (.int .i64 0), (.int .i64 0), (.int .i64 0), (.int .i64 0), (.int .i64 0), (.int .i64 0)] := ⟨by kernel_rfl, rfl⟩
instance : TD Tryz.prog 102 (.array 22 27) := ⟨Tryz.underlying102⟩
instance : AG Tryz.prog 102 44 := ⟨by kernel_rfl, by kernel_rfl⟩
instance : TI Tryz.prog 102 44 352 (.agg #[(.int .i64 0), (.int .i64 0), (.int .i64 0), (.int .i64 0), (.int .i64 0), (.int .i64 0), (.int .i64 0), (.int .i64 0), (.int .i64 0), (.int .i64 0), (.int .i64 0), (.int .i64 0), (.int .i64 0), (.int .i64 0), (.int .i64 0), (.int .i64 0), (.int .i64 0), (.int .i64 0), (.int .i64 0), (.int .i64 0), (.int .i64 0), (.int .i64 0), (.int .i64 0), (.int .i64 0), (.int .i64 0), (.int .i64 0), (.int .i64 0), (.int .i64 0), (.int .i64 0), (.int .i64 0), (.int .i64 0), (.int .i64 0), (.int .i64 0), (.int .i64 0), (.int .i64 0), (.int .i64 0), (.int .i64 0), (.int .i64 0), (.int .i64 0), (.int .i64 0), (.int .i64 0), (.int .i64 0), (.int .i64 0), (.int .i64 0)]) #[(.int .i64 0), (.int .i64 0), (.int .i64 0), (.int .i64 0), (.int .i64 0), (.int .i64 0), (.int .i64 0), (.int .i64 0), (.int .i64 0), (.int .i64 0), (.int .i64 0), (.int .i64 0), (.int .i64 0), (.int .i64 0), (.int .i64 0), (.int .i64 0), (.int .i64 0), (.int .i64 0), (.int .i64 0), (.int .i64 0), (.int .i64 0), (.int .i64 0), (.int .i64 0), (.int .i64 0), (.int .i64 0), (.int .i64 0), (.int .i64 0), (.int .i64 0), (.int .i64 0), (.int .i64 0), (.int .i64 0), (.int .i64 0), (.int .i64 0), (.int .i64 0), (.int .i64 0), (.int .i64 0), (.int .i64 0), (.int .i64 0), (.int .i64 0), (.int .i64 0), (.int .i64 0), (.int .i64 0), (.int .i64 0), (.int .i64 0)] := ⟨by kernel_rfl, rfl⟩
instance : TD Tryz.prog 106 (.slice 98) := ⟨Tryz.underlying106⟩
instance : SC Tryz.prog 106 := ⟨by kernel_rfl⟩
instance : TI Tryz.prog 106 1 24 (.slice none 0 0) #[(.slice none 0 0)] := ⟨by kernel_rfl, rfl⟩
instance : AG Tryz.prog 107 2 := ⟨by kernel_rfl, by kernel_rfl⟩
instance : TI Tryz.prog 107 2 32 (.agg #[(.int .i64 0), (.slice none 0 0)]) #[(.int .i64 0), (.slice none 0 0)] := ⟨by kernel_rfl, rfl⟩
instance : FA Tryz.prog 107 0 0 3 := ⟨0, by kernel_rfl⟩
instance : FA Tryz.prog 107 1 1 106 := ⟨0, by kernel_rfl⟩
instance : BP Tryz.prog 107 [(0, 1), (1, 1)] := ⟨by kernel_rfl⟩
instance : AG Tryz.prog 108 2 := ⟨by kernel_rfl, by kernel_rfl⟩
instance : TI Tryz.prog 108 2 32 (.agg #[(.int .i64 0), (.slice none 0 0)]) #[(.int .i64 0), (.slice none 0 0)] := ⟨by kernel_rfl, rfl⟩
instance : FA Tryz.prog 108 0 0 3 := ⟨0, by kernel_rfl⟩
instance : FA Tryz.prog 108 1 1 106 := ⟨0, by kernel_rfl⟩
instance : BP Tryz.prog 108 [(0, 1), (1, 1)] := ⟨by kernel_rfl⟩
instance : AG Tryz.prog 114 3 := ⟨by kernel_rfl, by kernel_rfl⟩
instance : TI Tryz.prog 114 3 56 (.agg #[(.slice none 0 0), (.slice none 0 0), .nilFunc]) #[(.slice none 0 0), (.slice none 0 0), .nilFunc] := ⟨by kernel_rfl, rfl⟩
instance : FA Tryz.prog 114 0 0 96 := ⟨1, by kernel_rfl⟩
instance : FA Tryz.prog 114 1 2 113 := ⟨0, by kernel_rfl⟩
instance : BP Tryz.prog 114 [(0, 2), (2, 1)] := ⟨by kernel_rfl⟩
instance : AG Tryz.prog 115 3 := ⟨by kernel_rfl, by kernel_rfl⟩
instance : TI Tryz.prog 115 3 56 (.agg #[(.slice none 0 0), (.slice none 0 0), .nilFunc]) #[(.slice none 0 0), (.slice none 0 0), .nilFunc] := ⟨by kernel_rfl, rfl⟩
instance : FA Tryz.prog 115 0 0 96 := ⟨1, by kernel_rfl⟩
instance : FA Tryz.prog 115 1 2 113 := ⟨0, by kernel_rfl⟩
instance : BP Tryz.prog 115 [(0, 2), (2, 1)] := ⟨by kernel_rfl⟩
instance : TD Tryz.prog 120 (.interface #[("muscovado/floor.day", 129)]) := ⟨Tryz.underlying120⟩
instance : SC Tryz.prog 120 := ⟨by kernel_rfl⟩
instance : TI Tryz.prog 120 1 16 .nilIface #[.nilIface] := ⟨by kernel_rfl, rfl⟩
instance : TD Tryz.prog 121 (.interface #[("muscovado/floor.day", 129)]) := ⟨Tryz.underlying121⟩
instance : SC Tryz.prog 121 := ⟨by kernel_rfl⟩
instance : TI Tryz.prog 121 1 16 .nilIface #[.nilIface] := ⟨by kernel_rfl, rfl⟩
instance : AG Tryz.prog 122 2 := ⟨by kernel_rfl, by kernel_rfl⟩
instance : TI Tryz.prog 122 2 24 (.agg #[.nilIface, (.int .i64 0)]) #[.nilIface, (.int .i64 0)] := ⟨by kernel_rfl, rfl⟩
instance : FA Tryz.prog 122 0 0 121 := ⟨0, by kernel_rfl⟩
instance : FA Tryz.prog 122 1 1 3 := ⟨0, by kernel_rfl⟩
instance : BP Tryz.prog 122 [(0, 1), (1, 1)] := ⟨by kernel_rfl⟩
instance : AG Tryz.prog 123 2 := ⟨by kernel_rfl, by kernel_rfl⟩
instance : TI Tryz.prog 123 2 24 (.agg #[.nilIface, (.int .i64 0)]) #[.nilIface, (.int .i64 0)] := ⟨by kernel_rfl, rfl⟩
instance : FA Tryz.prog 123 0 0 121 := ⟨0, by kernel_rfl⟩
instance : FA Tryz.prog 123 1 1 3 := ⟨0, by kernel_rfl⟩
instance : BP Tryz.prog 123 [(0, 1), (1, 1)] := ⟨by kernel_rfl⟩
instance : TD Tryz.prog 125 (.interface #[("Error", 253)]) := ⟨Tryz.underlying125⟩
instance : SC Tryz.prog 125 := ⟨by kernel_rfl⟩
instance : TI Tryz.prog 125 1 16 .nilIface #[.nilIface] := ⟨by kernel_rfl, rfl⟩
instance : TD Tryz.prog 126 (.interface #[("Error", 253)]) := ⟨Tryz.underlying126⟩
instance : SC Tryz.prog 126 := ⟨by kernel_rfl⟩
instance : TI Tryz.prog 126 1 16 .nilIface #[.nilIface] := ⟨by kernel_rfl, rfl⟩
instance : TD Tryz.prog 128 (.pointer 123) := ⟨Tryz.underlying128⟩
instance : SC Tryz.prog 128 := ⟨by kernel_rfl⟩
instance : TI Tryz.prog 128 1 8 (.pointer none) #[(.pointer none)] := ⟨by kernel_rfl, rfl⟩
instance : TD Tryz.prog 140 (.pointer 29) := ⟨Tryz.underlying140⟩
instance : SC Tryz.prog 140 := ⟨by kernel_rfl⟩
instance : TI Tryz.prog 140 1 8 (.pointer none) #[(.pointer none)] := ⟨by kernel_rfl, rfl⟩
instance : AG Tryz.prog 147 3 := ⟨by kernel_rfl, by kernel_rfl⟩
instance : TI Tryz.prog 147 3 24 (.agg #[(.int .i64 0), (.int .i64 0), (.int .i64 0)]) #[(.int .i64 0), (.int .i64 0), (.int .i64 0)] := ⟨by kernel_rfl, rfl⟩
instance : FA Tryz.prog 147 0 0 3 := ⟨0, by kernel_rfl⟩
instance : FA Tryz.prog 147 1 1 3 := ⟨0, by kernel_rfl⟩
instance : FA Tryz.prog 147 2 2 3 := ⟨0, by kernel_rfl⟩
instance : BP Tryz.prog 147 [(0, 1), (1, 1), (2, 1)] := ⟨by kernel_rfl⟩
instance : AG Tryz.prog 148 3 := ⟨by kernel_rfl, by kernel_rfl⟩
instance : TI Tryz.prog 148 3 24 (.agg #[(.int .i64 0), (.int .i64 0), (.int .i64 0)]) #[(.int .i64 0), (.int .i64 0), (.int .i64 0)] := ⟨by kernel_rfl, rfl⟩
instance : FA Tryz.prog 148 0 0 3 := ⟨0, by kernel_rfl⟩
instance : FA Tryz.prog 148 1 1 3 := ⟨0, by kernel_rfl⟩
instance : FA Tryz.prog 148 2 2 3 := ⟨0, by kernel_rfl⟩
instance : BP Tryz.prog 148 [(0, 1), (1, 1), (2, 1)] := ⟨by kernel_rfl⟩
instance : TD Tryz.prog 151 (.pointer 196) := ⟨Tryz.underlying151⟩
instance : SC Tryz.prog 151 := ⟨by kernel_rfl⟩
instance : TI Tryz.prog 151 1 8 (.pointer none) #[(.pointer none)] := ⟨by kernel_rfl, rfl⟩
instance : TD Tryz.prog 154 (.int .u8) := ⟨Tryz.underlying154⟩
instance : SC Tryz.prog 154 := ⟨by kernel_rfl⟩
instance : TI Tryz.prog 154 1 1 (.int .u8 0) #[(.int .u8 0)] := ⟨by kernel_rfl, rfl⟩
instance : TD Tryz.prog 159 (.int .u64) := ⟨Tryz.underlying159⟩
instance : SC Tryz.prog 159 := ⟨by kernel_rfl⟩
instance : TI Tryz.prog 159 1 8 (.int .u64 0) #[(.int .u64 0)] := ⟨by kernel_rfl, rfl⟩
instance : TD Tryz.prog 165 (.map 98 4) := ⟨Tryz.underlying165⟩
instance : SC Tryz.prog 165 := ⟨by kernel_rfl⟩
instance : TI Tryz.prog 165 1 8 (.map none) #[(.map none)] := ⟨by kernel_rfl, rfl⟩
instance : TD Tryz.prog 175 (.pointer 98) := ⟨Tryz.underlying175⟩
instance : SC Tryz.prog 175 := ⟨by kernel_rfl⟩
instance : TI Tryz.prog 175 1 8 (.pointer none) #[(.pointer none)] := ⟨by kernel_rfl, rfl⟩
instance : SC Tryz.prog 176 := ⟨by kernel_rfl⟩
instance : TI Tryz.prog 176 1 8 (.pointer none) #[(.pointer none)] := ⟨by kernel_rfl, rfl⟩
instance : TD Tryz.prog 177 (.int .u64) := ⟨Tryz.underlying177⟩
instance : SC Tryz.prog 177 := ⟨by kernel_rfl⟩
instance : TI Tryz.prog 177 1 8 (.int .u64 0) #[(.int .u64 0)] := ⟨by kernel_rfl, rfl⟩
instance : AG Tryz.prog 178 3 := ⟨by kernel_rfl, by kernel_rfl⟩
instance : TI Tryz.prog 178 3 24 (.agg #[(.pointer none), (.pointer none), (.int .u64 0)]) #[(.pointer none), (.pointer none), (.int .u64 0)] := ⟨by kernel_rfl, rfl⟩
instance : FA Tryz.prog 178 0 0 17 := ⟨0, by kernel_rfl⟩
instance : FA Tryz.prog 178 1 1 176 := ⟨0, by kernel_rfl⟩
instance : FA Tryz.prog 178 2 2 177 := ⟨0, by kernel_rfl⟩
instance : BP Tryz.prog 178 [(0, 1), (1, 1), (2, 1)] := ⟨by kernel_rfl⟩
instance : AG Tryz.prog 179 3 := ⟨by kernel_rfl, by kernel_rfl⟩
instance : TI Tryz.prog 179 3 24 (.agg #[(.pointer none), (.pointer none), (.int .u64 0)]) #[(.pointer none), (.pointer none), (.int .u64 0)] := ⟨by kernel_rfl, rfl⟩
instance : FA Tryz.prog 179 0 0 17 := ⟨0, by kernel_rfl⟩
instance : FA Tryz.prog 179 1 1 176 := ⟨0, by kernel_rfl⟩
instance : FA Tryz.prog 179 2 2 177 := ⟨0, by kernel_rfl⟩
instance : BP Tryz.prog 179 [(0, 1), (1, 1), (2, 1)] := ⟨by kernel_rfl⟩
instance : TD Tryz.prog 181 (.interface #[("AssignableTo", 186), ("Comparable", 35), ("Elem", 183), ("Implements", 186), ("Kind", 185), ("Name", 253), ("PkgPath", 253), ("Size", 268), ("String", 253), ("internal/reflectlite.common", 259), ("internal/reflectlite.uncommon", 269)]) := ⟨Tryz.underlying181⟩
instance : SC Tryz.prog 181 := ⟨by kernel_rfl⟩
instance : TI Tryz.prog 181 1 16 .nilIface #[.nilIface] := ⟨by kernel_rfl, rfl⟩
instance : TD Tryz.prog 182 (.interface #[("AssignableTo", 186), ("Comparable", 35), ("Elem", 183), ("Implements", 186), ("Kind", 185), ("Name", 253), ("PkgPath", 253), ("Size", 268), ("String", 253), ("internal/reflectlite.common", 259), ("internal/reflectlite.uncommon", 269)]) := ⟨Tryz.underlying182⟩
instance : SC Tryz.prog 182 := ⟨by kernel_rfl⟩
instance : TI Tryz.prog 182 1 16 .nilIface #[.nilIface] := ⟨by kernel_rfl, rfl⟩
instance : TD Tryz.prog 184 (.int .u8) := ⟨Tryz.underlying184⟩
instance : SC Tryz.prog 184 := ⟨by kernel_rfl⟩
instance : TI Tryz.prog 184 1 1 (.int .u8 0) #[(.int .u8 0)] := ⟨by kernel_rfl, rfl⟩
instance : TD Tryz.prog 194 (.map 198 201) := ⟨Tryz.underlying194⟩
instance : SC Tryz.prog 194 := ⟨by kernel_rfl⟩
instance : TI Tryz.prog 194 1 8 (.map none) #[(.map none)] := ⟨by kernel_rfl, rfl⟩
instance : AG Tryz.prog 195 6 := ⟨by kernel_rfl, by kernel_rfl⟩
instance : TI Tryz.prog 195 6 128 (.agg #[(.slice none 0 0), (.slice none 0 0), (.slice none 0 0), (.slice none 0 0), (.slice none 0 0), (.map none)]) #[(.slice none 0 0), (.slice none 0 0), (.slice none 0 0), (.slice none 0 0), (.slice none 0 0), (.map none)] := ⟨by kernel_rfl, rfl⟩
instance : FA Tryz.prog 195 0 0 72 := ⟨4, by kernel_rfl⟩
instance : FA Tryz.prog 195 1 5 194 := ⟨0, by kernel_rfl⟩
instance : BP Tryz.prog 195 [(0, 5), (5, 1)] := ⟨by kernel_rfl⟩
instance : AG Tryz.prog 196 6 := ⟨by kernel_rfl, by kernel_rfl⟩
instance : TI Tryz.prog 196 6 128 (.agg #[(.slice none 0 0), (.slice none 0 0), (.slice none 0 0), (.slice none 0 0), (.slice none 0 0), (.map none)]) #[(.slice none 0 0), (.slice none 0 0), (.slice none 0 0), (.slice none 0 0), (.slice none 0 0), (.map none)] := ⟨by kernel_rfl, rfl⟩
instance : FA Tryz.prog 196 0 0 72 := ⟨4, by kernel_rfl⟩
instance : FA Tryz.prog 196 1 5 194 := ⟨0, by kernel_rfl⟩
instance : BP Tryz.prog 196 [(0, 5), (5, 1)] := ⟨by kernel_rfl⟩
instance : TD Tryz.prog 197 (.array 5 3) := ⟨Tryz.underlying197⟩
instance : AG Tryz.prog 197 5 := ⟨by kernel_rfl, by kernel_rfl⟩
instance : TI Tryz.prog 197 5 40 (.agg #[(.int .i64 0), (.int .i64 0), (.int .i64 0), (.int .i64 0), (.int .i64 0)]) #[(.int .i64 0), (.int .i64 0), (.int .i64 0), (.int .i64 0), (.int .i64 0)] := ⟨by kernel_rfl, rfl⟩
instance : TD Tryz.prog 198 (.array 5 3) := ⟨Tryz.underlying198⟩
instance : AG Tryz.prog 198 5 := ⟨by kernel_rfl, by kernel_rfl⟩
instance : TI Tryz.prog 198 5 40 (.agg #[(.int .i64 0), (.int .i64 0), (.int .i64 0), (.int .i64 0), (.int .i64 0)]) #[(.int .i64 0), (.int .i64 0), (.int .i64 0), (.int .i64 0), (.int .i64 0)] := ⟨by kernel_rfl, rfl⟩
instance : TD Tryz.prog 199 (.array 3 27) := ⟨Tryz.underlying199⟩
instance : AG Tryz.prog 199 6 := ⟨by kernel_rfl, by kernel_rfl⟩
instance : TI Tryz.prog 199 6 48 (.agg #[(.int .i64 0), (.int .i64 0), (.int .i64 0), (.int .i64 0), (.int .i64 0), (.int .i64 0)]) #[(.int .i64 0), (.int .i64 0), (.int .i64 0), (.int .i64 0), (.int .i64 0), (.int .i64 0)] := ⟨by kernel_rfl, rfl⟩
instance : AG Tryz.prog 200 12 := ⟨by kernel_rfl, by kernel_rfl⟩
instance : TI Tryz.prog 200 12 96 (.agg #[(.int .i64 0), (.int .i64 0), (.int .i64 0), (.int .i64 0), (.int .i64 0), (.int .i64 0), (.int .i64 0), (.int .i64 0), (.int .i64 0), (.int .i64 0), (.int .i64 0), (.int .i64 0)]) #[(.int .i64 0), (.int .i64 0), (.int .i64 0), (.int .i64 0), (.int .i64 0), (.int .i64 0), (.int .i64 0), (.int .i64 0), (.int .i64 0), (.int .i64 0), (.int .i64 0), (.int .i64 0)] := ⟨by kernel_rfl, rfl⟩
instance : FA Tryz.prog 200 0 0 198 := ⟨4, by kernel_rfl⟩
instance : FA Tryz.prog 200 1 5 199 := ⟨5, by kernel_rfl⟩
instance : FA Tryz.prog 200 2 11 3 := ⟨0, by kernel_rfl⟩
instance : BP Tryz.prog 200 [(0, 5), (5, 6), (11, 1)] := ⟨by kernel_rfl⟩
instance : AG Tryz.prog 201 12 := ⟨by kernel_rfl, by kernel_rfl⟩
instance : TI Tryz.prog 201 12 96 (.agg #[(.int .i64 0), (.int .i64 0), (.int .i64 0), (.int .i64 0), (.int .i64 0), (.int .i64 0), (.int .i64 0), (.int .i64 0), (.int .i64 0), (.int .i64 0), (.int .i64 0), (.int .i64 0)]) #[(.int .i64 0), (.int .i64 0), (.int .i64 0), (.int .i64 0), (.int .i64 0), (.int .i64 0), (.int .i64 0), (.int .i64 0), (.int .i64 0), (.int .i64 0), (.int .i64 0), (.int .i64 0)] := ⟨by kernel_rfl, rfl⟩
instance : FA Tryz.prog 201 0 0 198 := ⟨4, by kernel_rfl⟩
instance : FA Tryz.prog 201 1 5 199 := ⟨5, by kernel_rfl⟩
instance : FA Tryz.prog 201 2 11 3 := ⟨0, by kernel_rfl⟩
instance : BP Tryz.prog 201 [(0, 5), (5, 6), (11, 1)] := ⟨by kernel_rfl⟩
instance : TD Tryz.prog 206 (.pointer 108) := ⟨Tryz.underlying206⟩
instance : SC Tryz.prog 206 := ⟨by kernel_rfl⟩
instance : TI Tryz.prog 206 1 8 (.pointer none) #[(.pointer none)] := ⟨by kernel_rfl, rfl⟩
instance : TD Tryz.prog 208 (.slice 209) := ⟨Tryz.underlying208⟩
instance : SC Tryz.prog 208 := ⟨by kernel_rfl⟩
instance : TI Tryz.prog 208 1 24 (.slice none 0 0) #[(.slice none 0 0)] := ⟨by kernel_rfl, rfl⟩
instance : TD Tryz.prog 209 (.chan .both 98) := ⟨Tryz.underlying209⟩
instance : SC Tryz.prog 209 := ⟨by kernel_rfl⟩
instance : TI Tryz.prog 209 1 8 (.chan none) #[(.chan none)] := ⟨by kernel_rfl, rfl⟩
instance : AG Tryz.prog 214 1 := ⟨by kernel_rfl, by kernel_rfl⟩
instance : TI Tryz.prog 214 1 8 (.agg #[(.pointer none)]) #[(.pointer none)] := ⟨by kernel_rfl, rfl⟩
instance : FA Tryz.prog 214 0 0 17 := ⟨0, by kernel_rfl⟩
instance : BP Tryz.prog 214 [(0, 1)] := ⟨by kernel_rfl⟩
instance : AG Tryz.prog 215 1 := ⟨by kernel_rfl, by kernel_rfl⟩
instance : TI Tryz.prog 215 1 8 (.agg #[(.pointer none)]) #[(.pointer none)] := ⟨by kernel_rfl, rfl⟩
instance : FA Tryz.prog 215 0 0 17 := ⟨0, by kernel_rfl⟩
instance : BP Tryz.prog 215 [(0, 1)] := ⟨by kernel_rfl⟩



instance : TD Tryz.prog 220 (.interface #[("As", 222)]) := ⟨Tryz.underlying220⟩
instance : SC Tryz.prog 220 := ⟨by kernel_rfl⟩
instance : TI Tryz.prog 220 1 16 .nilIface #[.nilIface] := ⟨by kernel_rfl, rfl⟩
instance : TD Tryz.prog 223 (.interface #[("Unwrap", 224)]) := ⟨Tryz.underlying223⟩
instance : SC Tryz.prog 223 := ⟨by kernel_rfl⟩
instance : TI Tryz.prog 223 1 16 .nilIface #[.nilIface] := ⟨by kernel_rfl, rfl⟩
instance : TD Tryz.prog 225 (.interface #[("Unwrap", 227)]) := ⟨Tryz.underlying225⟩
instance : SC Tryz.prog 225 := ⟨by kernel_rfl⟩
instance : TI Tryz.prog 225 1 16 .nilIface #[.nilIface] := ⟨by kernel_rfl, rfl⟩
instance : TD Tryz.prog 226 (.slice 126) := ⟨Tryz.underlying226⟩
instance : SC Tryz.prog 226 := ⟨by kernel_rfl⟩
instance : TI Tryz.prog 226 1 24 (.slice none 0 0) #[(.slice none 0 0)] := ⟨by kernel_rfl, rfl⟩
instance : AG Tryz.prog 228 1 := ⟨by kernel_rfl, by kernel_rfl⟩
instance : TI Tryz.prog 228 1 8 (.agg #[(.int .i64 0)]) #[(.int .i64 0)] := ⟨by kernel_rfl, rfl⟩
instance : FA Tryz.prog 228 0 0 3 := ⟨0, by kernel_rfl⟩
instance : BP Tryz.prog 228 [(0, 1)] := ⟨by kernel_rfl⟩
instance : AG Tryz.prog 229 1 := ⟨by kernel_rfl, by kernel_rfl⟩
instance : TI Tryz.prog 229 1 8 (.agg #[(.int .i64 0)]) #[(.int .i64 0)] := ⟨by kernel_rfl, rfl⟩
instance : FA Tryz.prog 229 0 0 3 := ⟨0, by kernel_rfl⟩
instance : BP Tryz.prog 229 [(0, 1)] := ⟨by kernel_rfl⟩
instance : AG Tryz.prog 230 1 := ⟨by kernel_rfl, by kernel_rfl⟩
instance : TI Tryz.prog 230 1 8 (.agg #[(.int .i64 0)]) #[(.int .i64 0)] := ⟨by kernel_rfl, rfl⟩
instance : FA Tryz.prog 230 0 0 3 := ⟨0, by kernel_rfl⟩
instance : BP Tryz.prog 230 [(0, 1)] := ⟨by kernel_rfl⟩
instance : TD Tryz.prog 234 (.array 3 3) := ⟨Tryz.underlying234⟩
instance : AG Tryz.prog 234 3 := ⟨by kernel_rfl, by kernel_rfl⟩
instance : TI Tryz.prog 234 3 24 (.agg #[(.int .i64 0), (.int .i64 0), (.int .i64 0)]) #[(.int .i64 0), (.int .i64 0), (.int .i64 0)] := ⟨by kernel_rfl, rfl⟩







instance : AG Tryz.prog 255 4 := ⟨by kernel_rfl, by kernel_rfl⟩
instance : TI Tryz.prog 255 4 40 (.agg #[(.pointer none), (.pointer none), (.pointer none), (.string ⟨#[]⟩)]) #[(.pointer none), (.pointer none), (.pointer none), (.string ⟨#[]⟩)] := ⟨by kernel_rfl, rfl⟩
instance : FA Tryz.prog 255 0 0 17 := ⟨0, by kernel_rfl⟩
instance : FA Tryz.prog 255 1 1 17 := ⟨0, by kernel_rfl⟩
instance : FA Tryz.prog 255 2 2 17 := ⟨0, by kernel_rfl⟩
instance : FA Tryz.prog 255 3 3 9 := ⟨0, by kernel_rfl⟩
instance : BP Tryz.prog 255 [(0, 1), (1, 1), (2, 1), (3, 1)] := ⟨by kernel_rfl⟩






instance : AG Tryz.prog 258 0 := ⟨by kernel_rfl, by kernel_rfl⟩
instance : TI Tryz.prog 258 0 0 (.agg #[]) #[] := ⟨by kernel_rfl, rfl⟩
instance : BP Tryz.prog 258 [(0, 0)] := ⟨by kernel_rfl⟩





























instance : AG Tryz.prog 267 11 := ⟨by kernel_rfl, by kernel_rfl⟩
instance : TI Tryz.prog 267 11 48 (.agg #[(.int .u64 0), (.int .u64 0), (.int .u32 0), (.int .u8 0), (.int .u8 0), (.int .u8 0), (.int .u8 0), .nilFunc, (.pointer none), (.int .i32 0), (.int .i32 0)]) #[(.int .u64 0), (.int .u64 0), (.int .u32 0), (.int .u8 0), (.int .u8 0), (.int .u8 0), (.int .u8 0), .nilFunc, (.pointer none), (.int .i32 0), (.int .i32 0)] := ⟨by kernel_rfl, rfl⟩
instance : FA Tryz.prog 267 0 0 12 := ⟨0, by kernel_rfl⟩
instance : FA Tryz.prog 267 1 1 12 := ⟨0, by kernel_rfl⟩
instance : FA Tryz.prog 267 2 2 260 := ⟨0, by kernel_rfl⟩
instance : FA Tryz.prog 267 3 3 261 := ⟨0, by kernel_rfl⟩
instance : FA Tryz.prog 267 4 4 5 := ⟨0, by kernel_rfl⟩
instance : FA Tryz.prog 267 5 5 5 := ⟨0, by kernel_rfl⟩
instance : FA Tryz.prog 267 6 6 184 := ⟨0, by kernel_rfl⟩
instance : FA Tryz.prog 267 7 7 262 := ⟨0, by kernel_rfl⟩
instance : FA Tryz.prog 267 8 8 263 := ⟨0, by kernel_rfl⟩
instance : FA Tryz.prog 267 9 9 264 := ⟨0, by kernel_rfl⟩
instance : FA Tryz.prog 267 10 10 265 := ⟨0, by kernel_rfl⟩
instance : BP Tryz.prog 267 [(0, 1), (1, 1), (2, 1), (3, 1), (4, 1), (5, 1), (6, 1), (7, 1), (8, 1), (9, 1), (10, 1)] := ⟨by kernel_rfl⟩




























































instance : FB Tryz.prog 7 := ⟨by kernel_rfl⟩

instance : FB Tryz.prog 9 := ⟨by kernel_rfl⟩
instance : FB Tryz.prog 10 := ⟨by kernel_rfl⟩
instance : FB Tryz.prog 11 := ⟨by kernel_rfl⟩
instance : FB Tryz.prog 12 := ⟨by kernel_rfl⟩

instance : FB Tryz.prog 14 := ⟨by kernel_rfl⟩
instance : FB Tryz.prog 15 := ⟨by kernel_rfl⟩

instance : FB Tryz.prog 17 := ⟨by kernel_rfl⟩
instance : FB Tryz.prog 18 := ⟨by kernel_rfl⟩
instance : FB Tryz.prog 19 := ⟨by kernel_rfl⟩

instance : FB Tryz.prog 21 := ⟨by kernel_rfl⟩



instance : FB Tryz.prog 25 := ⟨by kernel_rfl⟩
instance : FB Tryz.prog 26 := ⟨by kernel_rfl⟩
instance : FB Tryz.prog 27 := ⟨by kernel_rfl⟩

instance : FB Tryz.prog 29 := ⟨by kernel_rfl⟩

instance : FB Tryz.prog 31 := ⟨by kernel_rfl⟩



instance : FB Tryz.prog 35 := ⟨by kernel_rfl⟩






instance : FB Tryz.prog 42 := ⟨by kernel_rfl⟩
instance : FB Tryz.prog 43 := ⟨by kernel_rfl⟩
instance : FB Tryz.prog 44 := ⟨by kernel_rfl⟩
instance : FB Tryz.prog 45 := ⟨by kernel_rfl⟩
instance : FB Tryz.prog 46 := ⟨by kernel_rfl⟩
instance : FB Tryz.prog 47 := ⟨by kernel_rfl⟩

instance : FB Tryz.prog 49 := ⟨by kernel_rfl⟩
instance : FB Tryz.prog 50 := ⟨by kernel_rfl⟩




instance : FB Tryz.prog 55 := ⟨by kernel_rfl⟩
instance : FB Tryz.prog 56 := ⟨by kernel_rfl⟩
instance : FB Tryz.prog 57 := ⟨by kernel_rfl⟩
instance : FB Tryz.prog 58 := ⟨by kernel_rfl⟩
instance : FB Tryz.prog 59 := ⟨by kernel_rfl⟩
instance : FB Tryz.prog 60 := ⟨by kernel_rfl⟩
instance : FB Tryz.prog 61 := ⟨by kernel_rfl⟩
instance : FB Tryz.prog 62 := ⟨by kernel_rfl⟩
instance : FB Tryz.prog 63 := ⟨by kernel_rfl⟩
instance : FB Tryz.prog 64 := ⟨by kernel_rfl⟩
instance : FB Tryz.prog 65 := ⟨by kernel_rfl⟩
instance : FB Tryz.prog 66 := ⟨by kernel_rfl⟩

instance : FB Tryz.prog 68 := ⟨by kernel_rfl⟩
instance : FB Tryz.prog 69 := ⟨by kernel_rfl⟩
instance : FB Tryz.prog 70 := ⟨by kernel_rfl⟩
instance : FB Tryz.prog 71 := ⟨by kernel_rfl⟩
instance : FB Tryz.prog 72 := ⟨by kernel_rfl⟩
instance : FB Tryz.prog 73 := ⟨by kernel_rfl⟩
instance : FB Tryz.prog 74 := ⟨by kernel_rfl⟩
instance : FB Tryz.prog 75 := ⟨by kernel_rfl⟩
instance : FB Tryz.prog 76 := ⟨by kernel_rfl⟩
instance : FB Tryz.prog 77 := ⟨by kernel_rfl⟩

instance : FB Tryz.prog 79 := ⟨by kernel_rfl⟩
instance : FB Tryz.prog 80 := ⟨by kernel_rfl⟩
instance : FB Tryz.prog 81 := ⟨by kernel_rfl⟩
instance : FB Tryz.prog 82 := ⟨by kernel_rfl⟩
instance : FB Tryz.prog 83 := ⟨by kernel_rfl⟩
instance : FB Tryz.prog 84 := ⟨by kernel_rfl⟩
instance : FB Tryz.prog 85 := ⟨by kernel_rfl⟩
instance : FB Tryz.prog 86 := ⟨by kernel_rfl⟩
instance : FB Tryz.prog 87 := ⟨by kernel_rfl⟩
instance : FB Tryz.prog 88 := ⟨by kernel_rfl⟩
instance : FB Tryz.prog 89 := ⟨by kernel_rfl⟩
instance : FB Tryz.prog 90 := ⟨by kernel_rfl⟩
instance : FB Tryz.prog 91 := ⟨by kernel_rfl⟩
instance : FB Tryz.prog 92 := ⟨by kernel_rfl⟩
instance : FB Tryz.prog 93 := ⟨by kernel_rfl⟩
instance : FB Tryz.prog 94 := ⟨by kernel_rfl⟩



instance : FB Tryz.prog 98 := ⟨by kernel_rfl⟩





instance : FB Tryz.prog 104 := ⟨by kernel_rfl⟩
instance : FB Tryz.prog 105 := ⟨by kernel_rfl⟩
instance : FB Tryz.prog 106 := ⟨by kernel_rfl⟩
instance : FB Tryz.prog 107 := ⟨by kernel_rfl⟩
instance : FB Tryz.prog 108 := ⟨by kernel_rfl⟩
instance : FB Tryz.prog 109 := ⟨by kernel_rfl⟩
instance : FB Tryz.prog 110 := ⟨by kernel_rfl⟩
instance : FB Tryz.prog 111 := ⟨by kernel_rfl⟩
instance : FB Tryz.prog 112 := ⟨by kernel_rfl⟩
instance : FB Tryz.prog 113 := ⟨by kernel_rfl⟩
instance : FB Tryz.prog 114 := ⟨by kernel_rfl⟩
instance : FB Tryz.prog 115 := ⟨by kernel_rfl⟩
instance : FB Tryz.prog 116 := ⟨by kernel_rfl⟩
instance : FB Tryz.prog 117 := ⟨by kernel_rfl⟩
instance : FB Tryz.prog 121 := ⟨by kernel_rfl⟩
instance : FB Tryz.prog 122 := ⟨by kernel_rfl⟩
instance : FB Tryz.prog 123 := ⟨by kernel_rfl⟩
instance : FB Tryz.prog 124 := ⟨by kernel_rfl⟩
instance : FB Tryz.prog 125 := ⟨by kernel_rfl⟩









instance : FB Tryz.prog 135 := ⟨by kernel_rfl⟩
instance : FB Tryz.prog 136 := ⟨by kernel_rfl⟩
instance : FB Tryz.prog 137 := ⟨by kernel_rfl⟩
instance : FB Tryz.prog 138 := ⟨by kernel_rfl⟩
instance : FB Tryz.prog 139 := ⟨by kernel_rfl⟩
instance : FB Tryz.prog 140 := ⟨by kernel_rfl⟩
instance : FB Tryz.prog 141 := ⟨by kernel_rfl⟩
instance : FB Tryz.prog 142 := ⟨by kernel_rfl⟩
instance : FB Tryz.prog 146 := ⟨by kernel_rfl⟩




instance : FB Tryz.prog 151 := ⟨by kernel_rfl⟩
instance : FB Tryz.prog 152 := ⟨by kernel_rfl⟩





instance : FB Tryz.prog 158 := ⟨by kernel_rfl⟩










instance : FB Tryz.prog 203 := ⟨by kernel_rfl⟩
instance : FB Tryz.prog 204 := ⟨by kernel_rfl⟩

end Go.Proofs.YtnffnndmilpnoaaGreatDoor

/- Short forms for walks: results, calls of functions that only answer. Conditions: none; over any program. -/
namespace Go.Mus
/-- What the results are, where they lie in temporaries. -/
def resT (ρ : Env) : List ResultVar → Option (List Value)
 | [] => some []
 | .tmp t :: r => match look ρ t, resT ρ r with
  | some v, some vs => some (v :: vs)
  | _, _ => none
 | .cell _ _ :: _ => none
theorem resT_ok {P : Program} {h : Hp} {F : Frag} {ρ : Env} : ∀ {rs : List ResultVar} {vs : List Value}, resT ρ rs = some vs → resOK P h F rs ρ vs
 | [], vs, e => by simp only [resT, Option.some.injEq] at e; exact e.symm
 | .tmp t :: r, vs, e => by
  simp only [resT] at e
  split at e
  ·rename_i v vs' h1 h2
   cases e
   exact ⟨v, vs', rfl, h1, resT_ok h2⟩
  ·cases e
 | .cell _ _ :: _, vs, e => by cases e

/-- A function that answers, and keeps nothing. -/
abbrev Pu (P : Program) (main : Side) (f : FuncId) (args : Array Value) (h : Hp) (u : Value) : Prop := Fnc P main f args h [] (fun v A => v = u ∧ Shut A)

section
variable {P : Program} {main : Side} {fn : Func} {h : Hp} {R : Value → Frag → Prop} {e : Exit} {ρ : Env} {F : Frag} {ds : List Deferred}
theorem lvt {vs : List Value} (hR : R (pack vs) F) (he : e = .ret ∨ e = .normal := by first | exact .inl rfl | exact .inr rfl) (hv : resT ρ fn.results.toList = some vs := by rfl) : leave P main fn h R e ρ [] F :=
 leave_of he (by simp) (resT_ok hv) hR
/-- .. for one that answers. -/
theorem lvp {u : Value} {vs : List Value} (hu : pack vs = u) (he : e = .ret ∨ e = .normal := by first | exact .inl rfl | exact .inr rfl) (hv : resT ρ fn.results.toList = some vs := by rfl) (hs : Shut F := by repeat (first | exact Shut.nil | assumption | refine Shut.cons rfl ?_ | refine Shut.app ?_ ?_)) : leave P main fn h (fun v A => v = u ∧ Shut A) e ρ [] F :=
 lvt ⟨hu, hs⟩ he hv

/-- Marks of loops are taken off. -/
theorem Unw.marked {d : Nat} {K : Frag → Prop} {U : Obj → Frag} (hl : At d (.deferred (some [])) F U) (H : Unw P main h ds (U (.deferred none)) K) : Unw P main h (mark d :: ds) F K := by
 obtain ⟨F1, F2, e1, e2⟩ := hl.split
 show tr P h (Instr.takeDeferred d) F fun l F' => l = [] ∧ Unw P main h ds F' K
 simp only [Instr.takeDeferred, bind_eq, pure_eq]
 refine ⟨.deferred (some []), .inr (e1 ▸ by simp), (fun _ _ _ => by simp), rfl, ?_⟩
 refine ⟨.deferred (some []), F1, F2, e1, (fun _ _ _ => by simp), rfl, rfl, ?_⟩
 rw [e2] at H
 exact H
theorem lvm {d : Nat} {U : Obj → Frag} (H : leave P main fn h R e ρ ds (U (.deferred none))) (hl : At d (.deferred (some [])) F U := by repeat (first | exact At.head | apply At.tail | apply At.app)) : leave P main fn h R e ρ (mark d :: ds) F :=
 ⟨H.1, Unw.marked hl H.2⟩
end
section
variable {x : Cx} {Q : Post} {ρ : Env} {ds : List Deferred} {F : Frag} {ops : Array Oper} {i : Nat} {rest : List Nat} {d : Tmp} {ty : TypeId} {pos : String} {aft : Array Edge} {g : Option (Nat × Bool)} {L : Frag}
variable {f : FuncId} {args : List Operand} {ts : Array TypeId} {vs : List Value}
/-- A call of a function that answers. -/
theorem cp {u : Value} (H : ∀ h', Ext x.h h' → Lent F h' → Pu x.P x.main f vs.toArray h' u) (K : Ops x ops rest Q ((d, u) :: ρ) ds F) (ho : nthO ops.toList i = some ⟨some d, .call ⟨.value (.func f), args.toArray, ts⟩, ty, pos, aft, g⟩ := by rfl) [FB x.P f] (hv : evs ρ args = some vs := by rfl)
  (hw : want ops ρ ⟨some d, .call ⟨.value (.func f), args.toArray, ts⟩, ty, pos, aft, g⟩ := by first | exact wn | exact want_some rfl rfl rfl) (hd : Nat.blt d x.n = true := by rfl) : Ops x ops (i :: rest) Q ρ ds F :=
 Ops.eff (o := ⟨some d, .call ⟨.value (.func f), args.toArray, ts⟩, ty, pos, aft, g⟩) (e_call0 rfl hv H fun v A' hv => by
  obtain ⟨rfl, hs⟩ := hv
  exact Ops.sb (Sb.left .refl hs) K) (nthO_get ho) hw hd rfl
/-- A call that is handed nothing. -/
theorem c0 {R' : Value → Frag → Prop} (H : ∀ h', Ext x.h h' → Lent F h' → Fnc x.P x.main f vs.toArray h' [] R') (K : ∀ v A', R' v A' → Ops x ops rest Q ((d, v) :: ρ) ds (A' ++ F)) (ho : nthO ops.toList i = some ⟨some d, .call ⟨.value (.func f), args.toArray, ts⟩, ty, pos, aft, g⟩ := by rfl) [FB x.P f] (hv : evs ρ args = some vs := by rfl)
  (hw : want ops ρ ⟨some d, .call ⟨.value (.func f), args.toArray, ts⟩, ty, pos, aft, g⟩ := by first | exact wn | exact want_some rfl rfl rfl) (hd : Nat.blt d x.n = true := by rfl) : Ops x ops (i :: rest) Q ρ ds F :=
 Ops.eff (o := ⟨some d, .call ⟨.value (.func f), args.toArray, ts⟩, ty, pos, aft, g⟩) (e_call0 rfl hv H fun v A' hv => K v A' hv) (nthO_get ho) hw hd rfl
/-- A call that is handed a part. -/
theorem cg {A : Frag} {U : Frag → Frag} {R' : Value → Frag → Prop} (hs : Seg A F U) (H : ∀ h', Ext x.h h' → Lent (U []) h' → Fnc x.P x.main f vs.toArray h' A R') (K : ∀ v A', R' v A' → Ops x ops rest Q ((d, v) :: ρ) ds (U A')) (ho : nthO ops.toList i = some ⟨some d, .call ⟨.value (.func f), args.toArray, ts⟩, ty, pos, aft, g⟩ := by rfl) [FB x.P f] (hv : evs ρ args = some vs := by rfl)
  (hw : want ops ρ ⟨some d, .call ⟨.value (.func f), args.toArray, ts⟩, ty, pos, aft, g⟩ := by first | exact wn | exact want_some rfl rfl rfl) (hd : Nat.blt d x.n = true := by rfl) : Ops x ops (i :: rest) Q ρ ds F :=
 Ops.eff (o := ⟨some d, .call ⟨.value (.func f), args.toArray, ts⟩, ty, pos, aft, g⟩) (e_call rfl hv hs H fun v A' hv => K v A' hv) (nthO_get ho) hw hd rfl
end
section
variable {x : Cx} {Q : Post} {ρ : Env} {ds : List Deferred} {F : Frag} {ops : Array Oper} {i : Nat} {rest : List Nat} {d : Tmp} {op : Op} {ty : TypeId} {pos : String} {aft : Array Edge} {g : Option (Nat × Bool)} {L : Frag}
theorem look_again {d : Nat} {v : Value} (h : look ρ d = some v) : look ((d, v) :: ρ) = look ρ := by
 funext t
 show (bif Nat.beq t d then some v else look ρ t) = look ρ t
 cases e : Nat.beq t d with
 | true => rw [Nat.eq_of_beq_eq_true e, h]; rfl
 | false => rfl
/-- A guard's outcome, in an open order. -/
theorem Any.ask {fuel listed d' : Nat} {p : Prop} [Decidable p] (ht : p → Any x ops L fuel listed Q ((d', .bool true) :: ρ) ds F) (hf : ¬ p → Any x ops L fuel listed Q ((d', .bool false) :: ρ) ds F) (hv : look ρ d' = some (.bool (decide p)) := by rfl) : Any x ops L fuel listed Q ρ ds F := by
 by_cases hp : p
 ·have := ht hp
  have e : look ρ d' = some (.bool true) := by rw [hv]; simp [hp]
  unfold Any at this ⊢
  rwa [look_again e] at this
 ·have := hf hp
  have e : look ρ d' = some (.bool false) := by rw [hv]; simp [hp]
  unfold Any at this ⊢
  rwa [look_again e] at this
theorem Any.askB {fuel listed d' : Nat} {b : Bool} (ht : b = true → Any x ops L fuel listed Q ((d', .bool true) :: ρ) ds F) (hf : b = false → Any x ops L fuel listed Q ((d', .bool false) :: ρ) ds F) (hv : look ρ d' = some (.bool b) := by rfl) : Any x ops L fuel listed Q ρ ds F := by
 cases b with
 | true => have := ht rfl; unfold Any at this ⊢; rwa [look_again hv] at this
 | false => have := hf rfl; unfold Any at this ⊢; rwa [look_again hv] at this
theorem Ops.askB {j d' : Nat} {w b : Bool} {D : Option Tmp} (ht : b = true → Ops x ops (i :: rest) Q ((d', .bool true) :: ρ) ds F) (hf : b = false → Ops x ops (i :: rest) Q ((d', .bool false) :: ρ) ds F) (ho : nthO ops.toList i = some ⟨D, op, ty, pos, aft, some (j, w)⟩ := by rfl) (hj : (nthO ops.toList j).bind (·.dst) = some d' := by rfl) (hv : look ρ d' = some (.bool b) := by rfl) : Ops x ops (i :: rest) Q ρ ds F := by
 have key : ∀ u : Bool, b = u → Ops x ops (i :: rest) Q ((d', .bool u) :: ρ) ds F → Ops x ops (i :: rest) Q ρ ds F := by
  intro u hu H b' k cs Stop tmps hk M h1 h0 h2 h3 h4 h5 hc
  refine H b' k cs Stop tmps hk M h1 h0 h2 (fun t y hy => ?_) h4 h5 hc
  rw [look_again (hu ▸ hv)] at hy
  exact h3 t y hy
 cases b with
 | true => exact key true rfl (ht rfl)
 | false => exact key false rfl (hf rfl)
variable {f : FuncId} {args : List Operand} {ts : Array TypeId} {vs : List Value}
/-- A call of a function that answers, in an open order, where it alone may come up. -/
theorem acp {fuel listed : Nat} {u : Value} (H : ∀ h', Ext x.h h' → Lent F h' → Pu x.P x.main f vs.toArray h' u) (K : Any x ops L fuel (listed ||| 2 ^ i) Q ((d, u) :: ρ) ds F) (hS : lastT ops i = true ∨ Keeps L F := by first | exact .inr (by repeat (first | exact fun _ h => h | apply Keeps.cons | apply Keeps.app)) | exact .inl (by kernel_rfl))
  (ho : nthO ops.toList i = some ⟨some d, .call ⟨.value (.func f), args.toArray, ts⟩, ty, pos, aft, g⟩ := by rfl) [FB x.P f] (hv : evs ρ args = some vs := by rfl)
  (hw : wantε ops (look ρ) ⟨some d, .call ⟨.value (.func f), args.toArray, ts⟩, ty, pos, aft, g⟩ true := by first | exact an | exact wantε_some rfl rfl rfl rfl) (hd : Nat.blt d x.n = true := by rfl) (hr : rdys ops listed = [i] := by kernel_rfl) : Any x ops L (fuel + 1) listed Q ρ ds F :=
 Any.eff (o := ⟨some d, .call ⟨.value (.func f), args.toArray, ts⟩, ty, pos, aft, g⟩) (e_call0 rfl hv H fun v A' hv => by
  obtain ⟨rfl, hs⟩ := hv
  exact ⟨hS.imp id fun k p hp => List.mem_append_right _ (k p hp), Any.sb (Sb.left .refl hs) K⟩) hr (nthO_get ho) hw hd rfl
end
section
variable {x : Cx} {Q Q' : Post} {ρ : Env} {ds : List Deferred} {F : Frag}
theorem thn_mono {K K' : Env → List Deferred → Frag → Prop} {e : Exit} {ρ : Env} {ds : List Deferred} {F : Frag} (h : thn K Q e ρ ds F) (hk : ∀ ρ ds F, K ρ ds F → K' ρ ds F) : thn K' Q e ρ ds F := by
 cases e <;> first | exact hk _ _ _ h | exact h
/-- Loops with a state of several parts. -/
theorem W.loop2 {σ τ : Type} {c : Code} (C : σ → τ → Prop) (E : σ → τ → Env) (D : σ → τ → Frag) (μ : σ → τ → Nat) (s₀ : σ) (t₀ : τ) (h₀ : C s₀ t₀) (he : Sub (E s₀ t₀) ρ) (hF : Sb (D s₀ t₀) F)
  (round : ∀ s t, C s t → W x c (thn (fun ρ' ds' F' => ds' = ds ∧ ∃ s' t', C s' t' ∧ μ s' t' < μ s t ∧ Sub (E s' t') ρ' ∧ Sb (D s' t') F') Q) (E s t) ds (D s t)) : W x (.loop c) Q ρ ds F :=
 W.loop (σ := σ × τ) (fun p => C p.1 p.2) (fun p => E p.1 p.2) (fun p => D p.1 p.2) (fun p => μ p.1 p.2) (s₀, t₀) h₀ he hF fun p h => (round p.1 p.2 h).mono fun _ _ _ _ q => thn_mono q fun _ _ _ ⟨e, s', t', h1⟩ => ⟨e, (s', t'), h1⟩
theorem W.loop3 {σ τ υ : Type} {c : Code} (C : σ → τ → υ → Prop) (E : σ → τ → υ → Env) (D : σ → τ → υ → Frag) (μ : σ → τ → υ → Nat) (s₀ : σ) (t₀ : τ) (u₀ : υ) (h₀ : C s₀ t₀ u₀) (he : Sub (E s₀ t₀ u₀) ρ) (hF : Sb (D s₀ t₀ u₀) F)
  (round : ∀ s t u, C s t u → W x c (thn (fun ρ' ds' F' => ds' = ds ∧ ∃ s' t' u', C s' t' u' ∧ μ s' t' u' < μ s t u ∧ Sub (E s' t' u') ρ' ∧ Sb (D s' t' u') F') Q) (E s t u) ds (D s t u)) : W x (.loop c) Q ρ ds F :=
 W.loop (σ := σ × τ × υ) (fun p => C p.1 p.2.1 p.2.2) (fun p => E p.1 p.2.1 p.2.2) (fun p => D p.1 p.2.1 p.2.2) (fun p => μ p.1 p.2.1 p.2.2) (s₀, t₀, u₀) h₀ he hF fun p h => (round p.1 p.2.1 p.2.2 h).mono fun _ _ _ _ q => thn_mono q fun _ _ _ ⟨e, s', t', u', h1⟩ => ⟨e, (s', t', u'), h1⟩
end
/-- The cells of a row. -/
theorem Part.rowG {α : Type} {row : α → List Value} {w : Nat} [Rw row w] {c : Array Value} {off i : Nat} {l : List α} {p : α} (h : Part c off (flat row l)) (hi : l[i]? = some p) (k : Nat) (hk : k < w) : c[off + i * w + k]? = (row p)[k]? :=
 (h.rowP hi).get (by rw [Rw.len]; exact hk)

/-- An element of what is read. -/
theorem Sl.at {α : Type} {row : α → List Value} {w : Nat} [Rw row w] {h : Hp} {a : Option Addr} {n cap : Nat} {l : List α} {i : Nat} {p : α} (H : Sl h row (.slice a n cap) l) (hi : l[i]? = some p) :
  ∃ b off c E fz, a = some ⟨b, off, none⟩ ∧ h b = some (.cells c E fz) ∧ c.extract (off + i * w) (off + i * w + w) = (row p).toArray ∧ off + i * w + w ≤ c.size ∧ ∀ k, k < w → c[off + i * w + k]? = (row p)[k]? := by
 have hne : l ≠ [] := by rintro rfl; simp at hi
 obtain ⟨a', cap', e, hx⟩ := H
 cases e
 obtain ⟨b, off, c, E, fz, rfl, hb, hp⟩ := hx hne
 obtain ⟨h1, h2⟩ := hp.rowE hi
 exact ⟨b, off, c, E, fz, rfl, hb, h1, h2, fun k hk => hp.rowG hi k hk⟩
theorem has {α : Type} {l : List α} {i : Nat} (h : i < l.length) : ∃ p, l[i]? = some p ∧ l.drop i = p :: l.drop (i + 1) := ⟨l[i], List.getElem?_eq_getElem h, (List.getElem_cons_drop ..).symm⟩
theorem Sl.isSl {α : Type} {row : α → List Value} {w : Nat} [Rw row w] {h : Hp} {v : Value} {l : List α} (H : Sl h row v l) : ∃ a cap, v = .slice a l.length cap := by
 obtain ⟨a, cap, e, _⟩ := H
 exact ⟨a, cap, e⟩

/-- What is dropped: by itself. -/
theorem sbA {A B : Frag} (h : Sb A B := by repeat (first | exact Sb.refl | apply Sb.cons | refine Sb.skip rfl ?_ | exact Sb.nil (by assumption))) : Sb A B := h
end Go.Mus

/- Names for the numbers of functions and types. Conditions: none. -/
namespace Go.Mus
noncomputable abbrev prog : Program := Proofs.Tryz.prog
abbrev n_law_FloorNeeds : Nat := 7
noncomputable abbrev F_law_FloorNeeds : Func := Proofs.Tryz.f7
theorem at_law_FloorNeeds : prog.funcs[n_law_FloorNeeds]? = some F_law_FloorNeeds := Proofs.Tryz.func7
abbrev n_law_vast : Nat := 9
noncomputable abbrev F_law_vast : Func := Proofs.Tryz.f9
theorem at_law_vast : prog.funcs[n_law_vast]? = some F_law_vast := Proofs.Tryz.func9
abbrev n_law_set : Nat := 10
noncomputable abbrev F_law_set : Func := Proofs.Tryz.f10
theorem at_law_set : prog.funcs[n_law_set]? = some F_law_set := Proofs.Tryz.func10
abbrev n_kit_NewHat : Nat := 11
noncomputable abbrev F_kit_NewHat : Func := Proofs.Tryz.f11
theorem at_kit_NewHat : prog.funcs[n_kit_NewHat]? = some F_kit_NewHat := Proofs.Tryz.func11
abbrev n_law_several : Nat := 12
noncomputable abbrev F_law_several : Func := Proofs.Tryz.f12
theorem at_law_several : prog.funcs[n_law_several]? = some F_law_several := Proofs.Tryz.func12
abbrev n_kit_Hat_To : Nat := 14
noncomputable abbrev F_kit_Hat_To : Func := Proofs.Tryz.f14
theorem at_kit_Hat_To : prog.funcs[n_kit_Hat_To]? = some F_kit_Hat_To := Proofs.Tryz.func14
abbrev n_kit_DupPlant : Nat := 15
noncomputable abbrev F_kit_DupPlant : Func := Proofs.Tryz.f15
theorem at_kit_DupPlant : prog.funcs[n_kit_DupPlant]? = some F_kit_DupPlant := Proofs.Tryz.func15
abbrev n_floor_Check : Nat := 17
noncomputable abbrev F_floor_Check : Func := Proofs.Tryz.f17
theorem at_floor_Check : prog.funcs[n_floor_Check]? = some F_floor_Check := Proofs.Tryz.func17
abbrev n_ref_Check : Nat := 18
noncomputable abbrev F_ref_Check : Func := Proofs.Tryz.f18
theorem at_ref_Check : prog.funcs[n_ref_Check]? = some F_ref_Check := Proofs.Tryz.func18
abbrev n_floor_CheckPlan : Nat := 19
noncomputable abbrev F_floor_CheckPlan : Func := Proofs.Tryz.f19
theorem at_floor_CheckPlan : prog.funcs[n_floor_CheckPlan]? = some F_floor_CheckPlan := Proofs.Tryz.func19
abbrev n_floor_Stands : Nat := 21
noncomputable abbrev F_floor_Stands : Func := Proofs.Tryz.f21
theorem at_floor_Stands : prog.funcs[n_floor_Stands]? = some F_floor_Stands := Proofs.Tryz.func21
abbrev n_kit_EqPlants : Nat := 25
noncomputable abbrev F_kit_EqPlants : Func := Proofs.Tryz.f25
theorem at_kit_EqPlants : prog.funcs[n_kit_EqPlants]? = some F_kit_EqPlants := Proofs.Tryz.func25
abbrev n_kit_EqBerths : Nat := 26
noncomputable abbrev F_kit_EqBerths : Func := Proofs.Tryz.f26
theorem at_kit_EqBerths : prog.funcs[n_kit_EqBerths]? = some F_kit_EqBerths := Proofs.Tryz.func26
abbrev n_floor_Best : Nat := 27
noncomputable abbrev F_floor_Best : Func := Proofs.Tryz.f27
theorem at_floor_Best : prog.funcs[n_floor_Best]? = some F_floor_Best := Proofs.Tryz.func27
abbrev n_floor_Count : Nat := 29
noncomputable abbrev F_floor_Count : Func := Proofs.Tryz.f29
theorem at_floor_Count : prog.funcs[n_floor_Count]? = some F_floor_Count := Proofs.Tryz.func29
abbrev n_floor_Late : Nat := 31
noncomputable abbrev F_floor_Late : Func := Proofs.Tryz.f31
theorem at_floor_Late : prog.funcs[n_floor_Late]? = some F_floor_Late := Proofs.Tryz.func31
abbrev n_floor_Wrong : Nat := 35
noncomputable abbrev F_floor_Wrong : Func := Proofs.Tryz.f35
theorem at_floor_Wrong : prog.funcs[n_floor_Wrong]? = some F_floor_Wrong := Proofs.Tryz.func35
abbrev n_floor_Patience : Nat := 42
noncomputable abbrev F_floor_Patience : Func := Proofs.Tryz.f42
theorem at_floor_Patience : prog.funcs[n_floor_Patience]? = some F_floor_Patience := Proofs.Tryz.func42
abbrev n_ref_Patience : Nat := 43
noncomputable abbrev F_ref_Patience : Func := Proofs.Tryz.f43
theorem at_ref_Patience : prog.funcs[n_ref_Patience]? = some F_ref_Patience := Proofs.Tryz.func43
abbrev n_floor_Need : Nat := 44
noncomputable abbrev F_floor_Need : Func := Proofs.Tryz.f44
theorem at_floor_Need : prog.funcs[n_floor_Need]? = some F_floor_Need := Proofs.Tryz.func44
abbrev n_ref_Need : Nat := 45
noncomputable abbrev F_ref_Need : Func := Proofs.Tryz.f45
theorem at_ref_Need : prog.funcs[n_ref_Need]? = some F_ref_Need := Proofs.Tryz.func45
abbrev n_floor_Slower : Nat := 46
noncomputable abbrev F_floor_Slower : Func := Proofs.Tryz.f46
theorem at_floor_Slower : prog.funcs[n_floor_Slower]? = some F_floor_Slower := Proofs.Tryz.func46
abbrev n_ref_Slower : Nat := 47
noncomputable abbrev F_ref_Slower : Func := Proofs.Tryz.f47
theorem at_ref_Slower : prog.funcs[n_ref_Slower]? = some F_ref_Slower := Proofs.Tryz.func47
abbrev n_kit_FloorOf : Nat := 49
noncomputable abbrev F_kit_FloorOf : Func := Proofs.Tryz.f49
theorem at_kit_FloorOf : prog.funcs[n_kit_FloorOf]? = some F_kit_FloorOf := Proofs.Tryz.func49
abbrev n_kit_Hat_One : Nat := 50
noncomputable abbrev F_kit_Hat_One : Func := Proofs.Tryz.f50
theorem at_kit_Hat_One : prog.funcs[n_kit_Hat_One]? = some F_kit_Hat_One := Proofs.Tryz.func50
abbrev n_law_plant : Nat := 55
noncomputable abbrev F_law_plant : Func := Proofs.Tryz.f55
theorem at_law_plant : prog.funcs[n_law_plant]? = some F_law_plant := Proofs.Tryz.func55
abbrev n_law_plan : Nat := 56
noncomputable abbrev F_law_plan : Func := Proofs.Tryz.f56
theorem at_law_plan : prog.funcs[n_law_plan]? = some F_law_plan := Proofs.Tryz.func56
abbrev n_law_none : Nat := 57
noncomputable abbrev F_law_none : Func := Proofs.Tryz.f57
theorem at_law_none : prog.funcs[n_law_none]? = some F_law_none := Proofs.Tryz.func57
abbrev n_kit_PlantOf : Nat := 58
noncomputable abbrev F_kit_PlantOf : Func := Proofs.Tryz.f58
theorem at_kit_PlantOf : prog.funcs[n_kit_PlantOf]? = some F_kit_PlantOf := Proofs.Tryz.func58
abbrev n_kit_Hat_Seldom : Nat := 59
noncomputable abbrev F_kit_Hat_Seldom : Func := Proofs.Tryz.f59
theorem at_kit_Hat_Seldom : prog.funcs[n_kit_Hat_Seldom]? = some F_kit_Hat_Seldom := Proofs.Tryz.func59
abbrev n_kit_Hat_stir : Nat := 60
noncomputable abbrev F_kit_Hat_stir : Func := Proofs.Tryz.f60
theorem at_kit_Hat_stir : prog.funcs[n_kit_Hat_stir]? = some F_kit_Hat_stir := Proofs.Tryz.func60
abbrev n_floor_checkFloor : Nat := 61
noncomputable abbrev F_floor_checkFloor : Func := Proofs.Tryz.f61
theorem at_floor_checkFloor : prog.funcs[n_floor_checkFloor]? = some F_floor_checkFloor := Proofs.Tryz.func61
abbrev n_floor_outside : Nat := 62
noncomputable abbrev F_floor_outside : Func := Proofs.Tryz.f62
theorem at_floor_outside : prog.funcs[n_floor_outside]? = some F_floor_outside := Proofs.Tryz.func62
abbrev n_ref_checkFloor : Nat := 63
noncomputable abbrev F_ref_checkFloor : Func := Proofs.Tryz.f63
theorem at_ref_checkFloor : prog.funcs[n_ref_checkFloor]? = some F_ref_checkFloor := Proofs.Tryz.func63
abbrev n_ref_among : Nat := 64
noncomputable abbrev F_ref_among : Func := Proofs.Tryz.f64
theorem at_ref_among : prog.funcs[n_ref_among]? = some F_ref_among := Proofs.Tryz.func64
abbrev n_floor_asked : Nat := 65
noncomputable abbrev F_floor_asked : Func := Proofs.Tryz.f65
theorem at_floor_asked : prog.funcs[n_floor_asked]? = some F_floor_asked := Proofs.Tryz.func65
abbrev n_floor_hall_stands : Nat := 66
noncomputable abbrev F_floor_hall_stands : Func := Proofs.Tryz.f66
theorem at_floor_hall_stands : prog.funcs[n_floor_hall_stands]? = some F_floor_hall_stands := Proofs.Tryz.func66
abbrev n_ref_stands : Nat := 68
noncomputable abbrev F_ref_stands : Func := Proofs.Tryz.f68
theorem at_ref_stands : prog.funcs[n_ref_stands]? = some F_ref_stands := Proofs.Tryz.func68
abbrev n_floor_hall_best : Nat := 69
noncomputable abbrev F_floor_hall_best : Func := Proofs.Tryz.f69
theorem at_floor_hall_best : prog.funcs[n_floor_hall_best]? = some F_floor_hall_best := Proofs.Tryz.func69
abbrev n_floor_hall_told : Nat := 70
noncomputable abbrev F_floor_hall_told : Func := Proofs.Tryz.f70
theorem at_floor_hall_told : prog.funcs[n_floor_hall_told]? = some F_floor_hall_told := Proofs.Tryz.func70
abbrev n_ref_Bests : Nat := 71
noncomputable abbrev F_ref_Bests : Func := Proofs.Tryz.f71
theorem at_ref_Bests : prog.funcs[n_ref_Bests]? = some F_ref_Bests := Proofs.Tryz.func71
abbrev n_floor_Late_1 : Nat := 72
noncomputable abbrev F_floor_Late_1 : Func := Proofs.Tryz.f72
theorem at_floor_Late_1 : prog.funcs[n_floor_Late_1]? = some F_floor_Late_1 := Proofs.Tryz.func72
abbrev n_floor_search_right : Nat := 73
noncomputable abbrev F_floor_search_right : Func := Proofs.Tryz.f73
theorem at_floor_search_right : prog.funcs[n_floor_search_right]? = some F_floor_search_right := Proofs.Tryz.func73
abbrev n_ref_served : Nat := 74
noncomputable abbrev F_ref_served : Func := Proofs.Tryz.f74
theorem at_ref_served : prog.funcs[n_ref_served]? = some F_ref_served := Proofs.Tryz.func74
abbrev n_errors_As : Nat := 75
noncomputable abbrev F_errors_As : Func := Proofs.Tryz.f75
theorem at_errors_As : prog.funcs[n_errors_As]? = some F_errors_As := Proofs.Tryz.func75
abbrev n_floor_hall_inspect : Nat := 76
noncomputable abbrev F_floor_hall_inspect : Func := Proofs.Tryz.f76
theorem at_floor_hall_inspect : prog.funcs[n_floor_hall_inspect]? = some F_floor_hall_inspect := Proofs.Tryz.func76
abbrev n_ref_wrong : Nat := 77
noncomputable abbrev F_ref_wrong : Func := Proofs.Tryz.f77
theorem at_ref_wrong : prog.funcs[n_ref_wrong]? = some F_ref_wrong := Proofs.Tryz.func77
abbrev n_floor_first_int : Nat := 79
noncomputable abbrev F_floor_first_int : Func := Proofs.Tryz.f79
theorem at_floor_first_int : prog.funcs[n_floor_first_int]? = some F_floor_first_int := Proofs.Tryz.func79
abbrev n_floor_numbers : Nat := 80
noncomputable abbrev F_floor_numbers : Func := Proofs.Tryz.f80
theorem at_floor_numbers : prog.funcs[n_floor_numbers]? = some F_floor_numbers := Proofs.Tryz.func80
abbrev n_floor_Patience_1 : Nat := 81
noncomputable abbrev F_floor_Patience_1 : Func := Proofs.Tryz.f81
theorem at_floor_Patience_1 : prog.funcs[n_floor_Patience_1]? = some F_floor_Patience_1 := Proofs.Tryz.func81
abbrev n_slices_Clone_Strike : Nat := 82
noncomputable abbrev F_slices_Clone_Strike : Func := Proofs.Tryz.f82
theorem at_slices_Clone_Strike : prog.funcs[n_slices_Clone_Strike]? = some F_slices_Clone_Strike := Proofs.Tryz.func82
abbrev n_floor_bound : Nat := 83
noncomputable abbrev F_floor_bound : Func := Proofs.Tryz.f83
theorem at_floor_bound : prog.funcs[n_floor_bound]? = some F_floor_bound := Proofs.Tryz.func83
abbrev n_floor_search_some : Nat := 84
noncomputable abbrev F_floor_search_some : Func := Proofs.Tryz.f84
theorem at_floor_search_some : prog.funcs[n_floor_search_some]? = some F_floor_search_some := Proofs.Tryz.func84
abbrev n_ref_all : Nat := 85
noncomputable abbrev F_ref_all : Func := Proofs.Tryz.f85
theorem at_ref_all : prog.funcs[n_ref_all]? = some F_ref_all := Proofs.Tryz.func85
abbrev n_ref_Waiting : Nat := 86
noncomputable abbrev F_ref_Waiting : Func := Proofs.Tryz.f86
theorem at_ref_Waiting : prog.funcs[n_ref_Waiting]? = some F_ref_Waiting := Proofs.Tryz.func86
abbrev n_floor_begin : Nat := 87
noncomputable abbrev F_floor_begin : Func := Proofs.Tryz.f87
theorem at_floor_begin : prog.funcs[n_floor_begin]? = some F_floor_begin := Proofs.Tryz.func87
abbrev n_floor_Need_1 : Nat := 88
noncomputable abbrev F_floor_Need_1 : Func := Proofs.Tryz.f88
theorem at_floor_Need_1 : prog.funcs[n_floor_Need_1]? = some F_floor_Need_1 := Proofs.Tryz.func88
abbrev n_floor_changed : Nat := 89
noncomputable abbrev F_floor_changed : Func := Proofs.Tryz.f89
theorem at_floor_changed : prog.funcs[n_floor_changed]? = some F_floor_changed := Proofs.Tryz.func89
abbrev n_floor_Need_1_1 : Nat := 90
noncomputable abbrev F_floor_Need_1_1 : Func := Proofs.Tryz.f90
theorem at_floor_Need_1_1 : prog.funcs[n_floor_Need_1_1]? = some F_floor_Need_1_1 := Proofs.Tryz.func90
abbrev n_ref_With : Nat := 91
noncomputable abbrev F_ref_With : Func := Proofs.Tryz.f91
theorem at_ref_With : prog.funcs[n_ref_With]? = some F_ref_With := Proofs.Tryz.func91
abbrev n_slices_Reverse_int : Nat := 92
noncomputable abbrev F_slices_Reverse_int : Func := Proofs.Tryz.f92
theorem at_slices_Reverse_int : prog.funcs[n_slices_Reverse_int]? = some F_slices_Reverse_int := Proofs.Tryz.func92
abbrev n_floor_Slower_1 : Nat := 93
noncomputable abbrev F_floor_Slower_1 : Func := Proofs.Tryz.f93
theorem at_floor_Slower_1 : prog.funcs[n_floor_Slower_1]? = some F_floor_Slower_1 := Proofs.Tryz.func93
abbrev n_floor_Slower_1_1 : Nat := 94
noncomputable abbrev F_floor_Slower_1_1 : Func := Proofs.Tryz.f94
theorem at_floor_Slower_1_1 : prog.funcs[n_floor_Slower_1_1]? = some F_floor_Slower_1_1 := Proofs.Tryz.func94
abbrev n_kit_Hat_From : Nat := 98
noncomputable abbrev F_kit_Hat_From : Func := Proofs.Tryz.f98
theorem at_kit_Hat_From : prog.funcs[n_kit_Hat_From]? = some F_kit_Hat_From := Proofs.Tryz.func98
abbrev n_floor_planOf : Nat := 104
noncomputable abbrev F_floor_planOf : Func := Proofs.Tryz.f104
theorem at_floor_planOf : prog.funcs[n_floor_planOf]? = some F_floor_planOf := Proofs.Tryz.func104
abbrev n_floor_hall_set : Nat := 105
noncomputable abbrev F_floor_hall_set : Func := Proofs.Tryz.f105
theorem at_floor_hall_set : prog.funcs[n_floor_hall_set]? = some F_floor_hall_set := Proofs.Tryz.func105
abbrev n_floor_most_add : Nat := 106
noncomputable abbrev F_floor_most_add : Func := Proofs.Tryz.f106
theorem at_floor_most_add : prog.funcs[n_floor_most_add]? = some F_floor_most_add := Proofs.Tryz.func106
abbrev n_floor_free : Nat := 107
noncomputable abbrev F_floor_free : Func := Proofs.Tryz.f107
theorem at_floor_free : prog.funcs[n_floor_free]? = some F_floor_free := Proofs.Tryz.func107
abbrev n_floor_search_all : Nat := 108
noncomputable abbrev F_floor_search_all : Func := Proofs.Tryz.f108
theorem at_floor_search_all : prog.funcs[n_floor_search_all]? = some F_floor_search_all := Proofs.Tryz.func108
abbrev n_floor_hall_loaves : Nat := 109
noncomputable abbrev F_floor_hall_loaves : Func := Proofs.Tryz.f109
theorem at_floor_hall_loaves : prog.funcs[n_floor_hall_loaves]? = some F_floor_hall_loaves := Proofs.Tryz.func109
abbrev n_slices_Clone_Berth : Nat := 110
noncomputable abbrev F_slices_Clone_Berth : Func := Proofs.Tryz.f110
theorem at_slices_Clone_Berth : prog.funcs[n_slices_Clone_Berth]? = some F_slices_Clone_Berth := Proofs.Tryz.func110
abbrev n_ref_Plans : Nat := 111
noncomputable abbrev F_ref_Plans : Func := Proofs.Tryz.f111
theorem at_ref_Plans : prog.funcs[n_ref_Plans]? = some F_ref_Plans := Proofs.Tryz.func111
abbrev n_ref_Loaves : Nat := 112
noncomputable abbrev F_ref_Loaves : Func := Proofs.Tryz.f112
theorem at_ref_Loaves : prog.funcs[n_ref_Loaves]? = some F_ref_Loaves := Proofs.Tryz.func112
abbrev n_floor_search_right_1 : Nat := 113
noncomputable abbrev F_floor_search_right_1 : Func := Proofs.Tryz.f113
theorem at_floor_search_right_1 : prog.funcs[n_floor_search_right_1]? = some F_floor_search_right_1 := Proofs.Tryz.func113
abbrev n_floor_search_right_1_1 : Nat := 114
noncomputable abbrev F_floor_search_right_1_1 : Func := Proofs.Tryz.f114
theorem at_floor_search_right_1_1 : prog.funcs[n_floor_search_right_1_1]? = some F_floor_search_right_1_1 := Proofs.Tryz.func114
abbrev n_floor_search_berths : Nat := 115
noncomputable abbrev F_floor_search_berths : Func := Proofs.Tryz.f115
theorem at_floor_search_berths : prog.funcs[n_floor_search_berths]? = some F_floor_search_berths := Proofs.Tryz.func115
abbrev n_floor_search_with : Nat := 116
noncomputable abbrev F_floor_search_with : Func := Proofs.Tryz.f116
theorem at_floor_search_with : prog.funcs[n_floor_search_with]? = some F_floor_search_with := Proofs.Tryz.func116
abbrev n_floor_search_right_1_1_1 : Nat := 117
noncomputable abbrev F_floor_search_right_1_1_1 : Func := Proofs.Tryz.f117
theorem at_floor_search_right_1_1_1 : prog.funcs[n_floor_search_right_1_1_1]? = some F_floor_search_right_1_1_1 := Proofs.Tryz.func117
abbrev n_reflectlite_ValueOf : Nat := 118
noncomputable abbrev F_reflectlite_ValueOf : Func := Proofs.Tryz.f118
theorem at_reflectlite_ValueOf : prog.funcs[n_reflectlite_ValueOf]? = some F_reflectlite_ValueOf := Proofs.Tryz.func118
abbrev n_reflectlite_Value_Type : Nat := 119
noncomputable abbrev F_reflectlite_Value_Type : Func := Proofs.Tryz.f119
theorem at_reflectlite_Value_Type : prog.funcs[n_reflectlite_Value_Type]? = some F_reflectlite_Value_Type := Proofs.Tryz.func119
abbrev n_reflectlite_Value_IsNil : Nat := 120
noncomputable abbrev F_reflectlite_Value_IsNil : Func := Proofs.Tryz.f120
theorem at_reflectlite_Value_IsNil : prog.funcs[n_reflectlite_Value_IsNil]? = some F_reflectlite_Value_IsNil := Proofs.Tryz.func120
abbrev n_errors_as : Nat := 121
noncomputable abbrev F_errors_as : Func := Proofs.Tryz.f121
theorem at_errors_as : prog.funcs[n_errors_as]? = some F_errors_as := Proofs.Tryz.func121
abbrev n_floor_hall_look : Nat := 122
noncomputable abbrev F_floor_hall_look : Func := Proofs.Tryz.f122
theorem at_floor_hall_look : prog.funcs[n_floor_hall_look]? = some F_floor_hall_look := Proofs.Tryz.func122
abbrev n_ref_bad : Nat := 123
noncomputable abbrev F_ref_bad : Func := Proofs.Tryz.f123
theorem at_ref_bad : prog.funcs[n_ref_bad]? = some F_ref_bad := Proofs.Tryz.func123
abbrev n_slices_IndexFunc_int : Nat := 124
noncomputable abbrev F_slices_IndexFunc_int : Func := Proofs.Tryz.f124
theorem at_slices_IndexFunc_int : prog.funcs[n_slices_IndexFunc_int]? = some F_slices_IndexFunc_int := Proofs.Tryz.func124
abbrev n_slices_Clone_Floor : Nat := 125
noncomputable abbrev F_slices_Clone_Floor : Func := Proofs.Tryz.f125
theorem at_slices_Clone_Floor : prog.funcs[n_slices_Clone_Floor]? = some F_slices_Clone_Floor := Proofs.Tryz.func125
abbrev n_floor_hall_set_1 : Nat := 135
noncomputable abbrev F_floor_hall_set_1 : Func := Proofs.Tryz.f135
theorem at_floor_hall_set_1 : prog.funcs[n_floor_hall_set_1]? = some F_floor_hall_set_1 := Proofs.Tryz.func135
abbrev n_slices_SortStableFunc_int : Nat := 136
noncomputable abbrev F_slices_SortStableFunc_int : Func := Proofs.Tryz.f136
theorem at_slices_SortStableFunc_int : prog.funcs[n_slices_SortStableFunc_int]? = some F_slices_SortStableFunc_int := Proofs.Tryz.func136
abbrev n_floor_hall_set_1_1 : Nat := 137
noncomputable abbrev F_floor_hall_set_1_1 : Func := Proofs.Tryz.f137
theorem at_floor_hall_set_1_1 : prog.funcs[n_floor_hall_set_1_1]? = some F_floor_hall_set_1_1 := Proofs.Tryz.func137
abbrev n_slices_Collect_plan : Nat := 138
noncomputable abbrev F_slices_Collect_plan : Func := Proofs.Tryz.f138
theorem at_slices_Collect_plan : prog.funcs[n_slices_Collect_plan]? = some F_slices_Collect_plan := Proofs.Tryz.func138
abbrev n_floor_search_all_1 : Nat := 139
noncomputable abbrev F_floor_search_all_1 : Func := Proofs.Tryz.f139
theorem at_floor_search_all_1 : prog.funcs[n_floor_search_all_1]? = some F_floor_search_all_1 := Proofs.Tryz.func139
abbrev n_ref_full : Nat := 140
noncomputable abbrev F_ref_full : Func := Proofs.Tryz.f140
theorem at_ref_full : prog.funcs[n_ref_full]? = some F_ref_full := Proofs.Tryz.func140
abbrev n_floor_search_berths_1 : Nat := 141
noncomputable abbrev F_floor_search_berths_1 : Func := Proofs.Tryz.f141
theorem at_floor_search_berths_1 : prog.funcs[n_floor_search_berths_1]? = some F_floor_search_berths_1 := Proofs.Tryz.func141
abbrev n_floor_search_with_1 : Nat := 142
noncomputable abbrev F_floor_search_with_1 : Func := Proofs.Tryz.f142
theorem at_floor_search_with_1 : prog.funcs[n_floor_search_with_1]? = some F_floor_search_with_1 := Proofs.Tryz.func142
abbrev n_reflectlite_TypeOf : Nat := 143
noncomputable abbrev F_reflectlite_TypeOf : Func := Proofs.Tryz.f143
theorem at_reflectlite_TypeOf : prog.funcs[n_reflectlite_TypeOf]? = some F_reflectlite_TypeOf := Proofs.Tryz.func143
abbrev n_reflectlite_Value_Elem : Nat := 144
noncomputable abbrev F_reflectlite_Value_Elem : Func := Proofs.Tryz.f144
theorem at_reflectlite_Value_Elem : prog.funcs[n_reflectlite_Value_Elem]? = some F_reflectlite_Value_Elem := Proofs.Tryz.func144
abbrev n_reflectlite_Value_Set : Nat := 145
noncomputable abbrev F_reflectlite_Value_Set : Func := Proofs.Tryz.f145
theorem at_reflectlite_Value_Set : prog.funcs[n_reflectlite_Value_Set]? = some F_reflectlite_Value_Set := Proofs.Tryz.func145
abbrev n_ref_set : Nat := 146
noncomputable abbrev F_ref_set : Func := Proofs.Tryz.f146
theorem at_ref_set : prog.funcs[n_ref_set]? = some F_ref_set := Proofs.Tryz.func146
abbrev n_slices_stableCmpFunc_int : Nat := 151
noncomputable abbrev F_slices_stableCmpFunc_int : Func := Proofs.Tryz.f151
theorem at_slices_stableCmpFunc_int : prog.funcs[n_slices_stableCmpFunc_int]? = some F_slices_stableCmpFunc_int := Proofs.Tryz.func151
abbrev n_slices_AppendSeq_plan : Nat := 152
noncomputable abbrev F_slices_AppendSeq_plan : Func := Proofs.Tryz.f152
theorem at_slices_AppendSeq_plan : prog.funcs[n_slices_AppendSeq_plan]? = some F_slices_AppendSeq_plan := Proofs.Tryz.func152
abbrev n_slices_insertionSortCmpFunc_int : Nat := 158
noncomputable abbrev F_slices_insertionSortCmpFunc_int : Func := Proofs.Tryz.f158
theorem at_slices_insertionSortCmpFunc_int : prog.funcs[n_slices_insertionSortCmpFunc_int]? = some F_slices_insertionSortCmpFunc_int := Proofs.Tryz.func158
abbrev n_abi_Type_Kind : Nat := 183
noncomputable abbrev F_abi_Type_Kind : Func := Proofs.Tryz.f183
theorem at_abi_Type_Kind : prog.funcs[n_abi_Type_Kind]? = some F_abi_Type_Kind := Proofs.Tryz.func183
abbrev n_reflectlite_rtype_AssignableTo : Nat := 193
noncomputable abbrev F_reflectlite_rtype_AssignableTo : Func := Proofs.Tryz.f193
theorem at_reflectlite_rtype_AssignableTo : prog.funcs[n_reflectlite_rtype_AssignableTo]? = some F_reflectlite_rtype_AssignableTo := Proofs.Tryz.func193
abbrev n_reflectlite_rtype_Elem : Nat := 195
noncomputable abbrev F_reflectlite_rtype_Elem : Func := Proofs.Tryz.f195
theorem at_reflectlite_rtype_Elem : prog.funcs[n_reflectlite_rtype_Elem]? = some F_reflectlite_rtype_Elem := Proofs.Tryz.func195
abbrev n_reflectlite_rtype_Implements : Nat := 196
noncomputable abbrev F_reflectlite_rtype_Implements : Func := Proofs.Tryz.f196
theorem at_reflectlite_rtype_Implements : prog.funcs[n_reflectlite_rtype_Implements]? = some F_reflectlite_rtype_Implements := Proofs.Tryz.func196
abbrev n_floor_full_day : Nat := 203
noncomputable abbrev F_floor_full_day : Func := Proofs.Tryz.f203
theorem at_floor_full_day : prog.funcs[n_floor_full_day]? = some F_floor_full_day := Proofs.Tryz.func203
abbrev n_floor_cold_day : Nat := 204
noncomputable abbrev F_floor_cold_day : Func := Proofs.Tryz.f204
theorem at_floor_cold_day : prog.funcs[n_floor_cold_day]? = some F_floor_cold_day := Proofs.Tryz.func204
abbrev t_int : TypeId := 3
abbrev t_bool : TypeId := 4
abbrev t_sl_Floor : TypeId := 22
abbrev t_sl_Strike : TypeId := 23
abbrev t_Plant : TypeId := 25
abbrev t_Span : TypeId := 27
abbrev t_Floor : TypeId := 29
abbrev t_Strike : TypeId := 31
abbrev t_sl_Berth : TypeId := 32
abbrev t_sl_int : TypeId := 33
abbrev t_Berth : TypeId := 80
abbrev t_Hat : TypeId := 89
abbrev t_hall : TypeId := 96
abbrev t_plan : TypeId := 98
abbrev t_days : TypeId := 102
abbrev t_sl_plan : TypeId := 106
abbrev t_most : TypeId := 108
abbrev t_search : TypeId := 115
abbrev t_fault : TypeId := 121
abbrev t_wrong : TypeId := 123
abbrev t_error : TypeId := 126
abbrev t_p_wrong : TypeId := 128
abbrev t_p_plan : TypeId := 175
abbrev t_reflectlite_Value : TypeId := 179
abbrev t_sl_chan_plan : TypeId := 208
abbrev t_chan_plan : TypeId := 209
abbrev t_reflectlite_rtype : TypeId := 215
abbrev t_full : TypeId := 229
abbrev t_cold : TypeId := 230
instance : MO prog := ⟨by kernel_rfl⟩
end Go.Mus

/- More laws: slices of arrays, copy, arrays of zeros, results in cells. Conditions: none; over any program. -/
namespace Go.Mus
section rules
variable {x : Cx} {Q : Post} {ρ : Env} {ds : List Deferred} {F : Frag} {ops : Array Oper} {S : Frag → Prop} {i : Nat} {rest : List Nat} {o : Oper} {v : Value} {R : Value → Frag → Prop}
/-- A whole array, as a slice. -/
theorem y_sliceArr {t n E s by' : Nat} {z : Value} {zc : Array Value} {y : Operand} {b off : Nat} (ho : o.op = .slice t y none none none) [TD x.P t (.array n E)] [TI x.P E s by' z zc] (hy : ev ρ y = some (.pointer (some ⟨b, off, none⟩))) : Yv x S ρ o (.slice (some ⟨b, off, none⟩) n n) := fun e he F hF h' hE => by
 simp only [execOp, ho, he y _ hy, Instr.sliceAt, Instr.sureAddr, Instr.sliceBounds, bind_eq, pure_eq, bind_assoc, bind_pure, Option.map_none, trb_underlying, trb_sizeOf, Nat.zero_mul, add_spot, Nat.add_zero, ite_self, Nat.sub_zero]
 exact ⟨rfl, rfl⟩
/-- Its first ones. -/
theorem y_sliceArrHi {t n E s by' : Nat} {z : Value} {zc : Array Value} {y hi : Operand} {b off : Nat} {k : IntKind} {m : Nat} (ho : o.op = .slice t y none (some hi) none) [TD x.P t (.array n E)] [TI x.P E s by' z zc] (hy : ev ρ y = some (.pointer (some ⟨b, off, none⟩))) (hh : ev ρ hi = some (.int k (m : Int))) (hm : m ≤ n := by omega) : Yv x S ρ o (.slice (some ⟨b, off, none⟩) m n) := fun e he F hF h' hE => by
 have e1 : (0 : Int) ≤ m ∧ (m : Int) ≤ n := by omega
 simp only [execOp, ho, he y _ hy, he hi _ hh, Instr.sliceAt, Instr.sureAddr, Instr.sliceBounds, Instr.sliceBound, asIntOf, bind_eq, pure_eq, bind_assoc, bind_pure, Option.map_none, Option.map_some, trb_underlying, trb_sizeOf, if_pos e1, Int.toNat_natCast, Nat.zero_mul, add_spot, Nat.add_zero, ite_self, Nat.sub_zero]
 exact ⟨rfl, rfl⟩
/-- An array of zeros. -/
theorem y_build0 {t n E s b s' b' : Nat} {z z' : Value} {zc zc' : Array Value} (ho : o.op = .build t #[]) [TD x.P t (.array n E)] [TI x.P t s b z zc] [TI x.P E s' b' z' zc'] : Yv x S ρ o (.agg zc) := fun e he F hF h' hE => by
 obtain ⟨j, _, _, _, _, hz⟩ := TI.out (inferInstance : TI x.P t s b z zc)
 simp only [execOp, ho, Instr.build, bind_eq, pure_eq, bind_assoc, bind_pure, trb_zeroValue, trb_underlying, trb_sizeOf, hz, List.map_toArray, List.map_nil, Instr.fill]
 exact ⟨rfl, rfl⟩

/-- copy, from what is read into a block of one's own. -/
theorem e_copy {α : Type} {row : α → List Value} {w : Nat} [Rw row w] {t t' E by' : Nat} {z : Value} {zc : Array Value} {y yx : Operand} {xv : Value} {b off n cap : Nat} {c : Array Value} {C : TypeId} {l : List α} {U : Obj → Frag} (ho : o.op = .call ⟨.builtin .copy, #[y, yx], #[t, t']⟩) [TD x.P t (.slice E)] [TI x.P E w by' z zc]
  (hy : ev ρ y = some (.slice (some ⟨b, off, none⟩) n cap)) (hx : ev ρ yx = some xv) (hs : Sl x.h row xv l) (hle : l.length ≤ n) (hl : At b (.cells c C (0, 0)) F U) (hc : off + l.length * w ≤ c.size)
  (H : R (.int .i64 l.length) (U (.cells (putAll c off (flat row l)) C (0, 0)))) : Ef x ρ o F R :=
 Ef.of_tr fun e he h' hE => by
  have hs' := Sl.ext hE hs
  obtain ⟨a, cp, rfl⟩ := hs.isSl
  have hmin : Nat.min l.length n = l.length := Nat.min_eq_left hle
  simp only [execOp, ho, resolve, invoke, builtin, Builtin.copy_, List.map_toArray, List.map_cons, List.map_nil, he y _ hy, he yx _ hx, List.getElem?_toArray, List.getElem?_cons_zero, List.getElem?_cons_succ, bind_eq, pure_eq, bind_assoc, bind_pure, trb_underlying, Builtin.lenOf, trb_sizeOf, hmin]
  refine tr_bind (tr_first hs' ?_)
  refine tr_bind (tr_storeCells (flat row l) 0 c (flat_ones l) hl (by rw [flat_len]; omega) ?_)
  exact ⟨_, .inl rfl, by simpa [goInt] using H⟩
end rules
theorem Ef.of_y {x : Cx} {ρ : Env} {F : Frag} {o : Oper} {v : Value} {R : Value → Frag → Prop} (hy : Yv x (· = F) ρ o v) (H : R v F) : Ef x ρ o F R := fun e he =>
 ⟨F, [], by simp, fun h' e1 e2 => tr_mono (hy e he F rfl h' e1) fun nx F' ⟨h1, h2⟩ => by
  subst h1 h2
  exact ⟨F', by simp, H⟩⟩

section
variable {x : Cx} {Q : Post} {ρ : Env} {ds : List Deferred} {F : Frag} {ops : Array Oper} {i : Nat} {rest : List Nat} {d : Tmp} {ty : TypeId} {pos : String} {aft : Array Edge} {g : Option (Nat × Bool)} {L : Frag}
variable {args : List Operand} {ts : Array TypeId} {vs : List Value} {y : Operand} {fv u : Value}
/-- A function value that answers. -/
abbrev PuV (P : Program) (main : Side) (fv : Value) (vs : List Value) (h : Hp) (u : Value) : Prop := CallV P main fv vs h [] (fun v A => v = u ∧ Shut A)
theorem e_callV0 {o : Oper} {R : Value → Frag → Prop} (ho : o.op = .call ⟨.value y, args.toArray, ts⟩) (hy : ev ρ y = some fv) (hv : evs ρ args = some vs) (H : ∀ h', Ext x.h h' → Lent F h' → PuV x.P x.main fv vs h' u) (K : ∀ A, Shut A → R u (A ++ F)) : Ef x ρ o F R :=
 e_callV ho hy hv (Seg.head (A := []) (G := F)) H fun v A' hv => by
  obtain ⟨rfl, hs⟩ := hv
  exact K A' hs
theorem cv (H : ∀ h', Ext x.h h' → Lent F h' → PuV x.P x.main fv vs h' u) (K : Ops x ops rest Q ((d, u) :: ρ) ds F) (ho : nthO ops.toList i = some ⟨some d, .call ⟨.value y, args.toArray, ts⟩, ty, pos, aft, g⟩ := by rfl) (hy : ev ρ y = some fv := by rfl) (hv : evs ρ args = some vs := by rfl)
  (hw : want ops ρ ⟨some d, .call ⟨.value y, args.toArray, ts⟩, ty, pos, aft, g⟩ := by first | exact wn | exact want_some rfl rfl rfl) (hd : Nat.blt d x.n = true := by rfl) : Ops x ops (i :: rest) Q ρ ds F :=
 Ops.eff (o := ⟨some d, .call ⟨.value y, args.toArray, ts⟩, ty, pos, aft, g⟩) (e_callV0 rfl hy hv H fun A hs => Ops.sb (Sb.left .refl hs) K) (nthO_get ho) hw hd rfl
theorem acv {fuel listed : Nat} (H : ∀ h', Ext x.h h' → Lent F h' → PuV x.P x.main fv vs h' u) (K : Any x ops L fuel (listed ||| 2 ^ i) Q ((d, u) :: ρ) ds F) (hS : lastT ops i = true ∨ Keeps L F := by first | exact .inr (by repeat (first | exact fun _ h => h | apply Keeps.cons | apply Keeps.app)) | exact .inl (by kernel_rfl))
  (ho : nthO ops.toList i = some ⟨some d, .call ⟨.value y, args.toArray, ts⟩, ty, pos, aft, g⟩ := by rfl) (hy : ev ρ y = some fv := by rfl) (hv : evs ρ args = some vs := by rfl)
  (hw : wantε ops (look ρ) ⟨some d, .call ⟨.value y, args.toArray, ts⟩, ty, pos, aft, g⟩ true := by first | exact an | exact wantε_some rfl rfl rfl rfl) (hd : Nat.blt d x.n = true := by rfl) (hr : rdys ops listed = [i] := by kernel_rfl) : Any x ops L (fuel + 1) listed Q ρ ds F :=
 Any.eff (o := ⟨some d, .call ⟨.value y, args.toArray, ts⟩, ty, pos, aft, g⟩) (e_callV0 rfl hy hv H fun A hs => ⟨hS.imp id fun k p hp => List.mem_append_right _ (k p hp), Any.sb (Sb.left .refl hs) K⟩) hr (nthO_get ho) hw hd rfl
/-- An operation behind a guard that was passed over itself. -/
theorem Ops.noU {op : Op} {j d' : Nat} {w : Bool} (H : Ops x ops rest Q ((d, undef) :: ρ) ds F) (ho : nthO ops.toList i = some ⟨some d, op, ty, pos, aft, some (j, w)⟩ := by rfl) (hj : (nthO ops.toList j).bind (·.dst) = some d' := by rfl) (hv : look ρ d' = some undef := by rfl) (hd : Nat.blt d x.n = true := by rfl) : Ops x ops (i :: rest) Q ρ ds F := by
 intro b k cs Stop tmps hk M h1 h0 h2 h3 h4 h5 hc
 have hj' : (ops[j]?).bind (·.dst) = some d' := by rw [nthO_eq] at hj; simpa using hj
 have hw : Region.wanted ⟨some d, op, ty, pos, aft, some (j, w)⟩ (yielded ops tmps) = false := by
  simp only [Region.wanted, yielded, hj', Option.bind_some, h3 d' _ hv]
  rfl
 obtain ⟨p1, p2⟩ := h3.put' (o := ⟨some d, op, ty, pos, aft, some (j, w)⟩) h4 hd undef
 refine .idle rfl (fun _ => st_unwanted (nthO_get ho) hw) ?_
 rw [finish_fat (cs := cs) (nthO_get ho) undef]
 exact H b k cs Stop _ _ _ h1 h0 h2 p1 p2 h5 hc
/-- A new slice of some values. -/
theorem Ops.bsl {t E s b len : Nat} {z : Value} {zc : Array Value} {parts : List (Nat × Operand)} {cs : Array Value} (H : ∀ β, Ops x ops rest Q ((d, .slice (some ⟨β, 0, none⟩) len len) :: ρ) ds ((β, .cells cs E (0, 0)) :: F)) (ho : nthO ops.toList i = some ⟨some d, .buildSlice t len parts.toArray, ty, pos, aft, g⟩ := by rfl) [TD x.P t (.slice E)] [TI x.P E s b z zc] (hv : evs ρ (parts.map (·.2)) = some vs := by rfl) (hls : 0 < len * s := by decide) (hl : len * s ≤ 2 ^ 24 := by decide)
  (hf : Instr.fill (fun i => some (i * s, s)) ((List.range (len * s)).map (fun i => zc[i % zc.size]!)).toArray ((parts.map (·.1)).zip vs) = some cs := by rfl)
  (hw : want ops ρ ⟨some d, .buildSlice t len parts.toArray, ty, pos, aft, g⟩ := by first | exact wn | exact want_some rfl rfl rfl) (hd : Nat.blt d x.n = true := by rfl) : Ops x ops (i :: rest) Q ρ ds F :=
 Ops.eff (o := ⟨some d, .buildSlice t len parts.toArray, ty, pos, aft, g⟩) (e_buildSlice rfl hv hls hl (by rw [show (Array.range (len * s)).map (zc[· % zc.size]!) = ((List.range (len * s)).map (fun i => zc[i % zc.size]!)).toArray by apply Array.ext'; simp]; exact hf) fun β _ _ => H β) (nthO_get ho) hw hd rfl
theorem Ops.bsl0 {t E s b : Nat} {z : Value} {zc : Array Value} (H : ∀ β, Ops x ops rest Q ((d, .slice (some ⟨β, 0, none⟩) 0 0) :: ρ) ds ((β, .cells #[] E (0, 0)) :: F)) (ho : nthO ops.toList i = some ⟨some d, .buildSlice t 0 #[], ty, pos, aft, g⟩ := by rfl) [TD x.P t (.slice E)] [TI x.P E s b z zc]
  (hw : want ops ρ ⟨some d, .buildSlice t 0 #[], ty, pos, aft, g⟩ := by first | exact wn | exact want_some rfl rfl rfl) (hd : Nat.blt d x.n = true := by rfl) : Ops x ops (i :: rest) Q ρ ds F :=
 Ops.eff (o := ⟨some d, .buildSlice t 0 #[], ty, pos, aft, g⟩) (e_buildSlice0 rfl fun β _ _ => H β) (nthO_get ho) hw hd rfl
/-- A function value is handed a part. -/
theorem cgv {A : Frag} {U : Frag → Frag} {R' : Value → Frag → Prop} (hs : Seg A F U) (H : ∀ h', Ext x.h h' → Lent (U []) h' → CallV x.P x.main fv vs h' A R') (K : ∀ v A', R' v A' → Ops x ops rest Q ((d, v) :: ρ) ds (U A')) (ho : nthO ops.toList i = some ⟨some d, .call ⟨.value y, args.toArray, ts⟩, ty, pos, aft, g⟩ := by rfl) (hy : ev ρ y = some fv := by rfl) (hv : evs ρ args = some vs := by rfl)
  (hw : want ops ρ ⟨some d, .call ⟨.value y, args.toArray, ts⟩, ty, pos, aft, g⟩ := by first | exact wn | exact want_some rfl rfl rfl) (hd : Nat.blt d x.n = true := by rfl) : Ops x ops (i :: rest) Q ρ ds F :=
 Ops.eff (o := ⟨some d, .call ⟨.value y, args.toArray, ts⟩, ty, pos, aft, g⟩) (e_callV rfl hy hv hs H fun v A' r => K v A' r) (nthO_get ho) hw hd rfl
theorem segAll {A : Frag} : Seg A (A ++ []) (· ++ []) := Seg.head
/-- A call that is handed all. -/
theorem cga {f : FuncId} {R' : Value → Frag → Prop} (H : ∀ h', Ext x.h h' → Fnc x.P x.main f vs.toArray h' F R') (K : ∀ v A', R' v A' → Ops x ops rest Q ((d, v) :: ρ) ds A') (ho : nthO ops.toList i = some ⟨some d, .call ⟨.value (.func f), args.toArray, ts⟩, ty, pos, aft, g⟩ := by rfl) [FB x.P f] (hv : evs ρ args = some vs := by rfl)
  (hw : want ops ρ ⟨some d, .call ⟨.value (.func f), args.toArray, ts⟩, ty, pos, aft, g⟩ := by first | exact wn | exact want_some rfl rfl rfl) (hd : Nat.blt d x.n = true := by rfl) : Ops x ops (i :: rest) Q ρ ds F :=
 Ops.perm (F' := F ++ []) (by simp) (cg segAll (fun h' e _ => H h' e) (fun v A' r => Ops.perm (F' := A') (by simp) (K v A' r)) ho hv hw hd)
/-- Two loads that may come up in either order. -/
theorem a2 {fuel listed i j d d' : Nat} {op op' : Op} {ty' : TypeId} {pos' : String} {aft' : Array Edge} {g' : Option (Nat × Bool)} {v w : Value} (ho : nthO ops.toList i = some ⟨some d, op, ty, pos, aft, g⟩) (ho' : nthO ops.toList j = some ⟨some d', op', ty', pos', aft', g'⟩)
  (hy : Yv x (· = F) ρ ⟨some d, op, ty, pos, aft, g⟩ v) (hy2 : Yv x (· = F) ((d', w) :: ρ) ⟨some d, op, ty, pos, aft, g⟩ v) (hy' : Yv x (· = F) ρ ⟨some d', op', ty', pos', aft', g'⟩ w) (hy2' : Yv x (· = F) ((d, v) :: ρ) ⟨some d', op', ty', pos', aft', g'⟩ w)
  (hw : wantε ops (look ρ) ⟨some d, op, ty, pos, aft, g⟩ true) (hw2 : wantε ops (look ((d', w) :: ρ)) ⟨some d, op, ty, pos, aft, g⟩ true) (hw' : wantε ops (look ρ) ⟨some d', op', ty', pos', aft', g'⟩ true) (hw2' : wantε ops (look ((d, v) :: ρ)) ⟨some d', op', ty', pos', aft', g'⟩ true)
  (hd : Nat.blt d x.n = true) (hd' : Nat.blt d' x.n = true) (hn : noDefer op = true) (hn' : noDefer op' = true)
  (H : Any x ops [] fuel ((listed ||| 2 ^ i) ||| 2 ^ j) Q ((d', w) :: (d, v) :: ρ) ds F) (hne : Nat.beq d d' = false := by rfl)
  (hr : rdys ops listed = [i, j] := by kernel_rfl) (hr1 : rdys ops (listed ||| 2 ^ i) = [j] := by kernel_rfl) (hr2 : rdys ops (listed ||| 2 ^ j) = [i] := by kernel_rfl) : Any x ops [] (fuel + 2) listed Q ρ ds F := by
 have hk : ∀ F : Frag, Keeps [] F := fun _ p hp => by cases hp
 refine Any.eff2 (o := ⟨some d, op, ty, pos, aft, g⟩) (o' := ⟨some d', op', ty', pos', aft', g'⟩) hr (nthO_get ho) (nthO_get ho') hw hw' hd hd' hn hn' (Ef.of_y hy ⟨.inr (hk _), ?_⟩) (Ef.of_y hy' ⟨.inr (hk _), ?_⟩)
 ·exact Any.eff (o := ⟨some d', op', ty', pos', aft', g'⟩) (Ef.of_y hy2' ⟨.inr (hk _), H⟩) hr1 (nthO_get ho') hw2' hd' hn'
 ·refine Any.eff (o := ⟨some d, op, ty, pos, aft, g⟩) (Ef.of_y hy2 ⟨.inr (hk _), ?_⟩) hr2 (nthO_get ho) hw2 hd hn
  have e1 : (listed ||| 2 ^ j) ||| 2 ^ i = (listed ||| 2 ^ i) ||| 2 ^ j := by rw [Nat.or_assoc, Nat.or_comm (2 ^ j), ← Nat.or_assoc]
  have e2 : look ((d, v) :: (d', w) :: ρ) = look ((d', w) :: (d, v) :: ρ) := by
   funext t
   show (bif Nat.beq t d then some v else bif Nat.beq t d' then some w else look ρ t) = (bif Nat.beq t d' then some w else bif Nat.beq t d then some v else look ρ t)
   cases h1 : Nat.beq t d with
   | false => rfl
   | true =>
    have : t = d := Nat.eq_of_beq_eq_true h1
    subst this
    rw [hne]; rfl
  rw [e1]
  unfold Any at H ⊢
  show anyT _ _ _ _ _ _ (look ((d, v) :: (d', w) :: ρ)) _
  rw [e2]
  exact H
end
/-! ### Results that lie in cells -/
section
variable {P : Program} {h : Hp} {F : Frag} {ρ : Env} {r : List ResultVar} {vs : List Value}
theorem rNil : resOK P h F [] ρ [] := rfl
theorem rTmp {t : Tmp} {v : Value} (H : resOK P h F r ρ vs) (hv : look ρ t = some v := by rfl) : resOK P h F (.tmp t :: r) ρ (v :: vs) := ⟨v, vs, rfl, hv, H⟩
theorem rAgg {a : Tmp} {t n b : Nat} {c : Array Value} {E : TypeId} {fz : Nat × Nat} (H : resOK P h F r ρ vs) [i : AG P t n] (ha : look ρ a = some (.pointer (some ⟨b, 0, none⟩)) := by rfl) (hl : (b, Obj.cells c E fz) ∈ F := by repeat (first | exact List.Mem.head _ | apply List.Mem.tail)) (hn : c.size = n := by first | rfl | assumption) : resOK P h F (.cell a t :: r) ρ (.agg c :: vs) :=
 ⟨_, vs, b, 0, c, E, fz, rfl, ha, .inr hl, .inr ⟨n, i, by omega, by congr 1; apply Array.ext'; simp [← hn]⟩, H⟩
theorem rSc {a : Tmp} {t b : Nat} {v : Value} {c : Array Value} {E : TypeId} {fz : Nat × Nat} (H : resOK P h F r ρ vs) [i : SC P t] (ha : look ρ a = some (.pointer (some ⟨b, 0, none⟩)) := by rfl) (hl : (b, Obj.cells c E fz) ∈ F := by repeat (first | exact List.Mem.head _ | apply List.Mem.tail)) (hv : c[0]? = some v := by first | rfl | assumption) : resOK P h F (.cell a t :: r) ρ (v :: vs) :=
 ⟨v, vs, b, 0, c, E, fz, rfl, ha, .inr hl, .inl ⟨i, hv⟩, H⟩
variable {main : Side} {fn : Func} {R : Value → Frag → Prop} {e : Exit}
theorem lvc (hR : R (pack vs) F) (he : e = .ret ∨ e = .normal := by first | exact .inl rfl | exact .inr rfl) (hv : resOK P h F fn.results.toList ρ vs := by (repeat (first | exact rNil | refine rTmp ?_ | refine rAgg ?_ | refine rSc ?_))) : leave P main fn h R e ρ [] F :=
 leave_of he (by simp) hv hR
end
end Go.Mus

/- What plants, plans and floors are, in numbers; what the checks answer. Conditions: none. -/
namespace Go.Mus
/-- An int. -/
abbrev I (n : Int) : Value := .int .i64 n
structure Fl where
 (pl lo hi co : Int)
 deriving DecidableEq
structure St where
 (day co wa : Int)
 deriving DecidableEq
structure Be where
 (fl day : Int)
 deriving DecidableEq
def Fl.row (f : Fl) : List Value := [I f.pl, I f.lo, I f.hi, I f.co]
def St.row (f : St) : List Value := [I f.day, I f.co, I f.wa]
def Be.row (f : Be) : List Value := [I f.fl, I f.day]
abbrev Fl.val (f : Fl) : Value := .agg #[I f.pl, I f.lo, I f.hi, I f.co]
abbrev St.val (f : St) : Value := .agg #[I f.day, I f.co, I f.wa]
abbrev Be.val (f : Be) : Value := .agg #[I f.fl, I f.day]
instance : Rw Fl.row 4 := ⟨fun _ => rfl, fun _ => rfl⟩
instance : Rw St.row 3 := ⟨fun _ => rfl, fun _ => rfl⟩
instance : Rw Be.row 2 := ⟨fun _ => rfl, fun _ => rfl⟩

def outs (n lo hi : Int) : Prop := n < lo ∨ hi < n
instance {n lo hi : Int} : Decidable (outs n lo hi) := inferInstanceAs (Decidable (_ ∨ _))

def ckFloor (f : Fl) : Int :=
 if outs f.pl 1 9 ∨ outs f.lo 1 6 ∨ outs f.hi 1 6 then 1 else if f.hi < f.lo then 5 else if outs f.co 0 9 then 1 else 0
/-- The first answer that is not 0. -/
def ckFloors : List Fl → Int
 | [] => 0
 | f :: r => if ckFloor f = 0 then ckFloors r else ckFloor f
def ckStrike (before : Int) (s : St) : Int := if outs s.day 0 12 ∨ outs s.co 1 6 ∨ outs s.wa 0 3 then 1 else if s.day < before then 5 else 0
def ckStrikes : Int → List St → Int
 | _, [] => 0
 | b, s :: r => if ckStrike b s = 0 then ckStrikes s.day r else ckStrike b s
def ckPlant (fs : List Fl) (ss : List St) : Int :=
 if fs.length = 0 then 7 else if 2 < fs.length then 6 else if ckFloors fs ≠ 0 then ckFloors fs else if 4 < ss.length then 6 else ckStrikes 0 ss

/-! ### Plans -/
/-- A plan's value. -/
abbrev planV (p : List Be) : Value := .agg (flat Be.row p).toArray
def bnone : Be := ⟨-1, 0⟩
/-- The berths as a plan. -/
def padB (l : List Be) : List Be := l ++ List.replicate (4 - l.length) bnone
theorem padB_len {l : List Be} (h : l.length ≤ 4) : (padB l).length = 4 := by simp [padB]; omega
def fillP (k : Nat) : Array Value := (flat Be.row (List.replicate k ⟨-1, 0⟩ ++ List.replicate (4 - k) ⟨0, 0⟩)).toArray
theorem fillP_put {l : List Be} (h : l.length ≤ 4) : putAll (fillP 4) 0 (flat Be.row l) = (flat Be.row (padB l)).toArray := by
 match l, h with
 | [], _ => simp [fillP, padB, flat, putAll, Be.row, List.replicate, bnone]
 | [a], _ => simp [fillP, padB, flat, putAll, Be.row, List.replicate, bnone]
 | [a, b], _ => simp [fillP, padB, flat, putAll, Be.row, List.replicate, bnone]
 | [a, b, c], _ => simp [fillP, padB, flat, putAll, Be.row, List.replicate, bnone]
 | [a, b, c, d], _ => simp [fillP, padB, flat, putAll, Be.row, List.replicate, bnone]
 | a :: b :: c :: d :: e :: r, h => simp at h

def ckBerth (nf : Int) (s : St) (b : Be) : Int :=
 if outs b.fl (-1) (nf - 1) then 3 else if b.fl < 0 ∧ b.day ≠ 0 then 8 else if 0 ≤ b.fl ∧ outs b.day s.day (s.day + s.wa) then 12 else 0
def ckBerths (nf : Int) : List St → List Be → Int
 | s :: ss, b :: l => if ckBerth nf s b = 0 then ckBerths nf ss l else ckBerth nf s b
 | _, _ => 0
def ckPlan (fs : List Fl) (ss : List St) (l : List Be) : Int :=
 if ckPlant fs ss ≠ 0 then ckPlant fs ss else if l.length < ss.length then 7 else if ss.length < l.length then 6 else ckBerths fs.length ss l
/-- Some number is none of a floor. -/
def badF (nf : Int) : List Int → Bool
 | [] => false
 | n :: r => if outs n 0 (nf - 1) then true else badF nf r
def askE (fs : List Fl) (ss : List St) (l : List Be) (ns : List Int) : Int := if ckPlan fs ss l ≠ 0 then ckPlan fs ss l else if badF fs.length ns then 3 else 0
abbrev hall0 : Value := .agg #[.slice none 0 0, .slice none 0 0]
abbrev plan0 : Value := planV [⟨0, 0⟩, ⟨0, 0⟩, ⟨0, 0⟩, ⟨0, 0⟩]
/-- What 'asked' answers. -/
def askV (vf vs : Value) (fs : List Fl) (ss : List St) (l : List Be) (ns : List Int) : Value :=
 if askE fs ss l ns = 0 then .tuple #[.agg #[vf, vs], planV (padB l), I 0] else .tuple #[hall0, plan0, I (askE fs ss l ns)]
end Go.Mus

/- Sorting by insertion, as the library does it. Conditions: none. -/
namespace Go.Mus
theorem Yv.eq {x : Cx} {S : Frag → Prop} {ρ : Env} {o : Oper} {v u : Value} (hy : Yv x S ρ o v) (e : v = u) : Yv x S ρ o u := e ▸ hy

theorem flat_rowI (l : List Int) : flat rowI l = l.map I := by
 induction l with
 | nil => rfl
 | cons a l ih => rw [flat_cons, ih]; rfl
theorem Part.setI {c : Array Value} {l : List Int} {j : Nat} {a : Int} (h : Part c 0 (flat rowI l)) (hj : j < l.length) : Part (c.setIfInBounds j (I a)) 0 (flat rowI (l.set j a)) := by
 obtain ⟨pre, post, h1, h2⟩ := h
 have : pre = [] := List.length_eq_zero_iff.1 h2
 subst this
 refine ⟨[], post, ?_, rfl⟩
 rw [flat_rowI] at h1 ⊢
 simp only [Array.toList_setIfInBounds, h1, List.nil_append, List.map_set]
 rw [List.set_append_left _ _ (by simpa using hj)]
theorem Part.getI {c : Array Value} {l : List Int} {j : Nat} {a : Int} (h : Part c 0 (flat rowI l)) (hj : l[j]? = some a) : c[0 + j * 1]? = some (I a) := by
 have := h.rowG (row := rowI) hj 0 (by decide)
 simpa [rowI] using this

/-- Two neighbours change places. -/
def swp (l : List Int) (j : Nat) (a b : Int) : List Int := (l.set (j + 1) a).set j b
def sink (key : Int → Int) : Nat → List Int → List Int
 | 0, l => l
 | j + 1, l => match l[j]?, l[j + 1]? with
  | some a, some b => if key b - key a < 0 then sink key j (swp l j a b) else l
  | _, _ => l
def isortN (key : Int → Int) (l : List Int) : Nat → List Int
 | 0 => l
 | i + 1 => sink key (i + 1) (isortN key l i)
def isort (key : Int → Int) (l : List Int) : List Int := isortN key l (l.length - 1)

theorem swp_perm {l : List Int} {j : Nat} {a b : Int} (ha : l[j]? = some a) (hb : l[j + 1]? = some b) : (swp l j a b).Perm l := by
 induction l generalizing j with
 | nil => simp at ha
 | cons x l ih =>
  cases j with
  | zero =>
   simp only [List.getElem?_cons_zero, Option.some.injEq] at ha
   subst ha
   cases l with
   | nil => simp at hb
   | cons y l =>
    simp only [List.getElem?_cons_succ, List.getElem?_cons_zero, Option.some.injEq, Nat.zero_add] at hb
    subst hb
    exact List.Perm.swap _ _ _
  | succ j =>
   simp only [List.getElem?_cons_succ] at ha hb
   exact (ih ha hb).cons x
theorem sink_perm (key : Int → Int) : ∀ (j : Nat) (l : List Int), (sink key j l).Perm l
 | 0, l => .refl _
 | j + 1, l => by
  unfold sink
  split
  ·rename_i a b ha hb
   split
   ·exact (sink_perm key j _).trans (swp_perm ha hb)
   ·exact .refl _
  ·exact .refl _
theorem isortN_perm (key : Int → Int) (l : List Int) : ∀ i, (isortN key l i).Perm l
 | 0 => .refl _
 | i + 1 => (sink_perm key _ _).trans (isortN_perm key l i)
theorem isort_perm (key : Int → Int) (l : List Int) : (isort key l).Perm l := isortN_perm key l _
theorem isortN_len (key : Int → Int) (l : List Int) (i : Nat) : (isortN key l i).length = l.length := (isortN_perm key l i).length_eq
theorem isortN_succ (key : Int → Int) (l : List Int) {i : Nat} (h : 1 ≤ i) : isortN key l i = sink key i (isortN key l (i - 1)) := by
 obtain ⟨m, rfl⟩ : ∃ m, i = m + 1 := ⟨i - 1, by omega⟩
 rfl

/-- A plan's numbers are small. -/
structure PlOK (p : List Be) : Prop where
 len : p.length = 4
 ok : ∀ b ∈ p, -1 ≤ b.fl ∧ b.fl ≤ 1 ∧ 0 ≤ b.day ∧ b.day ≤ 17
def beAt (p : List Be) (i : Nat) : Be := p.getD i bnone
def dayOf (p : List Be) (i : Int) : Int := (beAt p i.toNat).day
theorem beAt_some {p : List Be} (h : PlOK p) {i : Nat} (hi : i < 4) : p[i]? = some (beAt p i) ∧ -1 ≤ (beAt p i).fl ∧ (beAt p i).fl ≤ 1 ∧ 0 ≤ (beAt p i).day ∧ (beAt p i).day ≤ 17 := by
 have hl := h.len
 have e : p[i]? = some (beAt p i) := by simp [beAt, List.getD, List.getElem?_eq_getElem (show i < p.length by omega)]
 exact ⟨e, h.ok _ (List.mem_of_getElem? e)⟩
/-- The strikes that are on a floor, of the first k. -/
def onFk (p : List Be) (f : Int) : Nat → List Int
 | 0 => []
 | k + 1 => if (beAt p k).fl = f then onFk p f k ++ [(k : Int)] else onFk p f k
theorem onFk_lt {p : List Be} {f : Int} : ∀ {k : Nat} {a : Int}, a ∈ onFk p f k → 0 ≤ a ∧ a < k
 | 0, _, h => by simp [onFk] at h
 | k + 1, a, h => by
  unfold onFk at h
  split at h
  ·rcases List.mem_append.1 h with h | h
   ·have := onFk_lt h; omega
   ·have : a = k := by simpa using h
    omega
  ·have := onFk_lt h; omega
theorem onFk_len {p : List Be} {f : Int} : ∀ (k : Nat), (onFk p f k).length ≤ k
 | 0 => by simp [onFk]
 | k + 1 => by
  have := onFk_len (p := p) (f := f) k
  unfold onFk
  split <;> simp <;> omega
/-- .. in the order of their days. -/
def setL (p : List Be) (f : Int) : List Int := isort (dayOf p) (onFk p f 4)
theorem setL_lt {p : List Be} {f a : Int} (h : a ∈ setL p f) : 0 ≤ a ∧ a < 4 := onFk_lt ((isort_perm _ _).subset h)
theorem setL_len {p : List Be} {f : Int} : (setL p f).length ≤ 4 := by
 rw [setL, (isort_perm _ _).length_eq]; exact onFk_len 4
theorem plan_ex {p : List Be} (h : PlOK p) {i : Nat} (hi : i < 4) : (flat Be.row p).toArray.extract (i * 2) (i * 2 + 2) = #[I (beAt p i).fl, I (beAt p i).day] := by
 have hP : Part (flat Be.row p).toArray 0 (flat Be.row p) := Part.all _
 have := (hP.rowE (beAt_some h hi).1).1
 simpa [Be.row] using this
theorem plan_sz {p : List Be} (h : PlOK p) : (flat Be.row p).toArray.size = 8 := by simp [flat_len, h.len]
theorem plan_at {p : List Be} (h : PlOK p) {i : Nat} (hi : i < 4) : (flat Be.row p).toArray[i * 2]? = some (I (beAt p i).fl) ∧ (flat Be.row p).toArray[i * 2 + 1]? = some (I (beAt p i).day) := by
 have hP : Part (flat Be.row p).toArray 0 (flat Be.row p) := Part.all _
 have h0 := hP.rowG (beAt_some h hi).1 0 (by decide)
 have h1 := hP.rowG (beAt_some h hi).1 1 (by decide)
 simp only [Nat.zero_add, Nat.add_zero] at h0 h1
 exact ⟨h0, h1⟩
theorem plan_ones {p : List Be} : ones (flat Be.row p).toArray.toList = true := by simpa using flat_ones _
end Go.Mus

/- What stands on a floor on each day. Conditions: none. -/
namespace Go.Mus
structure Sp where
 (lo hi : Int)
 deriving DecidableEq
def Sp.row (s : Sp) : List Value := [I s.lo, I s.hi]
instance : Rw Sp.row 2 := ⟨fun _ => rfl, fun _ => rfl⟩
/-- The sum, as a machine has it. -/
abbrev wadd (a b : Int) : Int := IntKind.i64.wrap (a + b)
/-- A day's numbers grow. -/
def bump (d : List Sp) (i : Nat) (b : Bool) (co : Int) : List Sp := match d[i]? with
 | some s => d.set i ⟨if b then wadd s.lo co else s.lo, wadd s.hi co⟩
 | none => d
/-- The days of a strike, from the n-th on. -/
def addSt (day lo co : Int) : Nat → Nat → List Sp → List Sp
 | 0, _, d => d
 | m + 1, n, d => if 21 < day + n then d else addSt day lo co m (n + 1) (bump d (day + n).toNat (decide ((n : Int) < lo)) co)
def coOf (ss : List St) (i : Int) : Int := (ss.getD i.toNat ⟨0, 0, 0⟩).co
def flAt (fs : List Fl) (f : Int) : Fl := fs.getD f.toNat ⟨0, 0, 0, 0⟩
def days0 : List Sp := List.replicate 22 ⟨0, 0⟩
def standsD (fs : List Fl) (ss : List St) (p : List Be) (f : Int) : List Sp :=
 (setL p f).foldl (fun d i => addSt (dayOf p i) (flAt fs f).lo (coOf ss i) (flAt fs f).hi.toNat 0 d) days0
theorem bump_len {d : List Sp} {i : Nat} {b : Bool} {co : Int} : (bump d i b co).length = d.length := by
 unfold bump; split <;> simp
theorem addSt_len {day lo co : Int} : ∀ (m n : Nat) (d : List Sp), (addSt day lo co m n d).length = d.length
 | 0, _, _ => rfl
 | m + 1, n, d => by
  unfold addSt
  split
  ·rfl
  ·rw [addSt_len, bump_len]
theorem standsD_len {fs : List Fl} {ss : List St} {p : List Be} {f : Int} : (standsD fs ss p f).length = 22 := by
 have : ∀ (l : List Int) (d : List Sp), (l.foldl (fun d i => addSt (dayOf p i) (flAt fs f).lo (coOf ss i) (flAt fs f).hi.toNat 0 d) d).length = d.length := by
  intro l
  induction l with
  | nil => intro d; rfl
  | cons a l ih => intro d; rw [List.foldl_cons, ih, addSt_len]
 rw [standsD, this]; rfl
abbrev daysV (d : List Sp) : Value := .agg (flat Sp.row d).toArray
theorem days_sz {d : List Sp} (h : d.length = 22) : (flat Sp.row d).toArray.size = 44 := by simp [flat_len, h]
theorem days_at {d : List Sp} {i : Nat} {s : Sp} (h : d[i]? = some s) : (flat Sp.row d).toArray[0 + i * 2]? = some (I s.lo) ∧ (flat Sp.row d).toArray[0 + i * 2 + 1]? = some (I s.hi) := by
 have hP : Part (flat Sp.row d).toArray 0 (flat Sp.row d) := Part.all _
 exact ⟨hP.rowG h 0 (by decide), hP.rowG h 1 (by decide)⟩
theorem days_ex {d : List Sp} {i : Nat} {s : Sp} (h : d[i]? = some s) : (flat Sp.row d).toArray.extract (i * 2) (i * 2 + 2) = #[I s.lo, I s.hi] := by
 have hP : Part (flat Sp.row d).toArray 0 (flat Sp.row d) := Part.all _
 have := (hP.rowE h).1
 simpa [Sp.row] using this
theorem set_same {l : List Value} {i : Nat} {v : Value} (h : l[i]? = some v) : l.set i v = l := by
 apply List.ext_getElem?
 intro j
 rw [List.getElem?_set]
 split
 ·rename_i e; subst e
  rcases Nat.lt_or_ge i l.length with h' | h'
  ·simp [h', ← h]
  ·rw [List.getElem?_eq_none h'] at h; cases h
 ·rfl
theorem flat_set {d : List Sp} {i : Nat} {s : Sp} (h : i < d.length) : ((flat Sp.row d).toArray.setIfInBounds (0 + i * 2) (I s.lo)).setIfInBounds (0 + i * 2 + 1) (I s.hi) = (flat Sp.row (d.set i s)).toArray := by
 induction d generalizing i with
 | nil => simp at h
 | cons a d ih =>
  cases i with
  | zero => simp [flat_cons, Sp.row]
  | succ i =>
   have := ih (i := i) (by simpa using h)
   simp only [List.set_cons_succ, flat_cons]
   apply Array.ext'
   have h2 := congrArg Array.toList this
   simp only [Array.toList_setIfInBounds, Nat.zero_add] at h2 ⊢
   have e1 : (i + 1) * 2 = i * 2 + 2 := by omega
   rw [e1, ← h2]
   simp [Sp.row]
theorem flat_hi {d : List Sp} {i : Nat} {s : Sp} {x : Int} (h : d[i]? = some s) : (flat Sp.row d).toArray.setIfInBounds (0 + i * 2 + 1) (I x) = (flat Sp.row (d.set i ⟨s.lo, x⟩)).toArray := by
 have hi : i < d.length := by
  rcases Nat.lt_or_ge i d.length with h' | h'
  ·exact h'
  ·rw [List.getElem?_eq_none h'] at h; cases h
 rw [← flat_set hi]
 congr 1
 have := (days_at h).1
 apply Array.ext'
 simp only [Array.toList_setIfInBounds]
 have h2 : (flat Sp.row d)[0 + i * 2]? = some (I s.lo) := by simpa using this
 rw [set_same h2]
theorem flat_lo {d : List Sp} {i : Nat} {s : Sp} {x : Int} (h : d[i]? = some s) : (flat Sp.row d).toArray.setIfInBounds (0 + i * 2 + 0) (I x) = (flat Sp.row (d.set i ⟨x, s.hi⟩)).toArray := by
 have hi : i < d.length := by
  rcases Nat.lt_or_ge i d.length with h' | h'
  ·exact h'
  ·rw [List.getElem?_eq_none h'] at h; cases h
 rw [← flat_set hi]
 have := (days_at h).2
 apply Array.ext'
 simp only [Array.toList_setIfInBounds]
 have h2 : ((flat Sp.row d).set (0 + i * 2) (I x))[0 + i * 2 + 1]? = some (I s.hi) := by
  rw [List.getElem?_set_ne (by omega)]; simpa using this
 rw [set_same h2]
 rw [Nat.add_zero]

/-- A hall whose numbers are small. -/
structure HallOK (fs : List Fl) (ss : List St) : Prop where
 nf : 1 ≤ fs.length ∧ fs.length ≤ 2
 ns : ss.length ≤ 4
 fl : ∀ f ∈ fs, 1 ≤ f.pl ∧ f.pl ≤ 9 ∧ 1 ≤ f.lo ∧ f.lo ≤ f.hi ∧ f.hi ≤ 6 ∧ 0 ≤ f.co ∧ f.co ≤ 9
 st : ∀ s ∈ ss, 0 ≤ s.day ∧ s.day ≤ 12 ∧ 1 ≤ s.co ∧ s.co ≤ 6 ∧ 0 ≤ s.wa ∧ s.wa ≤ 5
/-- A plan of a hall. -/
structure PlanOf (fs : List Fl) (ss : List St) (p : List Be) : Prop where
 ok : PlOK p
 fl : ∀ b ∈ p, b.fl < fs.length
 pad : ∀ i, ss.length ≤ i → (beAt p i).fl < 0
theorem onFk_fl {p : List Be} {f : Int} : ∀ {k : Nat} {a : Int}, a ∈ onFk p f k → (beAt p a.toNat).fl = f
 | 0, _, h => by simp [onFk] at h
 | k + 1, a, h => by
  unfold onFk at h
  split at h
  ·rename_i hk
   rcases List.mem_append.1 h with h | h
   ·exact onFk_fl h
   ·have : a = k := by simpa using h
    subst this; simpa using hk
  ·exact onFk_fl h
theorem setL_fl {p : List Be} {f a : Int} (h : a ∈ setL p f) : (beAt p a.toNat).fl = f := onFk_fl ((isort_perm _ _).subset h)
theorem setL_st {fs : List Fl} {ss : List St} {p : List Be} {f a : Int} (hp : PlanOf fs ss p) (hf : 0 ≤ f) (h : a ∈ setL p f) : a.toNat < ss.length := by
 rcases Nat.lt_or_ge a.toNat ss.length with h' | h'
 ·exact h'
 ·have := hp.pad _ h'
  rw [setL_fl h] at this
  omega

/-- A loop that is never left comes to a fold. -/
theorem runs_all {σ X : Type} {st : σ → X → σ} : ∀ (xs : List X) (s : σ), (runs (rstep st fun _ _ => none) (s, none) xs).1 = (xs.foldl st s, none)
 | [], s => rfl
 | p :: xs, s => by
  simp only [runs, rstep, Option.isNone_none]
  exact runs_all xs (st s p)
end Go.Mus

/- What is wrong on a floor. Conditions: none. -/
namespace Go.Mus
/-- A fault: none; or whether it is one of cold, and its day. -/
abbrev Fault := Option (Bool × Int)
def fullF (pl : Int) : List Sp → Nat → Fault
 | [], _ => none
 | s :: r, k => if pl < s.hi then some (false, (k : Int)) else fullF pl r (k + 1)
def early (late : Int) : Fault → Bool
 | none => true
 | some (_, n) => decide (late < n)
def lookS (co lo day : Int) (s : Fault × Int) : Fault × Int :=
 (if 0 ≤ s.2 ∧ wadd s.2 co < day ∧ early (wadd s.2 co) s.1 = true then some (true, wadd s.2 co) else s.1, max s.2 (day + lo))
theorem lookS_pos {co lo day u : Int} {fd : Fault} (h1 : 0 ≤ u) (h2 : IntKind.i64.wrap (u + co) < day) (h3 : early (wadd u co) fd = true) : lookS co lo day (fd, u) = (some (true, wadd u co), max u (day + lo)) := by
 simp only [lookS]; rw [if_pos ⟨h1, h2, h3⟩]
theorem lookS_neg1 {co lo day u : Int} {fd : Fault} (h1 : ¬ 0 ≤ u) : lookS co lo day (fd, u) = (fd, max u (day + lo)) := by
 simp only [lookS]; rw [if_neg fun h => h1 h.1]
theorem lookS_neg2 {co lo day u : Int} {fd : Fault} (h1 : ¬ IntKind.i64.wrap (u + co) < day) : lookS co lo day (fd, u) = (fd, max u (day + lo)) := by
 simp only [lookS]; rw [if_neg fun h => h1 h.2.1]
theorem lookS_neg3 {co lo day u n : Int} {c : Bool} (h1 : ¬ IntKind.i64.wrap (u + co) < n) : lookS co lo day (some (c, n), u) = (some (c, n), max u (day + lo)) := by
 simp only [lookS]; rw [if_neg fun h => h1 (by simpa [early] using h.2.2)]
theorem early_none {late : Int} {fd : Fault} (h : fd.isNone = true) : early late fd = true := by
 cases fd with
 | none => rfl
 | some q => cases h
theorem early_some {u co n : Int} {c : Bool} (h : IntKind.i64.wrap (u + co) < n) : early (wadd u co) (some (c, n)) = true := by simpa [early] using h
def lookF (fs : List Fl) (ss : List St) (p : List Be) (f : Int) : Fault :=
 ((setL p f).foldl (fun s i => lookS (flAt fs f).co (flAt fs f).lo (dayOf p i) s) (fullF (flAt fs f).pl (standsD fs ss p f) 0, -1)).1
end Go.Mus

/- The first fault of a plan. Conditions: none. -/
namespace Go.Mus
/-- The first fault, and its floor. -/
abbrev Err := Option ((Bool × Int) × Int)
def inspB (acc : Err) (n : Int) : Bool := match acc with
 | none => true
 | some (q0, _) => decide (n < q0.2)
def inspS (acc : Err) (f : Int) (q : Fault) : Err := match q with
 | none => acc
 | some z => if inspB acc z.2 = true then some (z, f) else acc
def inspN (fs : List Fl) (ss : List St) (p : List Be) : Nat → Err
 | 0 => none
 | k + 1 => inspS (inspN fs ss p k) k (lookF fs ss p k)
def inspF (fs : List Fl) (ss : List St) (p : List Be) : Err := inspN fs ss p fs.length
end Go.Mus

/- The right plans of a hall, looked for. Conditions: none. -/
namespace Go.Mus
/-- Whether a strike may be set, may be left. -/
abbrev May := Nat → Bool × Bool
def daysFrom (f d : Int) : Nat → List Be
 | 0 => []
 | m + 1 => ⟨f, d⟩ :: daysFrom f (d + 1) m
def floorsFrom (s : St) (f : Int) : Nat → List Be
 | 0 => []
 | m + 1 => daysFrom f s.day (s.wa + 1).toNat ++ floorsFrom s (f + 1) m
def stAt (ss : List St) (k : Nat) : St := ss.getD k ⟨0, 0, 0⟩
/-- The berths that a strike may have. -/
def berthsK (fs : List Fl) (ss : List St) (may : May) (k : Nat) : List Be :=
 (if (may k).2 then [bnone] else []) ++ (if (may k).1 then floorsFrom (stAt ss k) 0 fs.length else [])
/-- Some day has more cones than places. -/
def over (pl : Int) : List Sp → Bool
 | [] => false
 | s :: r => if pl < s.hi then true else over pl r
def prune (fs : List Fl) (ss : List St) (p : List Be) (b : Be) : Bool := if 0 ≤ b.fl then over (flAt fs b.fl).pl (standsD fs ss p b.fl) else false
/-- The right plans that begin so, in order. -/
def rights (fs : List Fl) (ss : List St) (may : May) : Nat → Nat → List Be → List (List Be)
 | 0, _, p => if (inspF fs ss p).isNone then [p] else []
 | m + 1, k, p => (berthsK fs ss may k).flatMap fun b => if prune fs ss (p.set k b) b then [] else rights fs ss may m (k + 1) (p.set k b)
theorem over_drop {pl : Int} : ∀ {d : List Sp} {k : Nat}, (∀ i, i < k → ∀ s, d[i]? = some s → ¬ pl < s.hi) → over pl d = over pl (d.drop k)
 | d, 0, _ => rfl
 | [], k + 1, _ => by simp
 | s :: d, k + 1, hn => by
  have h0 := hn 0 (by omega) s rfl
  simp only [over, if_neg h0, List.drop_succ_cons]
  exact over_drop fun i hi s hs => hn (i + 1) (by omega) s (by simpa using hs)

theorem mem_daysFrom {f : Int} : ∀ {m : Nat} {d : Int} {b : Be}, b ∈ daysFrom f d m → b.fl = f ∧ d ≤ b.day ∧ b.day < d + m
 | 0, _, _, h => by simp [daysFrom] at h
 | m + 1, d, b, h => by
  simp only [daysFrom, List.mem_cons] at h
  rcases h with rfl | h
  ·exact ⟨rfl, Int.le_refl _, by simp; omega⟩
  ·have := mem_daysFrom h
   exact ⟨this.1, by omega, by omega⟩
theorem mem_floorsFrom {s : St} : ∀ {m : Nat} {f : Int} {b : Be}, b ∈ floorsFrom s f m → f ≤ b.fl ∧ b.fl < f + m ∧ s.day ≤ b.day ∧ b.day < s.day + (s.wa + 1).toNat
 | 0, _, _, h => by simp [floorsFrom] at h
 | m + 1, f, b, h => by
  rcases List.mem_append.1 h with h | h
  ·have := mem_daysFrom h; omega
  ·have := mem_floorsFrom h; omega
/-- A berth of a strike. -/
theorem berth_ok {fs : List Fl} {ss : List St} {may : May} {k : Nat} {b : Be} (hall : HallOK fs ss) (hk : k < ss.length) (h : b ∈ berthsK fs ss may k) : -1 ≤ b.fl ∧ b.fl ≤ 1 ∧ b.fl < fs.length ∧ 0 ≤ b.day ∧ b.day ≤ 17 := by
 have hs : stAt ss k ∈ ss := by simp [stAt, List.getD, List.getElem?_eq_getElem hk]
 have := hall.st _ hs
 have hn := hall.nf
 unfold berthsK at h
 rcases List.mem_append.1 h with h | h
 ·split at h
  ·have : b = bnone := by simpa using h
   subst this; simp [bnone]; omega
  ·cases h
 ·split at h
  ·have := mem_floorsFrom h; omega
  ·cases h
theorem plan_set {fs : List Fl} {ss : List St} {p : List Be} {k : Nat} {b : Be} (hp : PlanOf fs ss p) (hk : k < ss.length) (hb : -1 ≤ b.fl ∧ b.fl ≤ 1 ∧ b.fl < fs.length ∧ 0 ≤ b.day ∧ b.day ≤ 17) : PlanOf fs ss (p.set k b) := by
 refine ⟨⟨by simpa using hp.ok.len, fun c hc => ?_⟩, fun c hc => ?_, fun i hi => ?_⟩
 ·rcases List.mem_or_eq_of_mem_set hc with h | rfl
  ·exact hp.ok.ok c h
  ·omega
 ·rcases List.mem_or_eq_of_mem_set hc with h | rfl
  ·exact hp.fl c h
  ·omega
 ·have := hp.pad i hi
  simp only [beAt, List.getD] at this ⊢
  rw [List.getElem?_set_ne (by omega)]
  exact this
end Go.Mus
