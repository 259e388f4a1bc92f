/- The types of functions, as facts. Conditions: none. (And 7 texts more.) -/
import Derived.Test.YtnffnndmilpnoaaGreatDoorR05
import Derived.Test.YtnffnndmilpnoaaGreatDoorR07
import Derived.Test.YtnffnndmilpnoaaGreatDoorR06
set_option linter.unusedVariables false
set_option linter.unusedSimpArgs false
set_option linter.unusedSectionVars false

/- The types of functions, as facts. Conditions: none. -/
namespace Go.Proofs.YtnffnndmilpnoaaGreatDoor
open Go Go.Mus
set_option maxRecDepth 100000
instance : SC Tryz.prog 1 := ⟨by kernel_rfl⟩
instance : TI Tryz.prog 1 1 8 .nilFunc #[.nilFunc] := ⟨by kernel_rfl, rfl⟩
instance : TD Tryz.prog 25 (.struct #[⟨"Floors", 22, 0, false, "", "", 0⟩, ⟨"Strikes", 23, 1, false, "", "", 24⟩]) := ⟨by kernel_rfl⟩
instance : TD Tryz.prog 27 (.struct #[⟨"Lo", 3, 0, false, "", "", 0⟩, ⟨"Hi", 3, 1, false, "", "", 8⟩]) := ⟨by kernel_rfl⟩
instance : TD Tryz.prog 29 (.struct #[⟨"Places", 3, 0, false, "", "", 0⟩, ⟨"Drip", 27, 1, false, "", "", 8⟩, ⟨"Cool", 3, 3, false, "", "", 24⟩]) := ⟨by kernel_rfl⟩
instance : TD Tryz.prog 31 (.struct #[⟨"Day", 3, 0, false, "", "", 0⟩, ⟨"Cones", 3, 1, false, "", "", 8⟩, ⟨"Wait", 3, 2, false, "", "", 16⟩]) := ⟨by kernel_rfl⟩
instance : SC Tryz.prog 34 := ⟨by kernel_rfl⟩
instance : TI Tryz.prog 34 1 8 .nilFunc #[.nilFunc] := ⟨by kernel_rfl, rfl⟩
instance : SC Tryz.prog 35 := ⟨by kernel_rfl⟩
instance : TI Tryz.prog 35 1 8 .nilFunc #[.nilFunc] := ⟨by kernel_rfl, rfl⟩
instance : SC Tryz.prog 37 := ⟨by kernel_rfl⟩
instance : TI Tryz.prog 37 1 8 .nilFunc #[.nilFunc] := ⟨by kernel_rfl, rfl⟩
instance : SC Tryz.prog 39 := ⟨by kernel_rfl⟩
instance : TI Tryz.prog 39 1 8 .nilFunc #[.nilFunc] := ⟨by kernel_rfl, rfl⟩
instance : SC Tryz.prog 40 := ⟨by kernel_rfl⟩
instance : TI Tryz.prog 40 1 8 .nilFunc #[.nilFunc] := ⟨by kernel_rfl, rfl⟩
instance : SC Tryz.prog 42 := ⟨by kernel_rfl⟩
instance : TI Tryz.prog 42 1 8 .nilFunc #[.nilFunc] := ⟨by kernel_rfl, rfl⟩
instance : SC Tryz.prog 43 := ⟨by kernel_rfl⟩
instance : TI Tryz.prog 43 1 8 .nilFunc #[.nilFunc] := ⟨by kernel_rfl, rfl⟩
instance : SC Tryz.prog 44 := ⟨by kernel_rfl⟩
instance : TI Tryz.prog 44 1 8 .nilFunc #[.nilFunc] := ⟨by kernel_rfl, rfl⟩
instance : SC Tryz.prog 46 := ⟨by kernel_rfl⟩
instance : TI Tryz.prog 46 1 8 .nilFunc #[.nilFunc] := ⟨by kernel_rfl, rfl⟩
instance : SC Tryz.prog 47 := ⟨by kernel_rfl⟩
instance : TI Tryz.prog 47 1 8 .nilFunc #[.nilFunc] := ⟨by kernel_rfl, rfl⟩
instance : SC Tryz.prog 49 := ⟨by kernel_rfl⟩
instance : TI Tryz.prog 49 1 8 .nilFunc #[.nilFunc] := ⟨by kernel_rfl, rfl⟩
instance : SC Tryz.prog 51 := ⟨by kernel_rfl⟩
instance : TI Tryz.prog 51 1 8 .nilFunc #[.nilFunc] := ⟨by kernel_rfl, rfl⟩
instance : SC Tryz.prog 52 := ⟨by kernel_rfl⟩
instance : TI Tryz.prog 52 1 8 .nilFunc #[.nilFunc] := ⟨by kernel_rfl, rfl⟩
instance : SC Tryz.prog 53 := ⟨by kernel_rfl⟩
instance : TI Tryz.prog 53 1 8 .nilFunc #[.nilFunc] := ⟨by kernel_rfl, rfl⟩
instance : SC Tryz.prog 54 := ⟨by kernel_rfl⟩
instance : TI Tryz.prog 54 1 8 .nilFunc #[.nilFunc] := ⟨by kernel_rfl, rfl⟩
instance : SC Tryz.prog 56 := ⟨by kernel_rfl⟩
instance : TI Tryz.prog 56 1 8 .nilFunc #[.nilFunc] := ⟨by kernel_rfl, rfl⟩
instance : SC Tryz.prog 57 := ⟨by kernel_rfl⟩
instance : TI Tryz.prog 57 1 8 .nilFunc #[.nilFunc] := ⟨by kernel_rfl, rfl⟩
instance : SC Tryz.prog 58 := ⟨by kernel_rfl⟩
instance : TI Tryz.prog 58 1 8 .nilFunc #[.nilFunc] := ⟨by kernel_rfl, rfl⟩
instance : SC Tryz.prog 59 := ⟨by kernel_rfl⟩
instance : TI Tryz.prog 59 1 8 .nilFunc #[.nilFunc] := ⟨by kernel_rfl, rfl⟩
instance : SC Tryz.prog 60 := ⟨by kernel_rfl⟩
instance : TI Tryz.prog 60 1 8 .nilFunc #[.nilFunc] := ⟨by kernel_rfl, rfl⟩
instance : SC Tryz.prog 62 := ⟨by kernel_rfl⟩
instance : TI Tryz.prog 62 1 8 .nilFunc #[.nilFunc] := ⟨by kernel_rfl, rfl⟩
instance : SC Tryz.prog 63 := ⟨by kernel_rfl⟩
instance : TI Tryz.prog 63 1 8 .nilFunc #[.nilFunc] := ⟨by kernel_rfl, rfl⟩
instance : SC Tryz.prog 66 := ⟨by kernel_rfl⟩
instance : TI Tryz.prog 66 1 8 .nilFunc #[.nilFunc] := ⟨by kernel_rfl, rfl⟩
instance : SC Tryz.prog 67 := ⟨by kernel_rfl⟩
instance : TI Tryz.prog 67 1 8 .nilFunc #[.nilFunc] := ⟨by kernel_rfl, rfl⟩
instance : SC Tryz.prog 68 := ⟨by kernel_rfl⟩
instance : TI Tryz.prog 68 1 8 .nilFunc #[.nilFunc] := ⟨by kernel_rfl, rfl⟩
instance : TD Tryz.prog 72 (.struct #[⟨"Starts", 69, 0, false, "", "", 0⟩, ⟨"Rates", 33, 1, false, "", "", 24⟩, ⟨"Marks", 33, 2, false, "", "", 48⟩, ⟨"Heats", 69, 3, false, "", "", 72⟩, ⟨"Proofs", 70, 4, false, "", "", 96⟩]) := ⟨by kernel_rfl⟩
instance : SC Tryz.prog 74 := ⟨by kernel_rfl⟩
instance : TI Tryz.prog 74 1 8 .nilFunc #[.nilFunc] := ⟨by kernel_rfl, rfl⟩
instance : SC Tryz.prog 75 := ⟨by kernel_rfl⟩
instance : TI Tryz.prog 75 1 8 .nilFunc #[.nilFunc] := ⟨by kernel_rfl, rfl⟩
instance : SC Tryz.prog 76 := ⟨by kernel_rfl⟩
instance : TI Tryz.prog 76 1 8 .nilFunc #[.nilFunc] := ⟨by kernel_rfl, rfl⟩
instance : SC Tryz.prog 78 := ⟨by kernel_rfl⟩
instance : TI Tryz.prog 78 1 8 .nilFunc #[.nilFunc] := ⟨by kernel_rfl, rfl⟩
instance : TD Tryz.prog 80 (.struct #[⟨"Floor", 3, 0, false, "", "", 0⟩, ⟨"Day", 3, 1, false, "", "", 8⟩]) := ⟨by kernel_rfl⟩
instance : SC Tryz.prog 81 := ⟨by kernel_rfl⟩
instance : TI Tryz.prog 81 1 8 .nilFunc #[.nilFunc] := ⟨by kernel_rfl, rfl⟩
instance : SC Tryz.prog 82 := ⟨by kernel_rfl⟩
instance : TI Tryz.prog 82 1 8 .nilFunc #[.nilFunc] := ⟨by kernel_rfl, rfl⟩
instance : SC Tryz.prog 83 := ⟨by kernel_rfl⟩
instance : TI Tryz.prog 83 1 8 .nilFunc #[.nilFunc] := ⟨by kernel_rfl, rfl⟩
instance : SC Tryz.prog 84 := ⟨by kernel_rfl⟩
instance : TI Tryz.prog 84 1 8 .nilFunc #[.nilFunc] := ⟨by kernel_rfl, rfl⟩
instance : SC Tryz.prog 85 := ⟨by kernel_rfl⟩
instance : TI Tryz.prog 85 1 8 .nilFunc #[.nilFunc] := ⟨by kernel_rfl, rfl⟩
instance : SC Tryz.prog 86 := ⟨by kernel_rfl⟩
instance : TI Tryz.prog 86 1 8 .nilFunc #[.nilFunc] := ⟨by kernel_rfl, rfl⟩
instance : TD Tryz.prog 89 (.struct #[⟨"list", 33, 0, false, "", "muscovado/muscovadokit", 0⟩, ⟨"at", 3, 1, false, "", "muscovado/muscovadokit", 24⟩, ⟨"stirs", 87, 2, false, "", "muscovado/muscovadokit", 32⟩]) := ⟨by kernel_rfl⟩
instance : SC Tryz.prog 90 := ⟨by kernel_rfl⟩
instance : TI Tryz.prog 90 1 8 .nilFunc #[.nilFunc] := ⟨by kernel_rfl, rfl⟩
instance : SC Tryz.prog 91 := ⟨by kernel_rfl⟩
instance : TI Tryz.prog 91 1 8 .nilFunc #[.nilFunc] := ⟨by kernel_rfl, rfl⟩
instance : SC Tryz.prog 92 := ⟨by kernel_rfl⟩
instance : TI Tryz.prog 92 1 8 .nilFunc #[.nilFunc] := ⟨by kernel_rfl, rfl⟩
instance : SC Tryz.prog 93 := ⟨by kernel_rfl⟩
instance : TI Tryz.prog 93 1 8 .nilFunc #[.nilFunc] := ⟨by kernel_rfl, rfl⟩
instance : SC Tryz.prog 94 := ⟨by kernel_rfl⟩
instance : TI Tryz.prog 94 1 8 .nilFunc #[.nilFunc] := ⟨by kernel_rfl, rfl⟩
instance : TD Tryz.prog 96 (.struct #[⟨"Plant", 25, 0, true, "", "", 0⟩]) := ⟨by kernel_rfl⟩
instance : SC Tryz.prog 100 := ⟨by kernel_rfl⟩
instance : TI Tryz.prog 100 1 8 .nilFunc #[.nilFunc] := ⟨by kernel_rfl, rfl⟩
instance : SC Tryz.prog 103 := ⟨by kernel_rfl⟩
instance : TI Tryz.prog 103 1 8 .nilFunc #[.nilFunc] := ⟨by kernel_rfl, rfl⟩
instance : SC Tryz.prog 104 := ⟨by kernel_rfl⟩
instance : TI Tryz.prog 104 1 8 .nilFunc #[.nilFunc] := ⟨by kernel_rfl, rfl⟩
instance : SC Tryz.prog 105 := ⟨by kernel_rfl⟩
instance : TI Tryz.prog 105 1 8 .nilFunc #[.nilFunc] := ⟨by kernel_rfl, rfl⟩
instance : TD Tryz.prog 108 (.struct #[⟨"count", 3, 0, false, "", "muscovado/floor", 0⟩, ⟨"all", 106, 1, false, "", "muscovado/floor", 8⟩]) := ⟨by kernel_rfl⟩
instance : SC Tryz.prog 109 := ⟨by kernel_rfl⟩
instance : TI Tryz.prog 109 1 8 .nilFunc #[.nilFunc] := ⟨by kernel_rfl, rfl⟩
instance : SC Tryz.prog 110 := ⟨by kernel_rfl⟩
instance : TI Tryz.prog 110 1 8 .nilFunc #[.nilFunc] := ⟨by kernel_rfl, rfl⟩
instance : SC Tryz.prog 112 := ⟨by kernel_rfl⟩
instance : TI Tryz.prog 112 1 8 .nilFunc #[.nilFunc] := ⟨by kernel_rfl, rfl⟩
instance : SC Tryz.prog 113 := ⟨by kernel_rfl⟩
instance : TI Tryz.prog 113 1 8 .nilFunc #[.nilFunc] := ⟨by kernel_rfl, rfl⟩
instance : TD Tryz.prog 115 (.struct #[⟨"hall", 96, 0, true, "", "muscovado/floor", 0⟩, ⟨"may", 113, 2, false, "", "muscovado/floor", 48⟩]) := ⟨by kernel_rfl⟩
instance : SC Tryz.prog 116 := ⟨by kernel_rfl⟩
instance : TI Tryz.prog 116 1 8 .nilFunc #[.nilFunc] := ⟨by kernel_rfl, rfl⟩
instance : SC Tryz.prog 117 := ⟨by kernel_rfl⟩
instance : TI Tryz.prog 117 1 8 .nilFunc #[.nilFunc] := ⟨by kernel_rfl, rfl⟩
instance : SC Tryz.prog 118 := ⟨by kernel_rfl⟩
instance : TI Tryz.prog 118 1 8 .nilFunc #[.nilFunc] := ⟨by kernel_rfl, rfl⟩
instance : SC Tryz.prog 119 := ⟨by kernel_rfl⟩
instance : TI Tryz.prog 119 1 8 .nilFunc #[.nilFunc] := ⟨by kernel_rfl, rfl⟩
instance : TD Tryz.prog 123 (.struct #[⟨"fault", 121, 0, true, "", "muscovado/floor", 0⟩, ⟨"floor", 3, 1, false, "", "muscovado/floor", 16⟩]) := ⟨by kernel_rfl⟩
instance : SC Tryz.prog 124 := ⟨by kernel_rfl⟩
instance : TI Tryz.prog 124 1 8 .nilFunc #[.nilFunc] := ⟨by kernel_rfl, rfl⟩
instance : SC Tryz.prog 127 := ⟨by kernel_rfl⟩
instance : TI Tryz.prog 127 1 8 .nilFunc #[.nilFunc] := ⟨by kernel_rfl, rfl⟩
instance : SC Tryz.prog 129 := ⟨by kernel_rfl⟩
instance : TI Tryz.prog 129 1 8 .nilFunc #[.nilFunc] := ⟨by kernel_rfl, rfl⟩
instance : SC Tryz.prog 131 := ⟨by kernel_rfl⟩
instance : TI Tryz.prog 131 1 8 .nilFunc #[.nilFunc] := ⟨by kernel_rfl, rfl⟩
instance : SC Tryz.prog 132 := ⟨by kernel_rfl⟩
instance : TI Tryz.prog 132 1 8 .nilFunc #[.nilFunc] := ⟨by kernel_rfl, rfl⟩
instance : SC Tryz.prog 134 := ⟨by kernel_rfl⟩
instance : TI Tryz.prog 134 1 8 .nilFunc #[.nilFunc] := ⟨by kernel_rfl, rfl⟩
instance : SC Tryz.prog 135 := ⟨by kernel_rfl⟩
instance : TI Tryz.prog 135 1 8 .nilFunc #[.nilFunc] := ⟨by kernel_rfl, rfl⟩
instance : SC Tryz.prog 136 := ⟨by kernel_rfl⟩
instance : TI Tryz.prog 136 1 8 .nilFunc #[.nilFunc] := ⟨by kernel_rfl, rfl⟩
instance : SC Tryz.prog 137 := ⟨by kernel_rfl⟩
instance : TI Tryz.prog 137 1 8 .nilFunc #[.nilFunc] := ⟨by kernel_rfl, rfl⟩
instance : SC Tryz.prog 138 := ⟨by kernel_rfl⟩
instance : TI Tryz.prog 138 1 8 .nilFunc #[.nilFunc] := ⟨by kernel_rfl, rfl⟩
instance : SC Tryz.prog 139 := ⟨by kernel_rfl⟩
instance : TI Tryz.prog 139 1 8 .nilFunc #[.nilFunc] := ⟨by kernel_rfl, rfl⟩
instance : SC Tryz.prog 141 := ⟨by kernel_rfl⟩
instance : TI Tryz.prog 141 1 8 .nilFunc #[.nilFunc] := ⟨by kernel_rfl, rfl⟩
instance : SC Tryz.prog 142 := ⟨by kernel_rfl⟩
instance : TI Tryz.prog 142 1 8 .nilFunc #[.nilFunc] := ⟨by kernel_rfl, rfl⟩
instance : SC Tryz.prog 143 := ⟨by kernel_rfl⟩
instance : TI Tryz.prog 143 1 8 .nilFunc #[.nilFunc] := ⟨by kernel_rfl, rfl⟩
instance : SC Tryz.prog 144 := ⟨by kernel_rfl⟩
instance : TI Tryz.prog 144 1 8 .nilFunc #[.nilFunc] := ⟨by kernel_rfl, rfl⟩
instance : SC Tryz.prog 146 := ⟨by kernel_rfl⟩
instance : TI Tryz.prog 146 1 8 .nilFunc #[.nilFunc] := ⟨by kernel_rfl, rfl⟩
instance : TD Tryz.prog 148 (.struct #[⟨"Pan", 3, 0, false, "", "", 0⟩, ⟨"Tick", 3, 1, false, "", "", 8⟩, ⟨"Thread", 3, 2, false, "", "", 16⟩]) := ⟨by kernel_rfl⟩
instance : SC Tryz.prog 149 := ⟨by kernel_rfl⟩
instance : TI Tryz.prog 149 1 8 .nilFunc #[.nilFunc] := ⟨by kernel_rfl, rfl⟩
instance : SC Tryz.prog 150 := ⟨by kernel_rfl⟩
instance : TI Tryz.prog 150 1 8 .nilFunc #[.nilFunc] := ⟨by kernel_rfl, rfl⟩
instance : SC Tryz.prog 153 := ⟨by kernel_rfl⟩
instance : TI Tryz.prog 153 1 8 .nilFunc #[.nilFunc] := ⟨by kernel_rfl, rfl⟩
instance : SC Tryz.prog 155 := ⟨by kernel_rfl⟩
instance : TI Tryz.prog 155 1 8 .nilFunc #[.nilFunc] := ⟨by kernel_rfl, rfl⟩
instance : SC Tryz.prog 156 := ⟨by kernel_rfl⟩
instance : TI Tryz.prog 156 1 8 .nilFunc #[.nilFunc] := ⟨by kernel_rfl, rfl⟩
instance : SC Tryz.prog 158 := ⟨by kernel_rfl⟩
instance : TI Tryz.prog 158 1 8 .nilFunc #[.nilFunc] := ⟨by kernel_rfl, rfl⟩
instance : SC Tryz.prog 160 := ⟨by kernel_rfl⟩
instance : TI Tryz.prog 160 1 8 .nilFunc #[.nilFunc] := ⟨by kernel_rfl, rfl⟩
instance : SC Tryz.prog 161 := ⟨by kernel_rfl⟩
instance : TI Tryz.prog 161 1 8 .nilFunc #[.nilFunc] := ⟨by kernel_rfl, rfl⟩
instance : SC Tryz.prog 162 := ⟨by kernel_rfl⟩
instance : TI Tryz.prog 162 1 8 .nilFunc #[.nilFunc] := ⟨by kernel_rfl, rfl⟩
instance : SC Tryz.prog 163 := ⟨by kernel_rfl⟩
instance : TI Tryz.prog 163 1 8 .nilFunc #[.nilFunc] := ⟨by kernel_rfl, rfl⟩
instance : SC Tryz.prog 164 := ⟨by kernel_rfl⟩
instance : TI Tryz.prog 164 1 8 .nilFunc #[.nilFunc] := ⟨by kernel_rfl, rfl⟩
instance : SC Tryz.prog 166 := ⟨by kernel_rfl⟩
instance : TI Tryz.prog 166 1 8 .nilFunc #[.nilFunc] := ⟨by kernel_rfl, rfl⟩
instance : SC Tryz.prog 167 := ⟨by kernel_rfl⟩
instance : TI Tryz.prog 167 1 8 .nilFunc #[.nilFunc] := ⟨by kernel_rfl, rfl⟩
instance : SC Tryz.prog 168 := ⟨by kernel_rfl⟩
instance : TI Tryz.prog 168 1 8 .nilFunc #[.nilFunc] := ⟨by kernel_rfl, rfl⟩
instance : SC Tryz.prog 169 := ⟨by kernel_rfl⟩
instance : TI Tryz.prog 169 1 8 .nilFunc #[.nilFunc] := ⟨by kernel_rfl, rfl⟩
instance : SC Tryz.prog 170 := ⟨by kernel_rfl⟩
instance : TI Tryz.prog 170 1 8 .nilFunc #[.nilFunc] := ⟨by kernel_rfl, rfl⟩
instance : SC Tryz.prog 171 := ⟨by kernel_rfl⟩
instance : TI Tryz.prog 171 1 8 .nilFunc #[.nilFunc] := ⟨by kernel_rfl, rfl⟩
instance : SC Tryz.prog 172 := ⟨by kernel_rfl⟩
instance : TI Tryz.prog 172 1 8 .nilFunc #[.nilFunc] := ⟨by kernel_rfl, rfl⟩
instance : SC Tryz.prog 173 := ⟨by kernel_rfl⟩
instance : TI Tryz.prog 173 1 8 .nilFunc #[.nilFunc] := ⟨by kernel_rfl, rfl⟩
instance : SC Tryz.prog 174 := ⟨by kernel_rfl⟩
instance : TI Tryz.prog 174 1 8 .nilFunc #[.nilFunc] := ⟨by kernel_rfl, rfl⟩
instance : SC Tryz.prog 180 := ⟨by kernel_rfl⟩
instance : TI Tryz.prog 180 1 8 .nilFunc #[.nilFunc] := ⟨by kernel_rfl, rfl⟩
instance : SC Tryz.prog 183 := ⟨by kernel_rfl⟩
instance : TI Tryz.prog 183 1 8 .nilFunc #[.nilFunc] := ⟨by kernel_rfl, rfl⟩
instance : SC Tryz.prog 185 := ⟨by kernel_rfl⟩
instance : TI Tryz.prog 185 1 8 .nilFunc #[.nilFunc] := ⟨by kernel_rfl, rfl⟩
instance : SC Tryz.prog 186 := ⟨by kernel_rfl⟩
instance : TI Tryz.prog 186 1 8 .nilFunc #[.nilFunc] := ⟨by kernel_rfl, rfl⟩
instance : SC Tryz.prog 187 := ⟨by kernel_rfl⟩
instance : TI Tryz.prog 187 1 8 .nilFunc #[.nilFunc] := ⟨by kernel_rfl, rfl⟩
instance : SC Tryz.prog 188 := ⟨by kernel_rfl⟩
instance : TI Tryz.prog 188 1 8 .nilFunc #[.nilFunc] := ⟨by kernel_rfl, rfl⟩
instance : SC Tryz.prog 189 := ⟨by kernel_rfl⟩
instance : TI Tryz.prog 189 1 8 .nilFunc #[.nilFunc] := ⟨by kernel_rfl, rfl⟩
instance : SC Tryz.prog 190 := ⟨by kernel_rfl⟩
instance : TI Tryz.prog 190 1 8 .nilFunc #[.nilFunc] := ⟨by kernel_rfl, rfl⟩
instance : SC Tryz.prog 191 := ⟨by kernel_rfl⟩
instance : TI Tryz.prog 191 1 8 .nilFunc #[.nilFunc] := ⟨by kernel_rfl, rfl⟩
instance : SC Tryz.prog 192 := ⟨by kernel_rfl⟩
instance : TI Tryz.prog 192 1 8 .nilFunc #[.nilFunc] := ⟨by kernel_rfl, rfl⟩
instance : SC Tryz.prog 193 := ⟨by kernel_rfl⟩
instance : TI Tryz.prog 193 1 8 .nilFunc #[.nilFunc] := ⟨by kernel_rfl, rfl⟩
instance : TD Tryz.prog 196 (.struct #[⟨"Boil", 72, 0, true, "", "", 0⟩, ⟨"known", 194, 5, false, "", "muscovado/thread", 120⟩]) := ⟨by kernel_rfl⟩
instance : TD Tryz.prog 201 (.struct #[⟨"heats", 198, 0, true, "", "muscovado/thread", 0⟩, ⟨"starts", 199, 5, false, "", "muscovado/thread", 40⟩, ⟨"size", 3, 11, false, "", "muscovado/thread", 88⟩]) := ⟨by kernel_rfl⟩
instance : SC Tryz.prog 202 := ⟨by kernel_rfl⟩
instance : TI Tryz.prog 202 1 8 .nilFunc #[.nilFunc] := ⟨by kernel_rfl, rfl⟩
instance : SC Tryz.prog 203 := ⟨by kernel_rfl⟩
instance : TI Tryz.prog 203 1 8 .nilFunc #[.nilFunc] := ⟨by kernel_rfl, rfl⟩
instance : SC Tryz.prog 204 := ⟨by kernel_rfl⟩
instance : TI Tryz.prog 204 1 8 .nilFunc #[.nilFunc] := ⟨by kernel_rfl, rfl⟩
instance : SC Tryz.prog 205 := ⟨by kernel_rfl⟩
instance : TI Tryz.prog 205 1 8 .nilFunc #[.nilFunc] := ⟨by kernel_rfl, rfl⟩
instance : SC Tryz.prog 207 := ⟨by kernel_rfl⟩
instance : TI Tryz.prog 207 1 8 .nilFunc #[.nilFunc] := ⟨by kernel_rfl, rfl⟩
instance : SC Tryz.prog 211 := ⟨by kernel_rfl⟩
instance : TI Tryz.prog 211 1 8 .nilFunc #[.nilFunc] := ⟨by kernel_rfl, rfl⟩
instance : SC Tryz.prog 212 := ⟨by kernel_rfl⟩
instance : TI Tryz.prog 212 1 8 .nilFunc #[.nilFunc] := ⟨by kernel_rfl, rfl⟩
instance : SC Tryz.prog 217 := ⟨by kernel_rfl⟩
instance : TI Tryz.prog 217 1 8 .nilFunc #[.nilFunc] := ⟨by kernel_rfl, rfl⟩
instance : SC Tryz.prog 218 := ⟨by kernel_rfl⟩
instance : TI Tryz.prog 218 1 8 .nilFunc #[.nilFunc] := ⟨by kernel_rfl, rfl⟩
instance : SC Tryz.prog 219 := ⟨by kernel_rfl⟩
instance : TI Tryz.prog 219 1 8 .nilFunc #[.nilFunc] := ⟨by kernel_rfl, rfl⟩
instance : SC Tryz.prog 222 := ⟨by kernel_rfl⟩
instance : TI Tryz.prog 222 1 8 .nilFunc #[.nilFunc] := ⟨by kernel_rfl, rfl⟩
instance : SC Tryz.prog 224 := ⟨by kernel_rfl⟩
instance : TI Tryz.prog 224 1 8 .nilFunc #[.nilFunc] := ⟨by kernel_rfl, rfl⟩
instance : SC Tryz.prog 227 := ⟨by kernel_rfl⟩
instance : TI Tryz.prog 227 1 8 .nilFunc #[.nilFunc] := ⟨by kernel_rfl, rfl⟩
instance : TD Tryz.prog 229 (.struct #[⟨"on", 3, 0, false, "", "muscovado/floor", 0⟩]) := ⟨by kernel_rfl⟩
instance : TD Tryz.prog 230 (.struct #[⟨"on", 3, 0, false, "", "muscovado/floor", 0⟩]) := ⟨by kernel_rfl⟩




instance : SC Tryz.prog 235 := ⟨by kernel_rfl⟩
instance : TI Tryz.prog 235 1 8 .nilFunc #[.nilFunc] := ⟨by kernel_rfl, rfl⟩
instance : SC Tryz.prog 236 := ⟨by kernel_rfl⟩
instance : TI Tryz.prog 236 1 8 .nilFunc #[.nilFunc] := ⟨by kernel_rfl, rfl⟩


instance : SC Tryz.prog 238 := ⟨by kernel_rfl⟩
instance : TI Tryz.prog 238 1 8 .nilFunc #[.nilFunc] := ⟨by kernel_rfl, rfl⟩
instance : SC Tryz.prog 239 := ⟨by kernel_rfl⟩
instance : TI Tryz.prog 239 1 8 .nilFunc #[.nilFunc] := ⟨by kernel_rfl, rfl⟩
instance : SC Tryz.prog 240 := ⟨by kernel_rfl⟩
instance : TI Tryz.prog 240 1 8 .nilFunc #[.nilFunc] := ⟨by kernel_rfl, rfl⟩




instance : SC Tryz.prog 243 := ⟨by kernel_rfl⟩
instance : TI Tryz.prog 243 1 8 .nilFunc #[.nilFunc] := ⟨by kernel_rfl, rfl⟩
instance : SC Tryz.prog 244 := ⟨by kernel_rfl⟩
instance : TI Tryz.prog 244 1 8 .nilFunc #[.nilFunc] := ⟨by kernel_rfl, rfl⟩
instance : SC Tryz.prog 245 := ⟨by kernel_rfl⟩
instance : TI Tryz.prog 245 1 8 .nilFunc #[.nilFunc] := ⟨by kernel_rfl, rfl⟩


instance : SC Tryz.prog 247 := ⟨by kernel_rfl⟩
instance : TI Tryz.prog 247 1 8 .nilFunc #[.nilFunc] := ⟨by kernel_rfl, rfl⟩
instance : SC Tryz.prog 248 := ⟨by kernel_rfl⟩
instance : TI Tryz.prog 248 1 8 .nilFunc #[.nilFunc] := ⟨by kernel_rfl, rfl⟩








instance : SC Tryz.prog 253 := ⟨by kernel_rfl⟩
instance : TI Tryz.prog 253 1 8 .nilFunc #[.nilFunc] := ⟨by kernel_rfl, rfl⟩
instance : SC Tryz.prog 259 := ⟨by kernel_rfl⟩
instance : TI Tryz.prog 259 1 8 .nilFunc #[.nilFunc] := ⟨by kernel_rfl, rfl⟩


instance : SC Tryz.prog 268 := ⟨by kernel_rfl⟩
instance : TI Tryz.prog 268 1 8 .nilFunc #[.nilFunc] := ⟨by kernel_rfl, rfl⟩
instance : SC Tryz.prog 269 := ⟨by kernel_rfl⟩
instance : TI Tryz.prog 269 1 8 .nilFunc #[.nilFunc] := ⟨by kernel_rfl, rfl⟩


end Go.Proofs.YtnffnndmilpnoaaGreatDoor

/- The berths of a strike. Conditions: none; over the given program. -/
namespace Go.Mus
set_option maxRecDepth 100000
set_option maxHeartbeats 4000000
/-- What a search's 'may' says. -/
def MayV (main : Side) (mv : Value) (may : May) (h : Hp) : Prop := ∀ h', Ext h h' → ∀ k : Nat, k < 4 → PuV prog main mv [I k] h' (.tuple #[.bool (may k).1, .bool (may k).2])
theorem MayV.ext {main : Side} {mv : Value} {may : May} {h h' : Hp} (H : MayV main mv may h) (e : Ext h h') : MayV main mv may h' := fun h2 e2 => H h2 (e.trans e2)

abbrev berV (b2 b3 : Nat) : Value := .func (.func n_floor_search_berths_1) #[] #[.pointer (some ⟨b2, 0, none⟩), .pointer (some ⟨b3, 0, none⟩)]
theorem berths_fn (main : Side) (h : Hp) (vf vs mv : Value) (k : Nat) (h1 : one vf = true) (h2 : one vs = true) (h3 : one mv = true) : Fnc prog main n_floor_search_berths #[srchV vf vs mv, I k] h [] (fun v A => ∃ b2 b3, v = berV b2 b3 ∧ A = [(b3, .cells #[I k] t_int (0, 0)), (b2, .cells #[vf, vs, mv] t_search (0, 0))]) := by
 refine Fnc.of_body at_floor_search_berths rfl (by show 2 ≤ 6; decide) [(0, srchV vf vs mv), (1, I k)] ⟨rfl, rfl, trivial⟩ ?_
 refine W.seq <| W.region rfl ?_
 refine Ops.box (fun β2 => ?_)
 refine Ops.box (fun β3 => ?_)
 refine qs rfl rfl rfl <| nn <| W.seq <| W.region rfl ?_
 refine o1 (y_func rfl rfl rfl) rfl ?_
 refine qs rfl rfl rfl <| nn <| W.ret ?_
 exact lvt ⟨_, _, rfl, rfl⟩

theorem runs_stop {σ X : Type} {step : σ → X → σ × Bool} {s s' : σ} {p : X} {xs : List X} (h : step s p = (s', false)) : runs step s (p :: xs) = (s', false) := by simp only [runs, h]
theorem runs_go {σ X : Type} {step : σ → X → σ × Bool} {s s' : σ} {p : X} {xs : List X} (h : step s p = (s', true)) : runs step s (p :: xs) = runs step s' xs := by simp only [runs, h]
theorem step_of {σ : Type} {r : σ × Bool} {b : Bool} (h : r.2 = b) : ∃ s', r = (s', b) := ⟨r.1, by rw [← h]⟩

theorem notT {b : Bool} (h : (!b) = true) : b = false := by simpa using h
theorem notF {b : Bool} (h : (!b) = false) : b = true := by simpa using h
section
variable {σ X : Type} {step : σ → X → σ × Bool} {s : σ} {p : X} {xs rest : List X} {J K : σ → Frag → Prop} {B : Frag}
theorem out_stop' {y : Nat × Obj} (e : (!(step s p).2) = true) (h : match step s p with | (s, true) => J s B | (s, false) => K s B) (hG : opn y.2 = false) : Out J K (runs step s (p :: rest)) (y :: B) := by
 obtain ⟨s', hs⟩ := step_of (notT e)
 rw [hs] at h
 exact ⟨B, .skip hG .refl, by rw [runs_stop hs]; exact h⟩
theorem out_stop (hx : xs = p :: rest) (e : (!(step s p).2) = true) (h : match step s p with | (s, true) => J s B | (s, false) => K s B) : Out J K (runs step s xs) B := by
 obtain ⟨s', hs⟩ := step_of (notT e)
 rw [hs] at h
 exact ⟨B, .refl, by rw [hx, runs_stop hs]; exact h⟩
theorem out_one (hx : xs = [p]) (e : (!(step s p).2) = false) (h : match step s p with | (s, true) => J s B | (s, false) => K s B) : Out J K (runs step s xs) B := by
 obtain ⟨s', hs⟩ := step_of (notF e)
 rw [hs] at h
 exact ⟨B, .refl, by rw [hx, runs_go hs]; exact h⟩
theorem out_none (hx : xs = []) (h : J s B) : Out J K (runs step s xs) B := ⟨B, .refl, by rw [hx]; exact h⟩
theorem out_next (hx : xs = p :: rest) (e : (!(step s p).2) = false) (h : match step s p with | (s, true) => J s B | (s, false) => K s B) : ∃ s1, J s1 B ∧ Far step s xs s1 rest := by
 obtain ⟨s', hs⟩ := step_of (notF e)
 rw [hs] at h
 exact ⟨s', h, by rw [hx]; exact Far.zero.next hs⟩
end
/-- 'berths' of a search and a strike hands out its berths. -/
theorem berths_iter (main : Side) (h : Hp) (fs : List Fl) (ss : List St) (may : May) (k : Nat) (vf vs mv : Value) (b2 b3 : Nat) (E2 E3 : TypeId) (z2 z3 : Nat × Nat) (hf : Sl h Fl.row vf fs) (hs : Sl h St.row vs ss) (hall : HallOK fs ss) (hk : k < ss.length) (hm : MayV main mv may h)
  (h2 : h b2 = some (.cells #[vf, vs, mv] E2 z2)) (h3 : h b3 = some (.cells #[I k] E3 z3)) : Iter prog main (berV b2 b3) Be.val (berthsK fs ss may k) h := by
 intro h' hE0 yv hy1 σ nx step J K hy s A hal hJ
 have h2' := hE0.1 _ _ h2
 have h3' := hE0.1 _ _ h3
 have hs0 := hs.ext hE0
 obtain ⟨a, cap, rfl⟩ := hf.isSl
 obtain ⟨a', cap', rfl⟩ := hs.isSl
 have hk4 : k < 4 := by have := hall.ns; omega
 have hnf := hall.nf
 obtain ⟨x, hx, -⟩ := has hk
 have hxe : stAt ss k = x := by simp [stAt, List.getD, hx]
 have hxo := hall.st x (List.mem_of_getElem? hx)
 obtain ⟨b, off, c, E, fz, rfl, hb, hx1, hy1, hz1⟩ := hs0.at hx
 have hx2 : c.extract (off + k * 3) (off + k * 3 + 3) = #[I x.day, I x.co, I x.wa] := hx1
 clear hx1 hz1
 obtain ⟨inn, hin⟩ : ∃ i, (may k).1 = i := ⟨_, rfl⟩
 obtain ⟨out, hout⟩ : ∃ i, (may k).2 = i := ⟨_, rfl⟩
 have hB : berthsK fs ss may k = (if out then [bnone] else []) ++ (if inn then floorsFrom x 0 fs.length else []) := by simp only [berthsK, hin, hout, hxe]
 refine CallV.of_fn (f := n_floor_search_berths_1) (fi := []) (ca := [.pointer (some ⟨b2, 0, none⟩), .pointer (some ⟨b3, 0, none⟩)]) ?_
 refine Fnc.of_body at_floor_search_berths_1 rfl (by show 3 ≤ 60; decide) [(0, yv), (1, .pointer (some ⟨b2, 0, none⟩)), (2, .pointer (some ⟨b3, 0, none⟩))] ⟨rfl, rfl, rfl, trivial⟩ ?_
 refine W.seq <| W.region rfl ?_
 refine fq rfl ?_
 refine dq rfl ?_
 refine dq rfl ?_
 refine cv (fun h2 hE hL => hm h2 (hE0.trans hE) k hk4) ?_
 rw [hin, hout]
 refine qm rfl rfl rfl <| oq (y_extract rfl rfl rfl) rfl wn rfl rfl <| oq (y_extract rfl rfl rfl) rfl wn rfl rfl <| qs rfl rfl rfl <| qs rfl rfl rfl <| nn <| W.seq <| W.seq <| W.region rfl ?_
 refine qm rfl rfl rfl <| qm rfl rfl rfl ?_
 refine Ops.askB (fun a1_2 => ?_) (fun a1_2 => ?_)
 ·refine oq (y_move rfl rfl) rfl (want_some rfl rfl rfl) rfl rfl ?_
  refine oq (y_build rfl rfl rfl) rfl (want_some rfl rfl rfl) rfl rfl ?_
  have ho : out = true := a1_2
  refine Ops.perm (F' := A ++ []) (by simp) ?_
  refine cgv .head (fun h2 hE hL => hy h2 hE s bnone A (hal.far (rest := if inn then floorsFrom x 0 fs.length else []) (by rw [hB, ho]; exact .zero)) hJ) (fun r B1 hr1 => ?_)
  obtain ⟨rfl, A, hsb, hBJ⟩ := hr1
  refine Ops.sb (F' := A) (by simpa using hsb) ?_
  refine oq (y_not rfl rfl) rfl (want_some rfl rfl rfl) rfl rfl ?_
  refine o1 (y_pickT rfl rfl rfl) rfl ?_
  refine qm rfl rfl rfl ?_
  refine Ops.askB (fun a1_8 => ?_) (fun a1_8 => ?_)
  ·refine Ops.no ?_
   refine Ops.no ?_
   refine o1 (y_pickT rfl rfl rfl) rfl ?_
   refine nn ?_
   refine W.condT ?_
   refine W.ret <| thn_r ?_
   first
   | exact lvt (out_stop (rest := if inn then floorsFrom x 0 fs.length else []) (by rw [hB, a1_2]; rfl) a1_8 hBJ)
   | exact lvt (out_one (by rw [hB, a1_2, notT c26]; rfl) a1_8 hBJ)
   | exact lvt (out_none (by rw [hB, a1_2, notT c26]; rfl) hJ)
  ·refine oq (y_move rfl rfl) rfl (want_some rfl rfl rfl) rfl rfl ?_
   refine oq (y_not rfl rfl) rfl (want_some rfl rfl rfl) rfl rfl ?_
   refine o1 (y_pickF rfl rfl rfl) rfl ?_
   refine nn ?_
   refine W.cond rfl (fun c26 => ?_) (fun c26 => ?_)
   ·refine W.ret <| thn_r ?_
    first
    | exact lvt (out_stop (rest := if inn then floorsFrom x 0 fs.length else []) (by rw [hB, a1_2]; rfl) a1_8 hBJ)
    | exact lvt (out_one (by rw [hB, a1_2, notT c26]; rfl) a1_8 hBJ)
    | exact lvt (out_none (by rw [hB, a1_2, notT c26]; rfl) hJ)
   ·have hinn : inn = true := by simpa using c26
    obtain ⟨s1, hJ1, hrun⟩ : ∃ s1, J s1 A ∧ Far step s (berthsK fs ss may k) s1 (floorsFrom x 0 fs.length) := by
     first
     | exact ⟨s, hJ, by rw [hB, hinn, a1_2]; exact .zero⟩
     | exact out_next (by rw [hB, hinn, a1_2]; rfl) a1_8 hBJ
    refine W.skip <| thn_n <| W.seq <| W.region rfl ?_
    refine fq rfl ?_
    refine fq rfl ?_
    refine fq rfl ?_
    refine dq rfl ?_
    refine dq rfl ?_
    refine xq rfl ?_
    refine lq rfl ?_
    refine Ops.new (fun β6 => ?_)
    first | refine Ops.stoW ?_ | refine Ops.stoA ?_
    refine nn <| W.seq <| W.region rfl ?_
    refine fq rfl ?_
    refine fq rfl ?_
    refine fq rfl ?_
    refine dq rfl ?_
    refine o1 (y_len rfl rfl) rfl ?_
    refine qm rfl rfl rfl <| nn <| W.block ?_
    refine W.loop3 (fun (j : Nat) (t : σ) (C : Frag) => j ≤ fs.length ∧ J t C ∧ Far step s (berthsK fs ss may k) t (floorsFrom x j (fs.length - j))) (fun j t C => [(39, I j), (38, I fs.length), (6, .pointer (some ⟨β6, 0, none⟩)), (0, yv)]) (fun j t C => (β6, .cells #[I x.day, I x.co, I x.wa] t_Strike (0, 0)) :: C) (fun j _ _ => fs.length - j) 0 s1 A ⟨Nat.zero_le _, hJ1, hrun⟩ ⟨rfl, rfl, rfl, rfl, trivial⟩ .refl ?_
    rintro j t C ⟨hj, hJt, hr⟩
    refine W.seq <| W.region rfl ?_
    refine o1 (y_lss rfl rfl rfl) rfl ?_
    refine nn <| W.seq ?_
    refine W.condp rfl (fun c40 => ?_) (fun c40 => ?_)
    ·obtain ⟨m0, hm0⟩ : ∃ m0, fs.length - j = m0 + 1 := ⟨fs.length - j - 1, by omega⟩
     rw [hm0] at hr
     have hm0' : fs.length - (j + 1) = m0 := by omega
     refine W.skip <| thn_n <| W.seq <| W.block <| W.seq <| W.region rfl <| qm rfl rfl rfl <| qs rfl rfl rfl <| nn ?_
     refine W.seq <| W.region rfl ?_
     refine fq rfl ?_
     refine dq rfl ?_
     refine qs rfl rfl rfl <| nn <| W.block ?_
     refine W.loop3 (fun (m : Nat) (t : σ) (C : Frag) => m ≤ (x.wa + 1).toNat ∧ J t C ∧ Far step s (berthsK fs ss may k) t (daysFrom j (x.day + (x.wa + 1 - m)) m ++ floorsFrom x (j + 1) m0)) (fun m t C => [(8, I (x.day + (x.wa + 1 - m))), (7, I j), (39, I j), (38, I fs.length), (6, .pointer (some ⟨β6, 0, none⟩)), (0, yv)]) (fun m t C => (β6, .cells #[I x.day, I x.co, I x.wa] t_Strike (0, 0)) :: C) (fun m _ _ => m) (x.wa + 1).toNat t C ⟨Nat.le_refl _, hJt, by rw [show x.day + (x.wa + 1 - ((x.wa + 1).toNat : Int)) = x.day by omega]; exact hr⟩ ⟨lk rfl (show I _ = I _ by congr 1; omega), rfl, rfl, rfl, rfl, rfl, trivial⟩ .refl ?_
     clear hr hJt
     rintro m t C ⟨hm, hJt, hr⟩
     refine W.seq <| W.seq <| W.region rfl <| qm rfl rfl rfl ?_
     refine fq rfl ?_
     refine dq rfl ?_
     refine fq rfl ?_
     refine dq rfl ?_
     refine pq rfl ?_
     refine o1 (y_leq rfl rfl rfl) rfl ?_
     refine nn ?_
     refine W.condp rfl (fun c50 => ?_) (fun c50 => ?_)
     ·obtain ⟨m1, rfl⟩ : ∃ m1, m = m1 + 1 := ⟨m - 1, by omega⟩
      obtain ⟨d, hd⟩ : ∃ d, x.day + (x.wa + 1 - ((m1 + 1 : Nat) : Int)) = d := ⟨_, rfl⟩
      rw [hd] at hr ⊢
      rw [daysFrom, List.cons_append] at hr
      refine W.skip <| thn_n <| W.seq <| W.block <| W.seq <| W.region rfl <| qm rfl rfl rfl <| qm rfl rfl rfl <| qm rfl rfl rfl ?_
      refine o1 (y_build rfl rfl rfl) rfl ?_
      refine cgv (.tail .all) (fun h2 hE hL => hy h2 hE t ⟨j, d⟩ C (hal.far hr) hJt) (fun r B1 hr1 => ?_)
      obtain ⟨rfl, C2, hsb, hBJ⟩ := hr1
      refine Ops.sb (.cons hsb) ?_
      refine o1 (y_not rfl rfl) rfl ?_
      refine nn ?_
      refine W.cond rfl (fun c58 => ?_) (fun c58 => ?_)
      ·refine W.ret <| blk_r <| thn_r <| thn_r <| blk_r <| blk_r <| thn_r <| thn_r <| blk_r ?_
       refine lvt ?_
       rw [hr.eq]
       exact out_stop' c58 hBJ rfl
      ·refine W.skip <| blk_n <| thn_n <| W.region rfl <| qm rfl rfl rfl ?_
       refine pq rfl ?_
       refine qs rfl rfl rfl <| nn ?_
       obtain ⟨t', ht⟩ := step_of (notF c58)
       rw [ht] at hBJ
       refine ⟨rfl, m1, t', C2, ⟨by omega, hBJ, ?_⟩, by omega, ⟨lk rfl (show I _ = I _ by congr 1; omega), rfl, rfl, rfl, rfl, rfl, trivial⟩, .refl⟩
       have := hr.next ht
       rwa [show d + 1 = x.day + (x.wa + 1 - m1) by omega] at this
     ·have : m = 0 := by omega
      subst this
      refine W.exit <| thn_x <| thn_x <| blk_x <| blk_n <| thn_n <| W.region rfl ?_
      refine pq rfl ?_
      refine qm rfl rfl rfl <| nn ?_
      exact ⟨rfl, j + 1, t, C, ⟨by omega, hJt, by rw [hm0']; exact hr⟩, by omega, ⟨rfl, rfl, rfl, rfl, trivial⟩, .refl⟩
    ·refine W.exit <| thn_x <| thn_x <| blk_x ?_
     refine lvt ⟨C, .skip rfl .refl, ?_⟩
     rw [hr.eq, show fs.length - j = 0 by omega]
     exact hJt
 ·refine Ops.no ?_
  refine Ops.no ?_
  refine Ops.no ?_
  refine Ops.no ?_
  refine o1 (y_pickF rfl rfl rfl) rfl ?_
  refine qm rfl rfl rfl ?_
  refine oq (y_move rfl rfl) rfl (want_some rfl rfl rfl) rfl rfl ?_
  refine oq (y_not rfl rfl) rfl (want_some rfl rfl rfl) rfl rfl ?_
  refine o1 (y_pickF rfl rfl rfl) rfl ?_
  refine nn ?_
  refine W.cond rfl (fun c26 => ?_) (fun c26 => ?_)
  ·refine W.ret <| thn_r ?_
   first
   | exact lvt (out_stop (rest := if inn then floorsFrom x 0 fs.length else []) (by rw [hB, a1_2]; rfl) a1_8 hBJ)
   | exact lvt (out_one (by rw [hB, a1_2, notT c26]; rfl) a1_8 hBJ)
   | exact lvt (out_none (by rw [hB, a1_2, notT c26]; rfl) hJ)
  ·have hinn : inn = true := by simpa using c26
   obtain ⟨s1, hJ1, hrun⟩ : ∃ s1, J s1 A ∧ Far step s (berthsK fs ss may k) s1 (floorsFrom x 0 fs.length) := by
    first
    | exact ⟨s, hJ, by rw [hB, hinn, a1_2]; exact .zero⟩
    | exact out_next (by rw [hB, hinn, a1_2]; rfl) a1_8 hBJ
   refine W.skip <| thn_n <| W.seq <| W.region rfl ?_
   refine fq rfl ?_
   refine fq rfl ?_
   refine fq rfl ?_
   refine dq rfl ?_
   refine dq rfl ?_
   refine xq rfl ?_
   refine lq rfl ?_
   refine Ops.new (fun β6 => ?_)
   first | refine Ops.stoW ?_ | refine Ops.stoA ?_
   refine nn <| W.seq <| W.region rfl ?_
   refine fq rfl ?_
   refine fq rfl ?_
   refine fq rfl ?_
   refine dq rfl ?_
   refine o1 (y_len rfl rfl) rfl ?_
   refine qm rfl rfl rfl <| nn <| W.block ?_
   refine W.loop3 (fun (j : Nat) (t : σ) (C : Frag) => j ≤ fs.length ∧ J t C ∧ Far step s (berthsK fs ss may k) t (floorsFrom x j (fs.length - j))) (fun j t C => [(39, I j), (38, I fs.length), (6, .pointer (some ⟨β6, 0, none⟩)), (0, yv)]) (fun j t C => (β6, .cells #[I x.day, I x.co, I x.wa] t_Strike (0, 0)) :: C) (fun j _ _ => fs.length - j) 0 s1 A ⟨Nat.zero_le _, hJ1, hrun⟩ ⟨rfl, rfl, rfl, rfl, trivial⟩ .refl ?_
   rintro j t C ⟨hj, hJt, hr⟩
   refine W.seq <| W.region rfl ?_
   refine o1 (y_lss rfl rfl rfl) rfl ?_
   refine nn <| W.seq ?_
   refine W.condp rfl (fun c40 => ?_) (fun c40 => ?_)
   ·obtain ⟨m0, hm0⟩ : ∃ m0, fs.length - j = m0 + 1 := ⟨fs.length - j - 1, by omega⟩
    rw [hm0] at hr
    have hm0' : fs.length - (j + 1) = m0 := by omega
    refine W.skip <| thn_n <| W.seq <| W.block <| W.seq <| W.region rfl <| qm rfl rfl rfl <| qs rfl rfl rfl <| nn ?_
    refine W.seq <| W.region rfl ?_
    refine fq rfl ?_
    refine dq rfl ?_
    refine qs rfl rfl rfl <| nn <| W.block ?_
    refine W.loop3 (fun (m : Nat) (t : σ) (C : Frag) => m ≤ (x.wa + 1).toNat ∧ J t C ∧ Far step s (berthsK fs ss may k) t (daysFrom j (x.day + (x.wa + 1 - m)) m ++ floorsFrom x (j + 1) m0)) (fun m t C => [(8, I (x.day + (x.wa + 1 - m))), (7, I j), (39, I j), (38, I fs.length), (6, .pointer (some ⟨β6, 0, none⟩)), (0, yv)]) (fun m t C => (β6, .cells #[I x.day, I x.co, I x.wa] t_Strike (0, 0)) :: C) (fun m _ _ => m) (x.wa + 1).toNat t C ⟨Nat.le_refl _, hJt, by rw [show x.day + (x.wa + 1 - ((x.wa + 1).toNat : Int)) = x.day by omega]; exact hr⟩ ⟨lk rfl (show I _ = I _ by congr 1; omega), rfl, rfl, rfl, rfl, rfl, trivial⟩ .refl ?_
    clear hr hJt
    rintro m t C ⟨hm, hJt, hr⟩
    refine W.seq <| W.seq <| W.region rfl <| qm rfl rfl rfl ?_
    refine fq rfl ?_
    refine dq rfl ?_
    refine fq rfl ?_
    refine dq rfl ?_
    refine pq rfl ?_
    refine o1 (y_leq rfl rfl rfl) rfl ?_
    refine nn ?_
    refine W.condp rfl (fun c50 => ?_) (fun c50 => ?_)
    ·obtain ⟨m1, rfl⟩ : ∃ m1, m = m1 + 1 := ⟨m - 1, by omega⟩
     obtain ⟨d, hd⟩ : ∃ d, x.day + (x.wa + 1 - ((m1 + 1 : Nat) : Int)) = d := ⟨_, rfl⟩
     rw [hd] at hr ⊢
     rw [daysFrom, List.cons_append] at hr
     refine W.skip <| thn_n <| W.seq <| W.block <| W.seq <| W.region rfl <| qm rfl rfl rfl <| qm rfl rfl rfl <| qm rfl rfl rfl ?_
     refine o1 (y_build rfl rfl rfl) rfl ?_
     refine cgv (.tail .all) (fun h2 hE hL => hy h2 hE t ⟨j, d⟩ C (hal.far hr) hJt) (fun r B1 hr1 => ?_)
     obtain ⟨rfl, C2, hsb, hBJ⟩ := hr1
     refine Ops.sb (.cons hsb) ?_
     refine o1 (y_not rfl rfl) rfl ?_
     refine nn ?_
     refine W.cond rfl (fun c58 => ?_) (fun c58 => ?_)
     ·refine W.ret <| blk_r <| thn_r <| thn_r <| blk_r <| blk_r <| thn_r <| thn_r <| blk_r ?_
      refine lvt ?_
      rw [hr.eq]
      exact out_stop' c58 hBJ rfl
     ·refine W.skip <| blk_n <| thn_n <| W.region rfl <| qm rfl rfl rfl ?_
      refine pq rfl ?_
      refine qs rfl rfl rfl <| nn ?_
      obtain ⟨t', ht⟩ := step_of (notF c58)
      rw [ht] at hBJ
      refine ⟨rfl, m1, t', C2, ⟨by omega, hBJ, ?_⟩, by omega, ⟨lk rfl (show I _ = I _ by congr 1; omega), rfl, rfl, rfl, rfl, rfl, trivial⟩, .refl⟩
      have := hr.next ht
      rwa [show d + 1 = x.day + (x.wa + 1 - m1) by omega] at this
    ·have : m = 0 := by omega
     subst this
     refine W.exit <| thn_x <| thn_x <| blk_x <| blk_n <| thn_n <| W.region rfl ?_
     refine pq rfl ?_
     refine qm rfl rfl rfl <| nn ?_
     exact ⟨rfl, j + 1, t, C, ⟨by omega, hJt, by rw [hm0']; exact hr⟩, by omega, ⟨rfl, rfl, rfl, rfl, trivial⟩, .refl⟩
   ·refine W.exit <| thn_x <| thn_x <| blk_x ?_
    refine lvt ⟨C, .skip rfl .refl, ?_⟩
    rw [hr.eq, show fs.length - j = 0 by omega]
    exact hJt
end Go.Mus

/- The right plans that begin so. Conditions: none; over the given program. -/
namespace Go.Mus
set_option maxRecDepth 100000
set_option maxHeartbeats 4000000
/-- What is owned behind: going on, or told to stop. -/
def Fin2 {σ : Type} (J K : σ → Frag → Prop) (r : σ × Bool) (B : Frag) : Prop := match r with | (s, true) => J s B | (s, false) => K s B
theorem runs_flat {σ X Y : Type} (step : σ → Y → σ × Bool) (g : X → List Y) : ∀ (xs : List X) (s : σ), match (runs (rstep (fun s b => (runs step s (g b)).1) (fun s b => if (runs step s (g b)).2 then none else some Exit.ret)) (s, none) xs).1 with
    | (s', none) => runs step s (xs.flatMap g) = (s', true)
    | (s', some e) => e = .ret ∧ runs step s (xs.flatMap g) = (s', false)
  | [], s => rfl
  | x :: xs, s => by
    rw [List.flatMap_cons, runs_app]
    obtain ⟨⟨s', b⟩, hb⟩ : ∃ r, runs step s (g x) = r := ⟨_, rfl⟩
    cases b with
    | true =>
      have h1 : (runs (rstep (fun s b => (runs step s (g b)).1) (fun s b => if (runs step s (g b)).2 then none else some Exit.ret)) (s, none) (x :: xs)) = runs (rstep (fun s b => (runs step s (g b)).1) (fun s b => if (runs step s (g b)).2 then none else some Exit.ret)) (s', none) xs := by
        simp only [runs, rstep, hb, if_true, Option.isNone_none]
      rw [h1, hb]
      exact runs_flat step g xs s'
    | false =>
      have h1 : (runs (rstep (fun s b => (runs step s (g b)).1) (fun s b => if (runs step s (g b)).2 then none else some Exit.ret)) (s, none) (x :: xs)).1 = (s', some Exit.ret) := by
        simp [runs, rstep, hb]
      rw [h1, hb]
      exact ⟨rfl, rfl⟩

abbrev fromV (bs bp yb bf : Nat) : Value := .func (.func n_floor_search_right_1_1) #[] #[.pointer (some ⟨bs, 0, none⟩), .pointer (some ⟨bp, 0, none⟩), .pointer (some ⟨yb, 0, none⟩), .pointer (some ⟨bf, 0, none⟩)]
abbrev doV (bf b5 : Nat) : Value := .func (.func n_floor_search_right_1_1_1) #[] #[.pointer (some ⟨bf, 0, none⟩), .pointer (some ⟨b5, 0, none⟩)]

theorem do_fn (main : Side) (h : Hp) (fv : Value) (bf b5 k : Nat) (Ef E5 : TypeId) (zf z5 : Nat × Nat) (F : Frag) (R : Value → Frag → Prop) (hf1 : one fv = true) (hk : k ≤ 4) (hbf : h bf = some (.cells #[fv] Ef zf)) (hb5 : h b5 = some (.cells #[I k] E5 z5))
    (H : ∀ h', Ext h h' → CallV prog main fv [I ((k + 1 : Nat) : Int)] h' F R) : CallV prog main (doV bf b5) [] h F R := by
  refine CallV.of_fn (f := n_floor_search_right_1_1_1) (fi := []) (ca := [.pointer (some ⟨bf, 0, none⟩), .pointer (some ⟨b5, 0, none⟩)]) ?_
  refine Fnc.of_body at_floor_search_right_1_1_1 rfl (by show 2 ≤ 7; decide) [(0, .pointer (some ⟨bf, 0, none⟩)), (1, .pointer (some ⟨b5, 0, none⟩))] ⟨rfl, rfl, trivial⟩ ?_
  refine W.seq <| W.region rfl <| qs rfl rfl rfl <| nn <| W.seq <| W.region rfl ?_
  refine dq rfl ?_
  refine dq rfl ?_
  refine o1 (Yv.eq (yadd rfl rfl rfl) (show I _ = I ((k + 1 : Nat) : Int) by congr 1)) rfl ?_
  refine cgv .all (fun h2 hE hL => H h2 hE) (fun v B hv => ?_)
  refine qs rfl rfl rfl <| nn <| W.ret ?_
  exact lvt (vs := [v]) hv

theorem from_fn (main : Side) (fs : List Fl) (ss : List St) (may : May) (vf vs mv yv : Value) (bs bp yb bf : Nat) (Es Ey Ef Eg : TypeId) (zs zy zf zg : Nat × Nat) (hall : HallOK fs ss) (hm1 : one mv = true) (hy1 : one yv = true) {σ : Type} (nx : List Be → σ → Prop) (step : σ → List Be → σ × Bool) (J K : σ → Frag → Prop) :
    ∀ (m k : Nat) (p : List Be) (h : Hp) (s : σ) (A : Frag), k + m = ss.length → PlanOf fs ss p → Sl h Fl.row vf fs → Sl h St.row vs ss → MayV main mv may h →
      h bs = some (.cells #[vf, vs, mv] Es zs) → h yb = some (.cells #[yv] Ey zy) → h bf = some (.cells #[fromV bs bp yb bf] Ef zf) → h 0 = some (.cells #[rtV t_error] Eg zg) →
      Yld prog main yv h planV nx step J K → Along nx step s (rights fs ss may m k p) → J s A →
      Fnc prog main n_floor_search_right_1_1 #[I k, .pointer (some ⟨bs, 0, none⟩), .pointer (some ⟨bp, 0, none⟩), .pointer (some ⟨yb, 0, none⟩), .pointer (some ⟨bf, 0, none⟩)] h (A ++ [(bp, .cells (flat Be.row p).toArray t_plan (0, 0))])
        (fun v A' => v = .bool (runs step s (rights fs ss may m k p)).2 ∧ ∃ B, Fin2 J K (runs step s (rights fs ss may m k p)) B ∧ Sb (B ++ [(bp, .cells (flat Be.row p).toArray t_plan (0, 0))]) A') := by
  intro m
  induction m with
  | zero =>
    intro k p h s A hk hp hf hs hmay hbs hyb hbf hg hy hal hJ
    have hsz := plan_sz hp.ok
    have hn4 := hall.ns
    obtain ⟨a, cap, rfl⟩ := hf.isSl
    obtain ⟨a', cap', rfl⟩ := hs.isSl
    refine Fnc.perm (A := (bp, .cells (flat Be.row p).toArray t_plan (0, 0)) :: A) (List.perm_append_comm (l₁ := [_])) ?_
    refine Fnc.of_body at_floor_search_right_1_1 rfl (by show 5 ≤ 35; decide) [(0, I k), (1, .pointer (some ⟨bs, 0, none⟩)), (2, .pointer (some ⟨bp, 0, none⟩)), (3, .pointer (some ⟨yb, 0, none⟩)), (4, .pointer (some ⟨bf, 0, none⟩))] ⟨rfl, rfl, rfl, rfl, rfl, trivial⟩ ?_
    refine W.seq <| W.region rfl ?_
    refine Ops.box (fun β5 => ?_)
    refine Ops.new (fun β6 => ?_)
    refine nn <| W.seq <| W.seq <| W.region rfl ?_
    refine dq rfl ?_
    refine fq rfl ?_
    refine fq rfl ?_
    refine fq rfl ?_
    refine dq rfl ?_
    refine o1 (y_len rfl rfl) rfl ?_
    refine o1 (y_geq rfl rfl rfl) rfl ?_
    refine nn ?_
    refine W.condp rfl (fun c14 => ?_) (fun c14 => ?_)
    · refine W.seq <| W.region rfl ?_
      refine fq rfl ?_
      refine o1 (yldA (vs := #[.slice a fs.length cap, .slice a' ss.length cap']) rfl rfl (.inl hbs) (by show 0 + 0 + 2 ≤ 3; decide) rfl) rfl ?_
      refine lq rfl ?_
      refine cp (fun h' hE hL => inspect_fn _ h' fs ss p _ _ Eg zg (hf.ext hE) (hs.ext hE) hall hp (hE.1 _ _ hg)) ?_
      refine o1 (y_nerrB rfl rfl) rfl ?_
      refine qm rfl rfl rfl ?_
      refine Ops.askB (fun a2_6 => ?_) (fun a2_6 => ?_)
      · refine Ops.no ?_
        refine Ops.no ?_
        refine Ops.no ?_
        refine o1 (y_pickT rfl rfl rfl) rfl ?_
        refine Ops.sto ?_
        refine nn <| W.ret <| thn_r ?_
        first
        | (refine lvc (hv := rSc rNil) ⟨?_, B, ?_, ?_⟩
           · rw [hri]
             obtain ⟨⟨s', b⟩, hst⟩ : ∃ r, step s p = r := ⟨_, rfl⟩
             cases b <;> simp only [runs, hst] <;> rfl
           · rw [hri]
             revert hBJ
             obtain ⟨⟨s', b⟩, hst⟩ : ∃ r, step s p = r := ⟨_, rfl⟩
             cases b <;> simp only [runs, hst, Fin2] <;> exact id
           · exact (Sb.of_perm List.perm_append_comm).trans (.skip rfl (.skip rfl (.cons hsb))))
        | (have hin : (inspF fs ss p).isNone = false := by simpa using a2_6
           have hri : rights fs ss may 0 k p = [] := by simp only [rights, hin, Bool.false_eq_true, if_false]
           refine lvc (hv := rSc rNil) ⟨by rw [hri]; rfl, A, by rw [hri]; exact hJ, ?_⟩
           exact (Sb.of_perm List.perm_append_comm).trans (.skip rfl (.skip rfl .refl)))
      · refine oq (yld rfl rfl) rfl (want_some rfl rfl rfl) rfl rfl ?_
        first | refine oq (yldW rfl rfl) rfl (want_some rfl rfl rfl) rfl rfl ?_ | refine oq (yldA rfl rfl) rfl (want_some rfl rfl rfl) rfl rfl ?_
        have hin : (inspF fs ss p).isNone = true := by simpa using a2_6
        have hri : rights fs ss may 0 k p = [p] := by simp only [rights, hin, if_true]
        refine cgv (.tail (.tail (.tail .all))) (fun h2 hE hL => hy h2 hE s p A (hal.far (rest := []) (by rw [hri]; exact .zero)) hJ) (fun r B1 hr1 => ?_)
        obtain ⟨rfl, B, hsb, hBJ⟩ := hr1
        refine o1 (y_pickF rfl rfl rfl) rfl ?_
        refine Ops.sto ?_
        refine nn <| W.ret <| thn_r ?_
        first
        | (refine lvc (hv := rSc rNil) ⟨?_, B, ?_, ?_⟩
           · rw [hri]
             obtain ⟨⟨s', b⟩, hst⟩ : ∃ r, step s p = r := ⟨_, rfl⟩
             cases b <;> simp only [runs, hst] <;> rfl
           · rw [hri]
             revert hBJ
             obtain ⟨⟨s', b⟩, hst⟩ : ∃ r, step s p = r := ⟨_, rfl⟩
             cases b <;> simp only [runs, hst, Fin2] <;> exact id
           · exact (Sb.of_perm List.perm_append_comm).trans (.skip rfl (.skip rfl (.cons hsb))))
        | (have hin : (inspF fs ss p).isNone = false := by simpa using a2_6
           have hri : rights fs ss may 0 k p = [] := by simp only [rights, hin, Bool.false_eq_true, if_false]
           refine lvc (hv := rSc rNil) ⟨by rw [hri]; rfl, A, by rw [hri]; exact hJ, ?_⟩
           exact (Sb.of_perm List.perm_append_comm).trans (.skip rfl (.skip rfl .refl)))
    · exact absurd c14 (by omega)
  | succ m ih =>
    intro k p h s A hk hp hf hs hmay hbs hyb hbf hg hy hal hJ
    have hsz := plan_sz hp.ok
    have hn4 := hall.ns
    have hkl : k < ss.length := by omega
    obtain ⟨a, cap, rfl⟩ := hf.isSl
    obtain ⟨a', cap', rfl⟩ := hs.isSl
    obtain ⟨g, hg'⟩ : ∃ g : Be → List (List Be), g = fun b => if prune fs ss (p.set k b) b then [] else rights fs ss may m (k + 1) (p.set k b) := ⟨_, rfl⟩
    have hri : rights fs ss may (m + 1) k p = (berthsK fs ss may k).flatMap g := by rw [hg']; rfl
    refine Fnc.perm (A := (bp, .cells (flat Be.row p).toArray t_plan (0, 0)) :: A) (List.perm_append_comm (l₁ := [_])) ?_
    refine Fnc.of_body at_floor_search_right_1_1 rfl (by show 5 ≤ 35; decide) [(0, I k), (1, .pointer (some ⟨bs, 0, none⟩)), (2, .pointer (some ⟨bp, 0, none⟩)), (3, .pointer (some ⟨yb, 0, none⟩)), (4, .pointer (some ⟨bf, 0, none⟩))] ⟨rfl, rfl, rfl, rfl, rfl, trivial⟩ ?_
    refine W.seq <| W.region rfl ?_
    refine Ops.box (fun β5 => ?_)
    refine Ops.new (fun β6 => ?_)
    refine nn <| W.seq <| W.seq <| W.region rfl ?_
    refine dq rfl ?_
    refine fq rfl ?_
    refine fq rfl ?_
    refine fq rfl ?_
    refine dq rfl ?_
    refine o1 (y_len rfl rfl) rfl ?_
    refine o1 (y_geq rfl rfl rfl) rfl ?_
    refine nn ?_
    refine W.condp rfl (fun c14 => ?_) (fun c14 => ?_)
    · exact absurd c14 (by omega)
    · refine W.skip <| thn_n <| W.seq <| W.seq <| W.region rfl ?_
      refine lq rfl ?_
      refine dq rfl ?_
      refine c0 (fun h' hE hL => berths_fn _ h' _ _ mv k rfl rfl hm1) (fun v A' hv => ?_)
      obtain ⟨b2, b3, rfl, rfl⟩ := hv
      refine nn <| W.block ?_
      refine W.perm (F' := ((β6, .cells #[.bool false] t_bool (0, 0)) :: (bp, .cells (flat Be.row p).toArray t_plan (0, 0)) :: A) ++ [(b3, .cells #[I k] t_int (0, 0)), (b2, .cells #[.slice a fs.length cap, .slice a' ss.length cap', mv] t_search (0, 0)), (β5, .cells #[I k] t_int (0, 0))]) ?_ ?_
      · refine (List.perm_append_comm).trans ?_
        exact ((List.Perm.swap _ _ _).cons _).cons _
      refine W.rangeN (σ := σ) (X := Be) (enc := Be.val) (xs := berthsK fs ss may k) rfl rfl rfl (fun s b => (runs step s (g b)).1) (fun s b => if (runs step s (g b)).2 then none else some Exit.ret)
        (fun b t => ∃ pre post, berthsK fs ss may k = pre ++ b :: post ∧ runs step s (pre.flatMap g) = (t, true)) (fun s A' => ∃ B, A' = (β6, .cells #[.bool false] t_bool (0, 0)) :: (bp, .cells (flat Be.row p).toArray t_plan (0, 0)) :: B ∧ J s B) (fun s A' => ∃ B, A' = (β6, .cells #[.bool false] t_bool (0, 0)) :: (bp, .cells (flat Be.row p).toArray t_plan (0, 0)) :: B ∧ K s B) s .head ⟨A, rfl, hJ⟩
        (fun h' hE hL => berths_iter _ h' fs ss may k _ _ mv b2 b3 _ _ _ _ (hf.ext hE) (hs.ext hE) hall hkl (hmay.ext hE) (hL b2 _ (by repeat (first | exact List.Mem.head _ | apply List.Mem.tail))) (hL b3 _ (by repeat (first | exact List.Mem.head _ | apply List.Mem.tail)))) (fun s p' e he => ?_) (fun pre b post s' e hr => ?_) ?_ ?_
      · split at he
        · cases he
        · cases he; rfl
      · have := runs_flat step g pre s
        rw [hr] at this
        exact ⟨pre, post, e, this⟩
      · rintro t b A1 ⟨pre, post, hpre, hrun⟩ ⟨B, rfl, hJt⟩ l h1 - -
        have hb : b ∈ berthsK fs ss may k := by rw [hpre]; simp
        refine W.region rfl ?_
        refine Ops.new (fun β7 => ?_)
        first | refine Ops.stoW ?_ | refine Ops.stoA ?_
        refine Ops.nil ?_
        refine ⟨rfl, rfl, fun h0 hE0 hL0 => ?_⟩
        have h5 : h0 β5 = some (.cells #[I k] t_int (0, 0)) := hL0 _ _ (by repeat (first | exact List.Mem.head _ | apply List.Mem.tail))
        have hbs' := hE0.1 _ _ hbs
        have hbf' := hE0.1 _ _ hbf
        clear hL0
        refine W.block <| W.seq <| W.region rfl ?_
        refine lq rfl ?_
        refine dq rfl ?_
        refine lq rfl ?_
        refine o1 (y_func rfl rfl rfl) rfl ?_
        refine Ops.perm (F' := (B ++ [(bp, .cells (flat Be.row p).toArray t_plan (0, 0))]) ++ [(β7, .cells #[I b.fl, I b.day] t_Berth (0, 0)), (β6, .cells #[.bool false] t_bool (0, 0))]) ?_ ?_
        · refine (List.perm_append_comm).trans ?_
          exact ((List.perm_append_comm (l₁ := B) (l₂ := [_])).cons _).cons _
        refine cg .head (fun h2 hE hL => with_fn _ h2 fs ss p k b _ _ mv (doV bf β5) bp B hm1 (hf.ext (hE0.trans hE)) (hs.ext (hE0.trans hE)) hall hp hkl (berth_ok hall hkl hb) (fun v B' => v = .bool (runs step t (g b)).2 ∧ Fin2 J K (runs step t (g b)) B') ?_ ?_) (fun v A2 hv => ?_)
        · intro hpr
          have : g b = [] := by rw [hg']; simp only [hpr, if_true]
          rw [this]
          exact ⟨rfl, hJt⟩
        · intro hpr h3 e3
          have hgb : g b = rights fs ss may m (k + 1) (p.set k b) := by rw [hg']; simp only [hpr, Bool.false_eq_true, if_false]
          have hE3 := (hE0.trans hE).trans e3
          refine (do_fn _ h3 (fromV bs bp yb bf) bf β5 k _ _ _ _ _ _ rfl (by omega) (hE3.1 _ _ hbf) (e3.1 _ _ (hE.1 _ _ h5)) fun h4 e4 => ?_).mono (R := fun v A' => v = .bool (runs step t (rights fs ss may m (k + 1) (p.set k b))).2 ∧ ∃ B, Fin2 J K (runs step t (rights fs ss may m (k + 1) (p.set k b))) B ∧ Sb (B ++ [(bp, .cells (flat Be.row (p.set k b)).toArray t_plan (0, 0))]) A') ?_
          · have hE4 := hE3.trans e4
            exact CallV.of_fn (fi := []) (args := [_]) (ca := [_, _, _, _]) (ih (k + 1) (p.set k b) h4 t B (by omega) (plan_set hp hkl (berth_ok hall hkl hb)) (hf.ext hE4) (hs.ext hE4) (hmay.ext hE4) (hE4.1 _ _ hbs) (hE4.1 _ _ hyb) (hE4.1 _ _ hbf) (hE4.1 _ _ hg)
              (hy.sub hE4 fun _ _ q => q) (fun pre' q post' s' e' hr' => hal (pre.flatMap g ++ pre') q (post' ++ post.flatMap g) s' (by rw [hri, hpre, List.flatMap_append, List.flatMap_cons, hgb, e']; simp) (by rw [runs_app, hrun]; exact hr')) hJt)
          · rintro v A' ⟨rfl, B', h1', h2'⟩
            rw [hgb]
            exact ⟨_, rfl, B', ⟨rfl, h1'⟩, h2'⟩
        obtain ⟨B', ⟨rfl, hfin⟩, hsb⟩ := hv
        refine Ops.sb (F' := (B' ++ [(bp, .cells (flat Be.row p).toArray t_plan (0, 0))]) ++ _) (hsb.app .refl) ?_
        refine Ops.perm (F' := (β7, .cells #[I b.fl, I b.day] t_Berth (0, 0)) :: (β6, .cells #[.bool false] t_bool (0, 0)) :: (bp, .cells (flat Be.row p).toArray t_plan (0, 0)) :: B') ?_ ?_
        · refine List.Perm.trans ?_ (List.perm_append_comm)
          exact ((List.perm_append_comm (l₁ := [_]) (l₂ := B')).cons _).cons _
        refine o1 (y_not rfl rfl) rfl ?_
        refine nn ?_
        refine W.cond rfl (fun c34 => ?_) (fun c34 => ?_)
        · refine W.seq <| W.region rfl ?_
          refine Ops.sto ?_
          refine nn <| W.ret <| blk_r ?_
          have hst := notT c34
          refine ⟨rfl, by rw [hst]; rfl, _, ?_, .skip rfl .refl⟩
          rw [hst]
          refine ⟨B', rfl, ?_⟩
          obtain ⟨s', hs'⟩ := step_of hst
          rw [hs'] at hfin ⊢
          exact hfin
        · refine W.skip <| blk_n ?_
          have hst := notF c34
          refine ⟨rfl, by rw [hst]; rfl, _, ?_, .skip rfl .refl⟩
          rw [hst]
          refine ⟨B', rfl, ?_⟩
          obtain ⟨s', hs'⟩ := step_of hst
          rw [hs'] at hfin ⊢
          exact hfin
      · intro s' e A2 he hA d
        have hfl := runs_flat step g (berthsK fs ss may k) s
        rw [he] at hfl
        rcases e with _ | e
        case some =>
          obtain ⟨rfl, hfl⟩ := hfl
          obtain ⟨B, rfl, hK⟩ := hA
          refine blk_r <| thn_r ?_
          refine lvm (hl := At.head) (lvc (hv := rSc rNil) ⟨?_, B, ?_, ?_⟩)
          · rw [hri, hfl]; rfl
          · rw [hri, hfl]; exact hK
          · refine (Sb.of_perm List.perm_append_comm).trans ?_
            exact .skip rfl (.skip rfl (.cons (.right .refl (.cons rfl (.cons rfl (.cons rfl .nil))))))
        obtain ⟨B, rfl, hJ2⟩ := hA
        refine blk_n <| thn_n <| W.seq <| W.region rfl ?_
        refine Ops.sto ?_
        refine nn <| W.ret ?_
        refine lvm (hl := At.head) (lvc (hv := rSc rNil) ⟨?_, B, ?_, ?_⟩)
        · rw [hri, hfl]; rfl
        · rw [hri, hfl]; exact hJ2
        · refine (Sb.of_perm List.perm_append_comm).trans ?_
          exact .skip rfl (.skip rfl (.cons (.right .refl (.cons rfl (.cons rfl (.cons rfl .nil))))))
end Go.Mus

/- Searches: the right plans, handed out; whether there is one. Conditions: none; over the given program. -/
namespace Go.Mus
set_option maxRecDepth 100000
set_option maxHeartbeats 4000000
theorem perm3 {x y z : Nat × Obj} {A : Frag} : ((A ++ [y]) ++ [x, z]).Perm (x :: y :: z :: A) :=
 (List.perm_append_comm).trans (((List.Perm.cons _ (List.perm_append_comm (l₁ := A) (l₂ := [_]))).trans (List.Perm.swap _ _ _)).cons _)
abbrev rightV (bb bs : Nat) : Value := .func (.func n_floor_search_right_1) #[] #[.pointer (some ⟨bb, 0, none⟩), .pointer (some ⟨bs, 0, none⟩)]
theorem right_fn (main : Side) (h : Hp) (vf vs mv vl : Value) (h1 : one vf = true) (h2 : one vs = true) (h3 : one mv = true) (h4 : one vl = true) : Fnc prog main n_floor_search_right #[srchV vf vs mv, vl] h [] (fun v A => ∃ bb bs, v = rightV bb bs ∧ A = [(bb, .cells #[vl] t_sl_Berth (0, 0)), (bs, .cells #[vf, vs, mv] t_search (0, 0))]) := by
 have hc : vl.cells = #[vl] := one_size h4
 refine Fnc.of_body at_floor_search_right rfl (by show 2 ≤ 6; decide) [(0, srchV vf vs mv), (1, vl)] ⟨rfl, rfl, trivial⟩ ?_
 refine W.seq <| W.region rfl ?_
 refine Ops.box (fun β2 => ?_)
 refine Ops.box (fun β3 => ?_) rfl rfl hc
 refine qs rfl rfl rfl <| nn <| W.seq <| W.region rfl ?_
 refine o1 (y_func rfl rfl rfl) rfl ?_
 refine qs rfl rfl rfl <| nn <| W.ret ?_
 exact lvt ⟨_, _, rfl, rfl⟩

/-- The right plans that begin with some berths. -/
def rightsOf (fs : List Fl) (ss : List St) (may : May) (l : List Be) : List (List Be) := rights fs ss may (ss.length - l.length) l.length (padB l)
theorem right_iter (main : Side) (h : Hp) (fs : List Fl) (ss : List St) (may : May) (l : List Be) (vf vs mv vl : Value) (bb bs : Nat) (Eb Es Eg : TypeId) (zb zs zg : Nat × Nat) (hf : Sl h Fl.row vf fs) (hs : Sl h St.row vs ss) (hl : Sl h Be.row vl l) (hm1 : one mv = true) (hall : HallOK fs ss) (hll : l.length ≤ ss.length) (hp : PlanOf fs ss (padB l)) (hm : MayV main mv may h)
  (hbb : h bb = some (.cells #[vl] Eb zb)) (hbs : h bs = some (.cells #[vf, vs, mv] Es zs)) (hg : h 0 = some (.cells #[rtV t_error] Eg zg)) : Iter prog main (rightV bb bs) planV (rightsOf fs ss may l) h := by
 intro h' hE0 yv hy1 σ nx step J K hy s A hal hJ
 have h4 : l.length ≤ 4 := by have := hall.ns; omega
 have hbb' := hE0.1 _ _ hbb
 have hbs' := hE0.1 _ _ hbs
 have hsz := plan_sz hp.ok
 have hon : ones (flat Be.row (padB l)).toArray.toList = true := plan_ones
 obtain ⟨a2, cap2, rfl⟩ := hl.isSl
 refine CallV.of_fn (f := n_floor_search_right_1) (fi := []) (ca := [.pointer (some ⟨bb, 0, none⟩), .pointer (some ⟨bs, 0, none⟩)]) ?_
 refine Fnc.of_body at_floor_search_right_1 rfl (by show 3 ≤ 13; decide) [(0, yv), (1, .pointer (some ⟨bb, 0, none⟩)), (2, .pointer (some ⟨bs, 0, none⟩))] ⟨rfl, rfl, rfl, trivial⟩ ?_
 refine W.seq <| W.region rfl ?_
 refine Ops.box (fun β3 => ?_) rfl rfl (one_size hy1)
 refine nn <| W.seq <| W.region rfl ?_
 refine dq rfl ?_
 refine cp (fun h' hE hL => planOf_fn _ h' _ _ (hl.ext (hE0.trans hE)) h4) ?_
 refine Ops.new (fun β4 => ?_)
 first | refine Ops.stoW ?_ | refine Ops.stoA ?_
 refine nn <| W.seq <| W.region rfl ?_
 refine Ops.new (fun β5 => ?_)
 refine nn <| W.seq <| W.region rfl ?_
 refine o1 (y_func rfl rfl rfl) rfl ?_
 refine Ops.sto ?_
 refine nn <| W.region rfl ?_
 refine dq rfl ?_
 refine dq rfl ?_
 refine o1 (y_len rfl rfl) rfl ?_
 refine Ops.perm perm3 ?_
 refine cgv .head (fun h2 hE hL => CallV.of_fn (fi := []) (args := [_]) (ca := [_, _, _, _]) (from_fn _ fs ss may _ _ mv yv bs β4 β3 β5 Es _ _ Eg zs _ _ zg hall hm1 hy1 nx step J K (ss.length - l.length) l.length (padB l) h2 s A (by omega) hp (hf.ext (hE0.trans hE)) (hs.ext (hE0.trans hE)) (hm.ext (hE0.trans hE)) (hE.1 _ _ hbs') (hL _ _ (.tail _ (.head _))) (hL _ _ (.head _)) ((hE0.trans hE).1 _ _ hg) (hy.sub hE fun _ _ q => q) hal hJ)) (fun v B hv => ?_)
 obtain ⟨rfl, B', hfin, hsb⟩ := hv
 refine Ops.nil ?_
 refine lvt ⟨B', ?_, hfin⟩
 refine Sb.right ?_ (.cons rfl (.cons rfl .nil))
 exact Sb.trans (.right .refl (.cons rfl .nil)) hsb

/-- What the searches are asked with. -/
theorem free_fn (main : Side) (h : Hp) (k : Int) : Pu prog main n_floor_free #[I k] h (.tuple #[.bool true, .bool true]) := by
 refine Fnc.of_body at_floor_free rfl (by show 1 ≤ 4; decide) [(0, I k)] ⟨rfl, trivial⟩ ?_
 refine W.seq <| W.region rfl <| qs rfl rfl rfl <| qs rfl rfl rfl <| nn <| W.seq <| W.region rfl <| qs rfl rfl rfl <| qs rfl rfl rfl ?_
 refine nn <| W.ret ?_
 exact lvp rfl
theorem bound_fn (main : Side) (h : Hp) (k : Int) : Pu prog main n_floor_bound #[I k] h (.tuple #[.bool true, .bool false]) := by
 refine Fnc.of_body at_floor_bound rfl (by show 1 ≤ 4; decide) [(0, I k)] ⟨rfl, trivial⟩ ?_
 refine W.seq <| W.region rfl <| qs rfl rfl rfl <| qs rfl rfl rfl <| nn <| W.seq <| W.region rfl <| qs rfl rfl rfl <| qs rfl rfl rfl ?_
 refine nn <| W.ret ?_
 exact lvp rfl
def freeM : May := fun _ => (true, true)
def boundM : May := fun _ => (true, false)
theorem free_may (main : Side) (h : Hp) : MayV main (.func (.func n_floor_free) #[] #[]) freeM h := fun h' _ k _ => CallV.of_fn (fi := []) (args := [_]) (ca := []) (free_fn main h' k)
theorem bound_may (main : Side) (h : Hp) : MayV main (.func (.func n_floor_bound) #[] #[]) boundM h := fun h' _ k _ => CallV.of_fn (fi := []) (args := [_]) (ca := []) (bound_fn main h' k)

/-- A plan without a strike. -/
theorem pad_nil {fs : List Fl} {ss : List St} (hn : 1 ≤ fs.length) : PlanOf fs ss (padB []) := by
 refine ⟨⟨rfl, fun b hb => ?_⟩, fun b hb => ?_, fun i hi => ?_⟩
 ·have : b = bnone := by simpa [padB] using hb
  subst this; simp [bnone]
 ·have : b = bnone := by simpa [padB] using hb
  subst this; simp [bnone]; omega
 ·simp only [beAt, padB, List.getD]
  rcases Nat.lt_or_ge i 4 with h | h
  ·rcases (by omega : i = 0 ∨ i = 1 ∨ i = 2 ∨ i = 3) with rfl | rfl | rfl | rfl <;> simp [bnone]
  ·simp [List.getElem?_eq_none, h, bnone]

def someR (fs : List Fl) (ss : List St) (may : May) : Bool := !(rightsOf fs ss may []).isEmpty
theorem some_fn (main : Side) (h : Hp) (fs : List Fl) (ss : List St) (may : May) (vf vs mv : Value) (Eg : TypeId) (zg : Nat × Nat) (hf : Sl h Fl.row vf fs) (hs : Sl h St.row vs ss) (hm1 : one mv = true) (hall : HallOK fs ss) (hm : MayV main mv may h) (hg : h 0 = some (.cells #[rtV t_error] Eg zg)) : Pu prog main n_floor_search_some #[srchV vf vs mv] h (.bool (someR fs ss may)) := by
 obtain ⟨a, cap, rfl⟩ := hf.isSl
 obtain ⟨a', cap', rfl⟩ := hs.isSl
 refine Fnc.of_body at_floor_search_some rfl (by show 1 ≤ 6; decide) [(0, srchV (.slice a fs.length cap) (.slice a' ss.length cap') mv)] ⟨rfl, trivial⟩ ?_
 refine W.seq <| W.region rfl ?_
 refine Ops.box (fun β1 => ?_)
 refine Ops.new (fun β2 => ?_)
 refine nn <| W.seq <| W.seq <| W.region rfl ?_
 refine lq rfl ?_
 refine c0 (fun h' hE hL => right_fn _ h' _ _ mv (.slice none 0 0) rfl rfl hm1 rfl) (fun v A' hv => ?_)
 obtain ⟨bb, bs, rfl, rfl⟩ := hv
 refine nn <| W.block ?_
 refine W.rangeX (σ := Unit) (X := List Be) (enc := planV) (xs := rightsOf fs ss may []) rfl rfl rfl (fun _ _ => ()) (fun _ _ => some Exit.ret) (fun _ A' => A' = [(β2, .cells #[.bool false] t_bool (0, 0))]) (fun _ A' => A' = [(β2, .cells #[.bool true] t_bool (0, 0))]) () (A₀ := [(β2, .cells #[.bool false] t_bool (0, 0))]) (.tail (.tail .head)) rfl
  (fun h' hE hL => right_iter _ h' fs ss may [] _ _ mv (.slice none 0 0) bb bs _ _ _ _ _ _ (hf.ext hE) (hs.ext hE) .nil hm1 hall (Nat.zero_le _) (pad_nil hall.nf.1) (hm.ext hE) (hL _ _ (.head _)) (hL _ _ (.tail _ (.head _))) (hE.1 _ _ hg)) (fun s p' e he => by cases he; rfl) ?_ ?_
 ·rintro ⟨⟩ q A1 hq rfl l h1 - -
  refine W.skip ?_
  refine ⟨rfl, rfl, fun h0 hE0 hL0 => ?_⟩
  refine W.block <| W.seq <| W.region rfl ?_
  refine Ops.sto ?_
  refine nn <| W.ret <| blk_r ?_
  exact ⟨rfl, rfl, _, rfl, .refl⟩
 ·intro s' e A2 he hA d
  rcases e with _ | e
  case some =>
   have hne : someR fs ss may = true := by
    cases hr : rightsOf fs ss may [] with
    | nil => rw [hr] at he; cases he
    | cons q r => simp [someR, hr]
   have hee : e = .ret := by
    cases hr : rightsOf fs ss may [] with
    | nil => rw [hr] at he; cases he
    | cons q r => rw [hr] at he; simp [runs, rstep] at he; exact he.symm
   subst hee
   simp only at hA
   subst hA
   refine blk_r <| thn_r ?_
   refine lvm (hl := At.head) (lvc (hv := rSc rNil) ⟨?_, by repeat (first | exact Shut.nil | refine Shut.cons rfl ?_)⟩)
   rw [hne]; rfl
  simp only at hA
  subst hA
  have hne : someR fs ss may = false := by
   cases hr : rightsOf fs ss may [] with
   | nil => simp [someR, hr]
   | cons q r => rw [hr] at he; simp [runs, rstep] at he
  refine blk_n <| thn_n <| W.seq <| W.region rfl ?_
  refine Ops.sto ?_
  refine nn <| W.ret ?_
  refine lvm (hl := At.head) (lvc (hv := rSc rNil) ⟨?_, by repeat (first | exact Shut.nil | refine Shut.cons rfl ?_)⟩)
  rw [hne]; rfl
end Go.Mus

/- Late. Conditions: none; over the given program. -/
namespace Go.Mus
set_option maxRecDepth 100000
set_option maxHeartbeats 4000000
theorem ckFloors_at : ∀ {fs : List Fl} {f : Fl}, ckFloors fs = 0 → f ∈ fs → ckFloor f = 0
 | [], _, _, h => by cases h
 | g :: fs, f, h, hm => by
  simp only [ckFloors] at h
  split at h
  ·rename_i h1
   rcases List.mem_cons.1 hm with rfl | hm
   ·exact h1
   ·exact ckFloors_at h hm
  ·rename_i h1; exact absurd h h1
theorem ckFloor0 {f : Fl} (h : ckFloor f = 0) : 1 ≤ f.pl ∧ f.pl ≤ 9 ∧ 1 ≤ f.lo ∧ f.lo ≤ f.hi ∧ f.hi ≤ 6 ∧ 0 ≤ f.co ∧ f.co ≤ 9 := by
 unfold ckFloor at h
 split at h
 ·cases h
 split at h
 ·cases h
 split at h
 ·cases h
 ·rename_i h1 h2 h3
  simp only [outs] at h1 h3
  omega
theorem hall_ck {fs : List Fl} {ss : List St} (h : ckPlant fs ss = 0) : HallOK fs ss := by
 obtain ⟨h1, h2, h3, h4, h5⟩ := ckPlant0 h
 refine ⟨⟨by omega, h2⟩, h3, fun f hf => ckFloor0 (ckFloors_at h4 hf), fun s hs => ?_⟩
 obtain ⟨k, hk, rfl⟩ := List.mem_iff_getElem.1 hs
 have := strike_ok h (List.getElem?_eq_getElem hk)
 omega

/-- All strikes up to one are to be set, no other. -/
def lateM (n : Nat) : May := fun i => (decide (i ≤ n), decide (n < i))
def lateFrom (fs : List Fl) (ss : List St) : Nat → Nat → Int
 | 0, _ => -1
 | m + 1, n => if someR fs ss (lateM n) then lateFrom fs ss m (n + 1) else n
def lateF (fs : List Fl) (ss : List St) : Int := lateFrom fs ss ss.length 0

theorem late1_fn (main : Side) (h : Hp) (k n b5 : Nat) (E5 : TypeId) (z5 : Nat × Nat) (hb : h b5 = some (.cells #[I n] E5 z5)) : Pu prog main n_floor_Late_1 #[I k, .pointer (some ⟨b5, 0, none⟩)] h (.tuple #[.bool (lateM n k).1, .bool (lateM n k).2]) := by
 refine Fnc.of_body at_floor_Late_1 rfl (by show 2 ≤ 11; decide) [(0, I k), (1, .pointer (some ⟨b5, 0, none⟩))] ⟨rfl, rfl, trivial⟩ ?_
 refine W.seq <| W.region rfl <| qs rfl rfl rfl <| qs rfl rfl rfl <| nn <| W.seq ?_
 refine W.drawF (n := 8) rfl ?_
 refine a1 0 (y_move rfl rfl) rfl ?_
 refine a1 1 (yld rfl rfl) rfl ?_
 refine a1 2 (y_leq rfl rfl rfl) rfl ?_
 refine a1 3 (y_move rfl rfl) rfl ?_
 refine a1 4 (yld rfl rfl) rfl ?_
 refine a1 5 (y_gtr rfl rfl rfl) rfl ?_
 refine a1 6 (y_assign rfl rfl) rfl ?_
 refine a1 7 (y_assign rfl rfl) rfl ?_
 refine az ?_
 refine thn_n <| W.ret ?_
 refine lvp (vs := [.bool (decide ((k : Int) ≤ n)), .bool (decide ((n : Int) < k))]) ?_
 have e1 : decide ((k : Int) ≤ n) = decide (k ≤ n) := decide_eq_decide.2 (by omega)
 have e2 : decide ((n : Int) < k) = decide (n < k) := decide_eq_decide.2 (by omega)
 rw [e1, e2]; rfl

theorem Late_fn (main : Side) (h : Hp) (fs : List Fl) (ss : List St) (vf vs : Value) (Eg : TypeId) (zg : Nat × Nat) (hf : Sl h Fl.row vf fs) (hs : Sl h St.row vs ss) (hg : h 0 = some (.cells #[rtV t_error] Eg zg)) :
  Pu prog main n_floor_Late #[.agg #[vf, vs]] h (.tuple #[I (if ckPlant fs ss ≠ 0 then 0 else lateF fs ss), I (ckPlant fs ss)]) := by
 obtain ⟨a, cap, rfl⟩ := hf.isSl
 obtain ⟨a', cap', rfl⟩ := hs.isSl
 refine Fnc.of_body at_floor_Late rfl (by show 1 ≤ 27; decide) [(0, .agg #[.slice a fs.length cap, .slice a' ss.length cap'])] ⟨rfl, trivial⟩ ?_
 refine W.seq <| W.region rfl ?_
 refine Ops.box (fun β1 => ?_)
 refine qs rfl rfl rfl <| qs rfl rfl rfl <| nn ?_
 refine W.scope (fun _ _ _ _ h => by rcases h.1 with h | h <;> cases h) ?_
 refine W.seq <| W.seq <| W.region rfl ?_
 refine lq rfl ?_
 refine cp (fun h' hE hL => Check_fn _ h' _ _ _ _ (hf.ext hE) (hs.ext hE)) ?_
 refine qs rfl rfl rfl <| nn <| W.seq <| W.region rfl <| qm rfl rfl rfl ?_
 refine o1 (y_neq rfl rfl rfl) rfl ?_
 refine nn ?_
 refine W.condp rfl (fun c10 => ?_) (fun c10 => ?_)
 ·refine W.seq <| W.region rfl <| qm rfl rfl rfl <| qs rfl rfl rfl <| qs rfl rfl rfl <| nn <| W.ret <| thn_r ?_
  refine lvp ?_
  rw [if_pos c10]; rfl
 ·have h0 : ckPlant fs ss = 0 := by simpa using c10
  have hall := hall_ck h0
  have hn4 := hall.ns
  rw [if_neg c10, h0]
  refine W.skip <| thn_n <| W.seq ?_
  refine W.label ?_
  refine thn_n <| W.seq <| W.seq <| W.region rfl ?_
  refine fq rfl ?_
  refine dq rfl ?_
  refine o1 (y_len rfl rfl) rfl ?_
  refine qm rfl rfl rfl <| nn <| W.block ?_
  refine W.loopD (σ := Nat × List Nat) (fun s => marksD s.2) (fun s => s.1 ≤ ss.length ∧ lateF fs ss = lateFrom fs ss (ss.length - s.1) s.1) (fun s => [(15, I s.1), (14, I ss.length), (1, .pointer (some ⟨β1, 0, none⟩))]) (fun s => marksF s.2 ++ [(β1, .cells #[.slice a fs.length cap, .slice a' ss.length cap'] t_Plant (0, 0))]) (fun s => ss.length - s.1) (0, []) ⟨Nat.zero_le _, rfl⟩ ⟨rfl, rfl, rfl, trivial⟩ sbA ?_
  rintro ⟨n, ms⟩ ⟨hn, hl⟩
  dsimp only at hn hl ⊢
  refine W.perm (F' := (β1, .cells #[.slice a fs.length cap, .slice a' ss.length cap'] t_Plant (0, 0)) :: marksF ms) (List.perm_append_comm (l₁ := [_])) ?_
  refine W.seq <| W.region rfl ?_
  refine o1 (y_lss rfl rfl rfl) rfl ?_
  refine nn <| W.seq ?_
  refine W.condp rfl (fun c16 => ?_) (fun c16 => ?_)
  ·obtain ⟨m, hm⟩ : ∃ m, ss.length - n = m + 1 := ⟨ss.length - n - 1, by omega⟩
   rw [hm, lateFrom] at hl
   refine W.skip <| thn_n <| W.seq <| W.block <| W.seq <| W.region rfl <| qm rfl rfl rfl ?_
   refine Ops.new (fun β5 => ?_)
   refine Ops.sto ?_
   refine nn <| W.seq <| W.region rfl ?_
   refine lq rfl ?_
   refine o1 (y_build (cs := #[.slice a fs.length cap, .slice a' ss.length cap']) rfl rfl rfl) rfl ?_
   refine o1 (y_func rfl rfl rfl) rfl ?_
   refine o1 (y_build (cs := #[.slice a fs.length cap, .slice a' ss.length cap', (.func (.func n_floor_Late_1) #[] #[.pointer (some ⟨β5, 0, none⟩)])]) rfl rfl rfl) rfl ?_
   refine Ops.new (fun β6 => ?_)
   first | refine Ops.stoW ?_ | refine Ops.stoA ?_
   refine nn <| W.seq <| W.seq <| W.region rfl ?_
   refine lq rfl ?_
   refine c0 (fun h' hE hL => right_fn _ h' (.slice a fs.length cap) (.slice a' ss.length cap') (.func (.func n_floor_Late_1) #[] #[.pointer (some ⟨β5, 0, none⟩)]) (.slice none 0 0) rfl rfl rfl rfl) (fun v A' hv => ?_)
   obtain ⟨bb, bs, rfl, rfl⟩ := hv
   refine nn <| W.block ?_
   refine W.rangeX (σ := Unit) (X := List Be) (enc := planV) (xs := rightsOf fs ss (lateM n) []) rfl rfl rfl (fun _ _ => ()) (fun _ _ => some (Exit.exit 1)) (fun _ A' => A' = []) (fun _ A' => A' = []) () (A₀ := []) .head rfl
    (fun h' hE hL => right_iter _ h' fs ss (lateM n) [] (.slice a fs.length cap) (.slice a' ss.length cap') (.func (.func n_floor_Late_1) #[] #[.pointer (some ⟨β5, 0, none⟩)]) (.slice none 0 0) bb bs _ _ _ _ _ _ (hf.ext hE) (hs.ext hE) .nil rfl hall (Nat.zero_le _) (pad_nil hall.nf.1) (fun h2 e2 k _ => CallV.of_fn (f := n_floor_Late_1) (fi := []) (args := [_]) (ca := [_]) (late1_fn _ h2 k n β5 _ _ (e2.1 _ _ (hL β5 _ (by repeat (first | exact List.Mem.head _ | apply List.Mem.tail)))))) (hL _ _ (.head _)) (hL _ _ (.tail _ (.head _))) (hE.1 _ _ hg)) (fun s p' e he => by cases he; rfl) ?_ ?_
   ·rintro ⟨⟩ q A1 hq rfl l h1 - -
    refine W.skip ?_
    refine ⟨rfl, rfl, fun h1 hE1 hL1 => ?_⟩
    refine W.block <| W.exit <| blk_o ?_
    exact ⟨rfl, rfl, _, rfl, .refl⟩
   ·intro s' e A2 he hA d
    rcases e with _ | e
    ·simp only at hA
     subst hA
     have hne : someR fs ss (lateM n) = false := by
      cases hr : rightsOf fs ss (lateM n) [] with
      | nil => simp [someR, hr]
      | cons q r => rw [hr] at he; simp [runs, rstep] at he
     rw [hne] at hl
     refine blk_n <| thn_n <| W.seq <| W.region rfl ?_
     refine dq rfl ?_
     refine qs rfl rfl rfl <| qs rfl rfl rfl <| nn <| W.ret <| blk_r <| thn_r <| thn_r <| blk_r <| thn_r ?_
     refine lvm (hl := At.head) ?_
     refine leave_marksZ (l := ms) [_, _, _, _, _, _] (by repeat (first | exact Shut.nil | refine Shut.cons rfl ?_)) fun Z hZ => lvp (hs := hZ) ?_
     rw [hl, if_neg Bool.false_ne_true]; rfl
    ·have hee : e = .exit 1 := by
      cases hr : rightsOf fs ss (lateM n) [] with
      | nil => rw [hr] at he; cases he
      | cons q r => rw [hr] at he; simp [runs, rstep] at he; exact he.symm
     subst hee
     simp only at hA
     subst hA
     have hne : someR fs ss (lateM n) = true := by
      cases hr : rightsOf fs ss (lateM n) [] with
      | nil => rw [hr] at he; cases he
      | cons q r => simp [someR, hr]
     rw [hne] at hl
     refine blk_o <| thn_x <| blk_x <| thn_n <| W.region rfl ?_
     refine pq rfl ?_
     refine qm rfl rfl rfl <| nn ?_
     refine ⟨(n + 1, d :: ms), rfl, ⟨by omega, ?_⟩, by omega, ⟨rfl, rfl, rfl, trivial⟩, ?_⟩
     ·rw [hl, if_pos rfl, show ss.length - (n + 1) = m by omega]
     ·refine (Sb.of_perm (List.perm_append_comm (l₂ := [_]))).trans ?_
      refine Sb.trans (.of_perm (List.Perm.swap _ _ _)) ?_
      exact .cons (.skip rfl (.skip rfl (.skip rfl (.skip rfl .refl))))
  ·refine W.exit <| thn_x <| thn_x <| blk_x <| thn_n <| W.seq <| W.region rfl <| qs rfl rfl rfl <| qs rfl rfl rfl <| Ops.nil ?_
   refine thn_n <| W.ret ?_
   refine leave_marksZ (l := ms) [_] (by repeat (first | exact Shut.nil | refine Shut.cons rfl ?_)) fun Z hZ => lvp (hs := hZ) ?_
   rw [hl, show ss.length - n = 0 by omega]; rfl
end Go.Mus

/- Patience. Conditions: none; over the given program. -/
namespace Go.Mus
set_option maxRecDepth 100000
set_option maxHeartbeats 4000000
def numsN (lo : Int) : Nat → List Int
 | 0 => []
 | k + 1 => numsN lo k ++ [lo + k]
theorem numsN_len (lo : Int) : ∀ k, (numsN lo k).length = k
 | 0 => rfl
 | k + 1 => by simp [numsN, numsN_len lo k]
def nums (lo hi : Int) : List Int := numsN lo (hi + 1 - lo).toNat

theorem numbers_fn (main : Side) (h : Hp) (lo hi : Int) (h1 : -1000 ≤ lo) (h2 : hi ≤ 1000) (h3 : lo ≤ 1000) : Fnc prog main n_floor_numbers #[I lo, I hi] h [] (fun v A => ∃ S, Os t_int rowI v (nums lo hi) S ∧ Sb S A) := by
 refine Fnc.of_body at_floor_numbers rfl (by show 2 ≤ 18; decide) [(0, I lo), (1, I hi)] ⟨rfl, rfl, trivial⟩ ?_
 refine W.seq <| W.region rfl <| qs rfl rfl rfl <| nn <| W.seq <| W.region rfl <| qs rfl rfl rfl <| nn ?_
 refine W.seq <| W.seq <| W.region rfl <| qm rfl rfl rfl <| qs rfl rfl rfl <| nn <| W.block ?_
 refine W.loop3 (fun (k : Nat) (v : Value) (S : Frag) => k ≤ (hi + 1 - lo).toNat ∧ Os t_int rowI v (numsN lo k) S) (fun k v S => [(6, I (lo + k)), (5, v), (1, I hi)]) (fun k v S => S) (fun k _ _ => (hi + 1 - lo).toNat - k) 0 (.slice none 0 0) [] ⟨Nat.zero_le _, .nil .nil⟩ ⟨lk rfl (show I _ = I _ by congr 1; omega), rfl, rfl, trivial⟩ .refl ?_
 rintro k v S ⟨hk, hS⟩
 refine W.seq <| W.seq <| W.region rfl <| qm rfl rfl rfl <| qm rfl rfl rfl ?_
 refine o1 (y_leq rfl rfl rfl) rfl ?_
 refine nn ?_
 refine W.condp rfl (fun c10 => ?_) (fun c10 => ?_)
 ·refine W.skip <| thn_n <| W.seq <| W.block <| W.region rfl <| qm rfl rfl rfl <| qm rfl rfl rfl ?_
  refine Ops.bsl (cs := #[I (lo + k)]) (fun β15 => ?_) rfl
  refine oe rfl wn rfl rfl (e_append (row := rowI) (l' := [lo + k]) rfl rfl rfl hS (.tail .all) (fun h2 _ hl => Sl.mk (hl β15 _ (.head _)) rfl (Part.all [I (lo + k)])) (by rw [numsN_len]; simp; omega) (by decide) rfl (fun v' S' hS' => ?_))
  refine qs rfl rfl rfl <| Ops.nil <| blk_n <| thn_n <| W.region rfl <| qm rfl rfl rfl ?_
  refine pq rfl ?_
  refine qs rfl rfl rfl <| nn ?_
  exact ⟨rfl, k + 1, v', S', ⟨by omega, hS'⟩, by omega, ⟨lk rfl (show I _ = I _ by congr 1; omega), rfl, rfl, trivial⟩, .skip rfl .refl⟩
 ·refine W.exit <| thn_x <| thn_x <| blk_x <| thn_n <| W.seq <| W.region rfl <| qm rfl rfl rfl <| qs rfl rfl rfl <| Ops.nil ?_
  refine thn_n <| W.ret ?_
  refine lvt (vs := [v]) ⟨S, ?_, .refl⟩
  rw [nums, show (hi + 1 - lo).toNat = k by omega]; exact hS

def idxF (q : Int → Bool) : List Int → Nat → Int
 | [], _ => -1
 | a :: r, k => if q a then k else idxF q r (k + 1)
theorem indexFunc_fn (main : Side) (h : Hp) (xs : List Int) (vl fv : Value) (q : Int → Bool) (hl : Sl h rowI vl xs) (hn : xs.length ≤ 1000) (hq : ∀ h', Ext h h' → ∀ a ∈ xs, PuV prog main fv [I a] h' (.bool (q a))) : Pu prog main n_slices_IndexFunc_int #[vl, fv] h (I (idxF q xs 0)) := by
 obtain ⟨a, cap, rfl⟩ := hl.isSl
 refine Fnc.of_body at_slices_IndexFunc_int rfl (by show 2 ≤ 19; decide) [(0, .slice a xs.length cap), (1, fv)] ⟨rfl, rfl, trivial⟩ ?_
 refine W.seq <| W.region rfl <| qs rfl rfl rfl <| nn <| W.seq <| W.seq <| W.region rfl <| qm rfl rfl rfl ?_
 refine o1 (y_len rfl rfl) rfl ?_
 refine qm rfl rfl rfl <| nn <| W.block ?_
 refine W.loop (σ := Nat) (fun k => k ≤ xs.length ∧ idxF q xs 0 = idxF q (xs.drop k) k) (fun k => [(8, I k), (7, I xs.length), (0, .slice a xs.length cap), (1, fv)]) (fun _ => []) (fun k => xs.length - k) 0 ⟨Nat.zero_le _, rfl⟩ ⟨rfl, rfl, rfl, rfl, trivial⟩ sbA ?_
 rintro k ⟨hk, hd⟩
 refine W.seq <| W.region rfl ?_
 refine o1 (y_lss rfl rfl rfl) rfl ?_
 refine nn <| W.seq ?_
 refine W.condp rfl (fun c9 => ?_) (fun c9 => ?_)
 ·obtain ⟨p, hp, hdr⟩ := has (show k < xs.length by omega)
  rw [hdr] at hd
  obtain ⟨b, off, c, E, fz, rfl, hb, hx, hy, hz⟩ := hl.at hp
  have hz0 : c[off + k * 1]? = some (I p) := hz 0 (by decide)
  clear hx hz
  refine W.skip <| thn_n <| W.seq <| W.block <| W.seq <| W.region rfl <| qm rfl rfl rfl <| qs rfl rfl rfl <| nn ?_
  refine W.seq <| W.region rfl <| qm rfl rfl rfl <| qm rfl rfl rfl <| qm rfl rfl rfl ?_
  refine xq rfl ?_
  refine dq rfl ?_
  refine cv (fun h2 hE hL => hq h2 hE p (List.mem_of_getElem? hp)) ?_
  refine nn ?_
  refine W.cond rfl (fun c16 => ?_) (fun c16 => ?_)
  ·refine W.seq <| W.region rfl <| qm rfl rfl rfl <| qs rfl rfl rfl <| nn <| W.ret <| blk_r <| thn_r <| thn_r ?_
   refine blk_r <| thn_r ?_
   refine lvp ?_
   rw [hd]; simp only [idxF]; rw [if_pos c16]; rfl
  ·refine W.skip <| blk_n <| thn_n <| W.region rfl ?_
   refine pq rfl ?_
   refine qm rfl rfl rfl <| nn ?_
   exact ⟨rfl, k + 1, ⟨by omega, by rw [hd]; simp only [idxF]; rw [if_neg (by rw [c16]; exact Bool.false_ne_true)]⟩, by omega, ⟨rfl, rfl, rfl, rfl, trivial⟩, sbA⟩
 ·refine W.exit <| thn_x <| thn_x <| blk_x <| thn_n <| W.seq <| W.region rfl <| qs rfl rfl rfl <| nn ?_
  refine W.ret ?_
  refine lvp ?_
  rw [hd, show k = xs.length by omega]; simp [idxF, pack]

theorem idxF_find (q : Int → Bool) : ∀ (xs : List Int) (k : Nat), (idxF q xs k = -1 ∧ xs.find? q = none) ∨ ∃ j a, idxF q xs k = ((k + j : Nat) : Int) ∧ xs[j]? = some a ∧ xs.find? q = some a
 | [], k => .inl ⟨rfl, rfl⟩
 | a :: r, k => by
  by_cases h : q a = true
  ·exact .inr ⟨0, a, by simp [idxF, h], rfl, by simp [h]⟩
  ·rcases idxF_find q r (k + 1) with ⟨h1, h2⟩ | ⟨j, b, h1, h2, h3⟩
   ·exact .inl ⟨by simp only [idxF]; rw [if_neg h]; exact h1, by simp [h, h2]⟩
   ·exact .inr ⟨j + 1, b, by simp only [idxF]; rw [if_neg h, h1]; congr 1; omega, by simpa using h2, by simp [h, h3]⟩
def firstV (o : Option Int) : Value := .tuple #[I (o.getD 0), .bool o.isSome]
theorem first_fn (main : Side) (h : Hp) (xs : List Int) (vl fv : Value) (q : Int → Bool) (hl : Sl h rowI vl xs) (hn : xs.length ≤ 1000) (hq : ∀ h', Ext h h' → ∀ a ∈ xs, PuV prog main fv [I a] h' (.bool (q a))) : Pu prog main n_floor_first_int #[vl, fv] h (firstV (xs.find? q)) := by
 obtain ⟨a, cap, rfl⟩ := hl.isSl
 rcases idxF_find q xs 0 with ⟨h1, h2⟩ | ⟨j, b0, h1, h2, h3⟩
 ·refine Fnc.of_body at_floor_first_int rfl (by show 2 ≤ 18; decide) [(0, .slice a xs.length cap), (1, fv)] ⟨rfl, rfl, trivial⟩ ?_
  refine W.seq <| W.region rfl <| qs rfl rfl rfl <| qs rfl rfl rfl <| nn <| W.seq <| W.seq <| W.region rfl <| qm rfl rfl rfl ?_
  refine qm rfl rfl rfl ?_
  refine cp (fun h' hE hL => indexFunc_fn _ h' xs _ _ q (hl.ext hE) hn fun h2 e => hq h2 (hE.trans e)) ?_
  rw [h1]
  refine qs rfl rfl rfl <| nn <| W.seq <| W.region rfl <| qm rfl rfl rfl ?_
  refine o1 (y_geq rfl rfl rfl) rfl ?_
  refine nn ?_
  refine W.condp rfl (fun c12 => ?_) (fun c12 => ?_)
  ·exact absurd c12 (by decide)
  ·refine W.skip <| thn_n <| W.seq <| W.region rfl <| qs rfl rfl rfl <| nn <| W.seq <| W.region rfl <| qm rfl rfl rfl ?_
   refine qs rfl rfl rfl <| qs rfl rfl rfl <| nn <| W.ret ?_
   refine lvp ?_
   rw [h2]; rfl
 ·obtain ⟨b, off, c, E, fz, rfl, hb, hx, hy, hz⟩ := hl.at h2
  have hz0 : c[off + j * 1]? = some (I b0) := hz 0 (by decide)
  have hjl : j < xs.length := by
   rcases Nat.lt_or_ge j xs.length with h' | h'
   ·exact h'
   ·rw [List.getElem?_eq_none h'] at h2; cases h2
  refine Fnc.of_body at_floor_first_int rfl (by show 2 ≤ 18; decide) [(0, .slice (some ⟨b, off, none⟩) xs.length cap), (1, fv)] ⟨rfl, rfl, trivial⟩ ?_
  refine W.seq <| W.region rfl <| qs rfl rfl rfl <| qs rfl rfl rfl <| nn <| W.seq <| W.seq <| W.region rfl <| qm rfl rfl rfl ?_
  refine qm rfl rfl rfl ?_
  refine cp (fun h' hE hL => indexFunc_fn _ h' xs _ _ q (hl.ext hE) hn fun h2 e => hq h2 (hE.trans e)) ?_
  rw [h1, Nat.zero_add]
  refine qs rfl rfl rfl <| nn <| W.seq <| W.region rfl <| qm rfl rfl rfl ?_
  refine o1 (y_geq rfl rfl rfl) rfl ?_
  refine nn ?_
  refine W.condp rfl (fun c12 => ?_) (fun c12 => ?_)
  ·refine W.seq <| W.region rfl <| qm rfl rfl rfl <| qm rfl rfl rfl ?_
   refine xq rfl ?_
   refine dq rfl ?_
   refine qs rfl rfl rfl <| qs rfl rfl rfl <| nn <| W.ret <| thn_r ?_
   refine lvp ?_
   rw [h3]; rfl
  ·exact absurd c12 (by omega)

theorem cloneS_fn (main : Side) (h : Hp) (ss : List St) (vs : Value) (hs : Sl h St.row vs ss) (hn : ss.length ≤ 1000) : Fnc prog main n_slices_Clone_Strike #[vs] h [] (fun v A => ∃ S, Os t_Strike St.row v ss S ∧ Sb S A) := by
 obtain ⟨a, cap, rfl⟩ := hs.isSl
 refine Fnc.of_body at_slices_Clone_Strike rfl (by show 1 ≤ 8; decide) [(0, .slice a ss.length cap)] ⟨rfl, trivial⟩ ?_
 refine W.seq <| W.region rfl <| qs rfl rfl rfl <| nn <| W.seq <| W.seq <| W.region rfl <| qm rfl rfl rfl ?_
 refine o1 (y_slNil rfl rfl) rfl ?_
 refine nn ?_
 refine W.cond rfl (fun c4 => ?_) (fun c4 => ?_)
 ·refine W.seq <| W.region rfl <| qs rfl rfl rfl <| nn <| W.ret <| thn_r ?_
  have : ss = [] := by
   cases a with
   | some a => cases c4
   | none =>
    rcases hss : ss with _ | ⟨x, r⟩
    ·rfl
    ·obtain ⟨b, off, c, E, fz, e, _⟩ := hs.at (i := 0) (p := x) (by rw [hss]; rfl)
     cases e
  subst this
  exact lvt (vs := [.slice none 0 0]) ⟨[], .nil .nil, .refl⟩
 ·refine W.skip <| thn_n <| W.seq <| W.region rfl ?_
  refine Ops.bsl0 (fun β5 => ?_) rfl
  refine qm rfl rfl rfl ?_
  have hO : Os t_Strike St.row (.slice (some ⟨β5, 0, none⟩) 0 0) ([] : List St) [(β5, .cells #[] t_Strike (0, 0))] := .inr ⟨β5, #[], 0, [], rfl, rfl, rfl, Nat.le_refl _, Part.all [], .nil⟩
  refine oe rfl wn rfl rfl (e_append (row := St.row) (l := []) (l' := ss) rfl rfl rfl hO .all (fun h2 hE hl => hs.ext hE) (by simp; omega) (by decide) rfl (fun v' S' hS' => ?_))
  rw [List.nil_append] at hS'
  refine qs rfl rfl rfl <| nn <| W.ret ?_
  exact lvt (vs := [v']) ⟨S', hS', .refl⟩

/-- The strikes, waiting for more days. -/
def waitSt (n : Int) (s : St) : St := ⟨s.day, s.co, s.wa + n⟩
def waitS (ss : List St) (n : Int) : List St := ss.map (waitSt n)
/-- .. the first k of them. -/
def waitK (ss : List St) (n : Int) (k : Nat) : List St := (ss.take k).map (waitSt n) ++ ss.drop k
theorem waitK_len {ss : List St} {n : Int} {k : Nat} (hk : k ≤ ss.length) : (waitK ss n k).length = ss.length := by simp [waitK]; omega
theorem waitK_at {ss : List St} {n : Int} {k : Nat} {s : St} (hk : ss[k]? = some s) : (waitK ss n k)[k]? = some s := by
 have hlt : k < ss.length := by
  rcases Nat.lt_or_ge k ss.length with h' | h'
  ·exact h'
  ·rw [List.getElem?_eq_none h'] at hk; cases hk
 rw [waitK, List.getElem?_append_right (by simp; omega)]
 simp only [List.length_map, List.length_take, Nat.min_eq_left (Nat.le_of_lt hlt), Nat.sub_self, List.getElem?_drop, Nat.add_zero, hk]
theorem waitK_succ {ss : List St} {n : Int} {k : Nat} {s : St} (hk : ss[k]? = some s) : (waitK ss n k).set k (waitSt n s) = waitK ss n (k + 1) := by
 have hlt : k < ss.length := by
  rcases Nat.lt_or_ge k ss.length with h' | h'
  ·exact h'
  ·rw [List.getElem?_eq_none h'] at hk; cases hk
 obtain ⟨s', hs', hdr⟩ := has hlt
 rw [hk] at hs'; cases hs'
 have hl : ((ss.take k).map (waitSt n)).length = k := by simp; omega
 rw [waitK, hdr, waitK, List.take_add_one, hk]
 have : ((ss.take k).map (waitSt n) ++ s :: ss.drop (k + 1)).set ((ss.take k).map (waitSt n)).length (waitSt n s) = (ss.take k).map (waitSt n) ++ waitSt n s :: ss.drop (k + 1) := by
  rw [List.set_append_right _ _ (Nat.le_refl _), Nat.sub_self, List.set_cons_zero]
 rw [hl] at this
 rw [this]
 simp
theorem Part.setS {c : Array Value} {l : List St} {j : Nat} {s : St} {x : Int} (h : Part c 0 (flat St.row l)) (hj : l[j]? = some s) : Part (c.setIfInBounds (0 + j * 3 + 2) (I x)) 0 (flat St.row (l.set j ⟨s.day, s.co, x⟩)) := by
 obtain ⟨pre, post, h1, h2⟩ := h
 have : pre = [] := List.length_eq_zero_iff.1 h2
 subst this
 refine ⟨[], post, ?_, rfl⟩
 have hlt : j < l.length := by
  rcases Nat.lt_or_ge j l.length with h' | h'
  ·exact h'
  ·rw [List.getElem?_eq_none h'] at hj; cases hj
 simp only [Array.toList_setIfInBounds, h1, List.nil_append]
 rw [List.set_append_left _ _ (by rw [flat_len]; omega)]
 congr 1
 clear h1 h2
 induction l generalizing j with
 | nil => simp at hj
 | cons a l ih =>
  cases j with
  | zero =>
   simp only [List.getElem?_cons_zero, Option.some.injEq] at hj
   subst hj
   simp [flat_cons, St.row]
  | succ j =>
   have := ih (j := j) (by simpa using hj) (by simpa using hlt)
   simp only [List.set_cons_succ, flat_cons]
   rw [← this]
   have e1 : 0 + (j + 1) * 3 + 2 = (0 + j * 3 + 2) + 3 := by omega
   rw [e1]
   simp [St.row]
theorem hall_wait {fs : List Fl} {ss : List St} {n : Int} (h : ckPlant fs ss = 0) (h0 : 0 ≤ n) (h2 : n ≤ 2) : HallOK fs (waitS ss n) := by
 have hh := hall_ck h
 refine ⟨hh.nf, by simpa [waitS] using hh.ns, hh.fl, fun s hs => ?_⟩
 obtain ⟨t, ht, rfl⟩ := List.mem_map.1 hs
 obtain ⟨k, hk, rfl⟩ := List.mem_iff_getElem.1 ht
 have := strike_ok h (List.getElem?_eq_getElem hk)
 simp only [waitSt]
 omega

theorem patience1_fn (main : Side) (h : Hp) (fs : List Fl) (ss : List St) (n : Int) (vf vs : Value) (b1 : Nat) (E1 Eg : TypeId) (z1 zg : Nat × Nat) (hf : Sl h Fl.row vf fs) (hs : Sl h St.row vs ss) (hck : ckPlant fs ss = 0) (hn0 : 0 ≤ n) (hn2 : n ≤ 2) (hb1 : h b1 = some (.cells #[vf, vs] E1 z1)) (hg : h 0 = some (.cells #[rtV t_error] Eg zg)) :
  PuV prog main (.func (.func n_floor_Patience_1) #[] #[.pointer (some ⟨b1, 0, none⟩)]) [I n] h (.bool (someR fs (waitS ss n) boundM)) := by
 refine CallV.of_fn (f := n_floor_Patience_1) (fi := []) (args := [_]) (ca := [.pointer (some ⟨b1, 0, none⟩)]) ?_
 have hall := hall_wait hck hn0 hn2
 have hn4 := (hall_ck hck).ns
 obtain ⟨a, cap, rfl⟩ := hf.isSl
 obtain ⟨a', cap', rfl⟩ := hs.isSl
 refine Fnc.of_body at_floor_Patience_1 rfl (by show 2 ≤ 32; decide) [(0, I n), (1, .pointer (some ⟨b1, 0, none⟩))] ⟨rfl, rfl, trivial⟩ ?_
 refine W.seq <| W.region rfl <| qs rfl rfl rfl <| nn <| W.seq <| W.region rfl ?_
 refine lq rfl ?_
 refine Ops.new (fun β4 => ?_)
 first | refine Ops.stoW ?_ | refine Ops.stoA ?_
 refine nn <| W.seq <| W.region rfl ?_
 refine fq rfl ?_
 refine dq rfl ?_
 refine c0 (fun h' hE hL => cloneS_fn _ h' ss _ (hs.ext hE) (by omega)) (fun v A' hv => ?_)
 obtain ⟨S, hS, hsb⟩ := hv
 refine Ops.sb (hsb.app .refl) ?_
 refine Ops.perm (List.perm_append_comm (l₁ := [_])) ?_
 obtain ⟨a3, cap3, rfl⟩ := hS.isSl
 refine fq rfl ?_
 refine Ops.sto ?_
 refine nn <| W.seq <| W.seq <| W.region rfl ?_
 refine fq rfl ?_
 refine dq rfl ?_
 refine o1 (y_len rfl rfl) rfl ?_
 refine qm rfl rfl rfl <| nn <| W.block ?_
 have hS0 : Os t_Strike St.row (.slice a3 ss.length cap3) (waitK ss n 0) S := by simpa [waitK] using hS
 refine W.loop2 (fun (k : Nat) (S' : Frag) => k ≤ ss.length ∧ Os t_Strike St.row (.slice a3 ss.length cap3) (waitK ss n k) S') (fun k S' => [(14, I k), (13, I ss.length), (4, .pointer (some ⟨β4, 0, none⟩)), (0, I n)]) (fun k S' => (β4, .cells #[.slice a fs.length cap, .slice a3 ss.length cap3] t_Plant (0, 0)) :: S') (fun k _ => ss.length - k) 0 S ⟨Nat.zero_le _, hS0⟩ ⟨rfl, rfl, rfl, rfl, trivial⟩ .refl ?_
 rintro k S' ⟨hk, hS'⟩
 refine W.seq <| W.region rfl ?_
 refine o1 (y_lss rfl rfl rfl) rfl ?_
 refine nn <| W.seq ?_
 refine W.condp rfl (fun c15 => ?_) (fun c15 => ?_)
 ·obtain ⟨s, hsk, -⟩ := has (show k < ss.length by omega)
  have hwk := waitK_at (n := n) hsk
  have hso := strike_ok hck hsk
  rcases hS' with ⟨hnil, _, _⟩ | ⟨β, c, cp, J, hv, rfl, hc1, hc2, hP, hJ⟩
  ·rw [hnil] at hwk; simp at hwk
  obtain ⟨rfl, rfl⟩ : a3 = some ⟨β, 0, none⟩ ∧ cap3 = cp := by injection hv with e1 e2 e3; exact ⟨e1, e3⟩
  have hw2 : c[0 + k * 3 + 2]? = some (I s.wa) := hP.rowG hwk 2 (by decide)
  have hsz := (hP.rowE hwk).2
  refine W.skip <| thn_n <| W.seq <| W.block <| W.seq <| W.region rfl <| qm rfl rfl rfl <| qs rfl rfl rfl <| nn ?_
  refine W.region rfl ?_
  refine fq rfl ?_
  refine dq rfl ?_
  refine qm rfl rfl rfl ?_
  refine xq rfl ?_
  refine fq rfl ?_
  refine dq rfl ?_
  refine qm rfl rfl rfl ?_
  refine o1 (yadd rfl rfl rfl) rfl ?_
  refine xq rfl ?_
  refine fq rfl ?_
  refine Ops.sto ?_
  refine Ops.nil <| blk_n <| thn_n <| W.region rfl ?_
  refine pq rfl ?_
  refine qm rfl rfl rfl <| nn ?_
  refine ⟨rfl, k + 1, _, ⟨by omega, .inr ⟨β, _, cap3, J, by rw [waitK_len (by omega)], rfl, by rw [Array.size_setIfInBounds]; exact hc1, by rw [waitK_len (by omega)]; rw [waitK_len (by omega)] at hc2; exact hc2, ?_, hJ⟩⟩, by omega, ⟨rfl, rfl, rfl, rfl, trivial⟩, .refl⟩
  have := hP.setS (x := s.wa + n) hwk
  rw [show (⟨s.day, s.co, s.wa + n⟩ : St) = waitSt n s from rfl, waitK_succ hsk] at this
  exact this
 ·have hkl : k = ss.length := by omega
  subst hkl
  have hS2 : Os t_Strike St.row (.slice a3 ss.length cap3) (waitS ss n) S' := by simpa [waitK, waitS] using hS'
  refine W.exit <| thn_x <| thn_x <| blk_x <| thn_n <| W.seq <| W.region rfl ?_
  refine lq rfl ?_
  refine o1 (y_build (cs := #[.slice a fs.length cap, .slice a3 ss.length cap3]) rfl rfl rfl) rfl ?_
  refine o1 (y_build (cs := #[.slice a fs.length cap, .slice a3 ss.length cap3, .func (.func n_floor_bound) #[] #[]]) rfl rfl rfl) rfl ?_
  refine cp (fun h' hE hL => some_fn _ h' fs (waitS ss n) boundM (.slice a fs.length cap) (.slice a3 ss.length cap3) (.func (.func n_floor_bound) #[] #[]) _ _ (hf.ext hE) (hS2.sl fun b o hb => hL b o (.tail _ hb)) rfl hall (bound_may _ h') (hE.1 _ _ hg)) ?_
  refine qs rfl rfl rfl <| nn <| W.ret ?_
  exact lvp (hs := .cons rfl hS2.shut) rfl

def patF (fs : List Fl) (ss : List St) : Option Int := (nums 0 2).find? fun n => someR fs (waitS ss n) boundM
def patV (fs : List Fl) (ss : List St) : Int × Int := if ckPlant fs ss ≠ 0 then (0, ckPlant fs ss) else match patF fs ss with | none => (0, 11) | some n => (n, 0)
theorem Patience_fn (main : Side) (h : Hp) (fs : List Fl) (ss : List St) (vf vs : Value) (Eg : TypeId) (zg : Nat × Nat) (hf : Sl h Fl.row vf fs) (hs : Sl h St.row vs ss) (hg : h 0 = some (.cells #[rtV t_error] Eg zg)) :
  Pu prog main n_floor_Patience #[.agg #[vf, vs]] h (.tuple #[I (patV fs ss).1, I (patV fs ss).2]) := by
 obtain ⟨a, cap, rfl⟩ := hf.isSl
 obtain ⟨a', cap', rfl⟩ := hs.isSl
 refine Fnc.of_body at_floor_Patience rfl (by show 1 ≤ 21; decide) [(0, .agg #[.slice a fs.length cap, .slice a' ss.length cap'])] ⟨rfl, trivial⟩ ?_
 refine W.seq <| W.region rfl ?_
 refine Ops.box (fun β1 => ?_)
 refine qs rfl rfl rfl <| qs rfl rfl rfl <| nn <| W.seq <| W.seq <| W.region rfl ?_
 refine lq rfl ?_
 refine cp (fun h' hE hL => Check_fn _ h' _ _ _ _ (hf.ext hE) (hs.ext hE)) ?_
 refine qs rfl rfl rfl <| nn <| W.seq <| W.region rfl <| qm rfl rfl rfl ?_
 refine o1 (y_neq rfl rfl rfl) rfl ?_
 refine nn ?_
 refine W.condp rfl (fun c10 => ?_) (fun c10 => ?_)
 ·refine W.seq <| W.region rfl <| qm rfl rfl rfl <| qs rfl rfl rfl <| qs rfl rfl rfl <| nn <| W.ret <| thn_r ?_
  refine lvp ?_
  simp only [patV]; rw [if_pos c10]; rfl
 ·have h0 : ckPlant fs ss = 0 := by simpa using c10
  have e0 : patV fs ss = match patF fs ss with | none => (0, 11) | some n => (n, 0) := by simp only [patV]; rw [if_neg c10]
  refine W.skip <| thn_n <| W.seq <| W.region rfl ?_
  refine c0 (fun h' hE hL => numbers_fn _ h' 0 2 (by decide) (by decide) (by decide)) (fun v A' hv => ?_)
  obtain ⟨S, hS, hsb⟩ := hv
  refine Ops.sb (hsb.app .refl) ?_
  refine o1 (y_func rfl rfl rfl) rfl ?_
  refine cp (u := firstV (patF fs ss)) (fun h' hE hL => first_fn _ h' (nums 0 2) v _ (fun n => someR fs (waitS ss n) boundM) (hS.sl fun b o hb => hL b o (List.mem_append_left _ hb)) (by rw [nums, numsN_len]; decide) (fun h2 e n hn => ?_)) ?_
  ·have hnr : n = 0 ∨ n = 1 ∨ n = 2 := by simpa [nums, numsN] using hn
   exact patience1_fn _ h2 fs ss n _ _ β1 _ Eg _ zg ((hf.ext hE).ext e) ((hs.ext hE).ext e) h0 (by omega) (by omega) (e.1 _ _ (hL β1 _ (List.mem_append_right _ (.head _)))) (e.1 _ _ (hE.1 _ _ hg))
  refine qm rfl rfl rfl <| oq (y_extract rfl rfl rfl) rfl wn rfl rfl <| oq (y_extract rfl rfl rfl) rfl wn rfl rfl <| qs rfl rfl rfl <| qs rfl rfl rfl <| nn <| W.seq <| W.seq <| W.region rfl ?_
  refine qm rfl rfl rfl ?_
  refine o1 (y_not rfl rfl) rfl ?_
  refine nn ?_
  refine W.cond rfl (fun c19 => ?_) (fun c19 => ?_)
  ·refine W.seq <| W.region rfl <| qs rfl rfl rfl <| qs rfl rfl rfl <| nn <| W.ret <| thn_r ?_
   refine lvp (hs := hS.shut.app (.cons rfl .nil)) ?_
   have : patF fs ss = none := by simpa using c19
   rw [e0, this]; rfl
  ·refine W.skip <| thn_n <| W.seq <| W.region rfl <| qm rfl rfl rfl <| qs rfl rfl rfl <| qs rfl rfl rfl <| nn <| W.ret ?_
   refine lvp (hs := hS.shut.app (.cons rfl .nil)) ?_
   obtain ⟨n, hn⟩ : ∃ n, patF fs ss = some n := by
    cases hp : patF fs ss with
    | none => rw [hp] at c19; simp at c19
    | some n => exact ⟨n, rfl⟩
   rw [e0, hn]; rfl
end Go.Mus

/- The senders of a search. Conditions: none; over the given program. -/
namespace Go.Mus
set_option maxRecDepth 100000
set_option maxHeartbeats 4000000
theorem rights_len {fs : List Fl} {ss : List St} {may : May} : ∀ {m k : Nat} {q p : List Be}, p ∈ rights fs ss may m k q → p.length = q.length
 | 0, k, q, p, h => by
  simp only [rights] at h
  split at h
  ·have : p = q := by simpa using h
   rw [this]
  ·cases h
 | m + 1, k, q, p, h => by
  simp only [rights, List.mem_flatMap] at h
  obtain ⟨b, _, h⟩ := h
  split at h
  ·cases h
  ·rw [rights_len h, List.length_set]
theorem rights_sz {fs : List Fl} {ss : List St} {may : May} {l p : List Be} (hl : l.length ≤ 4) (h : p ∈ rightsOf fs ss may l) : p.length = 4 ∧ (flat Be.row p).toArray.size = 8 ∧ ones (flat Be.row p).toArray.toList = true := by
 have e : p.length = 4 := (rights_len h).trans (padB_len hl)
 exact ⟨e, by simp [flat_len, e], plan_ones⟩

theorem sender (h : Hp) (fs : List Fl) (ss : List St) (may : May) (b : Be) (vf vs mv : Value) (c b5 b1 b4 : Nat) (E5 E1 E4 Eg : TypeId) (z5 z1 z4 zg : Nat × Nat) (kc : Hp) (hf : Sl h Fl.row vf fs) (hs : Sl h St.row vs ss) (hm1 : one mv = true) (hall : HallOK fs ss) (hll : 1 ≤ ss.length) (hp : PlanOf fs ss (padB [b])) (hm : ∀ main h, MayV main mv may h)
  (h5 : h b5 = some (.cells #[.chan (some c)] E5 z5)) (h1 : h b1 = some (.cells #[vf, vs, mv] E1 z1)) (h4 : h b4 = some (.cells #[I b.fl, I b.day] E4 z4)) (hg : h 0 = some (.cells #[rtV t_error] Eg zg)) (S : Sat h [(c, gch ((rightsOf fs ss may [b]).map planV))] kc (· = c)) :
  Ch prog c (childG prog { target := .fn (.func n_floor_search_all_1) #[.pointer (some ⟨b5, 0, none⟩), .pointer (some ⟨b1, 0, none⟩), .pointer (some ⟨b4, 0, none⟩)], args := #[] }) kc (· = c) := by
 obtain ⟨a, cap, rfl⟩ := hf.isSl
 obtain ⟨a', cap', rfl⟩ := hs.isSl
 refine Ch.start (f := n_floor_search_all_1) at_floor_search_all_1 rfl rfl (by show 3 ≤ 12; decide) [(0, .pointer (some ⟨b5, 0, none⟩)), (1, .pointer (some ⟨b1, 0, none⟩)), (2, .pointer (some ⟨b4, 0, none⟩))] ⟨rfl, rfl, rfl, trivial⟩ S ?_
 refine W.seq <| W.region rfl ?_
 refine dq rfl ?_
 refine Ops.deferClose (c := c) ?_
 refine nn <| W.seq <| W.region rfl ?_
 refine lq rfl ?_
 refine lq rfl ?_
 refine Ops.bsl (cs := #[I b.fl, I b.day]) (fun β7 => ?_) rfl
 refine c0 (fun h' hE hL => right_fn _ h' (.slice a fs.length cap) (.slice a' ss.length cap') mv (.slice (some ⟨β7, 0, none⟩) 1 1) rfl rfl hm1 rfl) (fun v A' hv => ?_)
 obtain ⟨bb, bs, rfl, rfl⟩ := hv
 refine nn <| W.block ?_
 refine W.rangeN (σ := List (List Be)) (X := List Be) (enc := planV) (xs := rightsOf fs ss may [b]) rfl rfl rfl (fun s _ => s.tail) (fun _ _ => none) (fun p s => ∃ r, s = p :: r ∧ p ∈ rightsOf fs ss may [b]) (fun s A' => A' = [(c, gch (s.map planV))]) (fun _ _ => False) (rightsOf fs ss may [b]) (A₀ := [(c, gch ((rightsOf fs ss may [b]).map planV))]) (.tail (.tail (.tail .all))) rfl
  (fun h' hE hL => right_iter _ h' fs ss may [b] (.slice a fs.length cap) (.slice a' ss.length cap') mv (.slice (some ⟨β7, 0, none⟩) 1 1) bb bs _ _ _ _ _ _ (hf.ext hE) (hs.ext hE) (Sl.mk (hL β7 _ (.tail _ (.tail _ (.head _)))) rfl (Part.all [I b.fl, I b.day])) hm1 hall hll hp (hm _ h') (hL _ _ (.head _)) (hL _ _ (.tail _ (.head _))) (hE.1 _ _ hg)) (fun s p' e he => by cases he) (fun pre p post s' e hr => ?_) ?_ ?_
 ·rw [runs_tail] at hr
  injection hr with hr _
  injection hr with hr _
  rw [e] at hr
  exact ⟨post, by rw [← hr]; simp, by rw [e]; simp⟩
 ·rintro s p A1 ⟨r, rfl, hpr⟩ rfl l h1 - -
  obtain ⟨-, hsz, hon⟩ := rights_sz (by simp) hpr
  refine W.region rfl ?_
  refine Ops.new (fun β3 => ?_)
  first | refine Ops.stoW ?_ | refine Ops.stoA ?_
  refine Ops.nil ?_
  refine ⟨rfl, rfl, fun h0 hE0 hL0 => ?_⟩
  have h5' := hE0.1 _ _ h5
  refine W.block <| W.region rfl ?_
  refine dq rfl ?_
  refine lq rfl ?_
  refine Ops.send (c := c) (v := planV p) (l := r.map planV) (fun S h => h) rfl (nthO_get rfl) rfl wn rfl rfl rfl (.tail .head) ?_
  refine Ops.nil <| blk_n ?_
  exact ⟨rfl, rfl, _, rfl, .skip rfl .refl⟩
 ·intro s e A he hA d
  rw [runs_tail] at he
  cases he
  subst hA
  refine blk_n ?_
  refine ⟨.inr rfl, UnwC.marked (hl := At.head) ⟨rfl, rfl, ?_⟩⟩
  simp
end Go.Mus

/- All of an iterator's plans, collected. Conditions: none; over the given program. -/
namespace Go.Mus
set_option maxRecDepth 100000
set_option maxHeartbeats 4000000
/-- A plan in a list of plans. -/
def rowP (p : List Be) : List Value := (flat Be.row p ++ List.replicate 8 (I 0)).take 8
theorem ones_take : ∀ (l : List Value) (n : Nat), ones l = true → ones (l.take n) = true
 | [], n, _ => by simp; rfl
 | u :: l, 0, _ => rfl
 | u :: l, n + 1, h => by
  simp only [Mus.ones, Bool.and_eq_true] at h
  simp only [List.take_succ_cons, Mus.ones, Bool.and_eq_true]
  exact ⟨h.1, ones_take l n h.2⟩
instance : Rw rowP 8 := ⟨fun p => by simp [rowP], fun p => ones_take _ _ (by rw [ones_app, flat_ones]; rfl)⟩
theorem rowP_eq {p : List Be} (h : p.length = 4) : rowP p = flat Be.row p := by
 have e : (flat Be.row p).length = 8 := by rw [flat_len, h]
 rw [rowP, List.take_append_of_le_length (by omega), ← e, List.take_length]
theorem rowP_part {p : List Be} (h : p.length = 4) : Part (flat Be.row p).toArray 0 (flat rowP [p]) := by
 rw [flat_one, rowP_eq h]; exact Part.all _

theorem four {α : Type} {p : List α} (h : p.length = 4) : ∃ a b c d, p = [a, b, c, d] := by
 match p, h with
 | [a, b, c, d], _ => exact ⟨a, b, c, d, rfl⟩
theorem plan_fill {p : List Be} (h : p.length = 4) : Instr.fill (fun i => some (i * 8, 8)) ((List.range (1 * 8)).map (fun i => (#[I 0, I 0, I 0, I 0, I 0, I 0, I 0, I 0] : Array Value)[i % 8]!)).toArray ([0].zip [planV p]) = some (flat Be.row p).toArray := by
 obtain ⟨a, b, c, d, rfl⟩ := four h
 kernel_rfl

/-! How many right plans there are -/
theorem daysFrom_len {f : Int} : ∀ {m : Nat} {d : Int}, (daysFrom f d m).length = m
 | 0, _ => rfl
 | m + 1, d => by simp [daysFrom, daysFrom_len (m := m)]
theorem floorsFrom_len {s : St} : ∀ {m : Nat} {f : Int}, (floorsFrom s f m).length = m * (s.wa + 1).toNat
 | 0, _ => by simp [floorsFrom]
 | m + 1, f => by simp [floorsFrom, daysFrom_len, floorsFrom_len (m := m), Nat.succ_mul, Nat.add_comm]
theorem berthsK_len {fs : List Fl} {ss : List St} {may : May} {k : Nat} (hall : HallOK fs ss) (hk : k < ss.length) : (berthsK fs ss may k).length ≤ 13 := by
 obtain ⟨x, hx, -⟩ := has hk
 have hxe : stAt ss k = x := by simp [stAt, List.getD, hx]
 have hxo := hall.st x (List.mem_of_getElem? hx)
 have hnf := hall.nf
 have h1 : fs.length * (x.wa + 1).toNat ≤ 2 * 6 := Nat.mul_le_mul hnf.2 (by omega)
 unfold berthsK
 simp only [hxe]
 split <;> split <;> simp [floorsFrom_len] <;> omega
theorem flatMap_le {α β : Type} {g : α → List β} {n : Nat} : ∀ {l : List α}, (∀ a ∈ l, (g a).length ≤ n) → (l.flatMap g).length ≤ l.length * n
 | [], _ => by simp
 | a :: l, h => by
  rw [List.flatMap_cons, List.length_append, List.length_cons, Nat.succ_mul]
  have h1 := h a (List.mem_cons_self ..)
  have h2 := flatMap_le (l := l) fun b hb => h b (List.mem_cons_of_mem _ hb)
  omega
theorem rights_le {fs : List Fl} {ss : List St} {may : May} (hall : HallOK fs ss) : ∀ {m k : Nat} {p : List Be}, k + m ≤ ss.length → (rights fs ss may m k p).length ≤ 13 ^ m
 | 0, k, p, _ => by
  simp only [rights]
  split <;> simp
 | m + 1, k, p, h => by
  obtain ⟨B, hB⟩ : ∃ B, 13 ^ m = B := ⟨_, rfl⟩
  have hk : k < ss.length := by clear hB; omega
  have hk1 : k + 1 + m ≤ ss.length := by clear hB; omega
  have h1 := berthsK_len (may := may) hall hk
  have hr : ∀ b, (if prune fs ss (p.set k b) b then [] else rights fs ss may m (k + 1) (p.set k b)).length ≤ B := fun b => by
   by_cases hp : prune fs ss (p.set k b) b = true
   ·rw [if_pos hp]; exact Nat.zero_le _
   ·rw [if_neg hp, ← hB]; exact rights_le hall hk1
  have h2 := flatMap_le (l := berthsK fs ss may k) (n := B) fun b _ => hr b
  have h3 : (berthsK fs ss may k).length * B ≤ 13 * B := Nat.mul_le_mul_right _ h1
  rw [Nat.pow_succ, hB, Nat.mul_comm]
  rw [rights]
  exact Nat.le_trans h2 h3

theorem runs_snoc {X : Type} (xs : List X) : ∀ (pre : List X) (s : List X), runs (rstep (fun (s : List X) (p : X) => s ++ [p]) fun _ _ => none) (s, none) pre = ((s ++ pre, none), true)
 | [], s => by simp [runs]
 | p :: pre, s => by
  have h : runs (rstep (fun (s : List X) (p : X) => s ++ [p]) fun _ _ => none) (s, none) (p :: pre) = runs (rstep (fun (s : List X) (p : X) => s ++ [p]) fun _ _ => none) (s ++ [p], none) pre := by simp only [runs, rstep, Option.isNone_none]
  rw [h, runs_snoc xs pre]
  simp

theorem appendSeq_fn (main : Side) (h : Hp) (xs : List (List Be)) (fv : Value) (hf1 : one fv = true) (hi : Iter prog main fv planV xs h) (hx4 : ∀ p ∈ xs, p.length = 4) (hn : xs.length ≤ 100000) : Fnc prog main n_slices_AppendSeq_plan #[.slice none 0 0, fv] h [] (fun v A => ∃ S, Os t_plan rowP v xs S ∧ Sb S A) := by
 refine Fnc.of_body at_slices_AppendSeq_plan rfl (by show 2 ≤ 13; decide) [(0, .slice none 0 0), (1, fv)] ⟨rfl, rfl, trivial⟩ ?_
 refine W.seq <| W.region rfl ?_
 refine Ops.box (fun β2 => ?_)
 refine qs rfl rfl rfl <| nn <| W.seq <| W.seq <| W.region rfl <| qm rfl rfl rfl <| nn <| W.block ?_
 refine W.rangeN (σ := List (List Be)) (X := List Be) (enc := planV) (xs := xs) rfl rfl rfl (fun s p => s ++ [p]) (fun _ _ => none) (fun p s => ∃ post, xs = s ++ p :: post) (fun s A => ∃ v S, A = (β2, .cells #[v] t_sl_plan (0, 0)) :: S ∧ Os t_plan rowP v s S) (fun _ _ => False) [] .all ⟨_, _, rfl, .nil .nil⟩
  (fun h' hE hL => hi.ext hE) (fun s p' e he => by cases he) (fun pre p post s' e hr => ?_) ?_ ?_
 ·rw [runs_snoc xs] at hr
  injection hr with hr _
  injection hr with hr _
  exact ⟨post, by rw [← hr]; simpa using e⟩
 ·rintro s p A1 ⟨post, hpost⟩ ⟨v, S, rfl, hS⟩ l h1 - -
  have hp4 : p.length = 4 := hx4 p (by rw [hpost]; simp)
  have hsz : (flat Be.row p).toArray.size = 8 := by simp [flat_len, hp4]
  have hon : ones (flat Be.row p).toArray.toList = true := plan_ones
  have hsn : s.length + 1 ≤ xs.length := by rw [hpost]; simp
  refine W.region rfl ?_
  refine Ops.new (fun β5 => ?_)
  first | refine Ops.stoW ?_ | refine Ops.stoA ?_
  refine Ops.nil ?_
  refine ⟨rfl, rfl, fun h0 hE0 hL0 => ?_⟩
  refine W.block <| W.region rfl ?_
  refine dq rfl ?_
  refine lq rfl ?_
  refine Ops.bsl (cs := (flat Be.row p).toArray) (fun β10 => ?_) rfl (hf := by exact plan_fill hp4)
  refine oe rfl wn rfl rfl (e_append (row := rowP) (l' := [p]) rfl rfl rfl hS (.tail (.tail (.tail .all))) (fun h2 _ hl => Sl.mk (hl β10 _ (.head _)) rfl (rowP_part hp4)) (by simp; omega) (by decide) rfl (fun v' S' hS' => ?_))
  obtain ⟨an, capn, rfl⟩ := hS'.isSl
  refine Ops.sto ?_
  refine Ops.nil <| blk_n ?_
  exact ⟨rfl, rfl, _, ⟨_, S', rfl, hS'⟩, .skip rfl (.skip rfl .refl)⟩
 ·intro s e A he hA d
  rw [runs_snoc xs, List.nil_append] at he
  cases he
  obtain ⟨v, S, rfl, hS⟩ := hA
  refine blk_n <| thn_n <| W.seq <| W.region rfl ?_
  refine dq rfl ?_
  refine qs rfl rfl rfl <| nn <| W.ret ?_
  exact lvm (hl := At.head) (lvt (vs := [v]) ⟨S, hS, .skip rfl (.skip rfl .refl)⟩)

theorem collect_fn (main : Side) (h : Hp) (xs : List (List Be)) (fv : Value) (hf1 : one fv = true) (hi : Iter prog main fv planV xs h) (hx4 : ∀ p ∈ xs, p.length = 4) (hn : xs.length ≤ 100000) : Fnc prog main n_slices_Collect_plan #[fv] h [] (fun v A => ∃ S, Os t_plan rowP v xs S ∧ Sb S A) := by
 refine Fnc.of_body at_slices_Collect_plan rfl (by show 1 ≤ 5; decide) [(0, fv)] ⟨rfl, trivial⟩ ?_
 refine W.seq <| W.region rfl <| qs rfl rfl rfl <| nn <| W.seq <| W.region rfl <| qm rfl rfl rfl ?_
 refine c0 (fun h' hE hL => appendSeq_fn _ h' xs fv hf1 (hi.ext hE) hx4 hn) (fun v A' hv => ?_)
 obtain ⟨S, hS, hsb⟩ := hv
 refine qs rfl rfl rfl <| nn <| W.ret ?_
 exact lvt (vs := [v]) ⟨S, hS, by simpa using hsb⟩
end Go.Mus
