/- Names for the numbers of functions and types. Conditions: none. (And 11 texts more.) -/
import Derived.Test.YtnffnndmilpnoaaGreatDoorR05
set_option linter.unusedVariables false
set_option linter.unusedSimpArgs false
set_option linter.unusedSectionVars false

/- Names for the numbers of functions and types. Conditions: none. -/
namespace Go.Mus
noncomputable abbrev prog : Program := Go.Proofs.Tryz.prog
abbrev n_law_FloorStands : Nat := 3
noncomputable abbrev F_law_FloorStands : Func := Go.Proofs.Tryz.f3
theorem at_law_FloorStands : prog.funcs[n_law_FloorStands]? = some F_law_FloorStands := Go.Proofs.Tryz.func3
abbrev n_law_FloorBests : Nat := 4
noncomputable abbrev F_law_FloorBests : Func := Go.Proofs.Tryz.f4
theorem at_law_FloorBests : prog.funcs[n_law_FloorBests]? = some F_law_FloorBests := Go.Proofs.Tryz.func4
abbrev n_law_FloorLates : Nat := 5
noncomputable abbrev F_law_FloorLates : Func := Go.Proofs.Tryz.f5
theorem at_law_FloorLates : prog.funcs[n_law_FloorLates]? = some F_law_FloorLates := Go.Proofs.Tryz.func5
abbrev n_law_FloorWrongs : Nat := 6
noncomputable abbrev F_law_FloorWrongs : Func := Go.Proofs.Tryz.f6
theorem at_law_FloorWrongs : prog.funcs[n_law_FloorWrongs]? = some F_law_FloorWrongs := Go.Proofs.Tryz.func6
abbrev n_law_FloorNeeds : Nat := 7
noncomputable abbrev F_law_FloorNeeds : Func := Go.Proofs.Tryz.f7
theorem at_law_FloorNeeds : prog.funcs[n_law_FloorNeeds]? = some F_law_FloorNeeds := Go.Proofs.Tryz.func7
abbrev n_muscovadotop_TopLadled : Nat := 8
noncomputable abbrev F_muscovadotop_TopLadled : Func := Go.Proofs.Tryz.f8
theorem at_muscovadotop_TopLadled : prog.funcs[n_muscovadotop_TopLadled]? = some F_muscovadotop_TopLadled := Go.Proofs.Tryz.func8
abbrev n_law_vast : Nat := 9
noncomputable abbrev F_law_vast : Func := Go.Proofs.Tryz.f9
theorem at_law_vast : prog.funcs[n_law_vast]? = some F_law_vast := Go.Proofs.Tryz.func9
abbrev n_law_set : Nat := 10
noncomputable abbrev F_law_set : Func := Go.Proofs.Tryz.f10
theorem at_law_set : prog.funcs[n_law_set]? = some F_law_set := Go.Proofs.Tryz.func10
abbrev n_kit_NewHat : Nat := 11
noncomputable abbrev F_kit_NewHat : Func := Go.Proofs.Tryz.f11
theorem at_kit_NewHat : prog.funcs[n_kit_NewHat]? = some F_kit_NewHat := Go.Proofs.Tryz.func11
abbrev n_law_several : Nat := 12
noncomputable abbrev F_law_several : Func := Go.Proofs.Tryz.f12
theorem at_law_several : prog.funcs[n_law_several]? = some F_law_several := Go.Proofs.Tryz.func12
abbrev n_kit_BerthsOf : Nat := 13
noncomputable abbrev F_kit_BerthsOf : Func := Go.Proofs.Tryz.f13
theorem at_kit_BerthsOf : prog.funcs[n_kit_BerthsOf]? = some F_kit_BerthsOf := Go.Proofs.Tryz.func13
abbrev n_kit_Hat_To : Nat := 14
noncomputable abbrev F_kit_Hat_To : Func := Go.Proofs.Tryz.f14
theorem at_kit_Hat_To : prog.funcs[n_kit_Hat_To]? = some F_kit_Hat_To := Go.Proofs.Tryz.func14
abbrev n_kit_DupPlant : Nat := 15
noncomputable abbrev F_kit_DupPlant : Func := Go.Proofs.Tryz.f15
theorem at_kit_DupPlant : prog.funcs[n_kit_DupPlant]? = some F_kit_DupPlant := Go.Proofs.Tryz.func15
abbrev n_kit_DupBerths : Nat := 16
noncomputable abbrev F_kit_DupBerths : Func := Go.Proofs.Tryz.f16
theorem at_kit_DupBerths : prog.funcs[n_kit_DupBerths]? = some F_kit_DupBerths := Go.Proofs.Tryz.func16
abbrev n_floor_Check : Nat := 17
noncomputable abbrev F_floor_Check : Func := Go.Proofs.Tryz.f17
theorem at_floor_Check : prog.funcs[n_floor_Check]? = some F_floor_Check := Go.Proofs.Tryz.func17
abbrev n_ref_Check : Nat := 18
noncomputable abbrev F_ref_Check : Func := Go.Proofs.Tryz.f18
theorem at_ref_Check : prog.funcs[n_ref_Check]? = some F_ref_Check := Go.Proofs.Tryz.func18
abbrev n_floor_CheckPlan : Nat := 19
noncomputable abbrev F_floor_CheckPlan : Func := Go.Proofs.Tryz.f19
theorem at_floor_CheckPlan : prog.funcs[n_floor_CheckPlan]? = some F_floor_CheckPlan := Go.Proofs.Tryz.func19
abbrev n_ref_CheckPlan : Nat := 20
noncomputable abbrev F_ref_CheckPlan : Func := Go.Proofs.Tryz.f20
theorem at_ref_CheckPlan : prog.funcs[n_ref_CheckPlan]? = some F_ref_CheckPlan := Go.Proofs.Tryz.func20
abbrev n_floor_Stands : Nat := 21
noncomputable abbrev F_floor_Stands : Func := Go.Proofs.Tryz.f21
theorem at_floor_Stands : prog.funcs[n_floor_Stands]? = some F_floor_Stands := Go.Proofs.Tryz.func21
abbrev n_ref_Stands : Nat := 22
noncomputable abbrev F_ref_Stands : Func := Go.Proofs.Tryz.f22
theorem at_ref_Stands : prog.funcs[n_ref_Stands]? = some F_ref_Stands := Go.Proofs.Tryz.func22
abbrev n_floor_Empty : Nat := 23
noncomputable abbrev F_floor_Empty : Func := Go.Proofs.Tryz.f23
theorem at_floor_Empty : prog.funcs[n_floor_Empty]? = some F_floor_Empty := Go.Proofs.Tryz.func23
abbrev n_ref_Empty : Nat := 24
noncomputable abbrev F_ref_Empty : Func := Go.Proofs.Tryz.f24
theorem at_ref_Empty : prog.funcs[n_ref_Empty]? = some F_ref_Empty := Go.Proofs.Tryz.func24
abbrev n_kit_EqPlants : Nat := 25
noncomputable abbrev F_kit_EqPlants : Func := Go.Proofs.Tryz.f25
theorem at_kit_EqPlants : prog.funcs[n_kit_EqPlants]? = some F_kit_EqPlants := Go.Proofs.Tryz.func25
abbrev n_kit_EqBerths : Nat := 26
noncomputable abbrev F_kit_EqBerths : Func := Go.Proofs.Tryz.f26
theorem at_kit_EqBerths : prog.funcs[n_kit_EqBerths]? = some F_kit_EqBerths := Go.Proofs.Tryz.func26
abbrev n_floor_Best : Nat := 27
noncomputable abbrev F_floor_Best : Func := Go.Proofs.Tryz.f27
theorem at_floor_Best : prog.funcs[n_floor_Best]? = some F_floor_Best := Go.Proofs.Tryz.func27
abbrev n_ref_Best : Nat := 28
noncomputable abbrev F_ref_Best : Func := Go.Proofs.Tryz.f28
theorem at_ref_Best : prog.funcs[n_ref_Best]? = some F_ref_Best := Go.Proofs.Tryz.func28
abbrev n_floor_Count : Nat := 29
noncomputable abbrev F_floor_Count : Func := Go.Proofs.Tryz.f29
theorem at_floor_Count : prog.funcs[n_floor_Count]? = some F_floor_Count := Go.Proofs.Tryz.func29
abbrev n_ref_Count : Nat := 30
noncomputable abbrev F_ref_Count : Func := Go.Proofs.Tryz.f30
theorem at_ref_Count : prog.funcs[n_ref_Count]? = some F_ref_Count := Go.Proofs.Tryz.func30
abbrev n_floor_Late : Nat := 31
noncomputable abbrev F_floor_Late : Func := Go.Proofs.Tryz.f31
theorem at_floor_Late : prog.funcs[n_floor_Late]? = some F_floor_Late := Go.Proofs.Tryz.func31
abbrev n_ref_Late : Nat := 32
noncomputable abbrev F_ref_Late : Func := Go.Proofs.Tryz.f32
theorem at_ref_Late : prog.funcs[n_ref_Late]? = some F_ref_Late := Go.Proofs.Tryz.func32
abbrev n_floor_Verdict : Nat := 33
noncomputable abbrev F_floor_Verdict : Func := Go.Proofs.Tryz.f33
theorem at_floor_Verdict : prog.funcs[n_floor_Verdict]? = some F_floor_Verdict := Go.Proofs.Tryz.func33
abbrev n_ref_Verdict : Nat := 34
noncomputable abbrev F_ref_Verdict : Func := Go.Proofs.Tryz.f34
theorem at_ref_Verdict : prog.funcs[n_ref_Verdict]? = some F_ref_Verdict := Go.Proofs.Tryz.func34
abbrev n_floor_Wrong : Nat := 35
noncomputable abbrev F_floor_Wrong : Func := Go.Proofs.Tryz.f35
theorem at_floor_Wrong : prog.funcs[n_floor_Wrong]? = some F_floor_Wrong := Go.Proofs.Tryz.func35
abbrev n_ref_Wrong : Nat := 36
noncomputable abbrev F_ref_Wrong : Func := Go.Proofs.Tryz.f36
theorem at_ref_Wrong : prog.funcs[n_ref_Wrong]? = some F_ref_Wrong := Go.Proofs.Tryz.func36
abbrev n_floor_Ready : Nat := 37
noncomputable abbrev F_floor_Ready : Func := Go.Proofs.Tryz.f37
theorem at_floor_Ready : prog.funcs[n_floor_Ready]? = some F_floor_Ready := Go.Proofs.Tryz.func37
abbrev n_ref_Ready : Nat := 38
noncomputable abbrev F_ref_Ready : Func := Go.Proofs.Tryz.f38
theorem at_ref_Ready : prog.funcs[n_ref_Ready]? = some F_ref_Ready := Go.Proofs.Tryz.func38
abbrev n_floor_Doubt : Nat := 39
noncomputable abbrev F_floor_Doubt : Func := Go.Proofs.Tryz.f39
theorem at_floor_Doubt : prog.funcs[n_floor_Doubt]? = some F_floor_Doubt := Go.Proofs.Tryz.func39
abbrev n_ref_Doubt : Nat := 40
noncomputable abbrev F_ref_Doubt : Func := Go.Proofs.Tryz.f40
theorem at_ref_Doubt : prog.funcs[n_ref_Doubt]? = some F_ref_Doubt := Go.Proofs.Tryz.func40
abbrev n_kit_EqLists : Nat := 41
noncomputable abbrev F_kit_EqLists : Func := Go.Proofs.Tryz.f41
theorem at_kit_EqLists : prog.funcs[n_kit_EqLists]? = some F_kit_EqLists := Go.Proofs.Tryz.func41
abbrev n_floor_Patience : Nat := 42
noncomputable abbrev F_floor_Patience : Func := Go.Proofs.Tryz.f42
theorem at_floor_Patience : prog.funcs[n_floor_Patience]? = some F_floor_Patience := Go.Proofs.Tryz.func42
abbrev n_ref_Patience : Nat := 43
noncomputable abbrev F_ref_Patience : Func := Go.Proofs.Tryz.f43
theorem at_ref_Patience : prog.funcs[n_ref_Patience]? = some F_ref_Patience := Go.Proofs.Tryz.func43
abbrev n_floor_Need : Nat := 44
noncomputable abbrev F_floor_Need : Func := Go.Proofs.Tryz.f44
theorem at_floor_Need : prog.funcs[n_floor_Need]? = some F_floor_Need := Go.Proofs.Tryz.func44
abbrev n_ref_Need : Nat := 45
noncomputable abbrev F_ref_Need : Func := Go.Proofs.Tryz.f45
theorem at_ref_Need : prog.funcs[n_ref_Need]? = some F_ref_Need := Go.Proofs.Tryz.func45
abbrev n_floor_Slower : Nat := 46
noncomputable abbrev F_floor_Slower : Func := Go.Proofs.Tryz.f46
theorem at_floor_Slower : prog.funcs[n_floor_Slower]? = some F_floor_Slower := Go.Proofs.Tryz.func46
abbrev n_ref_Slower : Nat := 47
noncomputable abbrev F_ref_Slower : Func := Go.Proofs.Tryz.f47
theorem at_ref_Slower : prog.funcs[n_ref_Slower]? = some F_ref_Slower := Go.Proofs.Tryz.func47
abbrev n_kit_ProvedOf : Nat := 48
noncomputable abbrev F_kit_ProvedOf : Func := Go.Proofs.Tryz.f48
theorem at_kit_ProvedOf : prog.funcs[n_kit_ProvedOf]? = some F_kit_ProvedOf := Go.Proofs.Tryz.func48
abbrev n_kit_FloorOf : Nat := 49
noncomputable abbrev F_kit_FloorOf : Func := Go.Proofs.Tryz.f49
theorem at_kit_FloorOf : prog.funcs[n_kit_FloorOf]? = some F_kit_FloorOf := Go.Proofs.Tryz.func49
abbrev n_kit_Hat_One : Nat := 50
noncomputable abbrev F_kit_Hat_One : Func := Go.Proofs.Tryz.f50
theorem at_kit_Hat_One : prog.funcs[n_kit_Hat_One]? = some F_kit_Hat_One := Go.Proofs.Tryz.func50
abbrev n_thread_Strike : Nat := 51
noncomputable abbrev F_thread_Strike : Func := Go.Proofs.Tryz.f51
theorem at_thread_Strike : prog.funcs[n_thread_Strike]? = some F_thread_Strike := Go.Proofs.Tryz.func51
abbrev n_kit_Find : Nat := 52
noncomputable abbrev F_kit_Find : Func := Go.Proofs.Tryz.f52
theorem at_kit_Find : prog.funcs[n_kit_Find]? = some F_kit_Find := Go.Proofs.Tryz.func52
abbrev n_thread_Plan : Nat := 53
noncomputable abbrev F_thread_Plan : Func := Go.Proofs.Tryz.f53
theorem at_thread_Plan : prog.funcs[n_thread_Plan]? = some F_thread_Plan := Go.Proofs.Tryz.func53
abbrev n_muscovadotop_ladledAwake : Nat := 54
noncomputable abbrev F_muscovadotop_ladledAwake : Func := Go.Proofs.Tryz.f54
theorem at_muscovadotop_ladledAwake : prog.funcs[n_muscovadotop_ladledAwake]? = some F_muscovadotop_ladledAwake := Go.Proofs.Tryz.func54
abbrev n_law_plant : Nat := 55
noncomputable abbrev F_law_plant : Func := Go.Proofs.Tryz.f55
theorem at_law_plant : prog.funcs[n_law_plant]? = some F_law_plant := Go.Proofs.Tryz.func55
abbrev n_law_plan : Nat := 56
noncomputable abbrev F_law_plan : Func := Go.Proofs.Tryz.f56
theorem at_law_plan : prog.funcs[n_law_plan]? = some F_law_plan := Go.Proofs.Tryz.func56
abbrev n_law_none : Nat := 57
noncomputable abbrev F_law_none : Func := Go.Proofs.Tryz.f57
theorem at_law_none : prog.funcs[n_law_none]? = some F_law_none := Go.Proofs.Tryz.func57
abbrev n_kit_PlantOf : Nat := 58
noncomputable abbrev F_kit_PlantOf : Func := Go.Proofs.Tryz.f58
theorem at_kit_PlantOf : prog.funcs[n_kit_PlantOf]? = some F_kit_PlantOf := Go.Proofs.Tryz.func58
abbrev n_kit_Hat_Seldom : Nat := 59
noncomputable abbrev F_kit_Hat_Seldom : Func := Go.Proofs.Tryz.f59
theorem at_kit_Hat_Seldom : prog.funcs[n_kit_Hat_Seldom]? = some F_kit_Hat_Seldom := Go.Proofs.Tryz.func59
abbrev n_kit_Hat_stir : Nat := 60
noncomputable abbrev F_kit_Hat_stir : Func := Go.Proofs.Tryz.f60
theorem at_kit_Hat_stir : prog.funcs[n_kit_Hat_stir]? = some F_kit_Hat_stir := Go.Proofs.Tryz.func60
abbrev n_floor_checkFloor : Nat := 61
noncomputable abbrev F_floor_checkFloor : Func := Go.Proofs.Tryz.f61
theorem at_floor_checkFloor : prog.funcs[n_floor_checkFloor]? = some F_floor_checkFloor := Go.Proofs.Tryz.func61
abbrev n_floor_outside : Nat := 62
noncomputable abbrev F_floor_outside : Func := Go.Proofs.Tryz.f62
theorem at_floor_outside : prog.funcs[n_floor_outside]? = some F_floor_outside := Go.Proofs.Tryz.func62
abbrev n_ref_checkFloor : Nat := 63
noncomputable abbrev F_ref_checkFloor : Func := Go.Proofs.Tryz.f63
theorem at_ref_checkFloor : prog.funcs[n_ref_checkFloor]? = some F_ref_checkFloor := Go.Proofs.Tryz.func63
abbrev n_ref_among : Nat := 64
noncomputable abbrev F_ref_among : Func := Go.Proofs.Tryz.f64
theorem at_ref_among : prog.funcs[n_ref_among]? = some F_ref_among := Go.Proofs.Tryz.func64
abbrev n_floor_asked : Nat := 65
noncomputable abbrev F_floor_asked : Func := Go.Proofs.Tryz.f65
theorem at_floor_asked : prog.funcs[n_floor_asked]? = some F_floor_asked := Go.Proofs.Tryz.func65
abbrev n_floor_hall_stands : Nat := 66
noncomputable abbrev F_floor_hall_stands : Func := Go.Proofs.Tryz.f66
theorem at_floor_hall_stands : prog.funcs[n_floor_hall_stands]? = some F_floor_hall_stands := Go.Proofs.Tryz.func66
abbrev n_ref_asked : Nat := 67
noncomputable abbrev F_ref_asked : Func := Go.Proofs.Tryz.f67
theorem at_ref_asked : prog.funcs[n_ref_asked]? = some F_ref_asked := Go.Proofs.Tryz.func67
abbrev n_ref_stands : Nat := 68
noncomputable abbrev F_ref_stands : Func := Go.Proofs.Tryz.f68
theorem at_ref_stands : prog.funcs[n_ref_stands]? = some F_ref_stands := Go.Proofs.Tryz.func68
abbrev n_floor_hall_best : Nat := 69
noncomputable abbrev F_floor_hall_best : Func := Go.Proofs.Tryz.f69
theorem at_floor_hall_best : prog.funcs[n_floor_hall_best]? = some F_floor_hall_best := Go.Proofs.Tryz.func69
abbrev n_floor_hall_told : Nat := 70
noncomputable abbrev F_floor_hall_told : Func := Go.Proofs.Tryz.f70
theorem at_floor_hall_told : prog.funcs[n_floor_hall_told]? = some F_floor_hall_told := Go.Proofs.Tryz.func70
abbrev n_ref_Bests : Nat := 71
noncomputable abbrev F_ref_Bests : Func := Go.Proofs.Tryz.f71
theorem at_ref_Bests : prog.funcs[n_ref_Bests]? = some F_ref_Bests := Go.Proofs.Tryz.func71
abbrev n_floor_Late_1 : Nat := 72
noncomputable abbrev F_floor_Late_1 : Func := Go.Proofs.Tryz.f72
theorem at_floor_Late_1 : prog.funcs[n_floor_Late_1]? = some F_floor_Late_1 := Go.Proofs.Tryz.func72
abbrev n_floor_search_right : Nat := 73
noncomputable abbrev F_floor_search_right : Func := Go.Proofs.Tryz.f73
theorem at_floor_search_right : prog.funcs[n_floor_search_right]? = some F_floor_search_right := Go.Proofs.Tryz.func73
abbrev n_ref_served : Nat := 74
noncomputable abbrev F_ref_served : Func := Go.Proofs.Tryz.f74
theorem at_ref_served : prog.funcs[n_ref_served]? = some F_ref_served := Go.Proofs.Tryz.func74
abbrev n_errors_As : Nat := 75
noncomputable abbrev F_errors_As : Func := Go.Proofs.Tryz.f75
theorem at_errors_As : prog.funcs[n_errors_As]? = some F_errors_As := Go.Proofs.Tryz.func75
abbrev n_floor_hall_inspect : Nat := 76
noncomputable abbrev F_floor_hall_inspect : Func := Go.Proofs.Tryz.f76
theorem at_floor_hall_inspect : prog.funcs[n_floor_hall_inspect]? = some F_floor_hall_inspect := Go.Proofs.Tryz.func76
abbrev n_ref_wrong : Nat := 77
noncomputable abbrev F_ref_wrong : Func := Go.Proofs.Tryz.f77
theorem at_ref_wrong : prog.funcs[n_ref_wrong]? = some F_ref_wrong := Go.Proofs.Tryz.func77
abbrev n_kit_EqInts : Nat := 78
noncomputable abbrev F_kit_EqInts : Func := Go.Proofs.Tryz.f78
theorem at_kit_EqInts : prog.funcs[n_kit_EqInts]? = some F_kit_EqInts := Go.Proofs.Tryz.func78
abbrev n_floor_first_int : Nat := 79
noncomputable abbrev F_floor_first_int : Func := Go.Proofs.Tryz.f79
theorem at_floor_first_int : prog.funcs[n_floor_first_int]? = some F_floor_first_int := Go.Proofs.Tryz.func79
abbrev n_floor_numbers : Nat := 80
noncomputable abbrev F_floor_numbers : Func := Go.Proofs.Tryz.f80
theorem at_floor_numbers : prog.funcs[n_floor_numbers]? = some F_floor_numbers := Go.Proofs.Tryz.func80
abbrev n_floor_Patience_1 : Nat := 81
noncomputable abbrev F_floor_Patience_1 : Func := Go.Proofs.Tryz.f81
theorem at_floor_Patience_1 : prog.funcs[n_floor_Patience_1]? = some F_floor_Patience_1 := Go.Proofs.Tryz.func81
abbrev n_slices_Clone_Strike : Nat := 82
noncomputable abbrev F_slices_Clone_Strike : Func := Go.Proofs.Tryz.f82
theorem at_slices_Clone_Strike : prog.funcs[n_slices_Clone_Strike]? = some F_slices_Clone_Strike := Go.Proofs.Tryz.func82
abbrev n_floor_bound : Nat := 83
noncomputable abbrev F_floor_bound : Func := Go.Proofs.Tryz.f83
theorem at_floor_bound : prog.funcs[n_floor_bound]? = some F_floor_bound := Go.Proofs.Tryz.func83
abbrev n_floor_search_some : Nat := 84
noncomputable abbrev F_floor_search_some : Func := Go.Proofs.Tryz.f84
theorem at_floor_search_some : prog.funcs[n_floor_search_some]? = some F_floor_search_some := Go.Proofs.Tryz.func84
abbrev n_ref_all : Nat := 85
noncomputable abbrev F_ref_all : Func := Go.Proofs.Tryz.f85
theorem at_ref_all : prog.funcs[n_ref_all]? = some F_ref_all := Go.Proofs.Tryz.func85
abbrev n_ref_Waiting : Nat := 86
noncomputable abbrev F_ref_Waiting : Func := Go.Proofs.Tryz.f86
theorem at_ref_Waiting : prog.funcs[n_ref_Waiting]? = some F_ref_Waiting := Go.Proofs.Tryz.func86
abbrev n_floor_begin : Nat := 87
noncomputable abbrev F_floor_begin : Func := Go.Proofs.Tryz.f87
theorem at_floor_begin : prog.funcs[n_floor_begin]? = some F_floor_begin := Go.Proofs.Tryz.func87
abbrev n_floor_Need_1 : Nat := 88
noncomputable abbrev F_floor_Need_1 : Func := Go.Proofs.Tryz.f88
theorem at_floor_Need_1 : prog.funcs[n_floor_Need_1]? = some F_floor_Need_1 := Go.Proofs.Tryz.func88
abbrev n_floor_changed : Nat := 89
noncomputable abbrev F_floor_changed : Func := Go.Proofs.Tryz.f89
theorem at_floor_changed : prog.funcs[n_floor_changed]? = some F_floor_changed := Go.Proofs.Tryz.func89
abbrev n_floor_Need_1_1 : Nat := 90
noncomputable abbrev F_floor_Need_1_1 : Func := Go.Proofs.Tryz.f90
theorem at_floor_Need_1_1 : prog.funcs[n_floor_Need_1_1]? = some F_floor_Need_1_1 := Go.Proofs.Tryz.func90
abbrev n_ref_With : Nat := 91
noncomputable abbrev F_ref_With : Func := Go.Proofs.Tryz.f91
theorem at_ref_With : prog.funcs[n_ref_With]? = some F_ref_With := Go.Proofs.Tryz.func91
abbrev n_slices_Reverse_int : Nat := 92
noncomputable abbrev F_slices_Reverse_int : Func := Go.Proofs.Tryz.f92
theorem at_slices_Reverse_int : prog.funcs[n_slices_Reverse_int]? = some F_slices_Reverse_int := Go.Proofs.Tryz.func92
abbrev n_floor_Slower_1 : Nat := 93
noncomputable abbrev F_floor_Slower_1 : Func := Go.Proofs.Tryz.f93
theorem at_floor_Slower_1 : prog.funcs[n_floor_Slower_1]? = some F_floor_Slower_1 := Go.Proofs.Tryz.func93
abbrev n_floor_Slower_1_1 : Nat := 94
noncomputable abbrev F_floor_Slower_1_1 : Func := Go.Proofs.Tryz.f94
theorem at_floor_Slower_1_1 : prog.funcs[n_floor_Slower_1_1]? = some F_floor_Slower_1_1 := Go.Proofs.Tryz.func94
abbrev n_kit_BoilOf : Nat := 95
noncomputable abbrev F_kit_BoilOf : Func := Go.Proofs.Tryz.f95
theorem at_kit_BoilOf : prog.funcs[n_kit_BoilOf]? = some F_kit_BoilOf := Go.Proofs.Tryz.func95
abbrev n_kit_RunOf : Nat := 96
noncomputable abbrev F_kit_RunOf : Func := Go.Proofs.Tryz.f96
theorem at_kit_RunOf : prog.funcs[n_kit_RunOf]? = some F_kit_RunOf := Go.Proofs.Tryz.func96
abbrev n_kit_ProofOf : Nat := 97
noncomputable abbrev F_kit_ProofOf : Func := Go.Proofs.Tryz.f97
theorem at_kit_ProofOf : prog.funcs[n_kit_ProofOf]? = some F_kit_ProofOf := Go.Proofs.Tryz.func97
abbrev n_kit_Hat_From : Nat := 98
noncomputable abbrev F_kit_Hat_From : Func := Go.Proofs.Tryz.f98
theorem at_kit_Hat_From : prog.funcs[n_kit_Hat_From]? = some F_kit_Hat_From := Go.Proofs.Tryz.func98
abbrev n_thread_known : Nat := 99
noncomputable abbrev F_thread_known : Func := Go.Proofs.Tryz.f99
theorem at_thread_known : prog.funcs[n_thread_known]? = some F_thread_known := Go.Proofs.Tryz.func99
abbrev n_thread_boil_strike : Nat := 100
noncomputable abbrev F_thread_boil_strike : Func := Go.Proofs.Tryz.f100
theorem at_thread_boil_strike : prog.funcs[n_thread_boil_strike]? = some F_thread_boil_strike := Go.Proofs.Tryz.func100
abbrev n_thread_times_has : Nat := 101
noncomputable abbrev F_thread_times_has : Func := Go.Proofs.Tryz.f101
theorem at_thread_times_has : prog.funcs[n_thread_times_has]? = some F_thread_times_has := Go.Proofs.Tryz.func101
abbrev n_thread_boil_plan : Nat := 102
noncomputable abbrev F_thread_boil_plan : Func := Go.Proofs.Tryz.f102
theorem at_thread_boil_plan : prog.funcs[n_thread_boil_plan]? = some F_thread_boil_plan := Go.Proofs.Tryz.func102
abbrev n_thread_upto : Nat := 103
noncomputable abbrev F_thread_upto : Func := Go.Proofs.Tryz.f103
theorem at_thread_upto : prog.funcs[n_thread_upto]? = some F_thread_upto := Go.Proofs.Tryz.func103
abbrev n_floor_planOf : Nat := 104
noncomputable abbrev F_floor_planOf : Func := Go.Proofs.Tryz.f104
theorem at_floor_planOf : prog.funcs[n_floor_planOf]? = some F_floor_planOf := Go.Proofs.Tryz.func104
abbrev n_floor_hall_set : Nat := 105
noncomputable abbrev F_floor_hall_set : Func := Go.Proofs.Tryz.f105
theorem at_floor_hall_set : prog.funcs[n_floor_hall_set]? = some F_floor_hall_set := Go.Proofs.Tryz.func105
abbrev n_floor_most_add : Nat := 106
noncomputable abbrev F_floor_most_add : Func := Go.Proofs.Tryz.f106
theorem at_floor_most_add : prog.funcs[n_floor_most_add]? = some F_floor_most_add := Go.Proofs.Tryz.func106
abbrev n_floor_free : Nat := 107
noncomputable abbrev F_floor_free : Func := Go.Proofs.Tryz.f107
theorem at_floor_free : prog.funcs[n_floor_free]? = some F_floor_free := Go.Proofs.Tryz.func107
abbrev n_floor_search_all : Nat := 108
noncomputable abbrev F_floor_search_all : Func := Go.Proofs.Tryz.f108
theorem at_floor_search_all : prog.funcs[n_floor_search_all]? = some F_floor_search_all := Go.Proofs.Tryz.func108
abbrev n_floor_hall_loaves : Nat := 109
noncomputable abbrev F_floor_hall_loaves : Func := Go.Proofs.Tryz.f109
theorem at_floor_hall_loaves : prog.funcs[n_floor_hall_loaves]? = some F_floor_hall_loaves := Go.Proofs.Tryz.func109
abbrev n_slices_Clone_Berth : Nat := 110
noncomputable abbrev F_slices_Clone_Berth : Func := Go.Proofs.Tryz.f110
theorem at_slices_Clone_Berth : prog.funcs[n_slices_Clone_Berth]? = some F_slices_Clone_Berth := Go.Proofs.Tryz.func110
abbrev n_ref_Plans : Nat := 111
noncomputable abbrev F_ref_Plans : Func := Go.Proofs.Tryz.f111
theorem at_ref_Plans : prog.funcs[n_ref_Plans]? = some F_ref_Plans := Go.Proofs.Tryz.func111
abbrev n_ref_Loaves : Nat := 112
noncomputable abbrev F_ref_Loaves : Func := Go.Proofs.Tryz.f112
theorem at_ref_Loaves : prog.funcs[n_ref_Loaves]? = some F_ref_Loaves := Go.Proofs.Tryz.func112
abbrev n_floor_search_right_1 : Nat := 113
noncomputable abbrev F_floor_search_right_1 : Func := Go.Proofs.Tryz.f113
theorem at_floor_search_right_1 : prog.funcs[n_floor_search_right_1]? = some F_floor_search_right_1 := Go.Proofs.Tryz.func113
abbrev n_floor_search_right_1_1 : Nat := 114
noncomputable abbrev F_floor_search_right_1_1 : Func := Go.Proofs.Tryz.f114
theorem at_floor_search_right_1_1 : prog.funcs[n_floor_search_right_1_1]? = some F_floor_search_right_1_1 := Go.Proofs.Tryz.func114
abbrev n_floor_search_berths : Nat := 115
noncomputable abbrev F_floor_search_berths : Func := Go.Proofs.Tryz.f115
theorem at_floor_search_berths : prog.funcs[n_floor_search_berths]? = some F_floor_search_berths := Go.Proofs.Tryz.func115
abbrev n_floor_search_with : Nat := 116
noncomputable abbrev F_floor_search_with : Func := Go.Proofs.Tryz.f116
theorem at_floor_search_with : prog.funcs[n_floor_search_with]? = some F_floor_search_with := Go.Proofs.Tryz.func116
abbrev n_floor_search_right_1_1_1 : Nat := 117
noncomputable abbrev F_floor_search_right_1_1_1 : Func := Go.Proofs.Tryz.f117
theorem at_floor_search_right_1_1_1 : prog.funcs[n_floor_search_right_1_1_1]? = some F_floor_search_right_1_1_1 := Go.Proofs.Tryz.func117
abbrev n_reflectlite_ValueOf : Nat := 118
noncomputable abbrev F_reflectlite_ValueOf : Func := Go.Proofs.Tryz.f118
theorem at_reflectlite_ValueOf : prog.funcs[n_reflectlite_ValueOf]? = some F_reflectlite_ValueOf := Go.Proofs.Tryz.func118
abbrev n_reflectlite_Value_Type : Nat := 119
noncomputable abbrev F_reflectlite_Value_Type : Func := Go.Proofs.Tryz.f119
theorem at_reflectlite_Value_Type : prog.funcs[n_reflectlite_Value_Type]? = some F_reflectlite_Value_Type := Go.Proofs.Tryz.func119
abbrev n_reflectlite_Value_IsNil : Nat := 120
noncomputable abbrev F_reflectlite_Value_IsNil : Func := Go.Proofs.Tryz.f120
theorem at_reflectlite_Value_IsNil : prog.funcs[n_reflectlite_Value_IsNil]? = some F_reflectlite_Value_IsNil := Go.Proofs.Tryz.func120
abbrev n_errors_as : Nat := 121
noncomputable abbrev F_errors_as : Func := Go.Proofs.Tryz.f121
theorem at_errors_as : prog.funcs[n_errors_as]? = some F_errors_as := Go.Proofs.Tryz.func121
abbrev n_floor_hall_look : Nat := 122
noncomputable abbrev F_floor_hall_look : Func := Go.Proofs.Tryz.f122
theorem at_floor_hall_look : prog.funcs[n_floor_hall_look]? = some F_floor_hall_look := Go.Proofs.Tryz.func122
abbrev n_ref_bad : Nat := 123
noncomputable abbrev F_ref_bad : Func := Go.Proofs.Tryz.f123
theorem at_ref_bad : prog.funcs[n_ref_bad]? = some F_ref_bad := Go.Proofs.Tryz.func123
abbrev n_slices_IndexFunc_int : Nat := 124
noncomputable abbrev F_slices_IndexFunc_int : Func := Go.Proofs.Tryz.f124
theorem at_slices_IndexFunc_int : prog.funcs[n_slices_IndexFunc_int]? = some F_slices_IndexFunc_int := Go.Proofs.Tryz.func124
abbrev n_slices_Clone_Floor : Nat := 125
noncomputable abbrev F_slices_Clone_Floor : Func := Go.Proofs.Tryz.f125
theorem at_slices_Clone_Floor : prog.funcs[n_slices_Clone_Floor]? = some F_slices_Clone_Floor := Go.Proofs.Tryz.func125
abbrev n_kit_ThreadOf : Nat := 126
noncomputable abbrev F_kit_ThreadOf : Func := Go.Proofs.Tryz.f126
theorem at_kit_ThreadOf : prog.funcs[n_kit_ThreadOf]? = some F_kit_ThreadOf := Go.Proofs.Tryz.func126
abbrev n_kit_ThickOf : Nat := 127
noncomputable abbrev F_kit_ThickOf : Func := Go.Proofs.Tryz.f127
theorem at_kit_ThickOf : prog.funcs[n_kit_ThickOf]? = some F_kit_ThickOf := Go.Proofs.Tryz.func127
abbrev n_thread_open : Nat := 128
noncomputable abbrev F_thread_open : Func := Go.Proofs.Tryz.f128
theorem at_thread_open : prog.funcs[n_thread_open]? = some F_thread_open := Go.Proofs.Tryz.func128
abbrev n_thread_boil_thick : Nat := 129
noncomputable abbrev F_thread_boil_thick : Func := Go.Proofs.Tryz.f129
theorem at_thread_boil_thick : prog.funcs[n_thread_boil_thick]? = some F_thread_boil_thick := Go.Proofs.Tryz.func129
abbrev n_thread_boil_thread : Nat := 130
noncomputable abbrev F_thread_boil_thread : Func := Go.Proofs.Tryz.f130
theorem at_thread_boil_thread : prog.funcs[n_thread_boil_thread]? = some F_thread_boil_thread := Go.Proofs.Tryz.func130
abbrev n_thread_times_with : Nat := 131
noncomputable abbrev F_thread_times_with : Func := Go.Proofs.Tryz.f131
theorem at_thread_times_with : prog.funcs[n_thread_times_with]? = some F_thread_times_with := Go.Proofs.Tryz.func131
abbrev n_thread_boil_plan_1 : Nat := 132
noncomputable abbrev F_thread_boil_plan_1 : Func := Go.Proofs.Tryz.f132
theorem at_thread_boil_plan_1 : prog.funcs[n_thread_boil_plan_1]? = some F_thread_boil_plan_1 := Go.Proofs.Tryz.func132
abbrev n_thread_boil_plan_1_1 : Nat := 133
noncomputable abbrev F_thread_boil_plan_1_1 : Func := Go.Proofs.Tryz.f133
theorem at_thread_boil_plan_1_1 : prog.funcs[n_thread_boil_plan_1_1]? = some F_thread_boil_plan_1_1 := Go.Proofs.Tryz.func133
abbrev n_thread_boil_plan_2 : Nat := 134
noncomputable abbrev F_thread_boil_plan_2 : Func := Go.Proofs.Tryz.f134
theorem at_thread_boil_plan_2 : prog.funcs[n_thread_boil_plan_2]? = some F_thread_boil_plan_2 := Go.Proofs.Tryz.func134
abbrev n_floor_hall_set_1 : Nat := 135
noncomputable abbrev F_floor_hall_set_1 : Func := Go.Proofs.Tryz.f135
theorem at_floor_hall_set_1 : prog.funcs[n_floor_hall_set_1]? = some F_floor_hall_set_1 := Go.Proofs.Tryz.func135
abbrev n_slices_SortStableFunc_int : Nat := 136
noncomputable abbrev F_slices_SortStableFunc_int : Func := Go.Proofs.Tryz.f136
theorem at_slices_SortStableFunc_int : prog.funcs[n_slices_SortStableFunc_int]? = some F_slices_SortStableFunc_int := Go.Proofs.Tryz.func136
abbrev n_floor_hall_set_1_1 : Nat := 137
noncomputable abbrev F_floor_hall_set_1_1 : Func := Go.Proofs.Tryz.f137
theorem at_floor_hall_set_1_1 : prog.funcs[n_floor_hall_set_1_1]? = some F_floor_hall_set_1_1 := Go.Proofs.Tryz.func137
abbrev n_slices_Collect_plan : Nat := 138
noncomputable abbrev F_slices_Collect_plan : Func := Go.Proofs.Tryz.f138
theorem at_slices_Collect_plan : prog.funcs[n_slices_Collect_plan]? = some F_slices_Collect_plan := Go.Proofs.Tryz.func138
abbrev n_floor_search_all_1 : Nat := 139
noncomputable abbrev F_floor_search_all_1 : Func := Go.Proofs.Tryz.f139
theorem at_floor_search_all_1 : prog.funcs[n_floor_search_all_1]? = some F_floor_search_all_1 := Go.Proofs.Tryz.func139
abbrev n_ref_full : Nat := 140
noncomputable abbrev F_ref_full : Func := Go.Proofs.Tryz.f140
theorem at_ref_full : prog.funcs[n_ref_full]? = some F_ref_full := Go.Proofs.Tryz.func140
abbrev n_floor_search_berths_1 : Nat := 141
noncomputable abbrev F_floor_search_berths_1 : Func := Go.Proofs.Tryz.f141
theorem at_floor_search_berths_1 : prog.funcs[n_floor_search_berths_1]? = some F_floor_search_berths_1 := Go.Proofs.Tryz.func141
abbrev n_floor_search_with_1 : Nat := 142
noncomputable abbrev F_floor_search_with_1 : Func := Go.Proofs.Tryz.f142
theorem at_floor_search_with_1 : prog.funcs[n_floor_search_with_1]? = some F_floor_search_with_1 := Go.Proofs.Tryz.func142
abbrev n_reflectlite_TypeOf : Nat := 143
noncomputable abbrev F_reflectlite_TypeOf : Func := Go.Proofs.Tryz.f143
theorem at_reflectlite_TypeOf : prog.funcs[n_reflectlite_TypeOf]? = some F_reflectlite_TypeOf := Go.Proofs.Tryz.func143
abbrev n_reflectlite_Value_Elem : Nat := 144
noncomputable abbrev F_reflectlite_Value_Elem : Func := Go.Proofs.Tryz.f144
theorem at_reflectlite_Value_Elem : prog.funcs[n_reflectlite_Value_Elem]? = some F_reflectlite_Value_Elem := Go.Proofs.Tryz.func144
abbrev n_reflectlite_Value_Set : Nat := 145
noncomputable abbrev F_reflectlite_Value_Set : Func := Go.Proofs.Tryz.f145
theorem at_reflectlite_Value_Set : prog.funcs[n_reflectlite_Value_Set]? = some F_reflectlite_Value_Set := Go.Proofs.Tryz.func145
abbrev n_ref_set : Nat := 146
noncomputable abbrev F_ref_set : Func := Go.Proofs.Tryz.f146
theorem at_ref_set : prog.funcs[n_ref_set]? = some F_ref_set := Go.Proofs.Tryz.func146
abbrev n_thread_Check : Nat := 147
noncomputable abbrev F_thread_Check : Func := Go.Proofs.Tryz.f147
theorem at_thread_Check : prog.funcs[n_thread_Check]? = some F_thread_Check := Go.Proofs.Tryz.func147
abbrev n_thread_within : Nat := 148
noncomputable abbrev F_thread_within : Func := Go.Proofs.Tryz.f148
theorem at_thread_within : prog.funcs[n_thread_within]? = some F_thread_within := Go.Proofs.Tryz.func148
abbrev n_thread_newBoil : Nat := 149
noncomputable abbrev F_thread_newBoil : Func := Go.Proofs.Tryz.f149
theorem at_thread_newBoil : prog.funcs[n_thread_newBoil]? = some F_thread_newBoil := Go.Proofs.Tryz.func149
abbrev n_thread_boil_add : Nat := 150
noncomputable abbrev F_thread_boil_add : Func := Go.Proofs.Tryz.f150
theorem at_thread_boil_add : prog.funcs[n_thread_boil_add]? = some F_thread_boil_add := Go.Proofs.Tryz.func150
abbrev n_slices_stableCmpFunc_int : Nat := 151
noncomputable abbrev F_slices_stableCmpFunc_int : Func := Go.Proofs.Tryz.f151
theorem at_slices_stableCmpFunc_int : prog.funcs[n_slices_stableCmpFunc_int]? = some F_slices_stableCmpFunc_int := Go.Proofs.Tryz.func151
abbrev n_slices_AppendSeq_plan : Nat := 152
noncomputable abbrev F_slices_AppendSeq_plan : Func := Go.Proofs.Tryz.f152
theorem at_slices_AppendSeq_plan : prog.funcs[n_slices_AppendSeq_plan]? = some F_slices_AppendSeq_plan := Go.Proofs.Tryz.func152
abbrev n_thread_checkSpans : Nat := 153
noncomputable abbrev F_thread_checkSpans : Func := Go.Proofs.Tryz.f153
theorem at_thread_checkSpans : prog.funcs[n_thread_checkSpans]? = some F_thread_checkSpans := Go.Proofs.Tryz.func153
abbrev n_thread_checkMarks : Nat := 154
noncomputable abbrev F_thread_checkMarks : Func := Go.Proofs.Tryz.f154
theorem at_thread_checkMarks : prog.funcs[n_thread_checkMarks]? = some F_thread_checkMarks := Go.Proofs.Tryz.func154
abbrev n_thread_checkProof : Nat := 155
noncomputable abbrev F_thread_checkProof : Func := Go.Proofs.Tryz.f155
theorem at_thread_checkProof : prog.funcs[n_thread_checkProof]? = some F_thread_checkProof := Go.Proofs.Tryz.func155
abbrev n_thread_boil_groups : Nat := 156
noncomputable abbrev F_thread_boil_groups : Func := Go.Proofs.Tryz.f156
theorem at_thread_boil_groups : prog.funcs[n_thread_boil_groups]? = some F_thread_boil_groups := Go.Proofs.Tryz.func156
abbrev n_thread_heats_sum : Nat := 157
noncomputable abbrev F_thread_heats_sum : Func := Go.Proofs.Tryz.f157
theorem at_thread_heats_sum : prog.funcs[n_thread_heats_sum]? = some F_thread_heats_sum := Go.Proofs.Tryz.func157
abbrev n_slices_insertionSortCmpFunc_int : Nat := 158
noncomputable abbrev F_slices_insertionSortCmpFunc_int : Func := Go.Proofs.Tryz.f158
theorem at_slices_insertionSortCmpFunc_int : prog.funcs[n_slices_insertionSortCmpFunc_int]? = some F_slices_insertionSortCmpFunc_int := Go.Proofs.Tryz.func158
abbrev n_slices_symMergeCmpFunc_int : Nat := 159
noncomputable abbrev F_slices_symMergeCmpFunc_int : Func := Go.Proofs.Tryz.f159
theorem at_slices_symMergeCmpFunc_int : prog.funcs[n_slices_symMergeCmpFunc_int]? = some F_slices_symMergeCmpFunc_int := Go.Proofs.Tryz.func159
abbrev n_thread_checkSpan : Nat := 160
noncomputable abbrev F_thread_checkSpan : Func := Go.Proofs.Tryz.f160
theorem at_thread_checkSpan : prog.funcs[n_thread_checkSpan]? = some F_thread_checkSpan := Go.Proofs.Tryz.func160
abbrev n_thread_boil_groups_1 : Nat := 161
noncomputable abbrev F_thread_boil_groups_1 : Func := Go.Proofs.Tryz.f161
theorem at_thread_boil_groups_1 : prog.funcs[n_thread_boil_groups_1]? = some F_thread_boil_groups_1 := Go.Proofs.Tryz.func161
abbrev n_thread_boil_groups_1_1 : Nat := 162
noncomputable abbrev F_thread_boil_groups_1_1 : Func := Go.Proofs.Tryz.f162
theorem at_thread_boil_groups_1_1 : prog.funcs[n_thread_boil_groups_1_1]? = some F_thread_boil_groups_1_1 := Go.Proofs.Tryz.func162
abbrev n_thread_boil_group : Nat := 163
noncomputable abbrev F_thread_boil_group : Func := Go.Proofs.Tryz.f163
theorem at_thread_boil_group : prog.funcs[n_thread_boil_group]? = some F_thread_boil_group := Go.Proofs.Tryz.func163
abbrev n_slices_rotateCmpFunc_int : Nat := 164
noncomputable abbrev F_slices_rotateCmpFunc_int : Func := Go.Proofs.Tryz.f164
theorem at_slices_rotateCmpFunc_int : prog.funcs[n_slices_rotateCmpFunc_int]? = some F_slices_rotateCmpFunc_int := Go.Proofs.Tryz.func164
abbrev n_thread_boil_marks : Nat := 165
noncomputable abbrev F_thread_boil_marks : Func := Go.Proofs.Tryz.f165
theorem at_thread_boil_marks : prog.funcs[n_thread_boil_marks]? = some F_thread_boil_marks := Go.Proofs.Tryz.func165
abbrev n_thread_meet : Nat := 166
noncomputable abbrev F_thread_meet : Func := Go.Proofs.Tryz.f166
theorem at_thread_meet : prog.funcs[n_thread_meet]? = some F_thread_meet := Go.Proofs.Tryz.func166
abbrev n_thread_numbers : Nat := 167
noncomputable abbrev F_thread_numbers : Func := Go.Proofs.Tryz.f167
theorem at_thread_numbers : prog.funcs[n_thread_numbers]? = some F_thread_numbers := Go.Proofs.Tryz.func167
abbrev n_slices_swapRangeCmpFunc_int : Nat := 168
noncomputable abbrev F_slices_swapRangeCmpFunc_int : Func := Go.Proofs.Tryz.f168
theorem at_slices_swapRangeCmpFunc_int : prog.funcs[n_slices_swapRangeCmpFunc_int]? = some F_slices_swapRangeCmpFunc_int := Go.Proofs.Tryz.func168
abbrev n_runtime_boundsError_Error : Nat := 169
noncomputable abbrev F_runtime_boundsError_Error : Func := Go.Proofs.Tryz.f169
theorem at_runtime_boundsError_Error : prog.funcs[n_runtime_boundsError_Error]? = some F_runtime_boundsError_Error := Go.Proofs.Tryz.func169
abbrev n_runtime_boundsError_RuntimeError : Nat := 170
noncomputable abbrev F_runtime_boundsError_RuntimeError : Func := Go.Proofs.Tryz.f170
theorem at_runtime_boundsError_RuntimeError : prog.funcs[n_runtime_boundsError_RuntimeError]? = some F_runtime_boundsError_RuntimeError := Go.Proofs.Tryz.func170
abbrev n_runtime_errorString_Error : Nat := 171
noncomputable abbrev F_runtime_errorString_Error : Func := Go.Proofs.Tryz.f171
theorem at_runtime_errorString_Error : prog.funcs[n_runtime_errorString_Error]? = some F_runtime_errorString_Error := Go.Proofs.Tryz.func171
abbrev n_runtime_errorString_RuntimeError : Nat := 172
noncomputable abbrev F_runtime_errorString_RuntimeError : Func := Go.Proofs.Tryz.f172
theorem at_runtime_errorString_RuntimeError : prog.funcs[n_runtime_errorString_RuntimeError]? = some F_runtime_errorString_RuntimeError := Go.Proofs.Tryz.func172
abbrev n_runtime_plainError_Error : Nat := 173
noncomputable abbrev F_runtime_plainError_Error : Func := Go.Proofs.Tryz.f173
theorem at_runtime_plainError_Error : prog.funcs[n_runtime_plainError_Error]? = some F_runtime_plainError_Error := Go.Proofs.Tryz.func173
abbrev n_runtime_plainError_RuntimeError : Nat := 174
noncomputable abbrev F_runtime_plainError_RuntimeError : Func := Go.Proofs.Tryz.f174
theorem at_runtime_plainError_RuntimeError : prog.funcs[n_runtime_plainError_RuntimeError]? = some F_runtime_plainError_RuntimeError := Go.Proofs.Tryz.func174
abbrev n_runtime_errorAddressString_Error : Nat := 175
noncomputable abbrev F_runtime_errorAddressString_Error : Func := Go.Proofs.Tryz.f175
theorem at_runtime_errorAddressString_Error : prog.funcs[n_runtime_errorAddressString_Error]? = some F_runtime_errorAddressString_Error := Go.Proofs.Tryz.func175
abbrev n_runtime_errorAddressString_RuntimeError : Nat := 176
noncomputable abbrev F_runtime_errorAddressString_RuntimeError : Func := Go.Proofs.Tryz.f176
theorem at_runtime_errorAddressString_RuntimeError : prog.funcs[n_runtime_errorAddressString_RuntimeError]? = some F_runtime_errorAddressString_RuntimeError := Go.Proofs.Tryz.func176
abbrev n_runtime_TypeAssertionError_Error : Nat := 177
noncomputable abbrev F_runtime_TypeAssertionError_Error : Func := Go.Proofs.Tryz.f177
theorem at_runtime_TypeAssertionError_Error : prog.funcs[n_runtime_TypeAssertionError_Error]? = some F_runtime_TypeAssertionError_Error := Go.Proofs.Tryz.func177
abbrev n_runtime_TypeAssertionError_RuntimeError : Nat := 178
noncomputable abbrev F_runtime_TypeAssertionError_RuntimeError : Func := Go.Proofs.Tryz.f178
theorem at_runtime_TypeAssertionError_RuntimeError : prog.funcs[n_runtime_TypeAssertionError_RuntimeError]? = some F_runtime_TypeAssertionError_RuntimeError := Go.Proofs.Tryz.func178
abbrev n_runtime_PanicNilError_Error : Nat := 179
noncomputable abbrev F_runtime_PanicNilError_Error : Func := Go.Proofs.Tryz.f179
theorem at_runtime_PanicNilError_Error : prog.funcs[n_runtime_PanicNilError_Error]? = some F_runtime_PanicNilError_Error := Go.Proofs.Tryz.func179
abbrev n_runtime_PanicNilError_RuntimeError : Nat := 180
noncomputable abbrev F_runtime_PanicNilError_RuntimeError : Func := Go.Proofs.Tryz.f180
theorem at_runtime_PanicNilError_RuntimeError : prog.funcs[n_runtime_PanicNilError_RuntimeError]? = some F_runtime_PanicNilError_RuntimeError := Go.Proofs.Tryz.func180
abbrev n_abi_Type_Align : Nat := 181
noncomputable abbrev F_abi_Type_Align : Func := Go.Proofs.Tryz.f181
theorem at_abi_Type_Align : prog.funcs[n_abi_Type_Align]? = some F_abi_Type_Align := Go.Proofs.Tryz.func181
abbrev n_abi_Type_Elem : Nat := 182
noncomputable abbrev F_abi_Type_Elem : Func := Go.Proofs.Tryz.f182
theorem at_abi_Type_Elem : prog.funcs[n_abi_Type_Elem]? = some F_abi_Type_Elem := Go.Proofs.Tryz.func182
abbrev n_abi_Type_Kind : Nat := 183
noncomputable abbrev F_abi_Type_Kind : Func := Go.Proofs.Tryz.f183
theorem at_abi_Type_Kind : prog.funcs[n_abi_Type_Kind]? = some F_abi_Type_Kind := Go.Proofs.Tryz.func183
abbrev n_runtime_maps_unhashableTypeError_Error : Nat := 184
noncomputable abbrev F_runtime_maps_unhashableTypeError_Error : Func := Go.Proofs.Tryz.f184
theorem at_runtime_maps_unhashableTypeError_Error : prog.funcs[n_runtime_maps_unhashableTypeError_Error]? = some F_runtime_maps_unhashableTypeError_Error := Go.Proofs.Tryz.func184
abbrev n_runtime_maps_unhashableTypeError_RuntimeError : Nat := 185
noncomputable abbrev F_runtime_maps_unhashableTypeError_RuntimeError : Func := Go.Proofs.Tryz.f185
theorem at_runtime_maps_unhashableTypeError_RuntimeError : prog.funcs[n_runtime_maps_unhashableTypeError_RuntimeError]? = some F_runtime_maps_unhashableTypeError_RuntimeError := Go.Proofs.Tryz.func185
abbrev n_api_Errno_Error : Nat := 186
noncomputable abbrev F_api_Errno_Error : Func := Go.Proofs.Tryz.f186
theorem at_api_Errno_Error : prog.funcs[n_api_Errno_Error]? = some F_api_Errno_Error := Go.Proofs.Tryz.func186
abbrev n_floor_wrong_Error : Nat := 187
noncomputable abbrev F_floor_wrong_Error : Func := Go.Proofs.Tryz.f187
theorem at_floor_wrong_Error : prog.funcs[n_floor_wrong_Error]? = some F_floor_wrong_Error := Go.Proofs.Tryz.func187
abbrev n_thread_boil_all : Nat := 188
noncomputable abbrev F_thread_boil_all : Func := Go.Proofs.Tryz.f188
theorem at_thread_boil_all : prog.funcs[n_thread_boil_all]? = some F_thread_boil_all := Go.Proofs.Tryz.func188
abbrev n_reflectlite_flag_mustBeAssignable : Nat := 189
noncomputable abbrev F_reflectlite_flag_mustBeAssignable : Func := Go.Proofs.Tryz.f189
theorem at_reflectlite_flag_mustBeAssignable : prog.funcs[n_reflectlite_flag_mustBeAssignable]? = some F_reflectlite_flag_mustBeAssignable := Go.Proofs.Tryz.func189
abbrev n_reflectlite_Value_Kind : Nat := 190
noncomputable abbrev F_reflectlite_Value_Kind : Func := Go.Proofs.Tryz.f190
theorem at_reflectlite_Value_Kind : prog.funcs[n_reflectlite_Value_Kind]? = some F_reflectlite_Value_Kind := Go.Proofs.Tryz.func190
abbrev n_abi_Kind_String : Nat := 191
noncomputable abbrev F_abi_Kind_String : Func := Go.Proofs.Tryz.f191
theorem at_abi_Kind_String : prog.funcs[n_abi_Kind_String]? = some F_abi_Kind_String := Go.Proofs.Tryz.func191
abbrev n_abi_Type_Size : Nat := 192
noncomputable abbrev F_abi_Type_Size : Func := Go.Proofs.Tryz.f192
theorem at_abi_Type_Size : prog.funcs[n_abi_Type_Size]? = some F_abi_Type_Size := Go.Proofs.Tryz.func192
abbrev n_reflectlite_rtype_AssignableTo : Nat := 193
noncomputable abbrev F_reflectlite_rtype_AssignableTo : Func := Go.Proofs.Tryz.f193
theorem at_reflectlite_rtype_AssignableTo : prog.funcs[n_reflectlite_rtype_AssignableTo]? = some F_reflectlite_rtype_AssignableTo := Go.Proofs.Tryz.func193
abbrev n_reflectlite_rtype_Comparable : Nat := 194
noncomputable abbrev F_reflectlite_rtype_Comparable : Func := Go.Proofs.Tryz.f194
theorem at_reflectlite_rtype_Comparable : prog.funcs[n_reflectlite_rtype_Comparable]? = some F_reflectlite_rtype_Comparable := Go.Proofs.Tryz.func194
abbrev n_reflectlite_rtype_Elem : Nat := 195
noncomputable abbrev F_reflectlite_rtype_Elem : Func := Go.Proofs.Tryz.f195
theorem at_reflectlite_rtype_Elem : prog.funcs[n_reflectlite_rtype_Elem]? = some F_reflectlite_rtype_Elem := Go.Proofs.Tryz.func195
abbrev n_reflectlite_rtype_Implements : Nat := 196
noncomputable abbrev F_reflectlite_rtype_Implements : Func := Go.Proofs.Tryz.f196
theorem at_reflectlite_rtype_Implements : prog.funcs[n_reflectlite_rtype_Implements]? = some F_reflectlite_rtype_Implements := Go.Proofs.Tryz.func196
abbrev n_reflectlite_rtype_Name : Nat := 197
noncomputable abbrev F_reflectlite_rtype_Name : Func := Go.Proofs.Tryz.f197
theorem at_reflectlite_rtype_Name : prog.funcs[n_reflectlite_rtype_Name]? = some F_reflectlite_rtype_Name := Go.Proofs.Tryz.func197
abbrev n_reflectlite_rtype_PkgPath : Nat := 198
noncomputable abbrev F_reflectlite_rtype_PkgPath : Func := Go.Proofs.Tryz.f198
theorem at_reflectlite_rtype_PkgPath : prog.funcs[n_reflectlite_rtype_PkgPath]? = some F_reflectlite_rtype_PkgPath := Go.Proofs.Tryz.func198
abbrev n_reflectlite_rtype_String : Nat := 199
noncomputable abbrev F_reflectlite_rtype_String : Func := Go.Proofs.Tryz.f199
theorem at_reflectlite_rtype_String : prog.funcs[n_reflectlite_rtype_String]? = some F_reflectlite_rtype_String := Go.Proofs.Tryz.func199
abbrev n_reflectlite_rtype_common : Nat := 200
noncomputable abbrev F_reflectlite_rtype_common : Func := Go.Proofs.Tryz.f200
theorem at_reflectlite_rtype_common : prog.funcs[n_reflectlite_rtype_common]? = some F_reflectlite_rtype_common := Go.Proofs.Tryz.func200
abbrev n_reflectlite_rtype_uncommon : Nat := 201
noncomputable abbrev F_reflectlite_rtype_uncommon : Func := Go.Proofs.Tryz.f201
theorem at_reflectlite_rtype_uncommon : prog.funcs[n_reflectlite_rtype_uncommon]? = some F_reflectlite_rtype_uncommon := Go.Proofs.Tryz.func201
abbrev n_reflectlite_ValueError_Error : Nat := 202
noncomputable abbrev F_reflectlite_ValueError_Error : Func := Go.Proofs.Tryz.f202
theorem at_reflectlite_ValueError_Error : prog.funcs[n_reflectlite_ValueError_Error]? = some F_reflectlite_ValueError_Error := Go.Proofs.Tryz.func202
abbrev n_floor_full_day : Nat := 203
noncomputable abbrev F_floor_full_day : Func := Go.Proofs.Tryz.f203
theorem at_floor_full_day : prog.funcs[n_floor_full_day]? = some F_floor_full_day := Go.Proofs.Tryz.func203
abbrev n_floor_cold_day : Nat := 204
noncomputable abbrev F_floor_cold_day : Func := Go.Proofs.Tryz.f204
theorem at_floor_cold_day : prog.funcs[n_floor_cold_day]? = some F_floor_cold_day := Go.Proofs.Tryz.func204
abbrev n_abi_UncommonType_ExportedMethods : Nat := 205
noncomputable abbrev F_abi_UncommonType_ExportedMethods : Func := Go.Proofs.Tryz.f205
theorem at_abi_UncommonType_ExportedMethods : prog.funcs[n_abi_UncommonType_ExportedMethods]? = some F_abi_UncommonType_ExportedMethods := Go.Proofs.Tryz.func205
abbrev t_int64 : TypeId := 2
abbrev t_int : TypeId := 3
abbrev t_bool : TypeId := 4
abbrev t_uint8 : TypeId := 5
abbrev t_abi_BoundsErrorCode : TypeId := 6
abbrev t_runtime_boundsError : TypeId := 8
abbrev t_string : TypeId := 9
abbrev t_runtime_errorString : TypeId := 10
abbrev t_runtime_plainError : TypeId := 11
abbrev t_uintptr : TypeId := 12
abbrev t_runtime_errorAddressString : TypeId := 14
abbrev t_p_runtime_TypeAssertionError : TypeId := 15
abbrev t_p_runtime_PanicNilError : TypeId := 16
abbrev t_p_abi_Type : TypeId := 17
abbrev t_maps_unhashableTypeError : TypeId := 19
abbrev t_any : TypeId := 20
abbrev t_int32 : TypeId := 21
abbrev t_sl_Floor : TypeId := 22
abbrev t_sl_Strike : TypeId := 23
abbrev t_Plant : TypeId := 25
abbrev t_Span : TypeId := 27
abbrev t_Floor : TypeId := 29
abbrev t_Strike : TypeId := 31
abbrev t_sl_Berth : TypeId := 32
abbrev t_sl_int : TypeId := 33
abbrev t_p_Hat : TypeId := 36
abbrev t_sl_Plant : TypeId := 38
abbrev t_sl_sl_Berth : TypeId := 41
abbrev t_Errno : TypeId := 45
abbrev t_sl_sl_int : TypeId := 64
abbrev t_sl_Span : TypeId := 69
abbrev t_sl_Proof : TypeId := 70
abbrev t_Boil : TypeId := 72
abbrev t_Berth : TypeId := 80
abbrev t_uint64 : TypeId := 87
abbrev t_Hat : TypeId := 89
abbrev t_hall : TypeId := 96
abbrev t_a4_Berth : TypeId := 97
abbrev t_plan : TypeId := 98
abbrev t_a22_Span : TypeId := 101
abbrev t_days : TypeId := 102
abbrev t_sl_plan : TypeId := 106
abbrev t_most : TypeId := 108
abbrev t_search : TypeId := 115
abbrev t_iter_Seq_plan : TypeId := 117
abbrev t_fault : TypeId := 121
abbrev t_wrong : TypeId := 123
abbrev t_error : TypeId := 126
abbrev t_p_wrong : TypeId := 128
abbrev t_p_Floor : TypeId := 140
abbrev t_Proof : TypeId := 148
abbrev t_p_thread_boil : TypeId := 151
abbrev t_thread_times : TypeId := 154
abbrev t_uint : TypeId := 159
abbrev t_iter_Seq_int : TypeId := 162
abbrev t_map_plan_bool : TypeId := 165
abbrev t_iter_Seq_Berth : TypeId := 172
abbrev t_p_plan : TypeId := 175
abbrev t_unsafe_Pointer : TypeId := 176
abbrev t_reflectlite_flag : TypeId := 177
abbrev t_reflectlite_Value : TypeId := 179
abbrev t_reflectlite_Type : TypeId := 182
abbrev t_abi_Kind : TypeId := 184
abbrev t_map_thread_heats_thread_group : TypeId := 194
abbrev t_thread_boil : TypeId := 196
abbrev t_a5_int : TypeId := 197
abbrev t_thread_heats : TypeId := 198
abbrev t_a3_Span : TypeId := 199
abbrev t_thread_group : TypeId := 201
abbrev t_p_most : TypeId := 206
abbrev t_sl_chan_plan : TypeId := 208
abbrev t_chan_plan : TypeId := 209
abbrev t_reflectlite_rtype : TypeId := 215
abbrev t_p_reflectlite_ValueError : TypeId := 216
abbrev t_sl_error : TypeId := 226
abbrev t_full : TypeId := 229
abbrev t_cold : TypeId := 230
abbrev t_a3_int : TypeId := 234
abbrev t_iter_Seq_thread_group : TypeId := 243
abbrev t_runtime_TypeAssertionError : TypeId := 255
abbrev t_a0_p_runtime_PanicNilError : TypeId := 256
abbrev t_runtime_PanicNilError : TypeId := 258
abbrev t_uint32 : TypeId := 260
abbrev t_abi_TFlag : TypeId := 261
abbrev t_p_uint8 : TypeId := 263
abbrev t_abi_NameOff : TypeId := 264
abbrev t_abi_TypeOff : TypeId := 265
abbrev t_abi_Type : TypeId := 267
abbrev t_reflectlite_ValueError : TypeId := 271
abbrev t_p_abi_UncommonType : TypeId := 272
abbrev t_uint16 : TypeId := 274
abbrev t_abi_UncommonType : TypeId := 276
abbrev t_sl_abi_Method : TypeId := 277
abbrev t_abi_TextOff : TypeId := 278
abbrev t_abi_Method : TypeId := 280
abbrev t_p_error : TypeId := 281
instance : MO prog := ⟨by kernel_rfl⟩
end Go.Mus

/- More laws: slices of arrays, copy, arrays of zeros, results in cells. Conditions: none; over any program. -/
namespace Go.Mus
section rules
variable {x : Cx} {Q : Post} {ρ : Env} {ds : List Deferred} {F : Frag} {ops : Array Oper} {S : Frag → Prop} {i : Nat} {rest : List Nat} {o : Oper} {v : Value} {R : Value → Frag → Prop}
/-- A whole array, as a slice. -/
theorem y_sliceArr {t n E s by' : Nat} {z : Value} {zc : Array Value} {y : Operand} {b off : Nat} (ho : o.op = .slice t y none none none) [TD x.P t (.array n E)] [TI x.P E s by' z zc] (hy : ev ρ y = some (.pointer (some ⟨b, off, none⟩))) : Yv x S ρ o (.slice (some ⟨b, off, none⟩) n n) := fun e he F hF h' hE => by
  simp only [execOp, ho, he y _ hy, Instr.sliceAt, Instr.sureAddr, Instr.sliceBounds, bind_eq, pure_eq, bind_assoc, bind_pure, Option.map_none, trb_underlying, trb_sizeOf, Nat.zero_mul, add_spot, Nat.add_zero, ite_self, Nat.sub_zero]
  exact ⟨rfl, rfl⟩
/-- Its first ones. -/
theorem y_sliceArrHi {t n E s by' : Nat} {z : Value} {zc : Array Value} {y hi : Operand} {b off : Nat} {k : IntKind} {m : Nat} (ho : o.op = .slice t y none (some hi) none) [TD x.P t (.array n E)] [TI x.P E s by' z zc] (hy : ev ρ y = some (.pointer (some ⟨b, off, none⟩))) (hh : ev ρ hi = some (.int k (m : Int))) (hm : m ≤ n := by omega) : Yv x S ρ o (.slice (some ⟨b, off, none⟩) m n) := fun e he F hF h' hE => by
  have e1 : (0 : Int) ≤ m ∧ (m : Int) ≤ n := by omega
  simp only [execOp, ho, he y _ hy, he hi _ hh, Instr.sliceAt, Instr.sureAddr, Instr.sliceBounds, Instr.sliceBound, asIntOf, bind_eq, pure_eq, bind_assoc, bind_pure, Option.map_none, Option.map_some, trb_underlying, trb_sizeOf, if_pos e1, Int.toNat_natCast, Nat.zero_mul, add_spot, Nat.add_zero, ite_self, Nat.sub_zero]
  exact ⟨rfl, rfl⟩
/-- The first ones of a slice. -/
theorem y_sliceHi {t E s by' : Nat} {z : Value} {zc : Array Value} {y hi : Operand} {a : Option Addr} {k : IntKind} {l cap m : Nat} (ho : o.op = .slice t y none (some hi) none) [TD x.P t (.slice E)] [TI x.P E s by' z zc] (hy : ev ρ y = some (.slice a l cap)) (hh : ev ρ hi = some (.int k (m : Int))) (ha : a.map (·.spot) = some none ∨ a = none) (hm : m ≤ cap := by omega) : Yv x S ρ o (.slice a m cap) := fun e he F hF h' hE => by
  have e1 : (0 : Int) ≤ m ∧ (m : Int) ≤ cap := by omega
  have e2 : a.map (·.add (0 * s)) = a := by
    rcases ha with ha | rfl
    · cases a with
      | none => cases ha
      | some a => simp at ha; simp [add_spot ha, ← ha]
    · rfl
  simp only [execOp, ho, he y _ hy, he hi _ hh, Instr.sliceAt, Instr.slice, Instr.sliceBounds, Instr.sliceBound, asIntOf, bind_eq, pure_eq, bind_assoc, bind_pure, Option.map_none, Option.map_some, trb_underlying, trb_sizeOf, if_pos e1, Int.toNat_natCast, e2, ite_self, Nat.sub_zero]
  exact ⟨rfl, rfl⟩
/-- None of a slice: it has no room. -/
theorem y_slice00 {t E s by' : Nat} {z : Value} {zc : Array Value} {y hi mx : Operand} {a : Option Addr} {k k' : IntKind} {l cap : Nat} (ho : o.op = .slice t y none (some hi) (some mx)) [TD x.P t (.slice E)] [TI x.P E s by' z zc] (hy : ev ρ y = some (.slice a l cap)) (hh : ev ρ hi = some (.int k 0)) (hm : ev ρ mx = some (.int k' 0)) : Yv x S ρ o (.slice a 0 0) := fun e he F hF h' hE => by
  have e1 : (0 : Int) ≤ 0 ∧ (0 : Int) ≤ cap := by omega
  have e2 : (0 : Int) ≤ 0 ∧ (0 : Int) ≤ (0 : Nat) := by omega
  simp only [execOp, ho, he y _ hy, he hi _ hh, he mx _ hm, Instr.sliceAt, Instr.slice, Instr.sliceBounds, Instr.sliceBound, asIntOf, bind_eq, pure_eq, bind_assoc, bind_pure, Option.map_none, Option.map_some, trb_underlying, trb_sizeOf, if_pos e1, Int.toNat_zero, if_pos e2, if_true, Nat.sub_zero]
  exact ⟨rfl, rfl⟩

/-- An array of zeros. -/
theorem y_build0 {t n E s b s' b' : Nat} {z z' : Value} {zc zc' : Array Value} (ho : o.op = .build t #[]) [TD x.P t (.array n E)] [TI x.P t s b z zc] [TI x.P E s' b' z' zc'] : Yv x S ρ o (.agg zc) := fun e he F hF h' hE => by
  obtain ⟨j, _, _, _, _, hz⟩ := TI.out (inferInstance : TI x.P t s b z zc)
  simp only [execOp, ho, Instr.build, bind_eq, pure_eq, bind_assoc, bind_pure, trb_zeroValue, trb_underlying, trb_sizeOf, hz, List.map_toArray, List.map_nil, Instr.fill]
  exact ⟨rfl, rfl⟩

/-- copy, from what is read into a block of one's own. -/
theorem e_copy {α : Type} {row : α → List Value} {w : Nat} [Rw row w] {t t' E by' : Nat} {z : Value} {zc : Array Value} {y yx : Operand} {xv : Value} {b off n cap : Nat} {c : Array Value} {C : TypeId} {l : List α} {U : Obj → Frag} (ho : o.op = .call ⟨.builtin .copy, #[y, yx], #[t, t']⟩) [TD x.P t (.slice E)] [TI x.P E w by' z zc]
    (hy : ev ρ y = some (.slice (some ⟨b, off, none⟩) n cap)) (hx : ev ρ yx = some xv) (hs : Sl x.h row xv l) (hle : l.length ≤ n) (hl : At b (.cells c C (0, 0)) F U) (hc : off + l.length * w ≤ c.size)
    (H : R (.int .i64 l.length) (U (.cells (putAll c off (flat row l)) C (0, 0)))) : Ef x ρ o F R :=
  Ef.of_tr fun e he h' hE => by
    have hs' := Sl.ext hE hs
    obtain ⟨a, cp, rfl⟩ := hs.isSl
    have hmin : Nat.min l.length n = l.length := Nat.min_eq_left hle
    simp only [execOp, ho, resolve, invoke, builtin, Builtin.copy_, List.map_toArray, List.map_cons, List.map_nil, he y _ hy, he yx _ hx, List.getElem?_toArray, List.getElem?_cons_zero, List.getElem?_cons_succ, bind_eq, pure_eq, bind_assoc, bind_pure, trb_underlying, Builtin.lenOf, trb_sizeOf, hmin]
    refine tr_bind (tr_first hs' ?_)
    refine tr_bind (tr_storeCells (flat row l) 0 c (flat_ones l) hl (by rw [flat_len]; omega) ?_)
    exact ⟨_, .inl rfl, by simpa [goInt] using H⟩
end rules
theorem Ef.of_y {x : Cx} {ρ : Env} {F : Frag} {o : Oper} {v : Value} {R : Value → Frag → Prop} (hy : Yv x (· = F) ρ o v) (H : R v F) : Ef x ρ o F R := fun e he =>
  ⟨F, [], by simp, fun h' e1 e2 => tr_mono (hy e he F rfl h' e1) fun nx F' ⟨h1, h2⟩ => by
    subst h1 h2
    exact ⟨F', by simp, H⟩⟩

section
variable {x : Cx} {Q : Post} {ρ : Env} {ds : List Deferred} {F : Frag} {ops : Array Oper} {i : Nat} {rest : List Nat} {d : Tmp} {ty : TypeId} {pos : String} {aft : Array Edge} {g : Option (Nat × Bool)} {L : Frag}
variable {args : List Operand} {ts : Array TypeId} {vs : List Value} {y : Operand} {fv u : Value}
/-- A function value that answers. -/
abbrev PuV (P : Program) (main : Side) (fv : Value) (vs : List Value) (h : Hp) (u : Value) : Prop := CallV P main fv vs h [] (fun v A => v = u ∧ Shut A)
theorem e_callV0 {o : Oper} {R : Value → Frag → Prop} (ho : o.op = .call ⟨.value y, args.toArray, ts⟩) (hy : ev ρ y = some fv) (hv : evs ρ args = some vs) (H : ∀ h', Ext x.h h' → Lent F h' → PuV x.P x.main fv vs h' u) (K : ∀ A, Shut A → R u (A ++ F)) : Ef x ρ o F R :=
  e_callV ho hy hv (Seg.head (A := []) (G := F)) H fun v A' hv => by
    obtain ⟨rfl, hs⟩ := hv
    exact K A' hs
theorem cv (H : ∀ h', Ext x.h h' → Lent F h' → PuV x.P x.main fv vs h' u) (K : Ops x ops rest Q ((d, u) :: ρ) ds F) (ho : nthO ops.toList i = some ⟨some d, .call ⟨.value y, args.toArray, ts⟩, ty, pos, aft, g⟩ := by rfl) (hy : ev ρ y = some fv := by rfl) (hv : evs ρ args = some vs := by rfl)
    (hw : want ops ρ ⟨some d, .call ⟨.value y, args.toArray, ts⟩, ty, pos, aft, g⟩ := by first | exact wn | exact want_some rfl rfl rfl) (hd : Nat.blt d x.n = true := by rfl) : Ops x ops (i :: rest) Q ρ ds F :=
  Ops.eff (o := ⟨some d, .call ⟨.value y, args.toArray, ts⟩, ty, pos, aft, g⟩) (e_callV0 rfl hy hv H fun A hs => Ops.sb (Sb.left .refl hs) K) (nthO_get ho) hw hd rfl
theorem acv {fuel listed : Nat} (H : ∀ h', Ext x.h h' → Lent F h' → PuV x.P x.main fv vs h' u) (K : Any x ops L fuel (listed ||| 2 ^ i) Q ((d, u) :: ρ) ds F) (hS : lastT ops i = true ∨ Keeps L F := by first | exact .inr (by repeat (first | exact fun _ h => h | apply Keeps.cons | apply Keeps.app)) | exact .inl (by kernel_rfl))
    (ho : nthO ops.toList i = some ⟨some d, .call ⟨.value y, args.toArray, ts⟩, ty, pos, aft, g⟩ := by rfl) (hy : ev ρ y = some fv := by rfl) (hv : evs ρ args = some vs := by rfl)
    (hw : wantε ops (look ρ) ⟨some d, .call ⟨.value y, args.toArray, ts⟩, ty, pos, aft, g⟩ true := by first | exact an | exact wantε_some rfl rfl rfl rfl) (hd : Nat.blt d x.n = true := by rfl) (hr : rdys ops listed = [i] := by kernel_rfl) : Any x ops L (fuel + 1) listed Q ρ ds F :=
  Any.eff (o := ⟨some d, .call ⟨.value y, args.toArray, ts⟩, ty, pos, aft, g⟩) (e_callV0 rfl hy hv H fun A hs => ⟨hS.imp id fun k p hp => List.mem_append_right _ (k p hp), Any.sb (Sb.left .refl hs) K⟩) hr (nthO_get ho) hw hd rfl
/-- An operation behind a guard that was passed over itself. -/
theorem Ops.noU {op : Op} {j d' : Nat} {w : Bool} (H : Ops x ops rest Q ((d, undef) :: ρ) ds F) (ho : nthO ops.toList i = some ⟨some d, op, ty, pos, aft, some (j, w)⟩ := by rfl) (hj : (nthO ops.toList j).bind (·.dst) = some d' := by rfl) (hv : look ρ d' = some undef := by rfl) (hd : Nat.blt d x.n = true := by rfl) : Ops x ops (i :: rest) Q ρ ds F := by
  intro b k cs Stop tmps hk M h1 h0 h2 h3 h4 h5 hc
  have hj' : (ops[j]?).bind (·.dst) = some d' := by rw [nthO_eq] at hj; simpa using hj
  have hw : Region.wanted ⟨some d, op, ty, pos, aft, some (j, w)⟩ (yielded ops tmps) = false := by
    simp only [Region.wanted, yielded, hj', Option.bind_some, h3 d' _ hv]
    rfl
  obtain ⟨p1, p2⟩ := h3.put' (o := ⟨some d, op, ty, pos, aft, some (j, w)⟩) h4 hd undef
  refine .idle rfl (fun _ => st_unwanted (nthO_get ho) hw) ?_
  rw [finish_fat (cs := cs) (nthO_get ho) undef]
  exact H b k cs Stop _ _ _ h1 h0 h2 p1 p2 h5 hc
/-- A new slice of some values. -/
theorem Ops.bsl {t E s b len : Nat} {z : Value} {zc : Array Value} {parts : List (Nat × Operand)} {cs : Array Value} (H : ∀ β, Ops x ops rest Q ((d, .slice (some ⟨β, 0, none⟩) len len) :: ρ) ds ((β, .cells cs E (0, 0)) :: F)) (ho : nthO ops.toList i = some ⟨some d, .buildSlice t len parts.toArray, ty, pos, aft, g⟩ := by rfl) [TD x.P t (.slice E)] [TI x.P E s b z zc] (hv : evs ρ (parts.map (·.2)) = some vs := by rfl) (hls : 0 < len * s := by decide) (hl : len * s ≤ 2 ^ 24 := by decide)
    (hf : Instr.fill (fun i => some (i * s, s)) ((List.range (len * s)).map (fun i => zc[i % zc.size]!)).toArray ((parts.map (·.1)).zip vs) = some cs := by rfl)
    (hw : want ops ρ ⟨some d, .buildSlice t len parts.toArray, ty, pos, aft, g⟩ := by first | exact wn | exact want_some rfl rfl rfl) (hd : Nat.blt d x.n = true := by rfl) : Ops x ops (i :: rest) Q ρ ds F :=
  Ops.eff (o := ⟨some d, .buildSlice t len parts.toArray, ty, pos, aft, g⟩) (e_buildSlice rfl hv hls hl (by rw [show (Array.range (len * s)).map (zc[· % zc.size]!) = ((List.range (len * s)).map (fun i => zc[i % zc.size]!)).toArray by apply Array.ext'; simp]; exact hf) fun β _ _ => H β) (nthO_get ho) hw hd rfl
theorem Ops.bsl0 {t E s b : Nat} {z : Value} {zc : Array Value} (H : ∀ β, Ops x ops rest Q ((d, .slice (some ⟨β, 0, none⟩) 0 0) :: ρ) ds ((β, .cells #[] E (0, 0)) :: F)) (ho : nthO ops.toList i = some ⟨some d, .buildSlice t 0 #[], ty, pos, aft, g⟩ := by rfl) [TD x.P t (.slice E)] [TI x.P E s b z zc]
    (hw : want ops ρ ⟨some d, .buildSlice t 0 #[], ty, pos, aft, g⟩ := by first | exact wn | exact want_some rfl rfl rfl) (hd : Nat.blt d x.n = true := by rfl) : Ops x ops (i :: rest) Q ρ ds F :=
  Ops.eff (o := ⟨some d, .buildSlice t 0 #[], ty, pos, aft, g⟩) (e_buildSlice0 rfl fun β _ _ => H β) (nthO_get ho) hw hd rfl
/-- A function value is handed a part. -/
theorem cgv {A : Frag} {U : Frag → Frag} {R' : Value → Frag → Prop} (hs : Seg A F U) (H : ∀ h', Ext x.h h' → Lent (U []) h' → CallV x.P x.main fv vs h' A R') (K : ∀ v A', R' v A' → Ops x ops rest Q ((d, v) :: ρ) ds (U A')) (ho : nthO ops.toList i = some ⟨some d, .call ⟨.value y, args.toArray, ts⟩, ty, pos, aft, g⟩ := by rfl) (hy : ev ρ y = some fv := by rfl) (hv : evs ρ args = some vs := by rfl)
    (hw : want ops ρ ⟨some d, .call ⟨.value y, args.toArray, ts⟩, ty, pos, aft, g⟩ := by first | exact wn | exact want_some rfl rfl rfl) (hd : Nat.blt d x.n = true := by rfl) : Ops x ops (i :: rest) Q ρ ds F :=
  Ops.eff (o := ⟨some d, .call ⟨.value y, args.toArray, ts⟩, ty, pos, aft, g⟩) (e_callV rfl hy hv hs H fun v A' r => K v A' r) (nthO_get ho) hw hd rfl
theorem segAll {A : Frag} : Seg A (A ++ []) (· ++ []) := Seg.head
/-- A call that is handed all. -/
theorem cga {f : FuncId} {R' : Value → Frag → Prop} (H : ∀ h', Ext x.h h' → Fnc x.P x.main f vs.toArray h' F R') (K : ∀ v A', R' v A' → Ops x ops rest Q ((d, v) :: ρ) ds A') (ho : nthO ops.toList i = some ⟨some d, .call ⟨.value (.func f), args.toArray, ts⟩, ty, pos, aft, g⟩ := by rfl) [FB x.P f] (hv : evs ρ args = some vs := by rfl)
    (hw : want ops ρ ⟨some d, .call ⟨.value (.func f), args.toArray, ts⟩, ty, pos, aft, g⟩ := by first | exact wn | exact want_some rfl rfl rfl) (hd : Nat.blt d x.n = true := by rfl) : Ops x ops (i :: rest) Q ρ ds F :=
  Ops.perm (F' := F ++ []) (by simp) (cg segAll (fun h' e _ => H h' e) (fun v A' r => Ops.perm (F' := A') (by simp) (K v A' r)) ho hv hw hd)
/-- Two loads that may come up in either order. -/
theorem a2 {fuel listed i j d d' : Nat} {op op' : Op} {ty' : TypeId} {pos' : String} {aft' : Array Edge} {g' : Option (Nat × Bool)} {v w : Value} (ho : nthO ops.toList i = some ⟨some d, op, ty, pos, aft, g⟩) (ho' : nthO ops.toList j = some ⟨some d', op', ty', pos', aft', g'⟩)
    (hy : Yv x (· = F) ρ ⟨some d, op, ty, pos, aft, g⟩ v) (hy2 : Yv x (· = F) ((d', w) :: ρ) ⟨some d, op, ty, pos, aft, g⟩ v) (hy' : Yv x (· = F) ρ ⟨some d', op', ty', pos', aft', g'⟩ w) (hy2' : Yv x (· = F) ((d, v) :: ρ) ⟨some d', op', ty', pos', aft', g'⟩ w)
    (hw : wantε ops (look ρ) ⟨some d, op, ty, pos, aft, g⟩ true) (hw2 : wantε ops (look ((d', w) :: ρ)) ⟨some d, op, ty, pos, aft, g⟩ true) (hw' : wantε ops (look ρ) ⟨some d', op', ty', pos', aft', g'⟩ true) (hw2' : wantε ops (look ((d, v) :: ρ)) ⟨some d', op', ty', pos', aft', g'⟩ true)
    (hd : Nat.blt d x.n = true) (hd' : Nat.blt d' x.n = true) (hn : noDefer op = true) (hn' : noDefer op' = true)
    (H : Any x ops [] fuel ((listed ||| 2 ^ i) ||| 2 ^ j) Q ((d', w) :: (d, v) :: ρ) ds F) (hne : Nat.beq d d' = false := by rfl)
    (hr : rdys ops listed = [i, j] := by kernel_rfl) (hr1 : rdys ops (listed ||| 2 ^ i) = [j] := by kernel_rfl) (hr2 : rdys ops (listed ||| 2 ^ j) = [i] := by kernel_rfl) : Any x ops [] (fuel + 2) listed Q ρ ds F := by
  have hk : ∀ F : Frag, Keeps [] F := fun _ p hp => by cases hp
  refine Any.eff2 (o := ⟨some d, op, ty, pos, aft, g⟩) (o' := ⟨some d', op', ty', pos', aft', g'⟩) hr (nthO_get ho) (nthO_get ho') hw hw' hd hd' hn hn' (Ef.of_y hy ⟨.inr (hk _), ?_⟩) (Ef.of_y hy' ⟨.inr (hk _), ?_⟩)
  · exact Any.eff (o := ⟨some d', op', ty', pos', aft', g'⟩) (Ef.of_y hy2' ⟨.inr (hk _), H⟩) hr1 (nthO_get ho') hw2' hd' hn'
  · refine Any.eff (o := ⟨some d, op, ty, pos, aft, g⟩) (Ef.of_y hy2 ⟨.inr (hk _), ?_⟩) hr2 (nthO_get ho) hw2 hd hn
    have e1 : (listed ||| 2 ^ j) ||| 2 ^ i = (listed ||| 2 ^ i) ||| 2 ^ j := by rw [Nat.or_assoc, Nat.or_comm (2 ^ j), ← Nat.or_assoc]
    have e2 : look ((d, v) :: (d', w) :: ρ) = look ((d', w) :: (d, v) :: ρ) := by
      funext t
      show (bif Nat.beq t d then some v else bif Nat.beq t d' then some w else look ρ t) = (bif Nat.beq t d' then some w else bif Nat.beq t d then some v else look ρ t)
      cases h1 : Nat.beq t d with
      | false => rfl
      | true =>
        have : t = d := Nat.eq_of_beq_eq_true h1
        subst this
        rw [hne]; rfl
    rw [e1]
    unfold Any at H ⊢
    show anyT _ _ _ _ _ _ (look ((d, v) :: (d', w) :: ρ)) _
    rw [e2]
    exact H
end
/-! ### Results that lie in cells -/
section
variable {P : Program} {h : Hp} {F : Frag} {ρ : Env} {r : List ResultVar} {vs : List Value}
theorem rNil : resOK P h F [] ρ [] := rfl
theorem rTmp {t : Tmp} {v : Value} (H : resOK P h F r ρ vs) (hv : look ρ t = some v := by rfl) : resOK P h F (.tmp t :: r) ρ (v :: vs) := ⟨v, vs, rfl, hv, H⟩
theorem rAgg {a : Tmp} {t n b : Nat} {c : Array Value} {E : TypeId} {fz : Nat × Nat} (H : resOK P h F r ρ vs) [i : AG P t n] (ha : look ρ a = some (.pointer (some ⟨b, 0, none⟩)) := by rfl) (hl : (b, Obj.cells c E fz) ∈ F := by repeat (first | exact List.Mem.head _ | apply List.Mem.tail)) (hn : c.size = n := by first | rfl | assumption) : resOK P h F (.cell a t :: r) ρ (.agg c :: vs) :=
  ⟨_, vs, b, 0, c, E, fz, rfl, ha, .inr hl, .inr ⟨n, i, by omega, by congr 1; apply Array.ext'; simp [← hn]⟩, H⟩
theorem rSc {a : Tmp} {t b : Nat} {v : Value} {c : Array Value} {E : TypeId} {fz : Nat × Nat} (H : resOK P h F r ρ vs) [i : SC P t] (ha : look ρ a = some (.pointer (some ⟨b, 0, none⟩)) := by rfl) (hl : (b, Obj.cells c E fz) ∈ F := by repeat (first | exact List.Mem.head _ | apply List.Mem.tail)) (hv : c[0]? = some v := by first | rfl | assumption) : resOK P h F (.cell a t :: r) ρ (v :: vs) :=
  ⟨v, vs, b, 0, c, E, fz, rfl, ha, .inr hl, .inl ⟨i, hv⟩, H⟩
variable {main : Side} {fn : Func} {R : Value → Frag → Prop} {e : Exit}
theorem lvc (hR : R (pack vs) F) (he : e = .ret ∨ e = .normal := by first | exact .inl rfl | exact .inr rfl) (hv : resOK P h F fn.results.toList ρ vs := by (repeat (first | exact rNil | refine rTmp ?_ | refine rAgg ?_ | refine rSc ?_))) : leave P main fn h R e ρ [] F :=
  leave_of he (by simp) hv hR
end
end Go.Mus

/- What plants, plans and floors are, in numbers; what the checks answer. Conditions: none. -/
namespace Go.Mus
/-- An int. -/
abbrev I (n : Int) : Value := .int .i64 n
structure Fl where
  (pl lo hi co : Int)
  deriving DecidableEq
structure St where
  (day co wa : Int)
  deriving DecidableEq
structure Be where
  (fl day : Int)
  deriving DecidableEq
def Fl.row (f : Fl) : List Value := [I f.pl, I f.lo, I f.hi, I f.co]
def St.row (f : St) : List Value := [I f.day, I f.co, I f.wa]
def Be.row (f : Be) : List Value := [I f.fl, I f.day]
abbrev Fl.val (f : Fl) : Value := .agg #[I f.pl, I f.lo, I f.hi, I f.co]
abbrev St.val (f : St) : Value := .agg #[I f.day, I f.co, I f.wa]
abbrev Be.val (f : Be) : Value := .agg #[I f.fl, I f.day]
instance : Rw Fl.row 4 := ⟨fun _ => rfl, fun _ => rfl⟩
instance : Rw St.row 3 := ⟨fun _ => rfl, fun _ => rfl⟩
instance : Rw Be.row 2 := ⟨fun _ => rfl, fun _ => rfl⟩

def outs (n lo hi : Int) : Prop := n < lo ∨ hi < n
instance {n lo hi : Int} : Decidable (outs n lo hi) := inferInstanceAs (Decidable (_ ∨ _))

def ckFloor (f : Fl) : Int :=
  if outs f.pl 1 9 ∨ outs f.lo 1 6 ∨ outs f.hi 1 6 then 1 else if f.hi < f.lo then 5 else if outs f.co 0 9 then 1 else 0
/-- The first answer that is not 0. -/
def ckFloors : List Fl → Int
  | [] => 0
  | f :: r => if ckFloor f = 0 then ckFloors r else ckFloor f
def ckStrike (before : Int) (s : St) : Int := if outs s.day 0 12 ∨ outs s.co 1 6 ∨ outs s.wa 0 3 then 1 else if s.day < before then 5 else 0
def ckStrikes : Int → List St → Int
  | _, [] => 0
  | b, s :: r => if ckStrike b s = 0 then ckStrikes s.day r else ckStrike b s
def ckPlant (fs : List Fl) (ss : List St) : Int :=
  if fs.length = 0 then 7 else if 2 < fs.length then 6 else if ckFloors fs ≠ 0 then ckFloors fs else if 4 < ss.length then 6 else ckStrikes 0 ss

/-! ### Plans -/
/-- A plan's value. -/
abbrev planV (p : List Be) : Value := .agg (flat Be.row p).toArray
def bnone : Be := ⟨-1, 0⟩
/-- The berths as a plan. -/
def padB (l : List Be) : List Be := l ++ List.replicate (4 - l.length) bnone
theorem padB_len {l : List Be} (h : l.length ≤ 4) : (padB l).length = 4 := by simp [padB]; omega
def fillP (k : Nat) : Array Value := (flat Be.row (List.replicate k ⟨-1, 0⟩ ++ List.replicate (4 - k) ⟨0, 0⟩)).toArray
theorem fillP_put {l : List Be} (h : l.length ≤ 4) : putAll (fillP 4) 0 (flat Be.row l) = (flat Be.row (padB l)).toArray := by
  match l, h with
  | [], _ => simp [fillP, padB, flat, putAll, Be.row, List.replicate, bnone]
  | [a], _ => simp [fillP, padB, flat, putAll, Be.row, List.replicate, bnone]
  | [a, b], _ => simp [fillP, padB, flat, putAll, Be.row, List.replicate, bnone]
  | [a, b, c], _ => simp [fillP, padB, flat, putAll, Be.row, List.replicate, bnone]
  | [a, b, c, d], _ => simp [fillP, padB, flat, putAll, Be.row, List.replicate, bnone]
  | a :: b :: c :: d :: e :: r, h => simp at h

def ckBerth (nf : Int) (s : St) (b : Be) : Int :=
  if outs b.fl (-1) (nf - 1) then 3 else if b.fl < 0 ∧ b.day ≠ 0 then 8 else if 0 ≤ b.fl ∧ outs b.day s.day (s.day + s.wa) then 12 else 0
def ckBerths (nf : Int) : List St → List Be → Int
  | s :: ss, b :: l => if ckBerth nf s b = 0 then ckBerths nf ss l else ckBerth nf s b
  | _, _ => 0
def ckPlan (fs : List Fl) (ss : List St) (l : List Be) : Int :=
  if ckPlant fs ss ≠ 0 then ckPlant fs ss else if l.length < ss.length then 7 else if ss.length < l.length then 6 else ckBerths fs.length ss l
/-- Some number is none of a floor. -/
def badF (nf : Int) : List Int → Bool
  | [] => false
  | n :: r => if outs n 0 (nf - 1) then true else badF nf r
def askE (fs : List Fl) (ss : List St) (l : List Be) (ns : List Int) : Int := if ckPlan fs ss l ≠ 0 then ckPlan fs ss l else if badF fs.length ns then 3 else 0
abbrev hall0 : Value := .agg #[.slice none 0 0, .slice none 0 0]
abbrev plan0 : Value := planV [⟨0, 0⟩, ⟨0, 0⟩, ⟨0, 0⟩, ⟨0, 0⟩]
/-- What 'asked' answers. -/
def askV (vf vs : Value) (fs : List Fl) (ss : List St) (l : List Be) (ns : List Int) : Value :=
  if askE fs ss l ns = 0 then .tuple #[.agg #[vf, vs], planV (padB l), I 0] else .tuple #[hall0, plan0, I (askE fs ss l ns)]
end Go.Mus

/- Sorting by insertion, as the library does it. Conditions: none. -/
namespace Go.Mus
theorem Yv.eq {x : Cx} {S : Frag → Prop} {ρ : Env} {o : Oper} {v u : Value} (hy : Yv x S ρ o v) (e : v = u) : Yv x S ρ o u := e ▸ hy

theorem flat_rowI (l : List Int) : flat rowI l = l.map I := by
  induction l with
  | nil => rfl
  | cons a l ih => rw [flat_cons, ih]; rfl
theorem Part.setI {c : Array Value} {l : List Int} {j : Nat} {a : Int} (h : Part c 0 (flat rowI l)) (hj : j < l.length) : Part (c.setIfInBounds j (I a)) 0 (flat rowI (l.set j a)) := by
  obtain ⟨pre, post, h1, h2⟩ := h
  have : pre = [] := List.length_eq_zero_iff.1 h2
  subst this
  refine ⟨[], post, ?_, rfl⟩
  rw [flat_rowI] at h1 ⊢
  simp only [Array.toList_setIfInBounds, h1, List.nil_append, List.map_set]
  rw [List.set_append_left _ _ (by simpa using hj)]
theorem Part.getI {c : Array Value} {l : List Int} {j : Nat} {a : Int} (h : Part c 0 (flat rowI l)) (hj : l[j]? = some a) : c[0 + j * 1]? = some (I a) := by
  have := h.rowG (row := rowI) hj 0 (by decide)
  simpa [rowI] using this

/-- Two neighbours change places. -/
def swp (l : List Int) (j : Nat) (a b : Int) : List Int := (l.set (j + 1) a).set j b
def sink (key : Int → Int) : Nat → List Int → List Int
  | 0, l => l
  | j + 1, l => match l[j]?, l[j + 1]? with
    | some a, some b => if key b - key a < 0 then sink key j (swp l j a b) else l
    | _, _ => l
def isortN (key : Int → Int) (l : List Int) : Nat → List Int
  | 0 => l
  | i + 1 => sink key (i + 1) (isortN key l i)
def isort (key : Int → Int) (l : List Int) : List Int := isortN key l (l.length - 1)

theorem swp_perm {l : List Int} {j : Nat} {a b : Int} (ha : l[j]? = some a) (hb : l[j + 1]? = some b) : (swp l j a b).Perm l := by
  induction l generalizing j with
  | nil => simp at ha
  | cons x l ih =>
    cases j with
    | zero =>
      simp only [List.getElem?_cons_zero, Option.some.injEq] at ha
      subst ha
      cases l with
      | nil => simp at hb
      | cons y l =>
        simp only [List.getElem?_cons_succ, List.getElem?_cons_zero, Option.some.injEq, Nat.zero_add] at hb
        subst hb
        exact List.Perm.swap _ _ _
    | succ j =>
      simp only [List.getElem?_cons_succ] at ha hb
      exact (ih ha hb).cons x
theorem sink_perm (key : Int → Int) : ∀ (j : Nat) (l : List Int), (sink key j l).Perm l
  | 0, l => .refl _
  | j + 1, l => by
    unfold sink
    split
    · rename_i a b ha hb
      split
      · exact (sink_perm key j _).trans (swp_perm ha hb)
      · exact .refl _
    · exact .refl _
theorem isortN_perm (key : Int → Int) (l : List Int) : ∀ i, (isortN key l i).Perm l
  | 0 => .refl _
  | i + 1 => (sink_perm key _ _).trans (isortN_perm key l i)
theorem isort_perm (key : Int → Int) (l : List Int) : (isort key l).Perm l := isortN_perm key l _
theorem swp_len {l : List Int} {j : Nat} {a b : Int} : (swp l j a b).length = l.length := by simp [swp]
theorem isortN_len (key : Int → Int) (l : List Int) (i : Nat) : (isortN key l i).length = l.length := (isortN_perm key l i).length_eq
theorem isortN_succ (key : Int → Int) (l : List Int) {i : Nat} (h : 1 ≤ i) : isortN key l i = sink key i (isortN key l (i - 1)) := by
  obtain ⟨m, rfl⟩ : ∃ m, i = m + 1 := ⟨i - 1, by omega⟩
  rfl

/-- A plan's numbers are small. -/
structure PlOK (p : List Be) : Prop where
  len : p.length = 4
  ok : ∀ b ∈ p, -1 ≤ b.fl ∧ b.fl ≤ 1 ∧ 0 ≤ b.day ∧ b.day ≤ 17
def beAt (p : List Be) (i : Nat) : Be := p.getD i bnone
def dayOf (p : List Be) (i : Int) : Int := (beAt p i.toNat).day
theorem beAt_some {p : List Be} (h : PlOK p) {i : Nat} (hi : i < 4) : p[i]? = some (beAt p i) ∧ -1 ≤ (beAt p i).fl ∧ (beAt p i).fl ≤ 1 ∧ 0 ≤ (beAt p i).day ∧ (beAt p i).day ≤ 17 := by
  have hl := h.len
  have e : p[i]? = some (beAt p i) := by simp [beAt, List.getD, List.getElem?_eq_getElem (show i < p.length by omega)]
  exact ⟨e, h.ok _ (List.mem_of_getElem? e)⟩
/-- The strikes that are on a floor, of the first k. -/
def onFk (p : List Be) (f : Int) : Nat → List Int
  | 0 => []
  | k + 1 => if (beAt p k).fl = f then onFk p f k ++ [(k : Int)] else onFk p f k
theorem onFk_lt {p : List Be} {f : Int} : ∀ {k : Nat} {a : Int}, a ∈ onFk p f k → 0 ≤ a ∧ a < k
  | 0, _, h => by simp [onFk] at h
  | k + 1, a, h => by
    unfold onFk at h
    split at h
    · rcases List.mem_append.1 h with h | h
      · have := onFk_lt h; omega
      · have : a = k := by simpa using h
        omega
    · have := onFk_lt h; omega
theorem onFk_len {p : List Be} {f : Int} : ∀ (k : Nat), (onFk p f k).length ≤ k
  | 0 => by simp [onFk]
  | k + 1 => by
    have := onFk_len (p := p) (f := f) k
    unfold onFk
    split <;> simp <;> omega
/-- .. in the order of their days. -/
def setL (p : List Be) (f : Int) : List Int := isort (dayOf p) (onFk p f 4)
theorem setL_lt {p : List Be} {f a : Int} (h : a ∈ setL p f) : 0 ≤ a ∧ a < 4 := onFk_lt ((isort_perm _ _).subset h)
theorem setL_len {p : List Be} {f : Int} : (setL p f).length ≤ 4 := by
  rw [setL, (isort_perm _ _).length_eq]; exact onFk_len 4
theorem plan_ex {p : List Be} (h : PlOK p) {i : Nat} (hi : i < 4) : (flat Be.row p).toArray.extract (i * 2) (i * 2 + 2) = #[I (beAt p i).fl, I (beAt p i).day] := by
  have hP : Part (flat Be.row p).toArray 0 (flat Be.row p) := Part.all _
  have := (hP.rowE (beAt_some h hi).1).1
  simpa [Be.row] using this
theorem plan_sz {p : List Be} (h : PlOK p) : (flat Be.row p).toArray.size = 8 := by simp [flat_len, h.len]
theorem plan_at {p : List Be} (h : PlOK p) {i : Nat} (hi : i < 4) : (flat Be.row p).toArray[i * 2]? = some (I (beAt p i).fl) ∧ (flat Be.row p).toArray[i * 2 + 1]? = some (I (beAt p i).day) := by
  have hP : Part (flat Be.row p).toArray 0 (flat Be.row p) := Part.all _
  have h0 := hP.rowG (beAt_some h hi).1 0 (by decide)
  have h1 := hP.rowG (beAt_some h hi).1 1 (by decide)
  simp only [Nat.zero_add, Nat.add_zero] at h0 h1
  exact ⟨h0, h1⟩
theorem plan_ones {p : List Be} : ones (flat Be.row p).toArray.toList = true := by simpa using flat_ones _
end Go.Mus

/- What stands on a floor on each day. Conditions: none. -/
namespace Go.Mus
structure Sp where
  (lo hi : Int)
  deriving DecidableEq
def Sp.row (s : Sp) : List Value := [I s.lo, I s.hi]
instance : Rw Sp.row 2 := ⟨fun _ => rfl, fun _ => rfl⟩
/-- The sum, as a machine has it. -/
abbrev wadd (a b : Int) : Int := IntKind.i64.wrap (a + b)
/-- A day's numbers grow. -/
def bump (d : List Sp) (i : Nat) (b : Bool) (co : Int) : List Sp := match d[i]? with
  | some s => d.set i ⟨if b then wadd s.lo co else s.lo, wadd s.hi co⟩
  | none => d
/-- The days of a strike, from the n-th on. -/
def addSt (day lo co : Int) : Nat → Nat → List Sp → List Sp
  | 0, _, d => d
  | m + 1, n, d => if 21 < day + n then d else addSt day lo co m (n + 1) (bump d (day + n).toNat (decide ((n : Int) < lo)) co)
def coOf (ss : List St) (i : Int) : Int := (ss.getD i.toNat ⟨0, 0, 0⟩).co
def flAt (fs : List Fl) (f : Int) : Fl := fs.getD f.toNat ⟨0, 0, 0, 0⟩
def days0 : List Sp := List.replicate 22 ⟨0, 0⟩
def standsD (fs : List Fl) (ss : List St) (p : List Be) (f : Int) : List Sp :=
  (setL p f).foldl (fun d i => addSt (dayOf p i) (flAt fs f).lo (coOf ss i) (flAt fs f).hi.toNat 0 d) days0
theorem bump_len {d : List Sp} {i : Nat} {b : Bool} {co : Int} : (bump d i b co).length = d.length := by
  unfold bump; split <;> simp
theorem addSt_len {day lo co : Int} : ∀ (m n : Nat) (d : List Sp), (addSt day lo co m n d).length = d.length
  | 0, _, _ => rfl
  | m + 1, n, d => by
    unfold addSt
    split
    · rfl
    · rw [addSt_len, bump_len]
theorem standsD_len {fs : List Fl} {ss : List St} {p : List Be} {f : Int} : (standsD fs ss p f).length = 22 := by
  have : ∀ (l : List Int) (d : List Sp), (l.foldl (fun d i => addSt (dayOf p i) (flAt fs f).lo (coOf ss i) (flAt fs f).hi.toNat 0 d) d).length = d.length := by
    intro l
    induction l with
    | nil => intro d; rfl
    | cons a l ih => intro d; rw [List.foldl_cons, ih, addSt_len]
  rw [standsD, this]; rfl
abbrev daysV (d : List Sp) : Value := .agg (flat Sp.row d).toArray
theorem days_sz {d : List Sp} (h : d.length = 22) : (flat Sp.row d).toArray.size = 44 := by simp [flat_len, h]
theorem days_at {d : List Sp} {i : Nat} {s : Sp} (h : d[i]? = some s) : (flat Sp.row d).toArray[0 + i * 2]? = some (I s.lo) ∧ (flat Sp.row d).toArray[0 + i * 2 + 1]? = some (I s.hi) := by
  have hP : Part (flat Sp.row d).toArray 0 (flat Sp.row d) := Part.all _
  exact ⟨hP.rowG h 0 (by decide), hP.rowG h 1 (by decide)⟩
theorem days_ex {d : List Sp} {i : Nat} {s : Sp} (h : d[i]? = some s) : (flat Sp.row d).toArray.extract (i * 2) (i * 2 + 2) = #[I s.lo, I s.hi] := by
  have hP : Part (flat Sp.row d).toArray 0 (flat Sp.row d) := Part.all _
  have := (hP.rowE h).1
  simpa [Sp.row] using this
theorem set_same {l : List Value} {i : Nat} {v : Value} (h : l[i]? = some v) : l.set i v = l := by
  apply List.ext_getElem?
  intro j
  rw [List.getElem?_set]
  split
  · rename_i e; subst e
    rcases Nat.lt_or_ge i l.length with h' | h'
    · simp [h', ← h]
    · rw [List.getElem?_eq_none h'] at h; cases h
  · rfl
theorem flat_set {d : List Sp} {i : Nat} {s : Sp} (h : i < d.length) : ((flat Sp.row d).toArray.setIfInBounds (0 + i * 2) (I s.lo)).setIfInBounds (0 + i * 2 + 1) (I s.hi) = (flat Sp.row (d.set i s)).toArray := by
  induction d generalizing i with
  | nil => simp at h
  | cons a d ih =>
    cases i with
    | zero => simp [flat_cons, Sp.row]
    | succ i =>
      have := ih (i := i) (by simpa using h)
      simp only [List.set_cons_succ, flat_cons]
      apply Array.ext'
      have h2 := congrArg Array.toList this
      simp only [Array.toList_setIfInBounds, Nat.zero_add] at h2 ⊢
      have e1 : (i + 1) * 2 = i * 2 + 2 := by omega
      rw [e1, ← h2]
      simp [Sp.row]
theorem flat_hi {d : List Sp} {i : Nat} {s : Sp} {x : Int} (h : d[i]? = some s) : (flat Sp.row d).toArray.setIfInBounds (0 + i * 2 + 1) (I x) = (flat Sp.row (d.set i ⟨s.lo, x⟩)).toArray := by
  have hi : i < d.length := by
    rcases Nat.lt_or_ge i d.length with h' | h'
    · exact h'
    · rw [List.getElem?_eq_none h'] at h; cases h
  rw [← flat_set hi]
  congr 1
  have := (days_at h).1
  apply Array.ext'
  simp only [Array.toList_setIfInBounds]
  have h2 : (flat Sp.row d)[0 + i * 2]? = some (I s.lo) := by simpa using this
  rw [set_same h2]
theorem flat_lo {d : List Sp} {i : Nat} {s : Sp} {x : Int} (h : d[i]? = some s) : (flat Sp.row d).toArray.setIfInBounds (0 + i * 2 + 0) (I x) = (flat Sp.row (d.set i ⟨x, s.hi⟩)).toArray := by
  have hi : i < d.length := by
    rcases Nat.lt_or_ge i d.length with h' | h'
    · exact h'
    · rw [List.getElem?_eq_none h'] at h; cases h
  rw [← flat_set hi]
  have := (days_at h).2
  apply Array.ext'
  simp only [Array.toList_setIfInBounds]
  have h2 : ((flat Sp.row d).set (0 + i * 2) (I x))[0 + i * 2 + 1]? = some (I s.hi) := by
    rw [List.getElem?_set_ne (by omega)]; simpa using this
  rw [set_same h2]
  rw [Nat.add_zero]

/-- A hall whose numbers are small. -/
structure HallOK (fs : List Fl) (ss : List St) : Prop where
  nf : 1 ≤ fs.length ∧ fs.length ≤ 2
  ns : ss.length ≤ 4
  fl : ∀ f ∈ fs, 1 ≤ f.pl ∧ f.pl ≤ 9 ∧ 1 ≤ f.lo ∧ f.lo ≤ f.hi ∧ f.hi ≤ 6 ∧ 0 ≤ f.co ∧ f.co ≤ 9
  st : ∀ s ∈ ss, 0 ≤ s.day ∧ s.day ≤ 12 ∧ 1 ≤ s.co ∧ s.co ≤ 6 ∧ 0 ≤ s.wa ∧ s.wa ≤ 5
/-- A plan of a hall. -/
structure PlanOf (fs : List Fl) (ss : List St) (p : List Be) : Prop where
  ok : PlOK p
  fl : ∀ b ∈ p, b.fl < fs.length
  pad : ∀ i, ss.length ≤ i → (beAt p i).fl < 0
theorem onFk_fl {p : List Be} {f : Int} : ∀ {k : Nat} {a : Int}, a ∈ onFk p f k → (beAt p a.toNat).fl = f
  | 0, _, h => by simp [onFk] at h
  | k + 1, a, h => by
    unfold onFk at h
    split at h
    · rename_i hk
      rcases List.mem_append.1 h with h | h
      · exact onFk_fl h
      · have : a = k := by simpa using h
        subst this; simpa using hk
    · exact onFk_fl h
theorem setL_fl {p : List Be} {f a : Int} (h : a ∈ setL p f) : (beAt p a.toNat).fl = f := onFk_fl ((isort_perm _ _).subset h)
theorem setL_st {fs : List Fl} {ss : List St} {p : List Be} {f a : Int} (hp : PlanOf fs ss p) (hf : 0 ≤ f) (h : a ∈ setL p f) : a.toNat < ss.length := by
  rcases Nat.lt_or_ge a.toNat ss.length with h' | h'
  · exact h'
  · have := hp.pad _ h'
    rw [setL_fl h] at this
    omega

/-- A loop that is never left comes to a fold. -/
theorem runs_all {σ X : Type} {st : σ → X → σ} : ∀ (xs : List X) (s : σ), (runs (rstep st fun _ _ => none) (s, none) xs).1 = (xs.foldl st s, none)
  | [], s => rfl
  | p :: xs, s => by
    simp only [runs, rstep, Option.isNone_none]
    exact runs_all xs (st s p)
end Go.Mus

/- What is wrong on a floor. Conditions: none. -/
namespace Go.Mus
/-- A fault: none; or whether it is one of cold, and its day. -/
abbrev Fault := Option (Bool × Int)
def fullF (pl : Int) : List Sp → Nat → Fault
  | [], _ => none
  | s :: r, k => if pl < s.hi then some (false, (k : Int)) else fullF pl r (k + 1)
def early (late : Int) : Fault → Bool
  | none => true
  | some (_, n) => decide (late < n)
def lookS (co lo day : Int) (s : Fault × Int) : Fault × Int :=
  (if 0 ≤ s.2 ∧ wadd s.2 co < day ∧ early (wadd s.2 co) s.1 = true then some (true, wadd s.2 co) else s.1, max s.2 (day + lo))
theorem lookS_pos {co lo day u : Int} {fd : Fault} (h1 : 0 ≤ u) (h2 : IntKind.i64.wrap (u + co) < day) (h3 : early (wadd u co) fd = true) : lookS co lo day (fd, u) = (some (true, wadd u co), max u (day + lo)) := by
  simp only [lookS]; rw [if_pos ⟨h1, h2, h3⟩]
theorem lookS_neg1 {co lo day u : Int} {fd : Fault} (h1 : ¬ 0 ≤ u) : lookS co lo day (fd, u) = (fd, max u (day + lo)) := by
  simp only [lookS]; rw [if_neg fun h => h1 h.1]
theorem lookS_neg2 {co lo day u : Int} {fd : Fault} (h1 : ¬ IntKind.i64.wrap (u + co) < day) : lookS co lo day (fd, u) = (fd, max u (day + lo)) := by
  simp only [lookS]; rw [if_neg fun h => h1 h.2.1]
theorem lookS_neg3 {co lo day u n : Int} {c : Bool} (h1 : ¬ IntKind.i64.wrap (u + co) < n) : lookS co lo day (some (c, n), u) = (some (c, n), max u (day + lo)) := by
  simp only [lookS]; rw [if_neg fun h => h1 (by simpa [early] using h.2.2)]
theorem early_none {late : Int} {fd : Fault} (h : fd.isNone = true) : early late fd = true := by
  cases fd with
  | none => rfl
  | some q => cases h
theorem early_some {u co n : Int} {c : Bool} (h : IntKind.i64.wrap (u + co) < n) : early (wadd u co) (some (c, n)) = true := by simpa [early] using h
def lookF (fs : List Fl) (ss : List St) (p : List Be) (f : Int) : Fault :=
  ((setL p f).foldl (fun s i => lookS (flAt fs f).co (flAt fs f).lo (dayOf p i) s) (fullF (flAt fs f).pl (standsD fs ss p f) 0, -1)).1
end Go.Mus

/- The first fault of a plan. Conditions: none. -/
namespace Go.Mus
/-- The first fault, and its floor. -/
abbrev Err := Option ((Bool × Int) × Int)
def inspB (acc : Err) (n : Int) : Bool := match acc with
  | none => true
  | some (q0, _) => decide (n < q0.2)
def inspS (acc : Err) (f : Int) (q : Fault) : Err := match q with
  | none => acc
  | some z => if inspB acc z.2 = true then some (z, f) else acc
def inspN (fs : List Fl) (ss : List St) (p : List Be) : Nat → Err
  | 0 => none
  | k + 1 => inspS (inspN fs ss p k) k (lookF fs ss p k)
def inspF (fs : List Fl) (ss : List St) (p : List Be) : Err := inspN fs ss p fs.length
end Go.Mus

/- The right plans of a hall, looked for. Conditions: none. -/
namespace Go.Mus
/-- Whether a strike may be set, may be left. -/
abbrev May := Nat → Bool × Bool
def daysFrom (f d : Int) : Nat → List Be
  | 0 => []
  | m + 1 => ⟨f, d⟩ :: daysFrom f (d + 1) m
def floorsFrom (s : St) (f : Int) : Nat → List Be
  | 0 => []
  | m + 1 => daysFrom f s.day (s.wa + 1).toNat ++ floorsFrom s (f + 1) m
def stAt (ss : List St) (k : Nat) : St := ss.getD k ⟨0, 0, 0⟩
/-- The berths that a strike may have. -/
def berthsK (fs : List Fl) (ss : List St) (may : May) (k : Nat) : List Be :=
  (if (may k).2 then [bnone] else []) ++ (if (may k).1 then floorsFrom (stAt ss k) 0 fs.length else [])
/-- Some day has more cones than places. -/
def over (pl : Int) : List Sp → Bool
  | [] => false
  | s :: r => if pl < s.hi then true else over pl r
def prune (fs : List Fl) (ss : List St) (p : List Be) (b : Be) : Bool := if 0 ≤ b.fl then over (flAt fs b.fl).pl (standsD fs ss p b.fl) else false
/-- The right plans that begin so, in order. -/
def rights (fs : List Fl) (ss : List St) (may : May) : Nat → Nat → List Be → List (List Be)
  | 0, _, p => if (inspF fs ss p).isNone then [p] else []
  | m + 1, k, p => (berthsK fs ss may k).flatMap fun b => if prune fs ss (p.set k b) b then [] else rights fs ss may m (k + 1) (p.set k b)
theorem over_drop {pl : Int} : ∀ {d : List Sp} {k : Nat}, (∀ i, i < k → ∀ s, d[i]? = some s → ¬ pl < s.hi) → over pl d = over pl (d.drop k)
  | d, 0, _ => rfl
  | [], k + 1, _ => by simp
  | s :: d, k + 1, hn => by
    have h0 := hn 0 (by omega) s rfl
    simp only [over, if_neg h0, List.drop_succ_cons]
    exact over_drop fun i hi s hs => hn (i + 1) (by omega) s (by simpa using hs)

theorem mem_daysFrom {f : Int} : ∀ {m : Nat} {d : Int} {b : Be}, b ∈ daysFrom f d m → b.fl = f ∧ d ≤ b.day ∧ b.day < d + m
  | 0, _, _, h => by simp [daysFrom] at h
  | m + 1, d, b, h => by
    simp only [daysFrom, List.mem_cons] at h
    rcases h with rfl | h
    · exact ⟨rfl, Int.le_refl _, by simp; omega⟩
    · have := mem_daysFrom h
      exact ⟨this.1, by omega, by omega⟩
theorem mem_floorsFrom {s : St} : ∀ {m : Nat} {f : Int} {b : Be}, b ∈ floorsFrom s f m → f ≤ b.fl ∧ b.fl < f + m ∧ s.day ≤ b.day ∧ b.day < s.day + (s.wa + 1).toNat
  | 0, _, _, h => by simp [floorsFrom] at h
  | m + 1, f, b, h => by
    rcases List.mem_append.1 h with h | h
    · have := mem_daysFrom h; omega
    · have := mem_floorsFrom h; omega
/-- A berth of a strike. -/
theorem berth_ok {fs : List Fl} {ss : List St} {may : May} {k : Nat} {b : Be} (hall : HallOK fs ss) (hk : k < ss.length) (h : b ∈ berthsK fs ss may k) : -1 ≤ b.fl ∧ b.fl ≤ 1 ∧ b.fl < fs.length ∧ 0 ≤ b.day ∧ b.day ≤ 17 := by
  have hs : stAt ss k ∈ ss := by simp [stAt, List.getD, List.getElem?_eq_getElem hk]
  have := hall.st _ hs
  have hn := hall.nf
  unfold berthsK at h
  rcases List.mem_append.1 h with h | h
  · split at h
    · have : b = bnone := by simpa using h
      subst this; simp [bnone]; omega
    · cases h
  · split at h
    · have := mem_floorsFrom h; omega
    · cases h
theorem plan_set {fs : List Fl} {ss : List St} {p : List Be} {k : Nat} {b : Be} (hp : PlanOf fs ss p) (hk : k < ss.length) (hb : -1 ≤ b.fl ∧ b.fl ≤ 1 ∧ b.fl < fs.length ∧ 0 ≤ b.day ∧ b.day ≤ 17) : PlanOf fs ss (p.set k b) := by
  refine ⟨⟨by simpa using hp.ok.len, fun c hc => ?_⟩, fun c hc => ?_, fun i hi => ?_⟩
  · rcases List.mem_or_eq_of_mem_set hc with h | rfl
    · exact hp.ok.ok c h
    · omega
  · rcases List.mem_or_eq_of_mem_set hc with h | rfl
    · exact hp.fl c h
    · omega
  · have := hp.pad i hi
    simp only [beAt, List.getD] at this ⊢
    rw [List.getElem?_set_ne (by omega)]
    exact this
end Go.Mus

/- Methods by their rows; nil interfaces. Conditions: none; over any program. -/
namespace Go.Mus
theorem MV.row {P : Program} {t : TypeId} {name : String} {f : FuncId} (hm : ((P.info? t).bind fun i => i.methods.find? (·.name == name)).map (fun m => (m.path.toList.isEmpty, m.func)) = some (true, some (f, false)))
    (hd : (P.underlying t).map (fun d => match d with | .pointer _ => false | _ => true) = some true) : MV P t name f := ⟨fun h F v Q H => by
  obtain ⟨m, h1, h2⟩ := Option.map_eq_some_iff.1 hm
  obtain ⟨i, h3, h4⟩ := Option.bind_eq_some_iff.1 h1
  obtain ⟨d, h5, h6⟩ := Option.map_eq_some_iff.1 hd
  simp only [Prod.mk.injEq] at h2
  have hp : m.path.toList = [] := by simpa using h2.1
  have : TD P t d := ⟨h5⟩
  rw [show P.types.size + Made.depth = (P.types.size + 99) + 1 from rfl]
  generalize P.types.size + 99 = n
  simp only [method, bind_eq, pure_eq, bind_assoc, trb_typeInfo h3, h4, hp, follow, bind_pure, h2.2, receiverAt, trb_underlying]
  cases d <;> first | (simp at h6; done) | (simp only [Place.get, pure_eq, bind_pure]; exact H)⟩

def isNI : TypeDesc → Bool
  | .interface _ => false
  | _ => true
/-- A type that is no interface. -/
class NI (P : Program) (t : TypeId) : Prop where
  out : (P.underlying t).map isNI = some true
theorem yfcN {x : Cx} {ρ : Env} {S : Frag → Prop} {o : Oper} {t : TypeId} {y : Operand} {u : Value} (ho : o.op = .makeInterface t y) [i : NI x.P t] (hy : ev ρ y = some u) : Yv x S ρ o (.iface t u) := by
  obtain ⟨d, h1, h2⟩ := Option.map_eq_some_iff.1 i.out
  have : TD x.P t d := ⟨h1⟩
  exact y_iface ho (fun ms e => by subst e; cases h2) hy
/-- Interface values beside nil. -/
theorem eq_nil {P : Program} {t : TypeId} {ms : Array (String × TypeId)} [TD P t (.interface ms)] {h : Hp} {F : Frag} {β : Type} {f : Bool → Sem β} {Q : β → Frag → Prop} (d : Nat) : tr P h ((Op.equalIn (d + 1) t .nilIface .nilIface).bind f) F Q = tr P h (f true) F Q := by
  simp only [Op.equalIn, bind_eq, pure_eq, bind_assoc, bind_pure, trb_underlying]
theorem eq_nil' {P : Program} {t t₁ : TypeId} {u : Value} {ms : Array (String × TypeId)} [TD P t (.interface ms)] {h : Hp} {F : Frag} {β : Type} {f : Bool → Sem β} {Q : β → Frag → Prop} (d : Nat) : tr P h ((Op.equalIn (d + 1) t (.iface t₁ u) .nilIface).bind f) F Q = tr P h (f false) F Q := by
  simp only [Op.equalIn, bind_eq, pure_eq, bind_assoc, bind_pure, trb_underlying]
theorem equal_succ (t : TypeId) (a b : Value) : ∃ d, Op.equal t a b = Op.equalIn (d + 1) t a b := ⟨9999, rfl⟩

section
variable {x : Cx} {Q : Post} {ρ : Env} {ds : List Deferred} {F : Frag} {ops : Array Oper} {S : Frag → Prop} {i : Nat} {rest : List Nat} {o : Oper} {v : Value} {d : Tmp} {ty : TypeId} {pos : String} {aft : Array Edge} {g : Option (Nat × Bool)} {L : Frag}
theorem y_nilT {t t' : TypeId} {ms : Array (String × TypeId)} {y : Operand} (ho : o.op = .binOp .eql t y (.const .nilIface) t') [TD x.P t (.interface ms)] (hy : ev ρ y = some .nilIface) : Yv x S ρ o (.bool true) := fun e he F hF h' hE => by
  have hc : e (.const .nilIface) = .nilIface := he _ _ rfl
  have hg : eqGuard .eql t y (.const .nilIface) .nilIface .nilIface = .pure () := by
    simp [eqGuard, pure_eq]
  obtain ⟨dd, hdd⟩ := equal_succ t .nilIface .nilIface
  simp only [execOp, ho, he y _ hy, hc, hg, binOp, hdd, bind_eq, pure_eq, bind_assoc, bind_pure, eq_nil]
  exact ⟨rfl, rfl⟩
theorem y_nilF {t t' t₁ : TypeId} {u : Value} {ms : Array (String × TypeId)} {y : Operand} (ho : o.op = .binOp .eql t y (.const .nilIface) t') [TD x.P t (.interface ms)] (hy : ev ρ y = some (.iface t₁ u)) : Yv x S ρ o (.bool false) := fun e he F hF h' hE => by
  have hc : e (.const .nilIface) = .nilIface := he _ _ rfl
  have hg : eqGuard .eql t y (.const .nilIface) (.iface t₁ u) .nilIface = .pure () := by
    simp [eqGuard, pure_eq]
  obtain ⟨dd, hdd⟩ := equal_succ t (.iface t₁ u) .nilIface
  simp only [execOp, ho, he y _ hy, hc, hg, binOp, hdd, bind_eq, pure_eq, bind_assoc, bind_pure, eq_nil']
  exact ⟨rfl, rfl⟩
theorem y_nnilT {t t' t₁ : TypeId} {u : Value} {ms : Array (String × TypeId)} {y : Operand} (ho : o.op = .binOp .neq t y (.const .nilIface) t') [TD x.P t (.interface ms)] (hy : ev ρ y = some (.iface t₁ u)) : Yv x S ρ o (.bool true) := fun e he F hF h' hE => by
  have hc : e (.const .nilIface) = .nilIface := he _ _ rfl
  have hg : eqGuard .neq t y (.const .nilIface) (.iface t₁ u) .nilIface = .pure () := by
    simp [eqGuard, pure_eq]
  obtain ⟨dd, hdd⟩ := equal_succ t (.iface t₁ u) .nilIface
  simp only [execOp, ho, he y _ hy, hc, hg, binOp, hdd, bind_eq, pure_eq, bind_assoc, bind_pure, eq_nil']
  exact ⟨rfl, rfl⟩
theorem y_nnilF {t t' : TypeId} {ms : Array (String × TypeId)} {y : Operand} (ho : o.op = .binOp .neq t y (.const .nilIface) t') [TD x.P t (.interface ms)] (hy : ev ρ y = some .nilIface) : Yv x S ρ o (.bool false) := fun e he F hF h' hE => by
  have hc : e (.const .nilIface) = .nilIface := he _ _ rfl
  have hg : eqGuard .neq t y (.const .nilIface) .nilIface .nilIface = .pure () := by
    simp [eqGuard, pure_eq]
  obtain ⟨dd, hdd⟩ := equal_succ t .nilIface .nilIface
  simp only [execOp, ho, he y _ hy, hc, hg, binOp, hdd, bind_eq, pure_eq, bind_assoc, bind_pure, eq_nil]
  exact ⟨rfl, rfl⟩

variable {args : List Operand} {ts : Array TypeId} {vs : List Value} {y : Operand} {name : String} {t : TypeId} {u r : Value} {f : FuncId}
theorem e_invoke0 {R : Value → Frag → Prop} (ho : o.op = .call ⟨.invoke y name, args.toArray, ts⟩) (hy : ev ρ y = some (.iface t u)) [mv : MV x.P t name f] [FB x.P f] (hv : evs ρ args = some vs) (H : ∀ h', Ext x.h h' → Lent F h' → Pu x.P x.main f (u :: vs).toArray h' r) (K : ∀ A, Shut A → R r (A ++ F)) : Ef x ρ o F R :=
  e_invoke ho hy hv (Seg.head (A := []) (G := F)) H fun v A' hv => by
    obtain ⟨rfl, hs⟩ := hv
    exact K A' hs
/-- A method of an interface value answers. -/
theorem ci (H : ∀ h', Ext x.h h' → Lent F h' → Pu x.P x.main f (u :: vs).toArray h' r) (K : Ops x ops rest Q ((d, r) :: ρ) ds F) (ho : nthO ops.toList i = some ⟨some d, .call ⟨.invoke y name, args.toArray, ts⟩, ty, pos, aft, g⟩ := by rfl) (hy : ev ρ y = some (.iface t u) := by rfl) [mv : MV x.P t name f] [FB x.P f] (hv : evs ρ args = some vs := by rfl)
    (hw : want ops ρ ⟨some d, .call ⟨.invoke y name, args.toArray, ts⟩, ty, pos, aft, g⟩ := by first | exact wn | exact want_some rfl rfl rfl) (hd : Nat.blt d x.n = true := by rfl) : Ops x ops (i :: rest) Q ρ ds F :=
  Ops.eff (o := ⟨some d, .call ⟨.invoke y name, args.toArray, ts⟩, ty, pos, aft, g⟩) (e_invoke0 rfl hy hv H fun A hs => Ops.sb (Sb.left .refl hs) K) (nthO_get ho) hw hd rfl
theorem aci {fuel listed : Nat} (H : ∀ h', Ext x.h h' → Lent F h' → Pu x.P x.main f (u :: vs).toArray h' r) (K : Any x ops L fuel (listed ||| 2 ^ i) Q ((d, r) :: ρ) ds F) (hS : lastT ops i = true ∨ Keeps L F := by first | exact .inr (by repeat (first | exact fun _ h => h | exact fun _ h => absurd h List.not_mem_nil | apply Keeps.cons | apply Keeps.app)) | exact .inl (by kernel_rfl))
    (ho : nthO ops.toList i = some ⟨some d, .call ⟨.invoke y name, args.toArray, ts⟩, ty, pos, aft, g⟩ := by rfl) (hy : ev ρ y = some (.iface t u) := by rfl) [mv : MV x.P t name f] [FB x.P f] (hv : evs ρ args = some vs := by rfl)
    (hw : wantε ops (look ρ) ⟨some d, .call ⟨.invoke y name, args.toArray, ts⟩, ty, pos, aft, g⟩ true := by first | exact an | exact wantε_some rfl rfl rfl rfl) (hd : Nat.blt d x.n = true := by rfl) (hr : rdys ops listed = [i] := by kernel_rfl) : Any x ops L (fuel + 1) listed Q ρ ds F :=
  Any.eff (o := ⟨some d, .call ⟨.invoke y name, args.toArray, ts⟩, ty, pos, aft, g⟩) (e_invoke0 rfl hy hv H fun A hs => ⟨hS.imp id fun k p hp => List.mem_append_right _ (k p hp), Any.sb (Sb.left .refl hs) K⟩) hr (nthO_get ho) hw hd rfl
end
end Go.Mus

/- Functions of the library without a body: asked of the program's tables. Conditions: none; over any program. -/
namespace Go.Mus
/-- What a computation comes to that only looks at the program. -/
def pev {α : Type} (P : Program) : Sem α → Option α
  | .pure a => some a
  | .program k => pev P (k P)
  | _ => none
theorem pev_tr {α : Type} {P : Program} {h : Hp} : ∀ {s : Sem α} {a : α} {F : Frag} {Q : α → Frag → Prop}, pev P s = some a → Q a F → tr P h s F Q
  | .pure b, a, F, Q, e, H => by simp only [pev, Option.some.injEq] at e; subst e; exact H
  | .program k, a, F, Q, e, H => pev_tr (s := k P) e H
  | .load .., _, _, _, e, _ => by cases e
  | .store .., _, _, _, e, _ => by cases e
  | .new .., _, _, _, e, _ => by cases e
  | .shape .., _, _, _, e, _ => by cases e
  | .freeze .., _, _, _, e, _ => by cases e
  | .frozen .., _, _, _, e, _ => by cases e
  | .getObj .., _, _, _, e, _ => by cases e
  | .setObj .., _, _, _, e, _ => by cases e
  | .choose .., _, _, _, e, _ => by cases e
  | .sys .., _, _, _, e, _ => by cases e
  | .mark .., _, _, _, e, _ => by cases e
  | .halt _, _, _, _, e, _ => by cases e

/-- A function without a body, and what it does. -/
class XF (P : Program) (f : FuncId) (e : outParam (Array Value → Sem Value)) : Prop where
  out : ∃ fn, P.funcs[f]? = some fn ∧ (fn.name == "runtime.NumGoroutine") = false ∧ fn.body.isNone = true ∧ (Extern.findNext fn).isNone = true ∧ Extern.find fn = some e

theorem tr_callX {P : Program} {main : Side} {h : Hp} {F : Frag} {f : FuncId} {e : Array Value → Sem Value} [i : XF P f e] {args : Array Value} {R : Value → Frag → Prop} (H : tr P h (e args) F R) : tr P h (callFunc f args) F (nextOK P main h R) := by
  obtain ⟨fn, h1, h2, h3, h4, h5⟩ := i.out
  have h4' : Extern.findNext fn = none := by simpa using h4
  simp only [callFunc, bind_eq, pure_eq, trb_program, h1, h2, h3, h4', h5, Bool.false_eq_true, if_false, if_true]
  refine ⟨rfl, ?_⟩
  show tr P h ((e args).bind fun v => .pure (Next.value v)) F (nextOK P main h R)
  exact tr_bind (tr_mono H fun v F' r => r)

section
variable {x : Cx} {Q : Post} {ρ : Env} {ds : List Deferred} {F : Frag} {ops : Array Oper} {i : Nat} {rest : List Nat} {d : Tmp} {ty : TypeId} {pos : String} {aft : Array Edge} {g : Option (Nat × Bool)}
variable {args : List Operand} {ts : Array TypeId} {vs : List Value} {f : FuncId} {e : Array Value → Sem Value} {y : Operand} {name : String} {t : TypeId} {u r u' : Value}
/-- A call of one. -/
theorem cx {R : Value → Frag → Prop} (H : ∀ h', Ext x.h h' → tr x.P h' (e vs.toArray) F R) (K : ∀ v F', R v F' → Ops x ops rest Q ((d, v) :: ρ) ds F') (ho : nthO ops.toList i = some ⟨some d, .call ⟨.value (.func f), args.toArray, ts⟩, ty, pos, aft, g⟩ := by rfl) [XF x.P f e] (hv : evs ρ args = some vs := by rfl)
    (hw : want ops ρ ⟨some d, .call ⟨.value (.func f), args.toArray, ts⟩, ty, pos, aft, g⟩ := by first | exact wn | exact want_some rfl rfl rfl) (hd : Nat.blt d x.n = true := by rfl) : Ops x ops (i :: rest) Q ρ ds F :=
  Ops.eff (o := ⟨some d, .call ⟨.value (.func f), args.toArray, ts⟩, ty, pos, aft, g⟩) (fun ee he => ⟨F, [], by simp, fun h' e1 e2 => by
    have e3 : ee (.func f) = .func (.func f) #[] #[] := he _ _ rfl
    simp only [execOp, resolve, Deferred.ofValue, e3, bind_eq, pure_eq, bind_pure, invoke, List.map_toArray, evs_map he hv, List.append_toArray, List.nil_append, List.append_nil]
    exact tr_callX (tr_mono (H h' e1) fun v F' q => ⟨F', by simp, K v F' q⟩)⟩) (nthO_get ho) hw hd rfl
theorem cxp (hp : pev x.P (e vs.toArray) = some r) (K : Ops x ops rest Q ((d, r) :: ρ) ds F) (ho : nthO ops.toList i = some ⟨some d, .call ⟨.value (.func f), args.toArray, ts⟩, ty, pos, aft, g⟩ := by rfl) [XF x.P f e] (hv : evs ρ args = some vs := by rfl)
    (hw : want ops ρ ⟨some d, .call ⟨.value (.func f), args.toArray, ts⟩, ty, pos, aft, g⟩ := by first | exact wn | exact want_some rfl rfl rfl) (hd : Nat.blt d x.n = true := by rfl) : Ops x ops (i :: rest) Q ρ ds F :=
  cx (R := fun v F' => v = r ∧ F' = F) (fun h' _ => pev_tr hp ⟨rfl, rfl⟩) (fun v F' ⟨h1, h2⟩ => by subst h1 h2; exact K) ho hv hw hd
/-- A method of an interface value that has no body. -/
theorem cix (hm : pev x.P (method (x.P.types.size + Made.depth) t u name) = some (f, u')) (hp : pev x.P (e (u' :: vs).toArray) = some r) (K : Ops x ops rest Q ((d, r) :: ρ) ds F) (ho : nthO ops.toList i = some ⟨some d, .call ⟨.invoke y name, args.toArray, ts⟩, ty, pos, aft, g⟩ := by rfl) [XF x.P f e] (hy : ev ρ y = some (.iface t u) := by rfl) (hv : evs ρ args = some vs := by rfl)
    (hw : want ops ρ ⟨some d, .call ⟨.invoke y name, args.toArray, ts⟩, ty, pos, aft, g⟩ := by first | exact wn | exact want_some rfl rfl rfl) (hd : Nat.blt d x.n = true := by rfl) : Ops x ops (i :: rest) Q ρ ds F :=
  Ops.eff (o := ⟨some d, .call ⟨.invoke y name, args.toArray, ts⟩, ty, pos, aft, g⟩) (fun ee he => ⟨F, [], by simp, fun h' e1 e2 => by
    have e3 : ((#[Value.iface t u] ++ vs.toArray)[0]? : Option Value) = some (.iface t u) := by simp
    have e4 : (#[Value.iface t u] ++ vs.toArray).extract 1 (#[Value.iface t u] ++ vs.toArray).size = vs.toArray := by
      apply Array.ext'
      simp
    simp only [execOp, resolve, he y _ hy, bind_eq, pure_eq, bind_pure, List.map_toArray, evs_map he hv, invoke, e3, e4, callMethod, trb_program]
    refine tr_bind (pev_tr hm ?_)
    have e5 : #[u'] ++ vs.toArray = (u' :: vs).toArray := by simp
    simp only [e5]
    exact tr_callX (pev_tr hp ⟨F, by simp, K⟩)⟩) (nthO_get ho) hw hd rfl
end
end Go.Mus

/- Two answering operations in an open order. Conditions: none; over any program. -/
namespace Go.Mus
section
variable {x : Cx} {Q : Post} {ρ : Env} {ds : List Deferred} {F : Frag} {ops : Array Oper} {d : Tmp} {ty : TypeId} {pos : String} {aft : Array Edge} {g : Option (Nat × Bool)}
variable {args : List Operand} {ts : Array TypeId} {vs : List Value} {y : Operand} {name : String} {t : TypeId} {u r : Value} {f : FuncId}
/-- An operation that answers, whatever is done with it. -/
def An (x : Cx) (ρ : Env) (o : Oper) (F : Frag) (u : Value) : Prop := ∀ R : Value → Frag → Prop, (∀ A, Shut A → R u (A ++ F)) → Ef x ρ o F R
theorem An.oy {o : Oper} {u : Value} (hy : Yv x (· = F) ρ o u) : An x ρ o F u := fun R H => Ef.of_y hy (by simpa using H [] .nil)
theorem An.oi {o : Oper} (ho : o.op = .call ⟨.invoke y name, args.toArray, ts⟩) (hy : ev ρ y = some (.iface t u)) [mv : MV x.P t name f] [FB x.P f] (hv : evs ρ args = some vs) (H : ∀ h', Ext x.h h' → Lent F h' → Pu x.P x.main f (u :: vs).toArray h' r) : An x ρ o F r := fun R K => e_invoke0 ho hy hv H K
theorem An.oc {o : Oper} (ho : o.op = .call ⟨.value (.func f), args.toArray, ts⟩) [FB x.P f] (hv : evs ρ args = some vs) (H : ∀ h', Ext x.h h' → Lent F h' → Pu x.P x.main f vs.toArray h' r) : An x ρ o F r := fun R K => e_call0 ho hv H fun v A' hv => by
  obtain ⟨rfl, hs⟩ := hv
  exact K A' hs
/-- Two that may come up in either order, both answering. -/
theorem a2g {fuel listed i j d d' : Nat} {op op' : Op} {ty' : TypeId} {pos' : String} {aft' : Array Edge} {g' : Option (Nat × Bool)} {v w : Value} (ho : nthO ops.toList i = some ⟨some d, op, ty, pos, aft, g⟩) (ho' : nthO ops.toList j = some ⟨some d', op', ty', pos', aft', g'⟩)
    (hy : An x ρ ⟨some d, op, ty, pos, aft, g⟩ F v) (hy2 : An x ((d', w) :: ρ) ⟨some d, op, ty, pos, aft, g⟩ F v) (hy' : An x ρ ⟨some d', op', ty', pos', aft', g'⟩ F w) (hy2' : An x ((d, v) :: ρ) ⟨some d', op', ty', pos', aft', g'⟩ F w)
    (hw : wantε ops (look ρ) ⟨some d, op, ty, pos, aft, g⟩ true) (hw2 : wantε ops (look ((d', w) :: ρ)) ⟨some d, op, ty, pos, aft, g⟩ true) (hw' : wantε ops (look ρ) ⟨some d', op', ty', pos', aft', g'⟩ true) (hw2' : wantε ops (look ((d, v) :: ρ)) ⟨some d', op', ty', pos', aft', g'⟩ true)
    (hd : Nat.blt d x.n = true) (hd' : Nat.blt d' x.n = true) (hn : noDefer op = true) (hn' : noDefer op' = true)
    (H : Any x ops [] fuel ((listed ||| 2 ^ i) ||| 2 ^ j) Q ((d', w) :: (d, v) :: ρ) ds F) (hne : Nat.beq d d' = false := by rfl)
    (hr : rdys ops listed = [i, j] := by kernel_rfl) (hr1 : rdys ops (listed ||| 2 ^ i) = [j] := by kernel_rfl) (hr2 : rdys ops (listed ||| 2 ^ j) = [i] := by kernel_rfl) : Any x ops [] (fuel + 2) listed Q ρ ds F := by
  have hk : ∀ F : Frag, Keeps [] F := fun _ p hp => by cases hp
  refine Any.eff2 (o := ⟨some d, op, ty, pos, aft, g⟩) (o' := ⟨some d', op', ty', pos', aft', g'⟩) hr (nthO_get ho) (nthO_get ho') hw hw' hd hd' hn hn' (hy _ fun A hA => ⟨.inr (hk _), Any.sb (Sb.left .refl hA) ?_⟩) (hy' _ fun A hA => ⟨.inr (hk _), Any.sb (Sb.left .refl hA) ?_⟩)
  · exact Any.eff (o := ⟨some d', op', ty', pos', aft', g'⟩) (hy2' _ fun A hA => ⟨.inr (hk _), Any.sb (Sb.left .refl hA) H⟩) hr1 (nthO_get ho') hw2' hd' hn'
  · refine Any.eff (o := ⟨some d, op, ty, pos, aft, g⟩) (hy2 _ fun A hA => ⟨.inr (hk _), Any.sb (Sb.left .refl hA) ?_⟩) hr2 (nthO_get ho) hw2 hd hn
    have e1 : (listed ||| 2 ^ j) ||| 2 ^ i = (listed ||| 2 ^ i) ||| 2 ^ j := by rw [Nat.or_assoc, Nat.or_comm (2 ^ j), ← Nat.or_assoc]
    have e2 : look ((d, v) :: (d', w) :: ρ) = look ((d', w) :: (d, v) :: ρ) := by
      funext t
      show (bif Nat.beq t d then some v else bif Nat.beq t d' then some w else look ρ t) = (bif Nat.beq t d' then some w else bif Nat.beq t d then some v else look ρ t)
      cases h1 : Nat.beq t d with
      | false => rfl
      | true =>
        have : t = d := Nat.eq_of_beq_eq_true h1
        subst this
        rw [hne]; rfl
    rw [e1]
    unfold Any at H ⊢
    show anyT _ _ _ _ _ _ (look ((d, v) :: (d', w) :: ρ)) _
    rw [e2]
    exact H
end
end Go.Mus

/- A loop over a function that may be left: what is owned then is told apart. Conditions: none; over any program. -/
namespace Go.Mus
/-- ████ A LOOP OVER A FUNCTION, in a frame that is no round. -/
theorem W.rangeN {x : Cx} {Q : Post} {ρ : Env} {ds : List Deferred} {F : Frag} {f : Operand} {t : Tmp} {us bd : Code} {fv : Value} {X σ : Type} {enc : X → Value} {xs : List X} (hf : ev ρ f = some fv) (hro : x.ro = none) (ht : Nat.blt t x.n = true)
    (st : σ → X → σ) (ex : σ → X → Option Exit) (nx : X → σ → Prop) (D X' : σ → Frag → Prop) (s₀ : σ) {A₀ : Frag} {U₀ : Frag → Frag} (hs : Seg A₀ F U₀) (h0 : D s₀ A₀)
    (hi : ∀ h', Ext x.h h' → Lent (U₀ []) h' → Iter x.P x.main fv enc xs h')
    (hex : ∀ s p e, ex s p = some e → (jumpC e).isSome = true)
    (hnx : ∀ pre p post s', xs = pre ++ p :: post → runs (rstep st ex) (s₀, none) pre = ((s', none), true) → nx p s')
    (body : ∀ s p A, nx p s → D s A → ∀ l h', Ext x.h h' → Lent (U₀ []) h' → W { x with ro := some l, h := h' } us (fun e ρ₁ ds₁ F₁ => e = .normal ∧ ds₁ = [] ∧ ∀ h', Ext x.h h' → Lent (U₀ []) h' →
      W { x with ro := some l, h := h' } bd (fun e _ ds₂ F₂ => ds₂ = [] ∧ e = wayOut (ex s p) ∧ ∃ B, (match ex s p with | none => D (st s p) B | some _ => X' (st s p) B) ∧ Sb B F₂) ρ₁ [] F₁) ((t, enc p) :: ρ) [] A)
    (after : ∀ s e A, (runs (rstep st ex) (s₀, none) xs).1 = (s, e) → (match e with | none => D s A | some _ => X' s A) → ∀ d, Q (wayOut e) ρ (mark d :: ds) ((d, .deferred (some [])) :: U₀ A)) : W x (.rangeFunc f #[t] us bd) Q ρ ds F := by
  refine W.rangeFunc hf hro fun tmps hρ hsz l d => ?_
  let L (s : LoopState) (pd : Option Code) : Obj := .loop { state := s, pending := pd, fn := x.fn, tmps, params := #[t], assign := us, body := bd, defers := d }
  let J : σ × Option Exit → Frag → Prop := fun s A => s.2 = none ∧ ∃ B, D s.1 B ∧ A = B ++ [(l, L .ready none)]
  let K : σ × Option Exit → Frag → Prop := fun s A => ∃ B c, X' s.1 B ∧ s.2.bind jumpC = some c ∧ A = B ++ [(l, L .done (some c))]
  -- the frame: the loop's state, the loop's block, the rest
  refine ⟨A₀ ++ [(l, L .ready none)], (d, .deferred (some [])) :: U₀ [], fun _ A' => Out J K (runs (rstep st ex) (s₀, none) xs) A', ?_, ?_, ?_⟩
  · refine (List.perm_append_comm.append_right _).trans ?_
    refine List.Perm.cons _ ?_
    exact List.perm_middle.trans (hs.perm.1.cons _)
  · intro h' e1 e2
    have e3 : Lent (U₀ []) h' := fun b o hb => e2 b o (List.mem_cons_of_mem _ hb)
    refine hi h' e1 e3 h' ⟨fun _ _ z => z, fun _ z => z⟩ _ rfl (σ × Option Exit) (fun p s => s.2 = none → nx p s.1) (rstep st ex) J K ?_ (s₀, none) _ (fun pre p post s' e hr hn => hnx pre p post s'.1 e (by rw [hr, ← hn])) ⟨rfl, A₀, h0, rfl⟩
    -- a round
    rintro h'' e4 ⟨s, e⟩ p A hp ⟨rfl, B, hB, rfl⟩
    have hE : Ext x.h h'' := e1.trans e4
    have hL : Lent (U₀ []) h'' := fun b o hb => e4.1 _ _ (e3 b o hb)
    refine ⟨_, _, _, rfl, ?_⟩
    simp only [invoke, Instr.yield, Instr.getLoop, bind_eq, pure_eq, bind_assoc]
    refine ⟨L .ready none, .inr (List.mem_append_right _ (List.mem_cons_self ..)), (fun _ _ _ => by simp [L]), rfl, ?_⟩
    have ez : Array.foldl (fun (tmps : Array Value) (x : Tmp × Value) => tmps.setIfInBounds x.1 x.2) tmps (#[t].zip #[enc p]) = tmps.setIfInBounds t (enc p) := by simp
    show nextOK x.P x.main h'' _ (.round l x.fn (Array.foldl (fun (tmps : Array Value) (x : Tmp × Value) => tmps.setIfInBounds x.1 x.2) tmps (#[t].zip #[enc p])) us bd) _
    rw [ez]
    have hlt : t < tmps.size := by rw [hsz]; exact Nat.le_of_ble_eq_true ht
    have hρ' : EnvOK ((t, enc p) :: ρ) (tmps.setIfInBounds t (enc p)) := hρ.put hlt _
    have hsz' : (tmps.setIfInBounds t (enc p)).size = x.n := by simpa using hsz
    show Rnd x.P x.main l x.fn (tmps.setIfInBounds t (enc p)) us bd h'' _ _
    refine Rnd.of_body _ hρ' ?_
    rw [hsz']
    -- the assignment; the loop's block is lent meanwhile
    refine (W.frame (x := { x with ro := some l, h := h'' }) fun h₃ e5 _ => body s p B (hp rfl) hB l h₃ (hE.trans e5) (fun b o hb => e5.1 _ _ (hL b o hb))).mono ?_
    rintro e ρ₁ ds₁ F₁ ⟨A', ⟨rfl, rfl, hbd⟩, rfl⟩
    refine ⟨rfl, rfl, ?_⟩
    simp only [Instr.beginRound, Instr.getLoop, bind_eq, pure_eq, bind_assoc]
    refine ⟨L .ready none, .inr (List.mem_append_right _ (List.mem_cons_self ..)), (fun _ _ _ => by simp [L]), rfl, ?_⟩
    refine ⟨L .ready none, A', [], rfl, (fun _ _ _ => by simp [L]), rfl, ?_⟩
    show W _ _ _ _ _ (A' ++ [(l, L .busy none)])
    -- the body; the block is lent again
    refine (W.frame (x := { x with ro := some l, h := h'' }) fun h₃ e5 _ => hbd h₃ (hE.trans e5) (fun b o hb => e5.1 _ _ (hL b o hb))).mono ?_
    rintro e ρ₂ ds₂ F₂ ⟨A₂, ⟨rfl, rfl, B₂, hB₂, hsb⟩, rfl⟩
    refine ⟨rfl, (ex s p).bind jumpC, jumpOf_wayOut fun e he => hex s p e he, ?_⟩
    simp only [Instr.endRound, Instr.getLoop, bind_eq, pure_eq, bind_assoc]
    refine ⟨L .busy none, .inr (List.mem_append_right _ (List.mem_cons_self ..)), (fun _ _ _ => by simp [L]), rfl, ?_⟩
    refine ⟨L .busy none, A₂, [], rfl, (fun _ _ _ => by simp [L]), rfl, ?_⟩
    cases he : ex s p with
    | none =>
      simp only [he] at hB₂
      refine ⟨by simp [rstep, he], B₂ ++ [(l, L .ready none)], hsb.app .refl, ?_⟩
      simp only [rstep, he]
      exact ⟨rfl, B₂, hB₂, rfl⟩
    | some e =>
      simp only [he] at hB₂
      obtain ⟨c, hc⟩ := Option.isSome_iff_exists.1 (hex s p e he)
      have hj : (some e : Option Exit).bind jumpC = some c := hc
      refine ⟨by simp [rstep, he, hc], B₂ ++ [(l, L .done (some c))], ?_, ?_⟩
      · rw [hj]; exact hsb.app .refl
      · simp only [rstep, he]
        exact ⟨B₂, c, hB₂, hj, rfl⟩
  · rintro _ A' ⟨B, hsub, hB⟩
    refine ⟨B, hsub, ?_⟩
    generalize hr : runs (rstep st ex) (s₀, none) xs = r at hB
    obtain ⟨⟨s, e⟩, b⟩ := r
    have hrs := runs_rstep hr
    have haft := fun A hA => after s e A (by rw [hr]) hA d
    simp only [Instr.endLoop, Instr.getLoop, bind_eq, pure_eq, bind_assoc]
    cases b with
    | true =>
      obtain ⟨he, A, hA, rfl⟩ := hB
      simp only at he
      subst he
      refine ⟨L .ready none, .inr (List.mem_append_left _ (List.mem_append_right _ (List.mem_cons_self ..))), (fun _ _ _ => by simp [L]), rfl, ?_⟩
      refine ⟨L .ready none, A, (d, .deferred (some [])) :: U₀ [], by simp, (fun _ _ _ => by simp [L]), rfl, ?_⟩
      refine ⟨(d, .deferred (some [])) :: U₀ A, ?_, haft A hA⟩
      refine Sb.trans (Sb.of_perm ((hs.perm.2 A).cons _)) ?_
      refine (Sb.of_perm List.perm_middle.symm).trans (Sb.app .refl (Sb.skip rfl .refl))
    | false =>
      obtain ⟨A, c, hA, hc, rfl⟩ := hB
      simp only at hc
      obtain ⟨e, rfl, he⟩ := Option.bind_eq_some_iff.1 hc
      refine ⟨L .done (some c), .inr (List.mem_append_left _ (List.mem_append_right _ (List.mem_cons_self ..))), (fun _ _ _ => by simp [L]), rfl, ?_⟩
      refine ⟨L .done (some c), A, (d, .deferred (some [])) :: U₀ [], by simp, (fun _ _ _ => by simp [L]), rfl, ?_⟩
      show W x c Q ρ (mark d :: ds) _
      refine W.sb (F' := (d, .deferred (some [])) :: U₀ A) ?_ ?_
      · refine Sb.trans (Sb.of_perm ((hs.perm.2 A).cons _)) ?_
        refine (Sb.of_perm List.perm_middle.symm).trans (Sb.app .refl (Sb.skip rfl .refl))
      · have q := haft A hA
        cases e <;> simp only [jumpC, Option.some.injEq] at he <;> first | (cases he; done) | subst he
        · exact W.exit q
        · exact W.goto q
        · exact W.ret q

/-- .. whichever element may come. -/
theorem W.rangeX {x : Cx} {Q : Post} {ρ : Env} {ds : List Deferred} {F : Frag} {f : Operand} {t : Tmp} {us bd : Code} {fv : Value} {X σ : Type} {enc : X → Value} {xs : List X} (hf : ev ρ f = some fv) (hro : x.ro = none) (ht : Nat.blt t x.n = true)
    (st : σ → X → σ) (ex : σ → X → Option Exit) (D X' : σ → Frag → Prop) (s₀ : σ) {A₀ : Frag} {U₀ : Frag → Frag} (hs : Seg A₀ F U₀) (h0 : D s₀ A₀)
    (hi : ∀ h', Ext x.h h' → Lent (U₀ []) h' → Iter x.P x.main fv enc xs h')
    (hex : ∀ s p e, ex s p = some e → (jumpC e).isSome = true)
    (body : ∀ s p A, p ∈ xs → D s A → ∀ l h', Ext x.h h' → Lent (U₀ []) h' → W { x with ro := some l, h := h' } us (fun e ρ₁ ds₁ F₁ => e = .normal ∧ ds₁ = [] ∧ ∀ h', Ext x.h h' → Lent (U₀ []) h' →
      W { x with ro := some l, h := h' } bd (fun e _ ds₂ F₂ => ds₂ = [] ∧ e = wayOut (ex s p) ∧ ∃ B, (match ex s p with | none => D (st s p) B | some _ => X' (st s p) B) ∧ Sb B F₂) ρ₁ [] F₁) ((t, enc p) :: ρ) [] A)
    (after : ∀ s e A, (runs (rstep st ex) (s₀, none) xs).1 = (s, e) → (match e with | none => D s A | some _ => X' s A) → ∀ d, Q (wayOut e) ρ (mark d :: ds) ((d, .deferred (some [])) :: U₀ A)) : W x (.rangeFunc f #[t] us bd) Q ρ ds F :=
  W.rangeN hf hro ht st ex (fun p _ => p ∈ xs) D X' s₀ hs h0 hi hex (fun pre p post s' e _ => by rw [e]; simp) body after

/-- A deferred call of a closure. -/
theorem Unw.fn {P : Program} {main : Side} {h : Hp} {ds : List Deferred} {F A : Frag} {U : Frag → Frag} {K R : Frag → Prop} {f : FuncId} [FB P f] {cap : Array Value} (hs : Seg A F U) (H : ∀ h', Ext h h' → Lent (U []) h' → FnD P main f cap h' A R) (k : ∀ A', R A' → Unw P main h ds (A' ++ U []) K) : Unw P main h ({ target := .fn (.func f) cap, args := #[] } :: ds) F K := by
  obtain ⟨fn, h1, h2, h3⟩ := FB.out (inferInstance : FB P f)
  show tr P h (callFunc f (#[] ++ cap)) F _
  simp only [callFunc, bind_eq, pure_eq, trb_program, h1, h2, h3, Bool.false_eq_true, if_false, Array.empty_append]
  exact ⟨f, cap, rfl, A, U [], hs.perm.1, fun h' e1 e2 => (H h' e1 e2).mono fun A' r => k A' r⟩
theorem leave_fn {P : Program} {main : Side} {fn : Func} {h : Hp} {R' : Value → Frag → Prop} {e : Exit} {ρ : Env} {ds : List Deferred} {F A : Frag} {U : Frag → Frag} {R : Frag → Prop} {f : FuncId} [FB P f] {cap : Array Value} (hs : Seg A F U) (H : ∀ h', Ext h h' → Lent (U []) h' → FnD P main f cap h' A R) (k : ∀ A', R A' → leave P main fn h R' e ρ ds (A' ++ U [])) (he : e = .ret ∨ e = .normal := by first | exact .inl rfl | exact .inr rfl) : leave P main fn h R' e ρ ({ target := .fn (.func f) cap, args := #[] } :: ds) F :=
  ⟨he, Unw.fn hs H fun A' r => (k A' r).2⟩
end Go.Mus
