/- Names for the numbers of functions and types. Conditions: none. (And 9 texts more.) -/
import Derived.Test.YtabnpjbnoedfgaaDoorP06
set_option linter.unusedVariables false
set_option linter.unusedSimpArgs false

/- Names for the numbers of functions and types. Conditions: none. -/
namespace Go.Mus
noncomputable abbrev prog : Program := Go.Proofs.Tryd.prog
abbrev n_law_FloorWithout : Nat := 3
noncomputable abbrev F_law_FloorWithout : Func := Go.Proofs.Tryd.f3
theorem at_law_FloorWithout : prog.funcs[n_law_FloorWithout]? = some F_law_FloorWithout := Go.Proofs.Tryd.func3
abbrev n_law_FloorLate : Nat := 4
noncomputable abbrev F_law_FloorLate : Func := Go.Proofs.Tryd.f4
theorem at_law_FloorLate : prog.funcs[n_law_FloorLate]? = some F_law_FloorLate := Go.Proofs.Tryd.func4
abbrev n_law_FloorPatience : Nat := 5
noncomputable abbrev F_law_FloorPatience : Func := Go.Proofs.Tryd.f5
theorem at_law_FloorPatience : prog.funcs[n_law_FloorPatience]? = some F_law_FloorPatience := Go.Proofs.Tryd.func5
abbrev n_law_FloorNeed : Nat := 6
noncomputable abbrev F_law_FloorNeed : Func := Go.Proofs.Tryd.f6
theorem at_law_FloorNeed : prog.funcs[n_law_FloorNeed]? = some F_law_FloorNeed := Go.Proofs.Tryd.func6
abbrev n_law_FloorMore : Nat := 7
noncomputable abbrev F_law_FloorMore : Func := Go.Proofs.Tryd.f7
theorem at_law_FloorMore : prog.funcs[n_law_FloorMore]? = some F_law_FloorMore := Go.Proofs.Tryd.func7
abbrev n_law_FloorSlower : Nat := 8
noncomputable abbrev F_law_FloorSlower : Func := Go.Proofs.Tryd.f8
theorem at_law_FloorSlower : prog.funcs[n_law_FloorSlower]? = some F_law_FloorSlower := Go.Proofs.Tryd.func8
abbrev n_law_FloorBest : Nat := 9
noncomputable abbrev F_law_FloorBest : Func := Go.Proofs.Tryd.f9
theorem at_law_FloorBest : prog.funcs[n_law_FloorBest]? = some F_law_FloorBest := Go.Proofs.Tryd.func9
abbrev n_law_FloorLater : Nat := 10
noncomputable abbrev F_law_FloorLater : Func := Go.Proofs.Tryd.f10
theorem at_law_FloorLater : prog.funcs[n_law_FloorLater]? = some F_law_FloorLater := Go.Proofs.Tryd.func10
abbrev n_law_FloorNumbered : Nat := 11
noncomputable abbrev F_law_FloorNumbered : Func := Go.Proofs.Tryd.f11
theorem at_law_FloorNumbered : prog.funcs[n_law_FloorNumbered]? = some F_law_FloorNumbered := Go.Proofs.Tryd.func11
abbrev n_law_FloorHeat : Nat := 12
noncomputable abbrev F_law_FloorHeat : Func := Go.Proofs.Tryd.f12
theorem at_law_FloorHeat : prog.funcs[n_law_FloorHeat]? = some F_law_FloorHeat := Go.Proofs.Tryd.func12
abbrev n_law_FloorAll : Nat := 13
noncomputable abbrev F_law_FloorAll : Func := Go.Proofs.Tryd.f13
theorem at_law_FloorAll : prog.funcs[n_law_FloorAll]? = some F_law_FloorAll := Go.Proofs.Tryd.func13
abbrev n_law_FloorKnown : Nat := 14
noncomputable abbrev F_law_FloorKnown : Func := Go.Proofs.Tryd.f14
theorem at_law_FloorKnown : prog.funcs[n_law_FloorKnown]? = some F_law_FloorKnown := Go.Proofs.Tryd.func14
abbrev n_kit_PlantOf : Nat := 15
noncomputable abbrev F_kit_PlantOf : Func := Go.Proofs.Tryd.f15
theorem at_kit_PlantOf : prog.funcs[n_kit_PlantOf]? = some F_kit_PlantOf := Go.Proofs.Tryd.func15
abbrev n_kit_NewHat : Nat := 16
noncomputable abbrev F_kit_NewHat : Func := Go.Proofs.Tryd.f16
theorem at_kit_NewHat : prog.funcs[n_kit_NewHat]? = some F_kit_NewHat := Go.Proofs.Tryd.func16
abbrev n_law_set : Nat := 17
noncomputable abbrev F_law_set : Func := Go.Proofs.Tryd.f17
theorem at_law_set : prog.funcs[n_law_set]? = some F_law_set := Go.Proofs.Tryd.func17
abbrev n_kit_DupPlant : Nat := 18
noncomputable abbrev F_kit_DupPlant : Func := Go.Proofs.Tryd.f18
theorem at_kit_DupPlant : prog.funcs[n_kit_DupPlant]? = some F_kit_DupPlant := Go.Proofs.Tryd.func18
abbrev n_floor_Late : Nat := 19
noncomputable abbrev F_floor_Late : Func := Go.Proofs.Tryd.f19
theorem at_floor_Late : prog.funcs[n_floor_Late]? = some F_floor_Late := Go.Proofs.Tryd.func19
abbrev n_law_served : Nat := 20
noncomputable abbrev F_law_served : Func := Go.Proofs.Tryd.f20
theorem at_law_served : prog.funcs[n_law_served]? = some F_law_served := Go.Proofs.Tryd.func20
abbrev n_floor_Patience : Nat := 21
noncomputable abbrev F_floor_Patience : Func := Go.Proofs.Tryd.f21
theorem at_floor_Patience : prog.funcs[n_floor_Patience]? = some F_floor_Patience := Go.Proofs.Tryd.func21
abbrev n_ref_Waiting : Nat := 22
noncomputable abbrev F_ref_Waiting : Func := Go.Proofs.Tryd.f22
theorem at_ref_Waiting : prog.funcs[n_ref_Waiting]? = some F_ref_Waiting := Go.Proofs.Tryd.func22
abbrev n_kit_Hat_To : Nat := 23
noncomputable abbrev F_kit_Hat_To : Func := Go.Proofs.Tryd.f23
theorem at_kit_Hat_To : prog.funcs[n_kit_Hat_To]? = some F_kit_Hat_To := Go.Proofs.Tryd.func23
abbrev n_floor_Need : Nat := 24
noncomputable abbrev F_floor_Need : Func := Go.Proofs.Tryd.f24
theorem at_floor_Need : prog.funcs[n_floor_Need]? = some F_floor_Need := Go.Proofs.Tryd.func24
abbrev n_kit_Hat_From : Nat := 25
noncomputable abbrev F_kit_Hat_From : Func := Go.Proofs.Tryd.f25
theorem at_kit_Hat_From : prog.funcs[n_kit_Hat_From]? = some F_kit_Hat_From := Go.Proofs.Tryd.func25
abbrev n_law_loaves : Nat := 26
noncomputable abbrev F_law_loaves : Func := Go.Proofs.Tryd.f26
theorem at_law_loaves : prog.funcs[n_law_loaves]? = some F_law_loaves := Go.Proofs.Tryd.func26
abbrev n_floor_Slower : Nat := 27
noncomputable abbrev F_floor_Slower : Func := Go.Proofs.Tryd.f27
theorem at_floor_Slower : prog.funcs[n_floor_Slower]? = some F_floor_Slower := Go.Proofs.Tryd.func27
abbrev n_law_tiny : Nat := 28
noncomputable abbrev F_law_tiny : Func := Go.Proofs.Tryd.f28
theorem at_law_tiny : prog.funcs[n_law_tiny]? = some F_law_tiny := Go.Proofs.Tryd.func28
abbrev n_floor_Best : Nat := 29
noncomputable abbrev F_floor_Best : Func := Go.Proofs.Tryd.f29
theorem at_floor_Best : prog.funcs[n_floor_Best]? = some F_floor_Best := Go.Proofs.Tryd.func29
abbrev n_floor_Count : Nat := 30
noncomputable abbrev F_floor_Count : Func := Go.Proofs.Tryd.f30
theorem at_floor_Count : prog.funcs[n_floor_Count]? = some F_floor_Count := Go.Proofs.Tryd.func30
abbrev n_law_lists : Nat := 31
noncomputable abbrev F_law_lists : Func := Go.Proofs.Tryd.f31
theorem at_law_lists : prog.funcs[n_law_lists]? = some F_law_lists := Go.Proofs.Tryd.func31
abbrev n_ref_Loaves : Nat := 32
noncomputable abbrev F_ref_Loaves : Func := Go.Proofs.Tryd.f32
theorem at_ref_Loaves : prog.funcs[n_ref_Loaves]? = some F_ref_Loaves := Go.Proofs.Tryd.func32
abbrev n_floor_Wrong : Nat := 33
noncomputable abbrev F_floor_Wrong : Func := Go.Proofs.Tryd.f33
theorem at_floor_Wrong : prog.funcs[n_floor_Wrong]? = some F_floor_Wrong := Go.Proofs.Tryd.func33
abbrev n_kit_EqBerths : Nat := 34
noncomputable abbrev F_kit_EqBerths : Func := Go.Proofs.Tryd.f34
theorem at_kit_EqBerths : prog.funcs[n_kit_EqBerths]? = some F_kit_EqBerths := Go.Proofs.Tryd.func34
abbrev n_floor_Verdict : Nat := 35
noncomputable abbrev F_floor_Verdict : Func := Go.Proofs.Tryd.f35
theorem at_floor_Verdict : prog.funcs[n_floor_Verdict]? = some F_floor_Verdict := Go.Proofs.Tryd.func35
abbrev n_kit_DupBerths : Nat := 36
noncomputable abbrev F_kit_DupBerths : Func := Go.Proofs.Tryd.f36
theorem at_kit_DupBerths : prog.funcs[n_kit_DupBerths]? = some F_kit_DupBerths := Go.Proofs.Tryd.func36
abbrev n_law_later : Nat := 37
noncomputable abbrev F_law_later : Func := Go.Proofs.Tryd.f37
theorem at_law_later : prog.funcs[n_law_later]? = some F_law_later := Go.Proofs.Tryd.func37
abbrev n_floor_Stands : Nat := 38
noncomputable abbrev F_floor_Stands : Func := Go.Proofs.Tryd.f38
theorem at_floor_Stands : prog.funcs[n_floor_Stands]? = some F_floor_Stands := Go.Proofs.Tryd.func38
abbrev n_law_same : Nat := 39
noncomputable abbrev F_law_same : Func := Go.Proofs.Tryd.f39
theorem at_law_same : prog.funcs[n_law_same]? = some F_law_same := Go.Proofs.Tryd.func39
abbrev n_law_heats : Nat := 40
noncomputable abbrev F_law_heats : Func := Go.Proofs.Tryd.f40
theorem at_law_heats : prog.funcs[n_law_heats]? = some F_law_heats := Go.Proofs.Tryd.func40
abbrev n_law_shows : Nat := 41
noncomputable abbrev F_law_shows : Func := Go.Proofs.Tryd.f41
theorem at_law_shows : prog.funcs[n_law_shows]? = some F_law_shows := Go.Proofs.Tryd.func41
abbrev n_floor_Doubt : Nat := 42
noncomputable abbrev F_floor_Doubt : Func := Go.Proofs.Tryd.f42
theorem at_floor_Doubt : prog.funcs[n_floor_Doubt]? = some F_floor_Doubt := Go.Proofs.Tryd.func42
abbrev n_law_cones : Nat := 43
noncomputable abbrev F_law_cones : Func := Go.Proofs.Tryd.f43
theorem at_law_cones : prog.funcs[n_law_cones]? = some F_law_cones := Go.Proofs.Tryd.func43
abbrev n_floor_Empty : Nat := 44
noncomputable abbrev F_floor_Empty : Func := Go.Proofs.Tryd.f44
theorem at_floor_Empty : prog.funcs[n_floor_Empty]? = some F_floor_Empty := Go.Proofs.Tryd.func44
abbrev n_kit_EqInts : Nat := 45
noncomputable abbrev F_kit_EqInts : Func := Go.Proofs.Tryd.f45
theorem at_kit_EqInts : prog.funcs[n_kit_EqInts]? = some F_kit_EqInts := Go.Proofs.Tryd.func45
abbrev n_floor_Ready : Nat := 46
noncomputable abbrev F_floor_Ready : Func := Go.Proofs.Tryd.f46
theorem at_floor_Ready : prog.funcs[n_floor_Ready]? = some F_floor_Ready := Go.Proofs.Tryd.func46
abbrev n_law_plant : Nat := 47
noncomputable abbrev F_law_plant : Func := Go.Proofs.Tryd.f47
theorem at_law_plant : prog.funcs[n_law_plant]? = some F_law_plant := Go.Proofs.Tryd.func47
abbrev n_floor_Check : Nat := 48
noncomputable abbrev F_floor_Check : Func := Go.Proofs.Tryd.f48
theorem at_floor_Check : prog.funcs[n_floor_Check]? = some F_floor_Check := Go.Proofs.Tryd.func48
abbrev n_law_plan : Nat := 49
noncomputable abbrev F_law_plan : Func := Go.Proofs.Tryd.f49
theorem at_law_plan : prog.funcs[n_law_plan]? = some F_law_plan := Go.Proofs.Tryd.func49
abbrev n_floor_CheckPlan : Nat := 50
noncomputable abbrev F_floor_CheckPlan : Func := Go.Proofs.Tryd.f50
theorem at_floor_CheckPlan : prog.funcs[n_floor_CheckPlan]? = some F_floor_CheckPlan := Go.Proofs.Tryd.func50
abbrev n_law_none : Nat := 51
noncomputable abbrev F_law_none : Func := Go.Proofs.Tryd.f51
theorem at_law_none : prog.funcs[n_law_none]? = some F_law_none := Go.Proofs.Tryd.func51
abbrev n_kit_EqLists : Nat := 52
noncomputable abbrev F_kit_EqLists : Func := Go.Proofs.Tryd.f52
theorem at_kit_EqLists : prog.funcs[n_kit_EqLists]? = some F_kit_EqLists := Go.Proofs.Tryd.func52
abbrev n_kit_FloorOf : Nat := 53
noncomputable abbrev F_kit_FloorOf : Func := Go.Proofs.Tryd.f53
theorem at_kit_FloorOf : prog.funcs[n_kit_FloorOf]? = some F_kit_FloorOf := Go.Proofs.Tryd.func53
abbrev n_kit_Hat_One : Nat := 54
noncomputable abbrev F_kit_Hat_One : Func := Go.Proofs.Tryd.f54
theorem at_kit_Hat_One : prog.funcs[n_kit_Hat_One]? = some F_kit_Hat_One := Go.Proofs.Tryd.func54
abbrev n_floor_Late_1 : Nat := 55
noncomputable abbrev F_floor_Late_1 : Func := Go.Proofs.Tryd.f55
theorem at_floor_Late_1 : prog.funcs[n_floor_Late_1]? = some F_floor_Late_1 := Go.Proofs.Tryd.func55
abbrev n_floor_search_right : Nat := 56
noncomputable abbrev F_floor_search_right : Func := Go.Proofs.Tryd.f56
theorem at_floor_search_right : prog.funcs[n_floor_search_right]? = some F_floor_search_right := Go.Proofs.Tryd.func56
abbrev n_floor_first_int : Nat := 57
noncomputable abbrev F_floor_first_int : Func := Go.Proofs.Tryd.f57
theorem at_floor_first_int : prog.funcs[n_floor_first_int]? = some F_floor_first_int := Go.Proofs.Tryd.func57
abbrev n_floor_numbers : Nat := 58
noncomputable abbrev F_floor_numbers : Func := Go.Proofs.Tryd.f58
theorem at_floor_numbers : prog.funcs[n_floor_numbers]? = some F_floor_numbers := Go.Proofs.Tryd.func58
abbrev n_floor_Patience_1 : Nat := 59
noncomputable abbrev F_floor_Patience_1 : Func := Go.Proofs.Tryd.f59
theorem at_floor_Patience_1 : prog.funcs[n_floor_Patience_1]? = some F_floor_Patience_1 := Go.Proofs.Tryd.func59
abbrev n_slices_Clone_Strike : Nat := 60
noncomputable abbrev F_slices_Clone_Strike : Func := Go.Proofs.Tryd.f60
theorem at_slices_Clone_Strike : prog.funcs[n_slices_Clone_Strike]? = some F_slices_Clone_Strike := Go.Proofs.Tryd.func60
abbrev n_floor_bound : Nat := 61
noncomputable abbrev F_floor_bound : Func := Go.Proofs.Tryd.f61
theorem at_floor_bound : prog.funcs[n_floor_bound]? = some F_floor_bound := Go.Proofs.Tryd.func61
abbrev n_floor_search_some : Nat := 62
noncomputable abbrev F_floor_search_some : Func := Go.Proofs.Tryd.f62
theorem at_floor_search_some : prog.funcs[n_floor_search_some]? = some F_floor_search_some := Go.Proofs.Tryd.func62
abbrev n_kit_Hat_stir : Nat := 63
noncomputable abbrev F_kit_Hat_stir : Func := Go.Proofs.Tryd.f63
theorem at_kit_Hat_stir : prog.funcs[n_kit_Hat_stir]? = some F_kit_Hat_stir := Go.Proofs.Tryd.func63
abbrev n_floor_begin : Nat := 64
noncomputable abbrev F_floor_begin : Func := Go.Proofs.Tryd.f64
theorem at_floor_begin : prog.funcs[n_floor_begin]? = some F_floor_begin := Go.Proofs.Tryd.func64
abbrev n_floor_Need_1 : Nat := 65
noncomputable abbrev F_floor_Need_1 : Func := Go.Proofs.Tryd.f65
theorem at_floor_Need_1 : prog.funcs[n_floor_Need_1]? = some F_floor_Need_1 := Go.Proofs.Tryd.func65
abbrev n_floor_changed : Nat := 66
noncomputable abbrev F_floor_changed : Func := Go.Proofs.Tryd.f66
theorem at_floor_changed : prog.funcs[n_floor_changed]? = some F_floor_changed := Go.Proofs.Tryd.func66
abbrev n_floor_Need_1_1 : Nat := 67
noncomputable abbrev F_floor_Need_1_1 : Func := Go.Proofs.Tryd.f67
theorem at_floor_Need_1_1 : prog.funcs[n_floor_Need_1_1]? = some F_floor_Need_1_1 := Go.Proofs.Tryd.func67
abbrev n_floor_hall_best : Nat := 68
noncomputable abbrev F_floor_hall_best : Func := Go.Proofs.Tryd.f68
theorem at_floor_hall_best : prog.funcs[n_floor_hall_best]? = some F_floor_hall_best := Go.Proofs.Tryd.func68
abbrev n_slices_Reverse_int : Nat := 69
noncomputable abbrev F_slices_Reverse_int : Func := Go.Proofs.Tryd.f69
theorem at_slices_Reverse_int : prog.funcs[n_slices_Reverse_int]? = some F_slices_Reverse_int := Go.Proofs.Tryd.func69
abbrev n_floor_Slower_1 : Nat := 70
noncomputable abbrev F_floor_Slower_1 : Func := Go.Proofs.Tryd.f70
theorem at_floor_Slower_1 : prog.funcs[n_floor_Slower_1]? = some F_floor_Slower_1 := Go.Proofs.Tryd.func70
abbrev n_floor_Slower_1_1 : Nat := 71
noncomputable abbrev F_floor_Slower_1_1 : Func := Go.Proofs.Tryd.f71
theorem at_floor_Slower_1_1 : prog.funcs[n_floor_Slower_1_1]? = some F_floor_Slower_1_1 := Go.Proofs.Tryd.func71
abbrev n_kit_BerthsOf : Nat := 72
noncomputable abbrev F_kit_BerthsOf : Func := Go.Proofs.Tryd.f72
theorem at_kit_BerthsOf : prog.funcs[n_kit_BerthsOf]? = some F_kit_BerthsOf := Go.Proofs.Tryd.func72
abbrev n_floor_hall_told : Nat := 73
noncomputable abbrev F_floor_hall_told : Func := Go.Proofs.Tryd.f73
theorem at_floor_hall_told : prog.funcs[n_floor_hall_told]? = some F_floor_hall_told := Go.Proofs.Tryd.func73
abbrev n_floor_asked : Nat := 74
noncomputable abbrev F_floor_asked : Func := Go.Proofs.Tryd.f74
theorem at_floor_asked : prog.funcs[n_floor_asked]? = some F_floor_asked := Go.Proofs.Tryd.func74
abbrev n_errors_As : Nat := 75
noncomputable abbrev F_errors_As : Func := Go.Proofs.Tryd.f75
theorem at_errors_As : prog.funcs[n_errors_As]? = some F_errors_As := Go.Proofs.Tryd.func75
abbrev n_floor_hall_inspect : Nat := 76
noncomputable abbrev F_floor_hall_inspect : Func := Go.Proofs.Tryd.f76
theorem at_floor_hall_inspect : prog.funcs[n_floor_hall_inspect]? = some F_floor_hall_inspect := Go.Proofs.Tryd.func76
abbrev n_floor_outside : Nat := 77
noncomputable abbrev F_floor_outside : Func := Go.Proofs.Tryd.f77
theorem at_floor_outside : prog.funcs[n_floor_outside]? = some F_floor_outside := Go.Proofs.Tryd.func77
abbrev n_floor_hall_stands : Nat := 78
noncomputable abbrev F_floor_hall_stands : Func := Go.Proofs.Tryd.f78
theorem at_floor_hall_stands : prog.funcs[n_floor_hall_stands]? = some F_floor_hall_stands := Go.Proofs.Tryd.func78
abbrev n_kit_DupInts : Nat := 79
noncomputable abbrev F_kit_DupInts : Func := Go.Proofs.Tryd.f79
theorem at_kit_DupInts : prog.funcs[n_kit_DupInts]? = some F_kit_DupInts := Go.Proofs.Tryd.func79
abbrev n_law_between : Nat := 80
noncomputable abbrev F_law_between : Func := Go.Proofs.Tryd.f80
theorem at_law_between : prog.funcs[n_law_between]? = some F_law_between := Go.Proofs.Tryd.func80
abbrev n_floor_checkFloor : Nat := 81
noncomputable abbrev F_floor_checkFloor : Func := Go.Proofs.Tryd.f81
theorem at_floor_checkFloor : prog.funcs[n_floor_checkFloor]? = some F_floor_checkFloor := Go.Proofs.Tryd.func81
abbrev n_floor_search_right_1 : Nat := 82
noncomputable abbrev F_floor_search_right_1 : Func := Go.Proofs.Tryd.f82
theorem at_floor_search_right_1 : prog.funcs[n_floor_search_right_1]? = some F_floor_search_right_1 := Go.Proofs.Tryd.func82
abbrev n_floor_planOf : Nat := 83
noncomputable abbrev F_floor_planOf : Func := Go.Proofs.Tryd.f83
theorem at_floor_planOf : prog.funcs[n_floor_planOf]? = some F_floor_planOf := Go.Proofs.Tryd.func83
abbrev n_floor_search_right_1_1 : Nat := 84
noncomputable abbrev F_floor_search_right_1_1 : Func := Go.Proofs.Tryd.f84
theorem at_floor_search_right_1_1 : prog.funcs[n_floor_search_right_1_1]? = some F_floor_search_right_1_1 := Go.Proofs.Tryd.func84
abbrev n_floor_search_berths : Nat := 85
noncomputable abbrev F_floor_search_berths : Func := Go.Proofs.Tryd.f85
theorem at_floor_search_berths : prog.funcs[n_floor_search_berths]? = some F_floor_search_berths := Go.Proofs.Tryd.func85
abbrev n_floor_search_with : Nat := 86
noncomputable abbrev F_floor_search_with : Func := Go.Proofs.Tryd.f86
theorem at_floor_search_with : prog.funcs[n_floor_search_with]? = some F_floor_search_with := Go.Proofs.Tryd.func86
abbrev n_floor_search_right_1_1_1 : Nat := 87
noncomputable abbrev F_floor_search_right_1_1_1 : Func := Go.Proofs.Tryd.f87
theorem at_floor_search_right_1_1_1 : prog.funcs[n_floor_search_right_1_1_1]? = some F_floor_search_right_1_1_1 := Go.Proofs.Tryd.func87
abbrev n_slices_IndexFunc_int : Nat := 88
noncomputable abbrev F_slices_IndexFunc_int : Func := Go.Proofs.Tryd.f88
theorem at_slices_IndexFunc_int : prog.funcs[n_slices_IndexFunc_int]? = some F_slices_IndexFunc_int := Go.Proofs.Tryd.func88
abbrev n_slices_Clone_Floor : Nat := 89
noncomputable abbrev F_slices_Clone_Floor : Func := Go.Proofs.Tryd.f89
theorem at_slices_Clone_Floor : prog.funcs[n_slices_Clone_Floor]? = some F_slices_Clone_Floor := Go.Proofs.Tryd.func89
abbrev n_floor_most_add : Nat := 90
noncomputable abbrev F_floor_most_add : Func := Go.Proofs.Tryd.f90
theorem at_floor_most_add : prog.funcs[n_floor_most_add]? = some F_floor_most_add := Go.Proofs.Tryd.func90
abbrev n_floor_free : Nat := 91
noncomputable abbrev F_floor_free : Func := Go.Proofs.Tryd.f91
theorem at_floor_free : prog.funcs[n_floor_free]? = some F_floor_free := Go.Proofs.Tryd.func91
abbrev n_floor_search_all : Nat := 92
noncomputable abbrev F_floor_search_all : Func := Go.Proofs.Tryd.f92
theorem at_floor_search_all : prog.funcs[n_floor_search_all]? = some F_floor_search_all := Go.Proofs.Tryd.func92
abbrev n_floor_hall_loaves : Nat := 93
noncomputable abbrev F_floor_hall_loaves : Func := Go.Proofs.Tryd.f93
theorem at_floor_hall_loaves : prog.funcs[n_floor_hall_loaves]? = some F_floor_hall_loaves := Go.Proofs.Tryd.func93
abbrev n_kit_Hat_Seldom : Nat := 94
noncomputable abbrev F_kit_Hat_Seldom : Func := Go.Proofs.Tryd.f94
theorem at_kit_Hat_Seldom : prog.funcs[n_kit_Hat_Seldom]? = some F_kit_Hat_Seldom := Go.Proofs.Tryd.func94
abbrev n_slices_Clone_Berth : Nat := 95
noncomputable abbrev F_slices_Clone_Berth : Func := Go.Proofs.Tryd.f95
theorem at_slices_Clone_Berth : prog.funcs[n_slices_Clone_Berth]? = some F_slices_Clone_Berth := Go.Proofs.Tryd.func95
abbrev n_reflectlite_ValueOf : Nat := 96
noncomputable abbrev F_reflectlite_ValueOf : Func := Go.Proofs.Tryd.f96
theorem at_reflectlite_ValueOf : prog.funcs[n_reflectlite_ValueOf]? = some F_reflectlite_ValueOf := Go.Proofs.Tryd.func96
abbrev n_reflectlite_Value_Type : Nat := 97
noncomputable abbrev F_reflectlite_Value_Type : Func := Go.Proofs.Tryd.f97
theorem at_reflectlite_Value_Type : prog.funcs[n_reflectlite_Value_Type]? = some F_reflectlite_Value_Type := Go.Proofs.Tryd.func97
abbrev n_reflectlite_Value_IsNil : Nat := 98
noncomputable abbrev F_reflectlite_Value_IsNil : Func := Go.Proofs.Tryd.f98
theorem at_reflectlite_Value_IsNil : prog.funcs[n_reflectlite_Value_IsNil]? = some F_reflectlite_Value_IsNil := Go.Proofs.Tryd.func98
abbrev n_errors_as : Nat := 99
noncomputable abbrev F_errors_as : Func := Go.Proofs.Tryd.f99
theorem at_errors_as : prog.funcs[n_errors_as]? = some F_errors_as := Go.Proofs.Tryd.func99
abbrev n_floor_hall_look : Nat := 100
noncomputable abbrev F_floor_hall_look : Func := Go.Proofs.Tryd.f100
theorem at_floor_hall_look : prog.funcs[n_floor_hall_look]? = some F_floor_hall_look := Go.Proofs.Tryd.func100
abbrev n_floor_hall_set : Nat := 101
noncomputable abbrev F_floor_hall_set : Func := Go.Proofs.Tryd.f101
theorem at_floor_hall_set : prog.funcs[n_floor_hall_set]? = some F_floor_hall_set := Go.Proofs.Tryd.func101
abbrev n_floor_search_berths_1 : Nat := 102
noncomputable abbrev F_floor_search_berths_1 : Func := Go.Proofs.Tryd.f102
theorem at_floor_search_berths_1 : prog.funcs[n_floor_search_berths_1]? = some F_floor_search_berths_1 := Go.Proofs.Tryd.func102
abbrev n_floor_search_with_1 : Nat := 103
noncomputable abbrev F_floor_search_with_1 : Func := Go.Proofs.Tryd.f103
theorem at_floor_search_with_1 : prog.funcs[n_floor_search_with_1]? = some F_floor_search_with_1 := Go.Proofs.Tryd.func103
abbrev n_slices_Collect_plan : Nat := 104
noncomputable abbrev F_slices_Collect_plan : Func := Go.Proofs.Tryd.f104
theorem at_slices_Collect_plan : prog.funcs[n_slices_Collect_plan]? = some F_slices_Collect_plan := Go.Proofs.Tryd.func104
abbrev n_floor_search_all_1 : Nat := 105
noncomputable abbrev F_floor_search_all_1 : Func := Go.Proofs.Tryd.f105
theorem at_floor_search_all_1 : prog.funcs[n_floor_search_all_1]? = some F_floor_search_all_1 := Go.Proofs.Tryd.func105
abbrev n_reflectlite_TypeOf : Nat := 106
noncomputable abbrev F_reflectlite_TypeOf : Func := Go.Proofs.Tryd.f106
theorem at_reflectlite_TypeOf : prog.funcs[n_reflectlite_TypeOf]? = some F_reflectlite_TypeOf := Go.Proofs.Tryd.func106
abbrev n_reflectlite_Value_Elem : Nat := 107
noncomputable abbrev F_reflectlite_Value_Elem : Func := Go.Proofs.Tryd.f107
theorem at_reflectlite_Value_Elem : prog.funcs[n_reflectlite_Value_Elem]? = some F_reflectlite_Value_Elem := Go.Proofs.Tryd.func107
abbrev n_reflectlite_Value_Set : Nat := 108
noncomputable abbrev F_reflectlite_Value_Set : Func := Go.Proofs.Tryd.f108
theorem at_reflectlite_Value_Set : prog.funcs[n_reflectlite_Value_Set]? = some F_reflectlite_Value_Set := Go.Proofs.Tryd.func108
abbrev n_floor_hall_set_1 : Nat := 109
noncomputable abbrev F_floor_hall_set_1 : Func := Go.Proofs.Tryd.f109
theorem at_floor_hall_set_1 : prog.funcs[n_floor_hall_set_1]? = some F_floor_hall_set_1 := Go.Proofs.Tryd.func109
abbrev n_slices_SortStableFunc_int : Nat := 110
noncomputable abbrev F_slices_SortStableFunc_int : Func := Go.Proofs.Tryd.f110
theorem at_slices_SortStableFunc_int : prog.funcs[n_slices_SortStableFunc_int]? = some F_slices_SortStableFunc_int := Go.Proofs.Tryd.func110
abbrev n_floor_hall_set_1_1 : Nat := 111
noncomputable abbrev F_floor_hall_set_1_1 : Func := Go.Proofs.Tryd.f111
theorem at_floor_hall_set_1_1 : prog.funcs[n_floor_hall_set_1_1]? = some F_floor_hall_set_1_1 := Go.Proofs.Tryd.func111
abbrev n_slices_AppendSeq_plan : Nat := 112
noncomputable abbrev F_slices_AppendSeq_plan : Func := Go.Proofs.Tryd.f112
theorem at_slices_AppendSeq_plan : prog.funcs[n_slices_AppendSeq_plan]? = some F_slices_AppendSeq_plan := Go.Proofs.Tryd.func112
abbrev n_slices_stableCmpFunc_int : Nat := 113
noncomputable abbrev F_slices_stableCmpFunc_int : Func := Go.Proofs.Tryd.f113
theorem at_slices_stableCmpFunc_int : prog.funcs[n_slices_stableCmpFunc_int]? = some F_slices_stableCmpFunc_int := Go.Proofs.Tryd.func113
abbrev n_slices_insertionSortCmpFunc_int : Nat := 114
noncomputable abbrev F_slices_insertionSortCmpFunc_int : Func := Go.Proofs.Tryd.f114
theorem at_slices_insertionSortCmpFunc_int : prog.funcs[n_slices_insertionSortCmpFunc_int]? = some F_slices_insertionSortCmpFunc_int := Go.Proofs.Tryd.func114
abbrev n_slices_symMergeCmpFunc_int : Nat := 115
noncomputable abbrev F_slices_symMergeCmpFunc_int : Func := Go.Proofs.Tryd.f115
theorem at_slices_symMergeCmpFunc_int : prog.funcs[n_slices_symMergeCmpFunc_int]? = some F_slices_symMergeCmpFunc_int := Go.Proofs.Tryd.func115
abbrev n_slices_rotateCmpFunc_int : Nat := 116
noncomputable abbrev F_slices_rotateCmpFunc_int : Func := Go.Proofs.Tryd.f116
theorem at_slices_rotateCmpFunc_int : prog.funcs[n_slices_rotateCmpFunc_int]? = some F_slices_rotateCmpFunc_int := Go.Proofs.Tryd.func116
abbrev n_slices_swapRangeCmpFunc_int : Nat := 117
noncomputable abbrev F_slices_swapRangeCmpFunc_int : Func := Go.Proofs.Tryd.f117
theorem at_slices_swapRangeCmpFunc_int : prog.funcs[n_slices_swapRangeCmpFunc_int]? = some F_slices_swapRangeCmpFunc_int := Go.Proofs.Tryd.func117
abbrev n_runtime_boundsError_Error : Nat := 118
noncomputable abbrev F_runtime_boundsError_Error : Func := Go.Proofs.Tryd.f118
theorem at_runtime_boundsError_Error : prog.funcs[n_runtime_boundsError_Error]? = some F_runtime_boundsError_Error := Go.Proofs.Tryd.func118
abbrev n_runtime_boundsError_RuntimeError : Nat := 119
noncomputable abbrev F_runtime_boundsError_RuntimeError : Func := Go.Proofs.Tryd.f119
theorem at_runtime_boundsError_RuntimeError : prog.funcs[n_runtime_boundsError_RuntimeError]? = some F_runtime_boundsError_RuntimeError := Go.Proofs.Tryd.func119
abbrev n_runtime_errorString_Error : Nat := 120
noncomputable abbrev F_runtime_errorString_Error : Func := Go.Proofs.Tryd.f120
theorem at_runtime_errorString_Error : prog.funcs[n_runtime_errorString_Error]? = some F_runtime_errorString_Error := Go.Proofs.Tryd.func120
abbrev n_runtime_errorString_RuntimeError : Nat := 121
noncomputable abbrev F_runtime_errorString_RuntimeError : Func := Go.Proofs.Tryd.f121
theorem at_runtime_errorString_RuntimeError : prog.funcs[n_runtime_errorString_RuntimeError]? = some F_runtime_errorString_RuntimeError := Go.Proofs.Tryd.func121
abbrev n_runtime_plainError_Error : Nat := 122
noncomputable abbrev F_runtime_plainError_Error : Func := Go.Proofs.Tryd.f122
theorem at_runtime_plainError_Error : prog.funcs[n_runtime_plainError_Error]? = some F_runtime_plainError_Error := Go.Proofs.Tryd.func122
abbrev n_runtime_plainError_RuntimeError : Nat := 123
noncomputable abbrev F_runtime_plainError_RuntimeError : Func := Go.Proofs.Tryd.f123
theorem at_runtime_plainError_RuntimeError : prog.funcs[n_runtime_plainError_RuntimeError]? = some F_runtime_plainError_RuntimeError := Go.Proofs.Tryd.func123
abbrev n_runtime_errorAddressString_Error : Nat := 124
noncomputable abbrev F_runtime_errorAddressString_Error : Func := Go.Proofs.Tryd.f124
theorem at_runtime_errorAddressString_Error : prog.funcs[n_runtime_errorAddressString_Error]? = some F_runtime_errorAddressString_Error := Go.Proofs.Tryd.func124
abbrev n_runtime_errorAddressString_RuntimeError : Nat := 125
noncomputable abbrev F_runtime_errorAddressString_RuntimeError : Func := Go.Proofs.Tryd.f125
theorem at_runtime_errorAddressString_RuntimeError : prog.funcs[n_runtime_errorAddressString_RuntimeError]? = some F_runtime_errorAddressString_RuntimeError := Go.Proofs.Tryd.func125
abbrev n_runtime_TypeAssertionError_Error : Nat := 126
noncomputable abbrev F_runtime_TypeAssertionError_Error : Func := Go.Proofs.Tryd.f126
theorem at_runtime_TypeAssertionError_Error : prog.funcs[n_runtime_TypeAssertionError_Error]? = some F_runtime_TypeAssertionError_Error := Go.Proofs.Tryd.func126
abbrev n_runtime_TypeAssertionError_RuntimeError : Nat := 127
noncomputable abbrev F_runtime_TypeAssertionError_RuntimeError : Func := Go.Proofs.Tryd.f127
theorem at_runtime_TypeAssertionError_RuntimeError : prog.funcs[n_runtime_TypeAssertionError_RuntimeError]? = some F_runtime_TypeAssertionError_RuntimeError := Go.Proofs.Tryd.func127
abbrev n_runtime_PanicNilError_Error : Nat := 128
noncomputable abbrev F_runtime_PanicNilError_Error : Func := Go.Proofs.Tryd.f128
theorem at_runtime_PanicNilError_Error : prog.funcs[n_runtime_PanicNilError_Error]? = some F_runtime_PanicNilError_Error := Go.Proofs.Tryd.func128
abbrev n_runtime_PanicNilError_RuntimeError : Nat := 129
noncomputable abbrev F_runtime_PanicNilError_RuntimeError : Func := Go.Proofs.Tryd.f129
theorem at_runtime_PanicNilError_RuntimeError : prog.funcs[n_runtime_PanicNilError_RuntimeError]? = some F_runtime_PanicNilError_RuntimeError := Go.Proofs.Tryd.func129
abbrev n_abi_Type_Align : Nat := 130
noncomputable abbrev F_abi_Type_Align : Func := Go.Proofs.Tryd.f130
theorem at_abi_Type_Align : prog.funcs[n_abi_Type_Align]? = some F_abi_Type_Align := Go.Proofs.Tryd.func130
abbrev n_abi_Type_Elem : Nat := 131
noncomputable abbrev F_abi_Type_Elem : Func := Go.Proofs.Tryd.f131
theorem at_abi_Type_Elem : prog.funcs[n_abi_Type_Elem]? = some F_abi_Type_Elem := Go.Proofs.Tryd.func131
abbrev n_abi_Type_Kind : Nat := 132
noncomputable abbrev F_abi_Type_Kind : Func := Go.Proofs.Tryd.f132
theorem at_abi_Type_Kind : prog.funcs[n_abi_Type_Kind]? = some F_abi_Type_Kind := Go.Proofs.Tryd.func132
abbrev n_runtime_maps_unhashableTypeError_Error : Nat := 133
noncomputable abbrev F_runtime_maps_unhashableTypeError_Error : Func := Go.Proofs.Tryd.f133
theorem at_runtime_maps_unhashableTypeError_Error : prog.funcs[n_runtime_maps_unhashableTypeError_Error]? = some F_runtime_maps_unhashableTypeError_Error := Go.Proofs.Tryd.func133
abbrev n_runtime_maps_unhashableTypeError_RuntimeError : Nat := 134
noncomputable abbrev F_runtime_maps_unhashableTypeError_RuntimeError : Func := Go.Proofs.Tryd.f134
theorem at_runtime_maps_unhashableTypeError_RuntimeError : prog.funcs[n_runtime_maps_unhashableTypeError_RuntimeError]? = some F_runtime_maps_unhashableTypeError_RuntimeError := Go.Proofs.Tryd.func134
abbrev n_api_Errno_Error : Nat := 135
noncomputable abbrev F_api_Errno_Error : Func := Go.Proofs.Tryd.f135
theorem at_api_Errno_Error : prog.funcs[n_api_Errno_Error]? = some F_api_Errno_Error := Go.Proofs.Tryd.func135
abbrev n_floor_wrong_Error : Nat := 136
noncomputable abbrev F_floor_wrong_Error : Func := Go.Proofs.Tryd.f136
theorem at_floor_wrong_Error : prog.funcs[n_floor_wrong_Error]? = some F_floor_wrong_Error := Go.Proofs.Tryd.func136
abbrev n_reflectlite_flag_mustBeAssignable : Nat := 137
noncomputable abbrev F_reflectlite_flag_mustBeAssignable : Func := Go.Proofs.Tryd.f137
theorem at_reflectlite_flag_mustBeAssignable : prog.funcs[n_reflectlite_flag_mustBeAssignable]? = some F_reflectlite_flag_mustBeAssignable := Go.Proofs.Tryd.func137
abbrev n_reflectlite_Value_Kind : Nat := 138
noncomputable abbrev F_reflectlite_Value_Kind : Func := Go.Proofs.Tryd.f138
theorem at_reflectlite_Value_Kind : prog.funcs[n_reflectlite_Value_Kind]? = some F_reflectlite_Value_Kind := Go.Proofs.Tryd.func138
abbrev n_abi_Kind_String : Nat := 139
noncomputable abbrev F_abi_Kind_String : Func := Go.Proofs.Tryd.f139
theorem at_abi_Kind_String : prog.funcs[n_abi_Kind_String]? = some F_abi_Kind_String := Go.Proofs.Tryd.func139
abbrev n_abi_Type_Size : Nat := 140
noncomputable abbrev F_abi_Type_Size : Func := Go.Proofs.Tryd.f140
theorem at_abi_Type_Size : prog.funcs[n_abi_Type_Size]? = some F_abi_Type_Size := Go.Proofs.Tryd.func140
abbrev n_reflectlite_rtype_AssignableTo : Nat := 141
noncomputable abbrev F_reflectlite_rtype_AssignableTo : Func := Go.Proofs.Tryd.f141
theorem at_reflectlite_rtype_AssignableTo : prog.funcs[n_reflectlite_rtype_AssignableTo]? = some F_reflectlite_rtype_AssignableTo := Go.Proofs.Tryd.func141
abbrev n_reflectlite_rtype_Comparable : Nat := 142
noncomputable abbrev F_reflectlite_rtype_Comparable : Func := Go.Proofs.Tryd.f142
theorem at_reflectlite_rtype_Comparable : prog.funcs[n_reflectlite_rtype_Comparable]? = some F_reflectlite_rtype_Comparable := Go.Proofs.Tryd.func142
abbrev n_reflectlite_rtype_Elem : Nat := 143
noncomputable abbrev F_reflectlite_rtype_Elem : Func := Go.Proofs.Tryd.f143
theorem at_reflectlite_rtype_Elem : prog.funcs[n_reflectlite_rtype_Elem]? = some F_reflectlite_rtype_Elem := Go.Proofs.Tryd.func143
abbrev n_reflectlite_rtype_Implements : Nat := 144
noncomputable abbrev F_reflectlite_rtype_Implements : Func := Go.Proofs.Tryd.f144
theorem at_reflectlite_rtype_Implements : prog.funcs[n_reflectlite_rtype_Implements]? = some F_reflectlite_rtype_Implements := Go.Proofs.Tryd.func144
abbrev n_reflectlite_rtype_Name : Nat := 145
noncomputable abbrev F_reflectlite_rtype_Name : Func := Go.Proofs.Tryd.f145
theorem at_reflectlite_rtype_Name : prog.funcs[n_reflectlite_rtype_Name]? = some F_reflectlite_rtype_Name := Go.Proofs.Tryd.func145
abbrev n_reflectlite_rtype_PkgPath : Nat := 146
noncomputable abbrev F_reflectlite_rtype_PkgPath : Func := Go.Proofs.Tryd.f146
theorem at_reflectlite_rtype_PkgPath : prog.funcs[n_reflectlite_rtype_PkgPath]? = some F_reflectlite_rtype_PkgPath := Go.Proofs.Tryd.func146
abbrev n_reflectlite_rtype_String : Nat := 147
noncomputable abbrev F_reflectlite_rtype_String : Func := Go.Proofs.Tryd.f147
theorem at_reflectlite_rtype_String : prog.funcs[n_reflectlite_rtype_String]? = some F_reflectlite_rtype_String := Go.Proofs.Tryd.func147
abbrev n_reflectlite_rtype_common : Nat := 148
noncomputable abbrev F_reflectlite_rtype_common : Func := Go.Proofs.Tryd.f148
theorem at_reflectlite_rtype_common : prog.funcs[n_reflectlite_rtype_common]? = some F_reflectlite_rtype_common := Go.Proofs.Tryd.func148
abbrev n_reflectlite_rtype_uncommon : Nat := 149
noncomputable abbrev F_reflectlite_rtype_uncommon : Func := Go.Proofs.Tryd.f149
theorem at_reflectlite_rtype_uncommon : prog.funcs[n_reflectlite_rtype_uncommon]? = some F_reflectlite_rtype_uncommon := Go.Proofs.Tryd.func149
abbrev n_reflectlite_ValueError_Error : Nat := 150
noncomputable abbrev F_reflectlite_ValueError_Error : Func := Go.Proofs.Tryd.f150
theorem at_reflectlite_ValueError_Error : prog.funcs[n_reflectlite_ValueError_Error]? = some F_reflectlite_ValueError_Error := Go.Proofs.Tryd.func150
abbrev n_floor_full_day : Nat := 151
noncomputable abbrev F_floor_full_day : Func := Go.Proofs.Tryd.f151
theorem at_floor_full_day : prog.funcs[n_floor_full_day]? = some F_floor_full_day := Go.Proofs.Tryd.func151
abbrev n_floor_cold_day : Nat := 152
noncomputable abbrev F_floor_cold_day : Func := Go.Proofs.Tryd.f152
theorem at_floor_cold_day : prog.funcs[n_floor_cold_day]? = some F_floor_cold_day := Go.Proofs.Tryd.func152
abbrev n_abi_UncommonType_ExportedMethods : Nat := 153
noncomputable abbrev F_abi_UncommonType_ExportedMethods : Func := Go.Proofs.Tryd.f153
theorem at_abi_UncommonType_ExportedMethods : prog.funcs[n_abi_UncommonType_ExportedMethods]? = some F_abi_UncommonType_ExportedMethods := Go.Proofs.Tryd.func153
abbrev t_int64 : TypeId := 2
abbrev t_int : TypeId := 3
abbrev t_bool : TypeId := 4
abbrev t_uint8 : TypeId := 5
abbrev t_abi_BoundsErrorCode : TypeId := 6
abbrev t_runtime_boundsError : TypeId := 8
abbrev t_string : TypeId := 9
abbrev t_runtime_errorString : TypeId := 10
abbrev t_runtime_plainError : TypeId := 11
abbrev t_uintptr : TypeId := 12
abbrev t_runtime_errorAddressString : TypeId := 14
abbrev t_p_runtime_TypeAssertionError : TypeId := 15
abbrev t_p_runtime_PanicNilError : TypeId := 16
abbrev t_p_abi_Type : TypeId := 17
abbrev t_maps_unhashableTypeError : TypeId := 19
abbrev t_any : TypeId := 20
abbrev t_int32 : TypeId := 21
abbrev t_sl_int : TypeId := 22
abbrev t_sl_Floor : TypeId := 23
abbrev t_sl_Strike : TypeId := 24
abbrev t_Plant : TypeId := 26
abbrev t_p_Hat : TypeId := 28
abbrev t_Errno : TypeId := 32
abbrev t_Span : TypeId := 42
abbrev t_Floor : TypeId := 44
abbrev t_Strike : TypeId := 47
abbrev t_sl_Plant : TypeId := 50
abbrev t_sl_Berth : TypeId := 51
abbrev t_sl_sl_Berth : TypeId := 56
abbrev t_Berth : TypeId := 62
abbrev t_sl_sl_int : TypeId := 68
abbrev t_uint64 : TypeId := 86
abbrev t_Hat : TypeId := 88
abbrev t_hall : TypeId := 90
abbrev t_search : TypeId := 93
abbrev t_iter_Seq_plan : TypeId := 95
abbrev t_p_Floor : TypeId := 104
abbrev t_sl_plan : TypeId := 106
abbrev t_most : TypeId := 108
abbrev t_a4_Berth : TypeId := 113
abbrev t_plan : TypeId := 114
abbrev t_fault : TypeId := 118
abbrev t_wrong : TypeId := 120
abbrev t_error : TypeId := 123
abbrev t_p_wrong : TypeId := 125
abbrev t_a22_Span : TypeId := 128
abbrev t_days : TypeId := 129
abbrev t_iter_Seq_Berth : TypeId := 137
abbrev t_p_plan : TypeId := 140
abbrev t_uint : TypeId := 142
abbrev t_map_plan_bool : TypeId := 145
abbrev t_unsafe_Pointer : TypeId := 148
abbrev t_reflectlite_flag : TypeId := 149
abbrev t_reflectlite_Value : TypeId := 151
abbrev t_reflectlite_Type : TypeId := 154
abbrev t_abi_Kind : TypeId := 156
abbrev t_iter_Seq_int : TypeId := 162
abbrev t_p_most : TypeId := 165
abbrev t_sl_chan_plan : TypeId := 167
abbrev t_chan_plan : TypeId := 168
abbrev t_reflectlite_rtype : TypeId := 171
abbrev t_p_reflectlite_ValueError : TypeId := 172
abbrev t_sl_error : TypeId := 182
abbrev t_full : TypeId := 185
abbrev t_cold : TypeId := 186
abbrev t_runtime_TypeAssertionError : TypeId := 194
abbrev t_a0_p_runtime_PanicNilError : TypeId := 195
abbrev t_runtime_PanicNilError : TypeId := 197
abbrev t_uint32 : TypeId := 199
abbrev t_abi_TFlag : TypeId := 200
abbrev t_p_uint8 : TypeId := 202
abbrev t_abi_NameOff : TypeId := 203
abbrev t_abi_TypeOff : TypeId := 204
abbrev t_abi_Type : TypeId := 206
abbrev t_reflectlite_ValueError : TypeId := 210
abbrev t_p_abi_UncommonType : TypeId := 211
abbrev t_uint16 : TypeId := 213
abbrev t_abi_UncommonType : TypeId := 215
abbrev t_sl_abi_Method : TypeId := 216
abbrev t_abi_TextOff : TypeId := 217
abbrev t_abi_Method : TypeId := 219
abbrev t_p_error : TypeId := 220
instance : MO prog := ⟨by kernel_rfl⟩
end Go.Mus

/- More laws: slices of arrays, copy, arrays of zeros, results in cells. Conditions: none; over any program. -/
namespace Go.Mus

section rules
variable {x : Cx} {Q : Post} {ρ : Env} {ds : List Deferred} {F : Frag} {ops : Array Oper} {S : Frag → Prop} {i : Nat} {rest : List Nat} {o : Oper} {v : Value} {R : Value → Frag → Prop}

/-- A whole array, as a slice. -/
theorem y_sliceArr {t n E s by' : Nat} {z : Value} {zc : Array Value} {y : Operand} {b off : Nat} (ho : o.op = .slice t y none none none) [TD x.P t (.array n E)] [TI x.P E s by' z zc] (hy : ev ρ y = some (.pointer (some ⟨b, off, none⟩))) : Yv x S ρ o (.slice (some ⟨b, off, none⟩) n n) := fun e he F hF h' hE => by
  simp only [execOp, ho, he y _ hy, Instr.sliceAt, Instr.sureAddr, Instr.sliceBounds, bind_eq, pure_eq, bind_assoc, bind_pure, Option.map_none, trb_underlying, trb_sizeOf, Nat.zero_mul, add_spot, Nat.add_zero, ite_self, Nat.sub_zero]
  exact ⟨rfl, rfl⟩
/-- Its first ones. -/
theorem y_sliceArrHi {t n E s by' : Nat} {z : Value} {zc : Array Value} {y hi : Operand} {b off : Nat} {k : IntKind} {m : Nat} (ho : o.op = .slice t y none (some hi) none) [TD x.P t (.array n E)] [TI x.P E s by' z zc] (hy : ev ρ y = some (.pointer (some ⟨b, off, none⟩))) (hh : ev ρ hi = some (.int k (m : Int))) (hm : m ≤ n := by omega) : Yv x S ρ o (.slice (some ⟨b, off, none⟩) m n) := fun e he F hF h' hE => by
  have e1 : (0 : Int) ≤ m ∧ (m : Int) ≤ n := by omega
  simp only [execOp, ho, he y _ hy, he hi _ hh, Instr.sliceAt, Instr.sureAddr, Instr.sliceBounds, Instr.sliceBound, asIntOf, bind_eq, pure_eq, bind_assoc, bind_pure, Option.map_none, Option.map_some, trb_underlying, trb_sizeOf, if_pos e1, Int.toNat_natCast, Nat.zero_mul, add_spot, Nat.add_zero, ite_self, Nat.sub_zero]
  exact ⟨rfl, rfl⟩
/-- The first ones of a slice. -/
theorem y_sliceHi {t E s by' : Nat} {z : Value} {zc : Array Value} {y hi : Operand} {a : Option Addr} {k : IntKind} {l cap m : Nat} (ho : o.op = .slice t y none (some hi) none) [TD x.P t (.slice E)] [TI x.P E s by' z zc] (hy : ev ρ y = some (.slice a l cap)) (hh : ev ρ hi = some (.int k (m : Int))) (ha : a.map (·.spot) = some none ∨ a = none) (hm : m ≤ cap := by omega) : Yv x S ρ o (.slice a m cap) := fun e he F hF h' hE => by
  have e1 : (0 : Int) ≤ m ∧ (m : Int) ≤ cap := by omega
  have e2 : a.map (·.add (0 * s)) = a := by
    rcases ha with ha | rfl
    · cases a with
      | none => cases ha
      | some a => simp at ha; simp [add_spot ha, ← ha]
    · rfl
  simp only [execOp, ho, he y _ hy, he hi _ hh, Instr.sliceAt, Instr.slice, Instr.sliceBounds, Instr.sliceBound, asIntOf, bind_eq, pure_eq, bind_assoc, bind_pure, Option.map_none, Option.map_some, trb_underlying, trb_sizeOf, if_pos e1, Int.toNat_natCast, e2, ite_self, Nat.sub_zero]
  exact ⟨rfl, rfl⟩
/-- None of a slice: it has no room. -/
theorem y_slice00 {t E s by' : Nat} {z : Value} {zc : Array Value} {y hi mx : Operand} {a : Option Addr} {k k' : IntKind} {l cap : Nat} (ho : o.op = .slice t y none (some hi) (some mx)) [TD x.P t (.slice E)] [TI x.P E s by' z zc] (hy : ev ρ y = some (.slice a l cap)) (hh : ev ρ hi = some (.int k 0)) (hm : ev ρ mx = some (.int k' 0)) : Yv x S ρ o (.slice a 0 0) := fun e he F hF h' hE => by
  have e1 : (0 : Int) ≤ 0 ∧ (0 : Int) ≤ cap := by omega
  have e2 : (0 : Int) ≤ 0 ∧ (0 : Int) ≤ (0 : Nat) := by omega
  simp only [execOp, ho, he y _ hy, he hi _ hh, he mx _ hm, Instr.sliceAt, Instr.slice, Instr.sliceBounds, Instr.sliceBound, asIntOf, bind_eq, pure_eq, bind_assoc, bind_pure, Option.map_none, Option.map_some, trb_underlying, trb_sizeOf, if_pos e1, Int.toNat_zero, if_pos e2, if_true, Nat.sub_zero]
  exact ⟨rfl, rfl⟩

/-- An array of zeros. -/
theorem y_build0 {t n E s b s' b' : Nat} {z z' : Value} {zc zc' : Array Value} (ho : o.op = .build t #[]) [TD x.P t (.array n E)] [TI x.P t s b z zc] [TI x.P E s' b' z' zc'] : Yv x S ρ o (.agg zc) := fun e he F hF h' hE => by
  obtain ⟨j, _, _, _, _, hz⟩ := TI.out (inferInstance : TI x.P t s b z zc)
  simp only [execOp, ho, Instr.build, bind_eq, pure_eq, bind_assoc, bind_pure, trb_zeroValue, trb_underlying, trb_sizeOf, hz, List.map_toArray, List.map_nil, Instr.fill]
  exact ⟨rfl, rfl⟩

/-- copy, from what is read into a block of one's own. -/
theorem e_copy {α : Type} {row : α → List Value} {w : Nat} [Rw row w] {t t' E by' : Nat} {z : Value} {zc : Array Value} {y yx : Operand} {xv : Value} {b off n cap : Nat} {c : Array Value} {C : TypeId} {l : List α} {U : Obj → Frag} (ho : o.op = .call ⟨.builtin .copy, #[y, yx], #[t, t']⟩) [TD x.P t (.slice E)] [TI x.P E w by' z zc]
    (hy : ev ρ y = some (.slice (some ⟨b, off, none⟩) n cap)) (hx : ev ρ yx = some xv) (hs : Sl x.h row xv l) (hle : l.length ≤ n) (hl : At b (.cells c C (0, 0)) F U) (hc : off + l.length * w ≤ c.size)
    (H : R (.int .i64 l.length) (U (.cells (putAll c off (flat row l)) C (0, 0)))) : Ef x ρ o F R :=
  Ef.of_tr fun e he h' hE => by
    have hs' := Sl.ext hE hs
    obtain ⟨a, cp, rfl⟩ := hs.isSl
    have hmin : Nat.min l.length n = l.length := Nat.min_eq_left hle
    simp only [execOp, ho, resolve, invoke, builtin, Builtin.copy_, List.map_toArray, List.map_cons, List.map_nil, he y _ hy, he yx _ hx, List.getElem?_toArray, List.getElem?_cons_zero, List.getElem?_cons_succ, bind_eq, pure_eq, bind_assoc, bind_pure, trb_underlying, Builtin.lenOf, trb_sizeOf, hmin]
    refine tr_bind (tr_first hs' ?_)
    refine tr_bind (tr_storeCells (flat row l) 0 c (flat_ones l) hl (by rw [flat_len]; omega) ?_)
    exact ⟨_, .inl rfl, by simpa [goInt] using H⟩
end rules

theorem Ef.of_y {x : Cx} {ρ : Env} {F : Frag} {o : Oper} {v : Value} {R : Value → Frag → Prop} (hy : Yv x (· = F) ρ o v) (H : R v F) : Ef x ρ o F R := fun e he =>
  ⟨F, [], by simp, fun h' e1 e2 => tr_mono (hy e he F rfl h' e1) fun nx F' ⟨h1, h2⟩ => by
    subst h1 h2
    exact ⟨F', by simp, H⟩⟩

section
variable {x : Cx} {Q : Post} {ρ : Env} {ds : List Deferred} {F : Frag} {ops : Array Oper} {i : Nat} {rest : List Nat} {d : Tmp} {ty : TypeId} {pos : String} {aft : Array Edge} {g : Option (Nat × Bool)} {L : Frag}
variable {args : List Operand} {ts : Array TypeId} {vs : List Value} {y : Operand} {fv u : Value}
/-- A function value that answers. -/
abbrev PuV (P : Program) (main : Side) (fv : Value) (vs : List Value) (h : Hp) (u : Value) : Prop := CallV P main fv vs h [] (fun v A => v = u ∧ Shut A)
theorem e_callV0 {o : Oper} {R : Value → Frag → Prop} (ho : o.op = .call ⟨.value y, args.toArray, ts⟩) (hy : ev ρ y = some fv) (hv : evs ρ args = some vs) (H : ∀ h', Ext x.h h' → Lent F h' → PuV x.P x.main fv vs h' u) (K : ∀ A, Shut A → R u (A ++ F)) : Ef x ρ o F R :=
  e_callV ho hy hv (Seg.head (A := []) (G := F)) H fun v A' hv => by
    obtain ⟨rfl, hs⟩ := hv
    exact K A' hs
theorem cv (H : ∀ h', Ext x.h h' → Lent F h' → PuV x.P x.main fv vs h' u) (K : Ops x ops rest Q ((d, u) :: ρ) ds F) (ho : nthO ops.toList i = some ⟨some d, .call ⟨.value y, args.toArray, ts⟩, ty, pos, aft, g⟩ := by rfl) (hy : ev ρ y = some fv := by rfl) (hv : evs ρ args = some vs := by rfl)
    (hw : want ops ρ ⟨some d, .call ⟨.value y, args.toArray, ts⟩, ty, pos, aft, g⟩ := by first | exact wn | exact want_some rfl rfl rfl) (hd : Nat.blt d x.n = true := by rfl) : Ops x ops (i :: rest) Q ρ ds F :=
  Ops.eff (o := ⟨some d, .call ⟨.value y, args.toArray, ts⟩, ty, pos, aft, g⟩) (e_callV0 rfl hy hv H fun A hs => Ops.sb (Sb.left .refl hs) K) (nthO_get ho) hw hd rfl
theorem acv {fuel listed : Nat} (H : ∀ h', Ext x.h h' → Lent F h' → PuV x.P x.main fv vs h' u) (K : Any x ops L fuel (listed ||| 2 ^ i) Q ((d, u) :: ρ) ds F) (hS : lastT ops i = true ∨ Keeps L F := by first | exact .inr (by repeat (first | exact fun _ h => h | apply Keeps.cons | apply Keeps.app)) | exact .inl (by kernel_rfl))
    (ho : nthO ops.toList i = some ⟨some d, .call ⟨.value y, args.toArray, ts⟩, ty, pos, aft, g⟩ := by rfl) (hy : ev ρ y = some fv := by rfl) (hv : evs ρ args = some vs := by rfl)
    (hw : wantε ops (look ρ) ⟨some d, .call ⟨.value y, args.toArray, ts⟩, ty, pos, aft, g⟩ true := by first | exact an | exact wantε_some rfl rfl rfl rfl) (hd : Nat.blt d x.n = true := by rfl) (hr : rdys ops listed = [i] := by kernel_rfl) : Any x ops L (fuel + 1) listed Q ρ ds F :=
  Any.eff (o := ⟨some d, .call ⟨.value y, args.toArray, ts⟩, ty, pos, aft, g⟩) (e_callV0 rfl hy hv H fun A hs => ⟨hS.imp id fun k p hp => List.mem_append_right _ (k p hp), Any.sb (Sb.left .refl hs) K⟩) hr (nthO_get ho) hw hd rfl
/-- An operation behind a guard that was passed over itself. -/
theorem Ops.noU {op : Op} {j d' : Nat} {w : Bool} (H : Ops x ops rest Q ((d, undef) :: ρ) ds F) (ho : nthO ops.toList i = some ⟨some d, op, ty, pos, aft, some (j, w)⟩ := by rfl) (hj : (nthO ops.toList j).bind (·.dst) = some d' := by rfl) (hv : look ρ d' = some undef := by rfl) (hd : Nat.blt d x.n = true := by rfl) : Ops x ops (i :: rest) Q ρ ds F := by
  intro b k cs Stop tmps hk M h1 h0 h2 h3 h4 h5 hc
  have hj' : (ops[j]?).bind (·.dst) = some d' := by rw [nthO_eq] at hj; simpa using hj
  have hw : Region.wanted ⟨some d, op, ty, pos, aft, some (j, w)⟩ (yielded ops tmps) = false := by
    simp only [Region.wanted, yielded, hj', Option.bind_some, h3 d' _ hv]
    rfl
  obtain ⟨p1, p2⟩ := h3.put' (o := ⟨some d, op, ty, pos, aft, some (j, w)⟩) h4 hd undef
  refine .idle rfl (fun _ => st_unwanted (nthO_get ho) hw) ?_
  rw [finish_fat (cs := cs) (nthO_get ho) undef]
  exact H b k cs Stop _ _ _ h1 h0 h2 p1 p2 h5 hc
/-- A new slice of some values. -/
theorem Ops.bsl {t E s b len : Nat} {z : Value} {zc : Array Value} {parts : List (Nat × Operand)} {cs : Array Value} (H : ∀ β, Ops x ops rest Q ((d, .slice (some ⟨β, 0, none⟩) len len) :: ρ) ds ((β, .cells cs E (0, 0)) :: F)) (ho : nthO ops.toList i = some ⟨some d, .buildSlice t len parts.toArray, ty, pos, aft, g⟩ := by rfl) [TD x.P t (.slice E)] [TI x.P E s b z zc] (hv : evs ρ (parts.map (·.2)) = some vs := by rfl) (hls : 0 < len * s := by decide) (hl : len * s ≤ 2 ^ 24 := by decide)
    (hf : Instr.fill (fun i => some (i * s, s)) ((List.range (len * s)).map (fun i => zc[i % zc.size]!)).toArray ((parts.map (·.1)).zip vs) = some cs := by rfl)
    (hw : want ops ρ ⟨some d, .buildSlice t len parts.toArray, ty, pos, aft, g⟩ := by first | exact wn | exact want_some rfl rfl rfl) (hd : Nat.blt d x.n = true := by rfl) : Ops x ops (i :: rest) Q ρ ds F :=
  Ops.eff (o := ⟨some d, .buildSlice t len parts.toArray, ty, pos, aft, g⟩) (e_buildSlice rfl hv hls hl (by rw [show (Array.range (len * s)).map (zc[· % zc.size]!) = ((List.range (len * s)).map (fun i => zc[i % zc.size]!)).toArray by apply Array.ext'; simp]; exact hf) fun β _ _ => H β) (nthO_get ho) hw hd rfl
theorem Ops.bsl0 {t E s b : Nat} {z : Value} {zc : Array Value} (H : ∀ β, Ops x ops rest Q ((d, .slice (some ⟨β, 0, none⟩) 0 0) :: ρ) ds ((β, .cells #[] E (0, 0)) :: F)) (ho : nthO ops.toList i = some ⟨some d, .buildSlice t 0 #[], ty, pos, aft, g⟩ := by rfl) [TD x.P t (.slice E)] [TI x.P E s b z zc]
    (hw : want ops ρ ⟨some d, .buildSlice t 0 #[], ty, pos, aft, g⟩ := by first | exact wn | exact want_some rfl rfl rfl) (hd : Nat.blt d x.n = true := by rfl) : Ops x ops (i :: rest) Q ρ ds F :=
  Ops.eff (o := ⟨some d, .buildSlice t 0 #[], ty, pos, aft, g⟩) (e_buildSlice0 rfl fun β _ _ => H β) (nthO_get ho) hw hd rfl
/-- A function value is handed a part. -/
theorem cgv {A : Frag} {U : Frag → Frag} {R' : Value → Frag → Prop} (hs : Seg A F U) (H : ∀ h', Ext x.h h' → Lent (U []) h' → CallV x.P x.main fv vs h' A R') (K : ∀ v A', R' v A' → Ops x ops rest Q ((d, v) :: ρ) ds (U A')) (ho : nthO ops.toList i = some ⟨some d, .call ⟨.value y, args.toArray, ts⟩, ty, pos, aft, g⟩ := by rfl) (hy : ev ρ y = some fv := by rfl) (hv : evs ρ args = some vs := by rfl)
    (hw : want ops ρ ⟨some d, .call ⟨.value y, args.toArray, ts⟩, ty, pos, aft, g⟩ := by first | exact wn | exact want_some rfl rfl rfl) (hd : Nat.blt d x.n = true := by rfl) : Ops x ops (i :: rest) Q ρ ds F :=
  Ops.eff (o := ⟨some d, .call ⟨.value y, args.toArray, ts⟩, ty, pos, aft, g⟩) (e_callV rfl hy hv hs H fun v A' r => K v A' r) (nthO_get ho) hw hd rfl
theorem segAll {A : Frag} : Seg A (A ++ []) (· ++ []) := Seg.head
/-- A call that is handed all. -/
theorem cga {f : FuncId} {R' : Value → Frag → Prop} (H : ∀ h', Ext x.h h' → Fnc x.P x.main f vs.toArray h' F R') (K : ∀ v A', R' v A' → Ops x ops rest Q ((d, v) :: ρ) ds A') (ho : nthO ops.toList i = some ⟨some d, .call ⟨.value (.func f), args.toArray, ts⟩, ty, pos, aft, g⟩ := by rfl) [FB x.P f] (hv : evs ρ args = some vs := by rfl)
    (hw : want ops ρ ⟨some d, .call ⟨.value (.func f), args.toArray, ts⟩, ty, pos, aft, g⟩ := by first | exact wn | exact want_some rfl rfl rfl) (hd : Nat.blt d x.n = true := by rfl) : Ops x ops (i :: rest) Q ρ ds F :=
  Ops.perm (F' := F ++ []) (by simp) (cg segAll (fun h' e _ => H h' e) (fun v A' r => Ops.perm (F' := A') (by simp) (K v A' r)) ho hv hw hd)
/-- Two loads that may come up in either order. -/
theorem a2 {fuel listed i j d d' : Nat} {op op' : Op} {ty' : TypeId} {pos' : String} {aft' : Array Edge} {g' : Option (Nat × Bool)} {v w : Value} (ho : nthO ops.toList i = some ⟨some d, op, ty, pos, aft, g⟩) (ho' : nthO ops.toList j = some ⟨some d', op', ty', pos', aft', g'⟩)
    (hy : Yv x (· = F) ρ ⟨some d, op, ty, pos, aft, g⟩ v) (hy2 : Yv x (· = F) ((d', w) :: ρ) ⟨some d, op, ty, pos, aft, g⟩ v) (hy' : Yv x (· = F) ρ ⟨some d', op', ty', pos', aft', g'⟩ w) (hy2' : Yv x (· = F) ((d, v) :: ρ) ⟨some d', op', ty', pos', aft', g'⟩ w)
    (hw : wantε ops (look ρ) ⟨some d, op, ty, pos, aft, g⟩ true) (hw2 : wantε ops (look ((d', w) :: ρ)) ⟨some d, op, ty, pos, aft, g⟩ true) (hw' : wantε ops (look ρ) ⟨some d', op', ty', pos', aft', g'⟩ true) (hw2' : wantε ops (look ((d, v) :: ρ)) ⟨some d', op', ty', pos', aft', g'⟩ true)
    (hd : Nat.blt d x.n = true) (hd' : Nat.blt d' x.n = true) (hn : noDefer op = true) (hn' : noDefer op' = true)
    (H : Any x ops [] fuel ((listed ||| 2 ^ i) ||| 2 ^ j) Q ((d', w) :: (d, v) :: ρ) ds F) (hne : Nat.beq d d' = false := by rfl)
    (hr : rdys ops listed = [i, j] := by kernel_rfl) (hr1 : rdys ops (listed ||| 2 ^ i) = [j] := by kernel_rfl) (hr2 : rdys ops (listed ||| 2 ^ j) = [i] := by kernel_rfl) : Any x ops [] (fuel + 2) listed Q ρ ds F := by
  have hk : ∀ F : Frag, Keeps [] F := fun _ p hp => by cases hp
  refine Any.eff2 (o := ⟨some d, op, ty, pos, aft, g⟩) (o' := ⟨some d', op', ty', pos', aft', g'⟩) hr (nthO_get ho) (nthO_get ho') hw hw' hd hd' hn hn' (Ef.of_y hy ⟨.inr (hk _), ?_⟩) (Ef.of_y hy' ⟨.inr (hk _), ?_⟩)
  · exact Any.eff (o := ⟨some d', op', ty', pos', aft', g'⟩) (Ef.of_y hy2' ⟨.inr (hk _), H⟩) hr1 (nthO_get ho') hw2' hd' hn'
  · refine Any.eff (o := ⟨some d, op, ty, pos, aft, g⟩) (Ef.of_y hy2 ⟨.inr (hk _), ?_⟩) hr2 (nthO_get ho) hw2 hd hn
    have e1 : (listed ||| 2 ^ j) ||| 2 ^ i = (listed ||| 2 ^ i) ||| 2 ^ j := by rw [Nat.or_assoc, Nat.or_comm (2 ^ j), ← Nat.or_assoc]
    have e2 : look ((d, v) :: (d', w) :: ρ) = look ((d', w) :: (d, v) :: ρ) := by
      funext t
      show (bif Nat.beq t d then some v else bif Nat.beq t d' then some w else look ρ t) = (bif Nat.beq t d' then some w else bif Nat.beq t d then some v else look ρ t)
      cases h1 : Nat.beq t d with
      | false => rfl
      | true =>
        have : t = d := Nat.eq_of_beq_eq_true h1
        subst this
        rw [hne]; rfl
    rw [e1]
    unfold Any at H ⊢
    show anyT _ _ _ _ _ _ (look ((d, v) :: (d', w) :: ρ)) _
    rw [e2]
    exact H
end

/-! ### Results that lie in cells -/
section
variable {P : Program} {h : Hp} {F : Frag} {ρ : Env} {r : List ResultVar} {vs : List Value}
theorem rNil : resOK P h F [] ρ [] := rfl
theorem rTmp {t : Tmp} {v : Value} (H : resOK P h F r ρ vs) (hv : look ρ t = some v := by rfl) : resOK P h F (.tmp t :: r) ρ (v :: vs) := ⟨v, vs, rfl, hv, H⟩
theorem rAgg {a : Tmp} {t n b : Nat} {c : Array Value} {E : TypeId} {fz : Nat × Nat} (H : resOK P h F r ρ vs) [i : AG P t n] (ha : look ρ a = some (.pointer (some ⟨b, 0, none⟩)) := by rfl) (hl : (b, Obj.cells c E fz) ∈ F := by repeat (first | exact List.Mem.head _ | apply List.Mem.tail)) (hn : c.size = n := by first | rfl | assumption) : resOK P h F (.cell a t :: r) ρ (.agg c :: vs) :=
  ⟨_, vs, b, 0, c, E, fz, rfl, ha, .inr hl, .inr ⟨n, i, by omega, by congr 1; apply Array.ext'; simp [← hn]⟩, H⟩
theorem rSc {a : Tmp} {t b : Nat} {v : Value} {c : Array Value} {E : TypeId} {fz : Nat × Nat} (H : resOK P h F r ρ vs) [i : SC P t] (ha : look ρ a = some (.pointer (some ⟨b, 0, none⟩)) := by rfl) (hl : (b, Obj.cells c E fz) ∈ F := by repeat (first | exact List.Mem.head _ | apply List.Mem.tail)) (hv : c[0]? = some v := by first | rfl | assumption) : resOK P h F (.cell a t :: r) ρ (v :: vs) :=
  ⟨v, vs, b, 0, c, E, fz, rfl, ha, .inr hl, .inl ⟨i, hv⟩, H⟩
variable {main : Side} {fn : Func} {R : Value → Frag → Prop} {e : Exit}
theorem lvc (hR : R (pack vs) F) (he : e = .ret ∨ e = .normal := by first | exact .inl rfl | exact .inr rfl) (hv : resOK P h F fn.results.toList ρ vs := by (repeat (first | exact rNil | refine rTmp ?_ | refine rAgg ?_ | refine rSc ?_))) : leave P main fn h R e ρ [] F :=
  leave_of he (by simp) hv hR
end
end Go.Mus

/- What plants, plans and floors are, in numbers; what the checks answer. Conditions: none. -/
namespace Go.Mus

/-- An int. -/
abbrev I (n : Int) : Value := .int .i64 n
structure Fl where
  (pl lo hi co : Int)
  deriving DecidableEq
structure St where
  (day co wa : Int)
  deriving DecidableEq
structure Be where
  (fl day : Int)
  deriving DecidableEq
def Fl.row (f : Fl) : List Value := [I f.pl, I f.lo, I f.hi, I f.co]
def St.row (f : St) : List Value := [I f.day, I f.co, I f.wa]
def Be.row (f : Be) : List Value := [I f.fl, I f.day]
abbrev Fl.val (f : Fl) : Value := .agg #[I f.pl, I f.lo, I f.hi, I f.co]
abbrev St.val (f : St) : Value := .agg #[I f.day, I f.co, I f.wa]
abbrev Be.val (f : Be) : Value := .agg #[I f.fl, I f.day]
instance : Rw Fl.row 4 := ⟨fun _ => rfl, fun _ => rfl⟩
instance : Rw St.row 3 := ⟨fun _ => rfl, fun _ => rfl⟩
instance : Rw Be.row 2 := ⟨fun _ => rfl, fun _ => rfl⟩

def outs (n lo hi : Int) : Prop := n < lo ∨ hi < n
instance {n lo hi : Int} : Decidable (outs n lo hi) := inferInstanceAs (Decidable (_ ∨ _))

def ckFloor (f : Fl) : Int :=
  if outs f.pl 1 9 ∨ outs f.lo 1 6 ∨ outs f.hi 1 6 then 1 else if f.hi < f.lo then 5 else if outs f.co 0 9 then 1 else 0
/-- The first answer that is not 0. -/
def ckFloors : List Fl → Int
  | [] => 0
  | f :: r => if ckFloor f = 0 then ckFloors r else ckFloor f
def ckStrike (before : Int) (s : St) : Int := if outs s.day 0 12 ∨ outs s.co 1 6 ∨ outs s.wa 0 3 then 1 else if s.day < before then 5 else 0
def ckStrikes : Int → List St → Int
  | _, [] => 0
  | b, s :: r => if ckStrike b s = 0 then ckStrikes s.day r else ckStrike b s
def ckPlant (fs : List Fl) (ss : List St) : Int :=
  if fs.length = 0 then 7 else if 2 < fs.length then 6 else if ckFloors fs ≠ 0 then ckFloors fs else if 4 < ss.length then 6 else ckStrikes 0 ss

/-! ### Plans -/
/-- A plan's value. -/
abbrev planV (p : List Be) : Value := .agg (flat Be.row p).toArray
def bnone : Be := ⟨-1, 0⟩
/-- The berths as a plan. -/
def padB (l : List Be) : List Be := l ++ List.replicate (4 - l.length) bnone
theorem padB_len {l : List Be} (h : l.length ≤ 4) : (padB l).length = 4 := by simp [padB]; omega
def fillP (k : Nat) : Array Value := (flat Be.row (List.replicate k ⟨-1, 0⟩ ++ List.replicate (4 - k) ⟨0, 0⟩)).toArray
theorem fillP_put {l : List Be} (h : l.length ≤ 4) : putAll (fillP 4) 0 (flat Be.row l) = (flat Be.row (padB l)).toArray := by
  match l, h with
  | [], _ => simp [fillP, padB, flat, putAll, Be.row, List.replicate, bnone]
  | [a], _ => simp [fillP, padB, flat, putAll, Be.row, List.replicate, bnone]
  | [a, b], _ => simp [fillP, padB, flat, putAll, Be.row, List.replicate, bnone]
  | [a, b, c], _ => simp [fillP, padB, flat, putAll, Be.row, List.replicate, bnone]
  | [a, b, c, d], _ => simp [fillP, padB, flat, putAll, Be.row, List.replicate, bnone]
  | a :: b :: c :: d :: e :: r, h => simp at h

def ckBerth (nf : Int) (s : St) (b : Be) : Int :=
  if outs b.fl (-1) (nf - 1) then 3 else if b.fl < 0 ∧ b.day ≠ 0 then 8 else if 0 ≤ b.fl ∧ outs b.day s.day (s.day + s.wa) then 12 else 0
def ckBerths (nf : Int) : List St → List Be → Int
  | s :: ss, b :: l => if ckBerth nf s b = 0 then ckBerths nf ss l else ckBerth nf s b
  | _, _ => 0
def ckPlan (fs : List Fl) (ss : List St) (l : List Be) : Int :=
  if ckPlant fs ss ≠ 0 then ckPlant fs ss else if l.length < ss.length then 7 else if ss.length < l.length then 6 else ckBerths fs.length ss l
/-- Some number is none of a floor. -/
def badF (nf : Int) : List Int → Bool
  | [] => false
  | n :: r => if outs n 0 (nf - 1) then true else badF nf r
def askE (fs : List Fl) (ss : List St) (l : List Be) (ns : List Int) : Int := if ckPlan fs ss l ≠ 0 then ckPlan fs ss l else if badF fs.length ns then 3 else 0
abbrev hall0 : Value := .agg #[.slice none 0 0, .slice none 0 0]
abbrev plan0 : Value := planV [⟨0, 0⟩, ⟨0, 0⟩, ⟨0, 0⟩, ⟨0, 0⟩]
/-- What 'asked' answers. -/
def askV (vf vs : Value) (fs : List Fl) (ss : List St) (l : List Be) (ns : List Int) : Value :=
  if askE fs ss l ns = 0 then .tuple #[.agg #[vf, vs], planV (padB l), I 0] else .tuple #[hall0, plan0, I (askE fs ss l ns)]
end Go.Mus

/- Sorting by insertion, as the library does it. Conditions: none. -/
namespace Go.Mus

theorem Yv.eq {x : Cx} {S : Frag → Prop} {ρ : Env} {o : Oper} {v u : Value} (hy : Yv x S ρ o v) (e : v = u) : Yv x S ρ o u := e ▸ hy

theorem flat_rowI (l : List Int) : flat rowI l = l.map I := by
  induction l with
  | nil => rfl
  | cons a l ih => rw [flat_cons, ih]; rfl
theorem Part.setI {c : Array Value} {l : List Int} {j : Nat} {a : Int} (h : Part c 0 (flat rowI l)) (hj : j < l.length) : Part (c.setIfInBounds j (I a)) 0 (flat rowI (l.set j a)) := by
  obtain ⟨pre, post, h1, h2⟩ := h
  have : pre = [] := List.length_eq_zero_iff.1 h2
  subst this
  refine ⟨[], post, ?_, rfl⟩
  rw [flat_rowI] at h1 ⊢
  simp only [Array.toList_setIfInBounds, h1, List.nil_append, List.map_set]
  rw [List.set_append_left _ _ (by simpa using hj)]
theorem Part.getI {c : Array Value} {l : List Int} {j : Nat} {a : Int} (h : Part c 0 (flat rowI l)) (hj : l[j]? = some a) : c[0 + j * 1]? = some (I a) := by
  have := h.rowG (row := rowI) hj 0 (by decide)
  simpa [rowI] using this

/-- Two neighbours change places. -/
def swp (l : List Int) (j : Nat) (a b : Int) : List Int := (l.set (j + 1) a).set j b
def sink (key : Int → Int) : Nat → List Int → List Int
  | 0, l => l
  | j + 1, l => match l[j]?, l[j + 1]? with
    | some a, some b => if key b - key a < 0 then sink key j (swp l j a b) else l
    | _, _ => l
def isortN (key : Int → Int) (l : List Int) : Nat → List Int
  | 0 => l
  | i + 1 => sink key (i + 1) (isortN key l i)
def isort (key : Int → Int) (l : List Int) : List Int := isortN key l (l.length - 1)

theorem swp_perm {l : List Int} {j : Nat} {a b : Int} (ha : l[j]? = some a) (hb : l[j + 1]? = some b) : (swp l j a b).Perm l := by
  induction l generalizing j with
  | nil => simp at ha
  | cons x l ih =>
    cases j with
    | zero =>
      simp only [List.getElem?_cons_zero, Option.some.injEq] at ha
      subst ha
      cases l with
      | nil => simp at hb
      | cons y l =>
        simp only [List.getElem?_cons_succ, List.getElem?_cons_zero, Option.some.injEq, Nat.zero_add] at hb
        subst hb
        exact List.Perm.swap _ _ _
    | succ j =>
      simp only [List.getElem?_cons_succ] at ha hb
      exact (ih ha hb).cons x
theorem sink_perm (key : Int → Int) : ∀ (j : Nat) (l : List Int), (sink key j l).Perm l
  | 0, l => .refl _
  | j + 1, l => by
    unfold sink
    split
    · rename_i a b ha hb
      split
      · exact (sink_perm key j _).trans (swp_perm ha hb)
      · exact .refl _
    · exact .refl _
theorem isortN_perm (key : Int → Int) (l : List Int) : ∀ i, (isortN key l i).Perm l
  | 0 => .refl _
  | i + 1 => (sink_perm key _ _).trans (isortN_perm key l i)
theorem isort_perm (key : Int → Int) (l : List Int) : (isort key l).Perm l := isortN_perm key l _
theorem swp_len {l : List Int} {j : Nat} {a b : Int} : (swp l j a b).length = l.length := by simp [swp]
theorem isortN_len (key : Int → Int) (l : List Int) (i : Nat) : (isortN key l i).length = l.length := (isortN_perm key l i).length_eq
theorem isortN_succ (key : Int → Int) (l : List Int) {i : Nat} (h : 1 ≤ i) : isortN key l i = sink key i (isortN key l (i - 1)) := by
  obtain ⟨m, rfl⟩ : ∃ m, i = m + 1 := ⟨i - 1, by omega⟩
  rfl

/-- A plan's numbers are small. -/
structure PlOK (p : List Be) : Prop where
  len : p.length = 4
  ok : ∀ b ∈ p, -1 ≤ b.fl ∧ b.fl ≤ 1 ∧ 0 ≤ b.day ∧ b.day ≤ 17
def beAt (p : List Be) (i : Nat) : Be := p.getD i bnone
def dayOf (p : List Be) (i : Int) : Int := (beAt p i.toNat).day
theorem beAt_some {p : List Be} (h : PlOK p) {i : Nat} (hi : i < 4) : p[i]? = some (beAt p i) ∧ -1 ≤ (beAt p i).fl ∧ (beAt p i).fl ≤ 1 ∧ 0 ≤ (beAt p i).day ∧ (beAt p i).day ≤ 17 := by
  have hl := h.len
  have e : p[i]? = some (beAt p i) := by simp [beAt, List.getD, List.getElem?_eq_getElem (show i < p.length by omega)]
  exact ⟨e, h.ok _ (List.mem_of_getElem? e)⟩
/-- The strikes that are on a floor, of the first k. -/
def onFk (p : List Be) (f : Int) : Nat → List Int
  | 0 => []
  | k + 1 => if (beAt p k).fl = f then onFk p f k ++ [(k : Int)] else onFk p f k
theorem onFk_lt {p : List Be} {f : Int} : ∀ {k : Nat} {a : Int}, a ∈ onFk p f k → 0 ≤ a ∧ a < k
  | 0, _, h => by simp [onFk] at h
  | k + 1, a, h => by
    unfold onFk at h
    split at h
    · rcases List.mem_append.1 h with h | h
      · have := onFk_lt h; omega
      · have : a = k := by simpa using h
        omega
    · have := onFk_lt h; omega
theorem onFk_len {p : List Be} {f : Int} : ∀ (k : Nat), (onFk p f k).length ≤ k
  | 0 => by simp [onFk]
  | k + 1 => by
    have := onFk_len (p := p) (f := f) k
    unfold onFk
    split <;> simp <;> omega
/-- .. in the order of their days. -/
def setL (p : List Be) (f : Int) : List Int := isort (dayOf p) (onFk p f 4)
theorem setL_lt {p : List Be} {f a : Int} (h : a ∈ setL p f) : 0 ≤ a ∧ a < 4 := onFk_lt ((isort_perm _ _).subset h)
theorem setL_len {p : List Be} {f : Int} : (setL p f).length ≤ 4 := by
  rw [setL, (isort_perm _ _).length_eq]; exact onFk_len 4
theorem plan_ex {p : List Be} (h : PlOK p) {i : Nat} (hi : i < 4) : (flat Be.row p).toArray.extract (i * 2) (i * 2 + 2) = #[I (beAt p i).fl, I (beAt p i).day] := by
  have hP : Part (flat Be.row p).toArray 0 (flat Be.row p) := Part.all _
  have := (hP.rowE (beAt_some h hi).1).1
  simpa [Be.row] using this
theorem plan_sz {p : List Be} (h : PlOK p) : (flat Be.row p).toArray.size = 8 := by simp [flat_len, h.len]
theorem plan_at {p : List Be} (h : PlOK p) {i : Nat} (hi : i < 4) : (flat Be.row p).toArray[i * 2]? = some (I (beAt p i).fl) ∧ (flat Be.row p).toArray[i * 2 + 1]? = some (I (beAt p i).day) := by
  have hP : Part (flat Be.row p).toArray 0 (flat Be.row p) := Part.all _
  have h0 := hP.rowG (beAt_some h hi).1 0 (by decide)
  have h1 := hP.rowG (beAt_some h hi).1 1 (by decide)
  simp only [Nat.zero_add, Nat.add_zero] at h0 h1
  exact ⟨h0, h1⟩
theorem plan_ones {p : List Be} : ones (flat Be.row p).toArray.toList = true := by simpa using flat_ones _
end Go.Mus

/- What stands on a floor on each day. Conditions: none. -/
namespace Go.Mus

structure Sp where
  (lo hi : Int)
  deriving DecidableEq
def Sp.row (s : Sp) : List Value := [I s.lo, I s.hi]
instance : Rw Sp.row 2 := ⟨fun _ => rfl, fun _ => rfl⟩
/-- The sum, as a machine has it. -/
abbrev wadd (a b : Int) : Int := IntKind.i64.wrap (a + b)
/-- A day's numbers grow. -/
def bump (d : List Sp) (i : Nat) (b : Bool) (co : Int) : List Sp := match d[i]? with
  | some s => d.set i ⟨if b then wadd s.lo co else s.lo, wadd s.hi co⟩
  | none => d
/-- The days of a strike, from the n-th on. -/
def addSt (day lo co : Int) : Nat → Nat → List Sp → List Sp
  | 0, _, d => d
  | m + 1, n, d => if 21 < day + n then d else addSt day lo co m (n + 1) (bump d (day + n).toNat (decide ((n : Int) < lo)) co)
def coOf (ss : List St) (i : Int) : Int := (ss.getD i.toNat ⟨0, 0, 0⟩).co
def flAt (fs : List Fl) (f : Int) : Fl := fs.getD f.toNat ⟨0, 0, 0, 0⟩
def days0 : List Sp := List.replicate 22 ⟨0, 0⟩
def standsD (fs : List Fl) (ss : List St) (p : List Be) (f : Int) : List Sp :=
  (setL p f).foldl (fun d i => addSt (dayOf p i) (flAt fs f).lo (coOf ss i) (flAt fs f).hi.toNat 0 d) days0
theorem bump_len {d : List Sp} {i : Nat} {b : Bool} {co : Int} : (bump d i b co).length = d.length := by
  unfold bump; split <;> simp
theorem addSt_len {day lo co : Int} : ∀ (m n : Nat) (d : List Sp), (addSt day lo co m n d).length = d.length
  | 0, _, _ => rfl
  | m + 1, n, d => by
    unfold addSt
    split
    · rfl
    · rw [addSt_len, bump_len]
theorem standsD_len {fs : List Fl} {ss : List St} {p : List Be} {f : Int} : (standsD fs ss p f).length = 22 := by
  have : ∀ (l : List Int) (d : List Sp), (l.foldl (fun d i => addSt (dayOf p i) (flAt fs f).lo (coOf ss i) (flAt fs f).hi.toNat 0 d) d).length = d.length := by
    intro l
    induction l with
    | nil => intro d; rfl
    | cons a l ih => intro d; rw [List.foldl_cons, ih, addSt_len]
  rw [standsD, this]; rfl
abbrev daysV (d : List Sp) : Value := .agg (flat Sp.row d).toArray
theorem days_sz {d : List Sp} (h : d.length = 22) : (flat Sp.row d).toArray.size = 44 := by simp [flat_len, h]
theorem days_at {d : List Sp} {i : Nat} {s : Sp} (h : d[i]? = some s) : (flat Sp.row d).toArray[0 + i * 2]? = some (I s.lo) ∧ (flat Sp.row d).toArray[0 + i * 2 + 1]? = some (I s.hi) := by
  have hP : Part (flat Sp.row d).toArray 0 (flat Sp.row d) := Part.all _
  exact ⟨hP.rowG h 0 (by decide), hP.rowG h 1 (by decide)⟩
theorem days_ex {d : List Sp} {i : Nat} {s : Sp} (h : d[i]? = some s) : (flat Sp.row d).toArray.extract (i * 2) (i * 2 + 2) = #[I s.lo, I s.hi] := by
  have hP : Part (flat Sp.row d).toArray 0 (flat Sp.row d) := Part.all _
  have := (hP.rowE h).1
  simpa [Sp.row] using this
theorem set_same {l : List Value} {i : Nat} {v : Value} (h : l[i]? = some v) : l.set i v = l := by
  apply List.ext_getElem?
  intro j
  rw [List.getElem?_set]
  split
  · rename_i e; subst e
    rcases Nat.lt_or_ge i l.length with h' | h'
    · simp [h', ← h]
    · rw [List.getElem?_eq_none h'] at h; cases h
  · rfl
theorem flat_set {d : List Sp} {i : Nat} {s : Sp} (h : i < d.length) : ((flat Sp.row d).toArray.setIfInBounds (0 + i * 2) (I s.lo)).setIfInBounds (0 + i * 2 + 1) (I s.hi) = (flat Sp.row (d.set i s)).toArray := by
  induction d generalizing i with
  | nil => simp at h
  | cons a d ih =>
    cases i with
    | zero => simp [flat_cons, Sp.row]
    | succ i =>
      have := ih (i := i) (by simpa using h)
      simp only [List.set_cons_succ, flat_cons]
      apply Array.ext'
      have h2 := congrArg Array.toList this
      simp only [Array.toList_setIfInBounds, Nat.zero_add] at h2 ⊢
      have e1 : (i + 1) * 2 = i * 2 + 2 := by omega
      rw [e1, ← h2]
      simp [Sp.row]
theorem flat_hi {d : List Sp} {i : Nat} {s : Sp} {x : Int} (h : d[i]? = some s) : (flat Sp.row d).toArray.setIfInBounds (0 + i * 2 + 1) (I x) = (flat Sp.row (d.set i ⟨s.lo, x⟩)).toArray := by
  have hi : i < d.length := by
    rcases Nat.lt_or_ge i d.length with h' | h'
    · exact h'
    · rw [List.getElem?_eq_none h'] at h; cases h
  rw [← flat_set hi]
  congr 1
  have := (days_at h).1
  apply Array.ext'
  simp only [Array.toList_setIfInBounds]
  have h2 : (flat Sp.row d)[0 + i * 2]? = some (I s.lo) := by simpa using this
  rw [set_same h2]
theorem flat_lo {d : List Sp} {i : Nat} {s : Sp} {x : Int} (h : d[i]? = some s) : (flat Sp.row d).toArray.setIfInBounds (0 + i * 2 + 0) (I x) = (flat Sp.row (d.set i ⟨x, s.hi⟩)).toArray := by
  have hi : i < d.length := by
    rcases Nat.lt_or_ge i d.length with h' | h'
    · exact h'
    · rw [List.getElem?_eq_none h'] at h; cases h
  rw [← flat_set hi]
  have := (days_at h).2
  apply Array.ext'
  simp only [Array.toList_setIfInBounds]
  have h2 : ((flat Sp.row d).set (0 + i * 2) (I x))[0 + i * 2 + 1]? = some (I s.hi) := by
    rw [List.getElem?_set_ne (by omega)]; simpa using this
  rw [set_same h2]
  rw [Nat.add_zero]

/-- A hall whose numbers are small. -/
structure HallOK (fs : List Fl) (ss : List St) : Prop where
  nf : 1 ≤ fs.length ∧ fs.length ≤ 2
  ns : ss.length ≤ 4
  fl : ∀ f ∈ fs, 1 ≤ f.pl ∧ f.pl ≤ 9 ∧ 1 ≤ f.lo ∧ f.lo ≤ f.hi ∧ f.hi ≤ 6 ∧ 0 ≤ f.co ∧ f.co ≤ 9
  st : ∀ s ∈ ss, 0 ≤ s.day ∧ s.day ≤ 12 ∧ 1 ≤ s.co ∧ s.co ≤ 6 ∧ 0 ≤ s.wa ∧ s.wa ≤ 5
/-- A plan of a hall. -/
structure PlanOf (fs : List Fl) (ss : List St) (p : List Be) : Prop where
  ok : PlOK p
  fl : ∀ b ∈ p, b.fl < fs.length
  pad : ∀ i, ss.length ≤ i → (beAt p i).fl < 0
theorem onFk_fl {p : List Be} {f : Int} : ∀ {k : Nat} {a : Int}, a ∈ onFk p f k → (beAt p a.toNat).fl = f
  | 0, _, h => by simp [onFk] at h
  | k + 1, a, h => by
    unfold onFk at h
    split at h
    · rename_i hk
      rcases List.mem_append.1 h with h | h
      · exact onFk_fl h
      · have : a = k := by simpa using h
        subst this; simpa using hk
    · exact onFk_fl h
theorem setL_fl {p : List Be} {f a : Int} (h : a ∈ setL p f) : (beAt p a.toNat).fl = f := onFk_fl ((isort_perm _ _).subset h)
theorem setL_st {fs : List Fl} {ss : List St} {p : List Be} {f a : Int} (hp : PlanOf fs ss p) (hf : 0 ≤ f) (h : a ∈ setL p f) : a.toNat < ss.length := by
  rcases Nat.lt_or_ge a.toNat ss.length with h' | h'
  · exact h'
  · have := hp.pad _ h'
    rw [setL_fl h] at this
    omega

/-- A loop that is never left comes to a fold. -/
theorem runs_all {σ X : Type} {st : σ → X → σ} : ∀ (xs : List X) (s : σ), (runs (rstep st fun _ _ => none) (s, none) xs).1 = (xs.foldl st s, none)
  | [], s => rfl
  | p :: xs, s => by
    simp only [runs, rstep, Option.isNone_none]
    exact runs_all xs (st s p)
end Go.Mus

/- What is wrong on a floor. Conditions: none. -/
namespace Go.Mus

/-- A fault: none; or whether it is one of cold, and its day. -/
abbrev Fault := Option (Bool × Int)
def fullF (pl : Int) : List Sp → Nat → Fault
  | [], _ => none
  | s :: r, k => if pl < s.hi then some (false, (k : Int)) else fullF pl r (k + 1)
def early (late : Int) : Fault → Bool
  | none => true
  | some (_, n) => decide (late < n)
def lookS (co lo day : Int) (s : Fault × Int) : Fault × Int :=
  (if 0 ≤ s.2 ∧ wadd s.2 co < day ∧ early (wadd s.2 co) s.1 = true then some (true, wadd s.2 co) else s.1, max s.2 (day + lo))
theorem lookS_pos {co lo day u : Int} {fd : Fault} (h1 : 0 ≤ u) (h2 : IntKind.i64.wrap (u + co) < day) (h3 : early (wadd u co) fd = true) : lookS co lo day (fd, u) = (some (true, wadd u co), max u (day + lo)) := by
  simp only [lookS]; rw [if_pos ⟨h1, h2, h3⟩]
theorem lookS_neg1 {co lo day u : Int} {fd : Fault} (h1 : ¬ 0 ≤ u) : lookS co lo day (fd, u) = (fd, max u (day + lo)) := by
  simp only [lookS]; rw [if_neg fun h => h1 h.1]
theorem lookS_neg2 {co lo day u : Int} {fd : Fault} (h1 : ¬ IntKind.i64.wrap (u + co) < day) : lookS co lo day (fd, u) = (fd, max u (day + lo)) := by
  simp only [lookS]; rw [if_neg fun h => h1 h.2.1]
theorem lookS_neg3 {co lo day u n : Int} {c : Bool} (h1 : ¬ IntKind.i64.wrap (u + co) < n) : lookS co lo day (some (c, n), u) = (some (c, n), max u (day + lo)) := by
  simp only [lookS]; rw [if_neg fun h => h1 (by simpa [early] using h.2.2)]
theorem early_none {late : Int} {fd : Fault} (h : fd.isNone = true) : early late fd = true := by
  cases fd with
  | none => rfl
  | some q => cases h
theorem early_some {u co n : Int} {c : Bool} (h : IntKind.i64.wrap (u + co) < n) : early (wadd u co) (some (c, n)) = true := by simpa [early] using h
def lookF (fs : List Fl) (ss : List St) (p : List Be) (f : Int) : Fault :=
  ((setL p f).foldl (fun s i => lookS (flAt fs f).co (flAt fs f).lo (dayOf p i) s) (fullF (flAt fs f).pl (standsD fs ss p f) 0, -1)).1
end Go.Mus

/- The first fault of a plan. Conditions: none. -/
namespace Go.Mus

/-- The first fault, and its floor. -/
abbrev Err := Option ((Bool × Int) × Int)
def inspB (acc : Err) (n : Int) : Bool := match acc with
  | none => true
  | some (q0, _) => decide (n < q0.2)
def inspS (acc : Err) (f : Int) (q : Fault) : Err := match q with
  | none => acc
  | some z => if inspB acc z.2 = true then some (z, f) else acc
def inspN (fs : List Fl) (ss : List St) (p : List Be) : Nat → Err
  | 0 => none
  | k + 1 => inspS (inspN fs ss p k) k (lookF fs ss p k)
def inspF (fs : List Fl) (ss : List St) (p : List Be) : Err := inspN fs ss p fs.length
end Go.Mus

/- The right plans of a hall, looked for. Conditions: none. -/
namespace Go.Mus

/-- Whether a strike may be set, may be left. -/
abbrev May := Nat → Bool × Bool
def daysFrom (f d : Int) : Nat → List Be
  | 0 => []
  | m + 1 => ⟨f, d⟩ :: daysFrom f (d + 1) m
def floorsFrom (s : St) (f : Int) : Nat → List Be
  | 0 => []
  | m + 1 => daysFrom f s.day (s.wa + 1).toNat ++ floorsFrom s (f + 1) m
def stAt (ss : List St) (k : Nat) : St := ss.getD k ⟨0, 0, 0⟩
/-- The berths that a strike may have. -/
def berthsK (fs : List Fl) (ss : List St) (may : May) (k : Nat) : List Be :=
  (if (may k).2 then [bnone] else []) ++ (if (may k).1 then floorsFrom (stAt ss k) 0 fs.length else [])
/-- Some day has more cones than places. -/
def over (pl : Int) : List Sp → Bool
  | [] => false
  | s :: r => if pl < s.hi then true else over pl r
def prune (fs : List Fl) (ss : List St) (p : List Be) (b : Be) : Bool := if 0 ≤ b.fl then over (flAt fs b.fl).pl (standsD fs ss p b.fl) else false
/-- The right plans that begin so, in order. -/
def rights (fs : List Fl) (ss : List St) (may : May) : Nat → Nat → List Be → List (List Be)
  | 0, _, p => if (inspF fs ss p).isNone then [p] else []
  | m + 1, k, p => (berthsK fs ss may k).flatMap fun b => if prune fs ss (p.set k b) b then [] else rights fs ss may m (k + 1) (p.set k b)
theorem over_drop {pl : Int} : ∀ {d : List Sp} {k : Nat}, (∀ i, i < k → ∀ s, d[i]? = some s → ¬ pl < s.hi) → over pl d = over pl (d.drop k)
  | d, 0, _ => rfl
  | [], k + 1, _ => by simp
  | s :: d, k + 1, hn => by
    have h0 := hn 0 (by omega) s rfl
    simp only [over, if_neg h0, List.drop_succ_cons]
    exact over_drop fun i hi s hs => hn (i + 1) (by omega) s (by simpa using hs)

theorem mem_daysFrom {f : Int} : ∀ {m : Nat} {d : Int} {b : Be}, b ∈ daysFrom f d m → b.fl = f ∧ d ≤ b.day ∧ b.day < d + m
  | 0, _, _, h => by simp [daysFrom] at h
  | m + 1, d, b, h => by
    simp only [daysFrom, List.mem_cons] at h
    rcases h with rfl | h
    · exact ⟨rfl, Int.le_refl _, by simp; omega⟩
    · have := mem_daysFrom h
      exact ⟨this.1, by omega, by omega⟩
theorem mem_floorsFrom {s : St} : ∀ {m : Nat} {f : Int} {b : Be}, b ∈ floorsFrom s f m → f ≤ b.fl ∧ b.fl < f + m ∧ s.day ≤ b.day ∧ b.day < s.day + (s.wa + 1).toNat
  | 0, _, _, h => by simp [floorsFrom] at h
  | m + 1, f, b, h => by
    rcases List.mem_append.1 h with h | h
    · have := mem_daysFrom h; omega
    · have := mem_floorsFrom h; omega
/-- A berth of a strike. -/
theorem berth_ok {fs : List Fl} {ss : List St} {may : May} {k : Nat} {b : Be} (hall : HallOK fs ss) (hk : k < ss.length) (h : b ∈ berthsK fs ss may k) : -1 ≤ b.fl ∧ b.fl ≤ 1 ∧ b.fl < fs.length ∧ 0 ≤ b.day ∧ b.day ≤ 17 := by
  have hs : stAt ss k ∈ ss := by simp [stAt, List.getD, List.getElem?_eq_getElem hk]
  have := hall.st _ hs
  have hn := hall.nf
  unfold berthsK at h
  rcases List.mem_append.1 h with h | h
  · split at h
    · have : b = bnone := by simpa using h
      subst this; simp [bnone]; omega
    · cases h
  · split at h
    · have := mem_floorsFrom h; omega
    · cases h
theorem plan_set {fs : List Fl} {ss : List St} {p : List Be} {k : Nat} {b : Be} (hp : PlanOf fs ss p) (hk : k < ss.length) (hb : -1 ≤ b.fl ∧ b.fl ≤ 1 ∧ b.fl < fs.length ∧ 0 ≤ b.day ∧ b.day ≤ 17) : PlanOf fs ss (p.set k b) := by
  refine ⟨⟨by simpa using hp.ok.len, fun c hc => ?_⟩, fun c hc => ?_, fun i hi => ?_⟩
  · rcases List.mem_or_eq_of_mem_set hc with h | rfl
    · exact hp.ok.ok c h
    · omega
  · rcases List.mem_or_eq_of_mem_set hc with h | rfl
    · exact hp.fl c h
    · omega
  · have := hp.pad i hi
    simp only [beAt, List.getD] at this ⊢
    rw [List.getElem?_set_ne (by omega)]
    exact this
end Go.Mus

/- Methods by their rows; nil interfaces. Conditions: none; over any program. -/
namespace Go.Mus

theorem MV.row {P : Program} {t : TypeId} {name : String} {f : FuncId} (hm : ((P.info? t).bind fun i => i.methods.find? (·.name == name)).map (fun m => (m.path.toList.isEmpty, m.func)) = some (true, some (f, false)))
    (hd : (P.underlying t).map (fun d => match d with | .pointer _ => false | _ => true) = some true) : MV P t name f := ⟨fun h F v Q H => by
  obtain ⟨m, h1, h2⟩ := Option.map_eq_some_iff.1 hm
  obtain ⟨i, h3, h4⟩ := Option.bind_eq_some_iff.1 h1
  obtain ⟨d, h5, h6⟩ := Option.map_eq_some_iff.1 hd
  simp only [Prod.mk.injEq] at h2
  have hp : m.path.toList = [] := by simpa using h2.1
  have : TD P t d := ⟨h5⟩
  rw [show P.types.size + Made.depth = (P.types.size + 99) + 1 from rfl]
  generalize P.types.size + 99 = n
  simp only [method, bind_eq, pure_eq, bind_assoc, trb_typeInfo h3, h4, hp, follow, bind_pure, h2.2, receiverAt, trb_underlying]
  cases d <;> first | (simp at h6; done) | (simp only [Place.get, pure_eq, bind_pure]; exact H)⟩

def isNI : TypeDesc → Bool
  | .interface _ => false
  | _ => true
/-- A type that is no interface. -/
class NI (P : Program) (t : TypeId) : Prop where
  out : (P.underlying t).map isNI = some true
theorem yfcN {x : Cx} {ρ : Env} {S : Frag → Prop} {o : Oper} {t : TypeId} {y : Operand} {u : Value} (ho : o.op = .makeInterface t y) [i : NI x.P t] (hy : ev ρ y = some u) : Yv x S ρ o (.iface t u) := by
  obtain ⟨d, h1, h2⟩ := Option.map_eq_some_iff.1 i.out
  have : TD x.P t d := ⟨h1⟩
  exact y_iface ho (fun ms e => by subst e; cases h2) hy
/-- Interface values beside nil. -/
theorem eq_nil {P : Program} {t : TypeId} {ms : Array (String × TypeId)} [TD P t (.interface ms)] {h : Hp} {F : Frag} {β : Type} {f : Bool → Sem β} {Q : β → Frag → Prop} (d : Nat) : tr P h ((Op.equalIn (d + 1) t .nilIface .nilIface).bind f) F Q = tr P h (f true) F Q := by
  simp only [Op.equalIn, bind_eq, pure_eq, bind_assoc, bind_pure, trb_underlying]
theorem eq_nil' {P : Program} {t t₁ : TypeId} {u : Value} {ms : Array (String × TypeId)} [TD P t (.interface ms)] {h : Hp} {F : Frag} {β : Type} {f : Bool → Sem β} {Q : β → Frag → Prop} (d : Nat) : tr P h ((Op.equalIn (d + 1) t (.iface t₁ u) .nilIface).bind f) F Q = tr P h (f false) F Q := by
  simp only [Op.equalIn, bind_eq, pure_eq, bind_assoc, bind_pure, trb_underlying]
theorem equal_succ (t : TypeId) (a b : Value) : ∃ d, Op.equal t a b = Op.equalIn (d + 1) t a b := ⟨9999, rfl⟩

section
variable {x : Cx} {Q : Post} {ρ : Env} {ds : List Deferred} {F : Frag} {ops : Array Oper} {S : Frag → Prop} {i : Nat} {rest : List Nat} {o : Oper} {v : Value} {d : Tmp} {ty : TypeId} {pos : String} {aft : Array Edge} {g : Option (Nat × Bool)} {L : Frag}

theorem y_nilT {t t' : TypeId} {ms : Array (String × TypeId)} {y : Operand} (ho : o.op = .binOp .eql t y (.const .nilIface) t') [TD x.P t (.interface ms)] (hy : ev ρ y = some .nilIface) : Yv x S ρ o (.bool true) := fun e he F hF h' hE => by
  have hc : e (.const .nilIface) = .nilIface := he _ _ rfl
  have hg : eqGuard .eql t y (.const .nilIface) .nilIface .nilIface = .pure () := by
    simp [eqGuard, pure_eq]
  obtain ⟨dd, hdd⟩ := equal_succ t .nilIface .nilIface
  simp only [execOp, ho, he y _ hy, hc, hg, binOp, hdd, bind_eq, pure_eq, bind_assoc, bind_pure, eq_nil]
  exact ⟨rfl, rfl⟩
theorem y_nilF {t t' t₁ : TypeId} {u : Value} {ms : Array (String × TypeId)} {y : Operand} (ho : o.op = .binOp .eql t y (.const .nilIface) t') [TD x.P t (.interface ms)] (hy : ev ρ y = some (.iface t₁ u)) : Yv x S ρ o (.bool false) := fun e he F hF h' hE => by
  have hc : e (.const .nilIface) = .nilIface := he _ _ rfl
  have hg : eqGuard .eql t y (.const .nilIface) (.iface t₁ u) .nilIface = .pure () := by
    simp [eqGuard, pure_eq]
  obtain ⟨dd, hdd⟩ := equal_succ t (.iface t₁ u) .nilIface
  simp only [execOp, ho, he y _ hy, hc, hg, binOp, hdd, bind_eq, pure_eq, bind_assoc, bind_pure, eq_nil']
  exact ⟨rfl, rfl⟩
theorem y_nnilT {t t' t₁ : TypeId} {u : Value} {ms : Array (String × TypeId)} {y : Operand} (ho : o.op = .binOp .neq t y (.const .nilIface) t') [TD x.P t (.interface ms)] (hy : ev ρ y = some (.iface t₁ u)) : Yv x S ρ o (.bool true) := fun e he F hF h' hE => by
  have hc : e (.const .nilIface) = .nilIface := he _ _ rfl
  have hg : eqGuard .neq t y (.const .nilIface) (.iface t₁ u) .nilIface = .pure () := by
    simp [eqGuard, pure_eq]
  obtain ⟨dd, hdd⟩ := equal_succ t (.iface t₁ u) .nilIface
  simp only [execOp, ho, he y _ hy, hc, hg, binOp, hdd, bind_eq, pure_eq, bind_assoc, bind_pure, eq_nil']
  exact ⟨rfl, rfl⟩
theorem y_nnilF {t t' : TypeId} {ms : Array (String × TypeId)} {y : Operand} (ho : o.op = .binOp .neq t y (.const .nilIface) t') [TD x.P t (.interface ms)] (hy : ev ρ y = some .nilIface) : Yv x S ρ o (.bool false) := fun e he F hF h' hE => by
  have hc : e (.const .nilIface) = .nilIface := he _ _ rfl
  have hg : eqGuard .neq t y (.const .nilIface) .nilIface .nilIface = .pure () := by
    simp [eqGuard, pure_eq]
  obtain ⟨dd, hdd⟩ := equal_succ t .nilIface .nilIface
  simp only [execOp, ho, he y _ hy, hc, hg, binOp, hdd, bind_eq, pure_eq, bind_assoc, bind_pure, eq_nil]
  exact ⟨rfl, rfl⟩

variable {args : List Operand} {ts : Array TypeId} {vs : List Value} {y : Operand} {name : String} {t : TypeId} {u r : Value} {f : FuncId}
theorem e_invoke0 {R : Value → Frag → Prop} (ho : o.op = .call ⟨.invoke y name, args.toArray, ts⟩) (hy : ev ρ y = some (.iface t u)) [mv : MV x.P t name f] [FB x.P f] (hv : evs ρ args = some vs) (H : ∀ h', Ext x.h h' → Lent F h' → Pu x.P x.main f (u :: vs).toArray h' r) (K : ∀ A, Shut A → R r (A ++ F)) : Ef x ρ o F R :=
  e_invoke ho hy hv (Seg.head (A := []) (G := F)) H fun v A' hv => by
    obtain ⟨rfl, hs⟩ := hv
    exact K A' hs
/-- A method of an interface value answers. -/
theorem ci (H : ∀ h', Ext x.h h' → Lent F h' → Pu x.P x.main f (u :: vs).toArray h' r) (K : Ops x ops rest Q ((d, r) :: ρ) ds F) (ho : nthO ops.toList i = some ⟨some d, .call ⟨.invoke y name, args.toArray, ts⟩, ty, pos, aft, g⟩ := by rfl) (hy : ev ρ y = some (.iface t u) := by rfl) [mv : MV x.P t name f] [FB x.P f] (hv : evs ρ args = some vs := by rfl)
    (hw : want ops ρ ⟨some d, .call ⟨.invoke y name, args.toArray, ts⟩, ty, pos, aft, g⟩ := by first | exact wn | exact want_some rfl rfl rfl) (hd : Nat.blt d x.n = true := by rfl) : Ops x ops (i :: rest) Q ρ ds F :=
  Ops.eff (o := ⟨some d, .call ⟨.invoke y name, args.toArray, ts⟩, ty, pos, aft, g⟩) (e_invoke0 rfl hy hv H fun A hs => Ops.sb (Sb.left .refl hs) K) (nthO_get ho) hw hd rfl
theorem aci {fuel listed : Nat} (H : ∀ h', Ext x.h h' → Lent F h' → Pu x.P x.main f (u :: vs).toArray h' r) (K : Any x ops L fuel (listed ||| 2 ^ i) Q ((d, r) :: ρ) ds F) (hS : lastT ops i = true ∨ Keeps L F := by first | exact .inr (by repeat (first | exact fun _ h => h | exact fun _ h => absurd h List.not_mem_nil | apply Keeps.cons | apply Keeps.app)) | exact .inl (by kernel_rfl))
    (ho : nthO ops.toList i = some ⟨some d, .call ⟨.invoke y name, args.toArray, ts⟩, ty, pos, aft, g⟩ := by rfl) (hy : ev ρ y = some (.iface t u) := by rfl) [mv : MV x.P t name f] [FB x.P f] (hv : evs ρ args = some vs := by rfl)
    (hw : wantε ops (look ρ) ⟨some d, .call ⟨.invoke y name, args.toArray, ts⟩, ty, pos, aft, g⟩ true := by first | exact an | exact wantε_some rfl rfl rfl rfl) (hd : Nat.blt d x.n = true := by rfl) (hr : rdys ops listed = [i] := by kernel_rfl) : Any x ops L (fuel + 1) listed Q ρ ds F :=
  Any.eff (o := ⟨some d, .call ⟨.invoke y name, args.toArray, ts⟩, ty, pos, aft, g⟩) (e_invoke0 rfl hy hv H fun A hs => ⟨hS.imp id fun k p hp => List.mem_append_right _ (k p hp), Any.sb (Sb.left .refl hs) K⟩) hr (nthO_get ho) hw hd rfl
end
end Go.Mus

/- Functions of the library without a body: asked of the program's tables. Conditions: none; over any program. -/
namespace Go.Mus

/-- What a computation comes to that only looks at the program. -/
def pev {α : Type} (P : Program) : Sem α → Option α
  | .pure a => some a
  | .program k => pev P (k P)
  | _ => none
theorem pev_tr {α : Type} {P : Program} {h : Hp} : ∀ {s : Sem α} {a : α} {F : Frag} {Q : α → Frag → Prop}, pev P s = some a → Q a F → tr P h s F Q
  | .pure b, a, F, Q, e, H => by simp only [pev, Option.some.injEq] at e; subst e; exact H
  | .program k, a, F, Q, e, H => pev_tr (s := k P) e H
  | .load .., _, _, _, e, _ => by cases e
  | .store .., _, _, _, e, _ => by cases e
  | .new .., _, _, _, e, _ => by cases e
  | .shape .., _, _, _, e, _ => by cases e
  | .freeze .., _, _, _, e, _ => by cases e
  | .frozen .., _, _, _, e, _ => by cases e
  | .getObj .., _, _, _, e, _ => by cases e
  | .setObj .., _, _, _, e, _ => by cases e
  | .choose .., _, _, _, e, _ => by cases e
  | .sys .., _, _, _, e, _ => by cases e
  | .mark .., _, _, _, e, _ => by cases e
  | .halt _, _, _, _, e, _ => by cases e

/-- A function without a body, and what it does. -/
class XF (P : Program) (f : FuncId) (e : outParam (Array Value → Sem Value)) : Prop where
  out : ∃ fn, P.funcs[f]? = some fn ∧ (fn.name == "runtime.NumGoroutine") = false ∧ fn.body.isNone = true ∧ (Extern.findNext fn).isNone = true ∧ Extern.find fn = some e

theorem tr_callX {P : Program} {main : Side} {h : Hp} {F : Frag} {f : FuncId} {e : Array Value → Sem Value} [i : XF P f e] {args : Array Value} {R : Value → Frag → Prop} (H : tr P h (e args) F R) : tr P h (callFunc f args) F (nextOK P main h R) := by
  obtain ⟨fn, h1, h2, h3, h4, h5⟩ := i.out
  have h4' : Extern.findNext fn = none := by simpa using h4
  simp only [callFunc, bind_eq, pure_eq, trb_program, h1, h2, h3, h4', h5, Bool.false_eq_true, if_false, if_true]
  refine ⟨rfl, ?_⟩
  show tr P h ((e args).bind fun v => .pure (Next.value v)) F (nextOK P main h R)
  exact tr_bind (tr_mono H fun v F' r => r)

section
variable {x : Cx} {Q : Post} {ρ : Env} {ds : List Deferred} {F : Frag} {ops : Array Oper} {i : Nat} {rest : List Nat} {d : Tmp} {ty : TypeId} {pos : String} {aft : Array Edge} {g : Option (Nat × Bool)}
variable {args : List Operand} {ts : Array TypeId} {vs : List Value} {f : FuncId} {e : Array Value → Sem Value} {y : Operand} {name : String} {t : TypeId} {u r u' : Value}

/-- A call of one. -/
theorem cx {R : Value → Frag → Prop} (H : ∀ h', Ext x.h h' → tr x.P h' (e vs.toArray) F R) (K : ∀ v F', R v F' → Ops x ops rest Q ((d, v) :: ρ) ds F') (ho : nthO ops.toList i = some ⟨some d, .call ⟨.value (.func f), args.toArray, ts⟩, ty, pos, aft, g⟩ := by rfl) [XF x.P f e] (hv : evs ρ args = some vs := by rfl)
    (hw : want ops ρ ⟨some d, .call ⟨.value (.func f), args.toArray, ts⟩, ty, pos, aft, g⟩ := by first | exact wn | exact want_some rfl rfl rfl) (hd : Nat.blt d x.n = true := by rfl) : Ops x ops (i :: rest) Q ρ ds F :=
  Ops.eff (o := ⟨some d, .call ⟨.value (.func f), args.toArray, ts⟩, ty, pos, aft, g⟩) (fun ee he => ⟨F, [], by simp, fun h' e1 e2 => by
    have e3 : ee (.func f) = .func (.func f) #[] #[] := he _ _ rfl
    simp only [execOp, resolve, Deferred.ofValue, e3, bind_eq, pure_eq, bind_pure, invoke, List.map_toArray, evs_map he hv, List.append_toArray, List.nil_append, List.append_nil]
    exact tr_callX (tr_mono (H h' e1) fun v F' q => ⟨F', by simp, K v F' q⟩)⟩) (nthO_get ho) hw hd rfl
theorem cxp (hp : pev x.P (e vs.toArray) = some r) (K : Ops x ops rest Q ((d, r) :: ρ) ds F) (ho : nthO ops.toList i = some ⟨some d, .call ⟨.value (.func f), args.toArray, ts⟩, ty, pos, aft, g⟩ := by rfl) [XF x.P f e] (hv : evs ρ args = some vs := by rfl)
    (hw : want ops ρ ⟨some d, .call ⟨.value (.func f), args.toArray, ts⟩, ty, pos, aft, g⟩ := by first | exact wn | exact want_some rfl rfl rfl) (hd : Nat.blt d x.n = true := by rfl) : Ops x ops (i :: rest) Q ρ ds F :=
  cx (R := fun v F' => v = r ∧ F' = F) (fun h' _ => pev_tr hp ⟨rfl, rfl⟩) (fun v F' ⟨h1, h2⟩ => by subst h1 h2; exact K) ho hv hw hd
/-- A method of an interface value that has no body. -/
theorem cix (hm : pev x.P (method (x.P.types.size + Made.depth) t u name) = some (f, u')) (hp : pev x.P (e (u' :: vs).toArray) = some r) (K : Ops x ops rest Q ((d, r) :: ρ) ds F) (ho : nthO ops.toList i = some ⟨some d, .call ⟨.invoke y name, args.toArray, ts⟩, ty, pos, aft, g⟩ := by rfl) [XF x.P f e] (hy : ev ρ y = some (.iface t u) := by rfl) (hv : evs ρ args = some vs := by rfl)
    (hw : want ops ρ ⟨some d, .call ⟨.invoke y name, args.toArray, ts⟩, ty, pos, aft, g⟩ := by first | exact wn | exact want_some rfl rfl rfl) (hd : Nat.blt d x.n = true := by rfl) : Ops x ops (i :: rest) Q ρ ds F :=
  Ops.eff (o := ⟨some d, .call ⟨.invoke y name, args.toArray, ts⟩, ty, pos, aft, g⟩) (fun ee he => ⟨F, [], by simp, fun h' e1 e2 => by
    have e3 : ((#[Value.iface t u] ++ vs.toArray)[0]? : Option Value) = some (.iface t u) := by simp
    have e4 : (#[Value.iface t u] ++ vs.toArray).extract 1 (#[Value.iface t u] ++ vs.toArray).size = vs.toArray := by
      apply Array.ext'
      simp
    simp only [execOp, resolve, he y _ hy, bind_eq, pure_eq, bind_pure, List.map_toArray, evs_map he hv, invoke, e3, e4, callMethod, trb_program]
    refine tr_bind (pev_tr hm ?_)
    have e5 : #[u'] ++ vs.toArray = (u' :: vs).toArray := by simp
    simp only [e5]
    exact tr_callX (pev_tr hp ⟨F, by simp, K⟩)⟩) (nthO_get ho) hw hd rfl
end
end Go.Mus
