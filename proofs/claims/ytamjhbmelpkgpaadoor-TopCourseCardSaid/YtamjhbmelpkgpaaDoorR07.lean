/- The types and functions of the program, as facts. Conditions: none. (And 22 texts more.) -/
import Derived.Test.YtamjhbmelpkgpaaDoorProg
import Derived.Test.YtamjhbmelpkgpaaDoorR02
import Derived.KernelRfl
import Derived.Test.YtamjhbmelpkgpaaDoorR06
set_option linter.unusedVariables false
set_option linter.unusedSimpArgs false
set_option linter.unusedSectionVars false

/- The types and functions of the program, as facts. Conditions: none. -/
namespace Go.Proofs.YtamjhbmelpkgpaaDoor
open Go Go.aS
set_option maxRecDepth 100000
instance:TD Tryd.prog 3 (.int .i64):=⟨Tryd.underlying3⟩
instance:SC Tryd.prog 3:=⟨by kernel_rfl⟩
instance:TI Tryd.prog 3 1 8 (.int .i64 0) #[(.int .i64 0)]:=⟨by kernel_rfl,rfl⟩
instance:SC Tryd.prog 4:=⟨by kernel_rfl⟩
instance:TI Tryd.prog 4 1 1 (.bool false) #[(.bool false)]:=⟨by kernel_rfl,rfl⟩
instance:TD Tryd.prog 20 (.interface #[]):=⟨Tryd.underlying20⟩
instance:TD Tryd.prog 22 (.slice 3):=⟨Tryd.underlying22⟩
instance:SC Tryd.prog 22:=⟨by kernel_rfl⟩
instance:TI Tryd.prog 22 1 24 (.slice none 0 0) #[(.slice none 0 0)]:=⟨by kernel_rfl,rfl⟩
instance:TD Tryd.prog 25 (.slice 32):=⟨Tryd.underlying25⟩
instance:SC Tryd.prog 25:=⟨by kernel_rfl⟩
instance:TI Tryd.prog 25 1 24 (.slice none 0 0) #[(.slice none 0 0)]:=⟨by kernel_rfl,rfl⟩
instance:TD Tryd.prog 26 (.slice 98):=⟨Tryd.underlying26⟩
instance:SC Tryd.prog 26:=⟨by kernel_rfl⟩
instance:AG Tryd.prog 28 5:=⟨by kernel_rfl,by kernel_rfl⟩
instance:TI Tryd.prog 28 5 120 (.agg #[(.slice none 0 0),(.slice none 0 0),(.slice none 0 0),(.slice none 0 0),(.slice none 0 0)]) #[(.slice none 0 0),(.slice none 0 0),(.slice none 0 0),(.slice none 0 0),(.slice none 0 0)]:=⟨by kernel_rfl,rfl⟩
instance:FA Tryd.prog 28 0 0 25:=⟨0,by kernel_rfl⟩
instance:FA Tryd.prog 28 1 1 22:=⟨0,by kernel_rfl⟩
instance:FA Tryd.prog 28 2 2 22:=⟨0,by kernel_rfl⟩
instance:FA Tryd.prog 28 3 3 25:=⟨0,by kernel_rfl⟩
instance:FA Tryd.prog 28 4 4 26:=⟨0,by kernel_rfl⟩
instance:BP Tryd.prog 28 [(0,1),(1,1),(2,1),(3,1),(4,1)]:=⟨by kernel_rfl⟩
instance:AG Tryd.prog 32 2:=⟨by kernel_rfl,by kernel_rfl⟩
instance:TI Tryd.prog 32 2 16 (.agg #[(.int .i64 0),(.int .i64 0)]) #[(.int .i64 0),(.int .i64 0)]:=⟨by kernel_rfl,rfl⟩
instance:FA Tryd.prog 32 0 0 3:=⟨0,by kernel_rfl⟩
instance:FA Tryd.prog 32 1 1 3:=⟨0,by kernel_rfl⟩
instance:BP Tryd.prog 32 [(0,1),(1,1)]:=⟨by kernel_rfl⟩
instance:TD Tryd.prog 35 (.slice 22):=⟨Tryd.underlying35⟩
instance:SC Tryd.prog 36:=⟨by kernel_rfl⟩
instance:TD Tryd.prog 39 (.slice 41):=⟨Tryd.underlying39⟩
instance:SC Tryd.prog 39:=⟨by kernel_rfl⟩
instance:AG Tryd.prog 41 3:=⟨by kernel_rfl,by kernel_rfl⟩
instance:TI Tryd.prog 41 3 24 (.agg #[(.int .i64 0),(.int .i64 0),(.int .i64 0)]) #[(.int .i64 0),(.int .i64 0),(.int .i64 0)]:=⟨by kernel_rfl,rfl⟩
instance:FA Tryd.prog 41 0 0 3:=⟨0,by kernel_rfl⟩
instance:FA Tryd.prog 41 1 1 3:=⟨0,by kernel_rfl⟩
instance:FA Tryd.prog 41 2 2 3:=⟨0,by kernel_rfl⟩
instance:BP Tryd.prog 41 [(0,1),(1,1),(2,1)]:=⟨by kernel_rfl⟩
instance:TD Tryd.prog 49 (.int .u64):=⟨Tryd.underlying49⟩
instance:SC Tryd.prog 49:=⟨by kernel_rfl⟩
instance:TI Tryd.prog 49 1 8 (.int .u64 0) #[(.int .u64 0)]:=⟨by kernel_rfl,rfl⟩
instance:TI Tryd.prog 51 3 40 (.agg #[(.slice none 0 0),(.int .i64 0),(.int .u64 0)]) #[(.slice none 0 0),(.int .i64 0),(.int .u64 0)]:=⟨by kernel_rfl,rfl⟩
instance:FA Tryd.prog 51 0 0 22:=⟨0,by kernel_rfl⟩
instance:FA Tryd.prog 51 1 1 3:=⟨0,by kernel_rfl⟩
instance:FA Tryd.prog 51 2 2 49:=⟨0,by kernel_rfl⟩
instance:BP Tryd.prog 51 [(0,1),(1,1),(2,1)]:=⟨by kernel_rfl⟩
instance:TI Tryd.prog 57 1 8 (.agg #[(.int .i64 0)]) #[(.int .i64 0)]:=⟨by kernel_rfl,rfl⟩
instance:BP Tryd.prog 57 [(0,1)]:=⟨by kernel_rfl⟩
instance:TD Tryd.prog 59 (.interface #[("Error",145)]):=⟨Tryd.underlying59⟩
instance:SC Tryd.prog 59:=⟨by kernel_rfl⟩
instance:TI Tryd.prog 59 1 16 .nilIface #[.nilIface]:=⟨by kernel_rfl,rfl⟩
instance:AG Tryd.prog 65 1:=⟨by kernel_rfl,by kernel_rfl⟩
instance:TI Tryd.prog 65 1 24 (.agg #[(.slice none 0 0)]) #[(.slice none 0 0)]:=⟨by kernel_rfl,rfl⟩
instance:FA Tryd.prog 65 0 0 39:=⟨0,by kernel_rfl⟩
instance:BP Tryd.prog 65 [(0,1)]:=⟨by kernel_rfl⟩
instance:AG Tryd.prog 68 2:=⟨by kernel_rfl,by kernel_rfl⟩
instance:TI Tryd.prog 68 2 32 (.agg #[(.slice none 0 0),(.int .u8 0)]) #[(.slice none 0 0),(.int .u8 0)]:=⟨by kernel_rfl,rfl⟩
instance:FA Tryd.prog 68 0 0 65:=⟨0,by kernel_rfl⟩
instance:BP Tryd.prog 68 [(0,1),(1,1)]:=⟨by kernel_rfl⟩
instance:AG Tryd.prog 74 2:=⟨by kernel_rfl,by kernel_rfl⟩
instance:TI Tryd.prog 74 2 16 (.agg #[(.int .i64 0),(.int .i64 0)]) #[(.int .i64 0),(.int .i64 0)]:=⟨by kernel_rfl,rfl⟩
instance:FA Tryd.prog 74 0 0 36:=⟨0,by kernel_rfl⟩
instance:BP Tryd.prog 74 [(0,1),(1,1)]:=⟨by kernel_rfl⟩
instance:SC Tryd.prog 75:=⟨by kernel_rfl⟩
instance:SC Tryd.prog 76:=⟨by kernel_rfl⟩
instance:TI Tryd.prog 76 1 8 (.pointer none) #[(.pointer none)]:=⟨by kernel_rfl,rfl⟩
instance:TI Tryd.prog 80 3 24 (.agg #[(.int .i64 0),(.int .i64 0),(.bool false)]) #[(.int .i64 0),(.int .i64 0),(.bool false)]:=⟨by kernel_rfl,rfl⟩
instance:FA Tryd.prog 80 0 0 3:=⟨0,by kernel_rfl⟩
instance:FA Tryd.prog 80 1 1 3:=⟨0,by kernel_rfl⟩
instance:FA Tryd.prog 80 2 2 4:=⟨0,by kernel_rfl⟩
instance:TD Tryd.prog 81 (.map 85 88):=⟨Tryd.underlying81⟩
instance:SC Tryd.prog 81:=⟨by kernel_rfl⟩
instance:TI Tryd.prog 83 6 128 (.agg #[(.slice none 0 0),(.slice none 0 0),(.slice none 0 0),(.slice none 0 0),(.slice none 0 0),(.map none)]) #[(.slice none 0 0),(.slice none 0 0),(.slice none 0 0),(.slice none 0 0),(.slice none 0 0),(.map none)]:=⟨by kernel_rfl,rfl⟩
instance:FA Tryd.prog 83 0 0 28:=⟨4,by kernel_rfl⟩
instance:FA Tryd.prog 83 1 5 81:=⟨0,by kernel_rfl⟩
instance:BP Tryd.prog 83 [(0,5),(5,1)]:=⟨by kernel_rfl⟩
instance:TD Tryd.prog 85 (.array 5 3):=⟨Tryd.underlying85⟩
instance:AG Tryd.prog 85 5:=⟨by kernel_rfl,by kernel_rfl⟩
instance:TI Tryd.prog 85 5 40 (.agg #[(.int .i64 0),(.int .i64 0),(.int .i64 0),(.int .i64 0),(.int .i64 0)]) #[(.int .i64 0),(.int .i64 0),(.int .i64 0),(.int .i64 0),(.int .i64 0)]:=⟨by kernel_rfl,rfl⟩
instance:TD Tryd.prog 86 (.array 3 32):=⟨Tryd.underlying86⟩
instance:AG Tryd.prog 88 12:=⟨by kernel_rfl,by kernel_rfl⟩
instance:TI Tryd.prog 88 12 96 (.agg #[(.int .i64 0),(.int .i64 0),(.int .i64 0),(.int .i64 0),(.int .i64 0),(.int .i64 0),(.int .i64 0),(.int .i64 0),(.int .i64 0),(.int .i64 0),(.int .i64 0),(.int .i64 0)]) #[(.int .i64 0),(.int .i64 0),(.int .i64 0),(.int .i64 0),(.int .i64 0),(.int .i64 0),(.int .i64 0),(.int .i64 0),(.int .i64 0),(.int .i64 0),(.int .i64 0),(.int .i64 0)]:=⟨by kernel_rfl,rfl⟩
instance:FA Tryd.prog 88 0 0 85:=⟨4,by kernel_rfl⟩
instance:FA Tryd.prog 88 1 5 86:=⟨5,by kernel_rfl⟩
instance:FA Tryd.prog 88 2 11 3:=⟨0,by kernel_rfl⟩
instance:BP Tryd.prog 88 [(0,5),(5,6),(11,1)]:=⟨by kernel_rfl⟩
instance:TD Tryd.prog 100 (.slice 59):=⟨Tryd.underlying100⟩
instance:AG Tryd.prog 107 3:=⟨by kernel_rfl,by kernel_rfl⟩
instance:TI Tryd.prog 107 3 24 (.agg #[(.pointer none),(.pointer none),(.int .u64 0)]) #[(.pointer none),(.pointer none),(.int .u64 0)]:=⟨by kernel_rfl,rfl⟩
instance:SC Tryd.prog 110:=⟨by kernel_rfl⟩
instance:TD Tryd.prog 135 (.array 3 3):=⟨Tryd.underlying135⟩
instance:TI Tryd.prog 135 3 24 (.agg #[(.int .i64 0),(.int .i64 0),(.int .i64 0)]) #[(.int .i64 0),(.int .i64 0),(.int .i64 0)]:=⟨by kernel_rfl,rfl⟩
instance:FB Tryd.prog 4:=⟨by kernel_rfl⟩
instance:FB Tryd.prog 5:=⟨by kernel_rfl⟩
instance:FB Tryd.prog 6:=⟨by kernel_rfl⟩
instance:FB Tryd.prog 7:=⟨by kernel_rfl⟩
instance:FB Tryd.prog 8:=⟨by kernel_rfl⟩
instance:FB Tryd.prog 9:=⟨by kernel_rfl⟩
instance:FB Tryd.prog 10:=⟨by kernel_rfl⟩
instance:FB Tryd.prog 11:=⟨by kernel_rfl⟩
instance:FB Tryd.prog 12:=⟨by kernel_rfl⟩
instance:FB Tryd.prog 13:=⟨by kernel_rfl⟩
instance:FB Tryd.prog 14:=⟨by kernel_rfl⟩
instance:FB Tryd.prog 15:=⟨by kernel_rfl⟩
instance:FB Tryd.prog 16:=⟨by kernel_rfl⟩
instance:FB Tryd.prog 17:=⟨by kernel_rfl⟩
instance:FB Tryd.prog 18:=⟨by kernel_rfl⟩
instance:FB Tryd.prog 19:=⟨by kernel_rfl⟩
instance:FB Tryd.prog 20:=⟨by kernel_rfl⟩
instance:FB Tryd.prog 21:=⟨by kernel_rfl⟩
instance:FB Tryd.prog 22:=⟨by kernel_rfl⟩
instance:FB Tryd.prog 23:=⟨by kernel_rfl⟩
instance:FB Tryd.prog 24:=⟨by kernel_rfl⟩
instance:FB Tryd.prog 25:=⟨by kernel_rfl⟩
instance:FB Tryd.prog 26:=⟨by kernel_rfl⟩
instance:FB Tryd.prog 27:=⟨by kernel_rfl⟩
instance:FB Tryd.prog 28:=⟨by kernel_rfl⟩
instance:FB Tryd.prog 29:=⟨by kernel_rfl⟩
instance:FB Tryd.prog 34:=⟨by kernel_rfl⟩
instance:FB Tryd.prog 35:=⟨by kernel_rfl⟩
instance:FB Tryd.prog 36:=⟨by kernel_rfl⟩
instance:FB Tryd.prog 37:=⟨by kernel_rfl⟩
instance:FB Tryd.prog 38:=⟨by kernel_rfl⟩
instance:FB Tryd.prog 39:=⟨by kernel_rfl⟩
instance:FB Tryd.prog 40:=⟨by kernel_rfl⟩
instance:FB Tryd.prog 41:=⟨by kernel_rfl⟩
instance:FB Tryd.prog 42:=⟨by kernel_rfl⟩
instance:FB Tryd.prog 46:=⟨by kernel_rfl⟩
instance:FB Tryd.prog 47:=⟨by kernel_rfl⟩
instance:FB Tryd.prog 48:=⟨by kernel_rfl⟩
instance:FB Tryd.prog 49:=⟨by kernel_rfl⟩
instance:FB Tryd.prog 50:=⟨by kernel_rfl⟩
instance:FB Tryd.prog 51:=⟨by kernel_rfl⟩
instance:FB Tryd.prog 54:=⟨by kernel_rfl⟩
end Go.Proofs.YtamjhbmelpkgpaaDoor

/- The types of functions, as facts. Conditions: none. -/
namespace Go.Proofs.YtamjhbmelpkgpaaDoor
open Go Go.aS
set_option maxRecDepth 100000
instance:SC Tryd.prog 48:=⟨by kernel_rfl⟩
instance:TI Tryd.prog 48 1 8 .nilFunc #[.nilFunc]:=⟨by kernel_rfl,rfl⟩
instance:SC Tryd.prog 140:=⟨by kernel_rfl⟩
end Go.Proofs.YtamjhbmelpkgpaaDoor

/- Names for the numbers of functions and types. Conditions: none. -/
namespace Go.aS
noncomputable abbrev prog:Program:=Proofs.Tryd.prog
abbrev gq:Nat:=3
noncomputable abbrev Pv:Func:=Proofs.Tryd.f3
theorem zl:prog.funcs[gq]? =some Pv:=Proofs.Tryd.func3
abbrev Ec:Nat:=4
noncomputable abbrev NP:Func:=Proofs.Tryd.f4
theorem Kv:prog.funcs[Ec]? =some NP:=Proofs.Tryd.func4
abbrev ay5:Nat:=5
noncomputable abbrev az7:Func:=Proofs.Tryd.f5
theorem azS:prog.funcs[ay5]? =some az7:=Proofs.Tryd.func5
abbrev Ee:Nat:=6
noncomputable abbrev NR:Func:=Proofs.Tryd.f6
theorem Ky:prog.funcs[Ee]? =some NR:=Proofs.Tryd.func6
abbrev azm:Nat:=7
noncomputable abbrev aAb:Func:=Proofs.Tryd.f7
theorem az8:prog.funcs[azm]? =some aAb:=Proofs.Tryd.func7
abbrev ax2:Nat:=8
noncomputable abbrev azo:Func:=Proofs.Tryd.f8
theorem azf:prog.funcs[ax2]? =some azo:=Proofs.Tryd.func8
abbrev Em:Nat:=9
noncomputable abbrev NZ:Func:=Proofs.Tryd.f9
theorem KF:prog.funcs[Em]? =some NZ:=Proofs.Tryd.func9
abbrev ax7:Nat:=10
noncomputable abbrev azw:Func:=Proofs.Tryd.f10
theorem azp:prog.funcs[ax7]? =some azw:=Proofs.Tryd.func10
abbrev awR:Nat:=11
noncomputable abbrev ayo:Func:=Proofs.Tryd.f11
theorem ax8:prog.funcs[awR]? =some ayo:=Proofs.Tryd.func11
abbrev awG:Nat:=12
noncomputable abbrev aw3:Func:=Proofs.Tryd.f12
theorem aw0:prog.funcs[awG]? =some aw3:=Proofs.Tryd.func12
abbrev zL:Nat:=13
noncomputable abbrev JA:Func:=Proofs.Tryd.f13
theorem Hy:prog.funcs[zL]? =some JA:=Proofs.Tryd.func13
abbrev Ce:Nat:=14
noncomputable abbrev KO:Func:=Proofs.Tryd.f14
theorem JD:prog.funcs[Ce]? =some KO:=Proofs.Tryd.func14
abbrev zM:Nat:=15
noncomputable abbrev JB:Func:=Proofs.Tryd.f15
theorem Hz:prog.funcs[zM]? =some JB:=Proofs.Tryd.func15
abbrev aye:Nat:=16
noncomputable abbrev azx:Func:=Proofs.Tryd.f16
theorem azq:prog.funcs[aye]? =some azx:=Proofs.Tryd.func16
abbrev ayy:Nat:=17
noncomputable abbrev azT:Func:=Proofs.Tryd.f17
theorem azy:prog.funcs[ayy]? =some azT:=Proofs.Tryd.func17
abbrev ayE:Nat:=18
noncomputable abbrev azU:Func:=Proofs.Tryd.f18
theorem azz:prog.funcs[ayE]? =some azU:=Proofs.Tryd.func18
abbrev zQ:Nat:=19
noncomputable abbrev PV:Func:=Proofs.Tryd.f19
theorem Ep:prog.funcs[zQ]? =some PV:=Proofs.Tryd.func19
abbrev Cc:Nat:=20
noncomputable abbrev KL:Func:=Proofs.Tryd.f20
theorem JC:prog.funcs[Cc]? =some KL:=Proofs.Tryd.func20
abbrev pR:Nat:=21
noncomputable abbrev zO:Func:=Proofs.Tryd.f21
theorem yJ:prog.funcs[pR]? =some zO:=Proofs.Tryd.func21
abbrev ayf:Nat:=22
noncomputable abbrev azA:Func:=Proofs.Tryd.f22
theorem azr:prog.funcs[ayf]? =some azA:=Proofs.Tryd.func22
abbrev awS:Nat:=23
noncomputable abbrev ayp:Func:=Proofs.Tryd.f23
theorem ayg:prog.funcs[awS]? =some ayp:=Proofs.Tryd.func23
abbrev QS:Nat:=24
noncomputable abbrev aw9:Func:=Proofs.Tryd.f24
theorem awI:prog.funcs[QS]? =some aw9:=Proofs.Tryd.func24
abbrev ayF:Nat:=25
noncomputable abbrev azV:Func:=Proofs.Tryd.f25
theorem azB:prog.funcs[ayF]? =some azV:=Proofs.Tryd.func25
abbrev wY:Nat:=26
noncomputable abbrev NU:Func:=Proofs.Tryd.f26
theorem KA:prog.funcs[wY]? =some NU:=Proofs.Tryd.func26
abbrev awT:Nat:=27
noncomputable abbrev ayq:Func:=Proofs.Tryd.f27
theorem ayh:prog.funcs[awT]? =some ayq:=Proofs.Tryd.func27
abbrev ax3:Nat:=28
noncomputable abbrev azs:Func:=Proofs.Tryd.f28
theorem azg:prog.funcs[ax3]? =some azs:=Proofs.Tryd.func28
abbrev awX:Nat:=29
noncomputable abbrev ayr:Func:=Proofs.Tryd.f29
theorem ayi:prog.funcs[awX]? =some ayr:=Proofs.Tryd.func29
abbrev oD:Nat:=31
noncomputable abbrev oG:Func:=Proofs.Tryd.f31
theorem xk:prog.funcs[oD]? =some oG:=Proofs.Tryd.func31
abbrev kX:Nat:=32
noncomputable abbrev kY:Func:=Proofs.Tryd.f32
theorem sQ:prog.funcs[kX]? =some kY:=Proofs.Tryd.func32
abbrev kG:Nat:=33
noncomputable abbrev kH:Func:=Proofs.Tryd.f33
theorem rX:prog.funcs[kG]? =some kH:=Proofs.Tryd.func33
abbrev GN:Nat:=34
noncomputable abbrev PW:Func:=Proofs.Tryd.f34
theorem N9:prog.funcs[GN]? =some PW:=Proofs.Tryd.func34
abbrev BX:Nat:=35
noncomputable abbrev KG:Func:=Proofs.Tryd.f35
theorem Jv:prog.funcs[BX]? =some KG:=Proofs.Tryd.func35
abbrev yj:Nat:=36
noncomputable abbrev HY:Func:=Proofs.Tryd.f36
theorem FP:prog.funcs[yj]? =some HY:=Proofs.Tryd.func36
abbrev qF:Nat:=37
noncomputable abbrev BA:Func:=Proofs.Tryd.f37
theorem zX:prog.funcs[qF]? =some BA:=Proofs.Tryd.func37
abbrev yt:Nat:=38
noncomputable abbrev H8:Func:=Proofs.Tryd.f38
theorem FV:prog.funcs[yt]? =some H8:=Proofs.Tryd.func38
abbrev uh:Nat:=39
noncomputable abbrev EC:Func:=Proofs.Tryd.f39
theorem C9:prog.funcs[uh]? =some EC:=Proofs.Tryd.func39
abbrev ayG:Nat:=40
noncomputable abbrev azW:Func:=Proofs.Tryd.f40
theorem azC:prog.funcs[ayG]? =some azW:=Proofs.Tryd.func40
abbrev aw7:Nat:=41
noncomputable abbrev ay6:Func:=Proofs.Tryd.f41
theorem ay2:prog.funcs[aw7]? =some ay6:=Proofs.Tryd.func41
abbrev aw4:Nat:=42
noncomputable abbrev ay3:Func:=Proofs.Tryd.f42
theorem ays:prog.funcs[aw4]? =some ay3:=Proofs.Tryd.func42
abbrev pW:Nat:=43
noncomputable abbrev pX:Func:=Proofs.Tryd.f43
theorem yO:prog.funcs[pW]? =some pX:=Proofs.Tryd.func43
abbrev lD:Nat:=44
noncomputable abbrev lF:Func:=Proofs.Tryd.f44
theorem sW:prog.funcs[lD]? =some lF:=Proofs.Tryd.func44
abbrev mJ:Nat:=45
noncomputable abbrev mM:Func:=Proofs.Tryd.f45
theorem uQ:prog.funcs[mJ]? =some mM:=Proofs.Tryd.func45
abbrev axc:Nat:=46
noncomputable abbrev azh:Func:=Proofs.Tryd.f46
theorem ay7:prog.funcs[axc]? =some azh:=Proofs.Tryd.func46
abbrev aw5:Nat:=47
noncomputable abbrev ay4:Func:=Proofs.Tryd.f47
theorem ayt:prog.funcs[aw5]? =some ay4:=Proofs.Tryd.func47
abbrev awM:Nat:=48
noncomputable abbrev ayj:Func:=Proofs.Tryd.f48
theorem ax5:prog.funcs[awM]? =some ayj:=Proofs.Tryd.func48
abbrev apU:Nat:=49
noncomputable abbrev ax0:Func:=Proofs.Tryd.f49
theorem axd:prog.funcs[apU]? =some ax0:=Proofs.Tryd.func49
abbrev awz:Nat:=50
noncomputable abbrev aw_:Func:=Proofs.Tryd.f50
theorem awK:prog.funcs[awz]? =some aw_:=Proofs.Tryd.func50
abbrev awZ:Nat:=51
noncomputable abbrev ayu:Func:=Proofs.Tryd.f51
theorem ayk:prog.funcs[awZ]? =some ayu:=Proofs.Tryd.func51
abbrev axX:Nat:=54
noncomputable abbrev azi:Func:=Proofs.Tryd.f54
theorem ay8:prog.funcs[axX]? =some azi:=Proofs.Tryd.func54
abbrev lS:Nat:=69
noncomputable abbrev yw:Func:=Proofs.Tryd.f69
theorem FY:prog.funcs[lS]? =some yw:=Proofs.Tryd.func69
abbrev eu:Nat:=84
noncomputable abbrev iI:Func:=Proofs.Tryd.f84
theorem mY:prog.funcs[eu]? =some iI:=Proofs.Tryd.func84
abbrev iO:Nat:=86
noncomputable abbrev lK:Func:=Proofs.Tryd.f86
theorem tq:prog.funcs[iO]? =some lK:=Proofs.Tryd.func86
abbrev fD:Nat:=87
noncomputable abbrev jf:Func:=Proofs.Tryd.f87
theorem n_:prog.funcs[fD]? =some jf:=Proofs.Tryd.func87
abbrev dL:TypeId:=3
abbrev RS:TypeId:=4
abbrev nS:TypeId:=22
abbrev azD:TypeId:=26
abbrev zf:TypeId:=28
abbrev eG:TypeId:=32
abbrev Ag:TypeId:=41
abbrev adi:TypeId:=51
abbrev azE:TypeId:=57
abbrev qM:TypeId:=59
abbrev azj:TypeId:=63
abbrev bG:TypeId:=68
abbrev aQ:TypeId:=74
abbrev bF:TypeId:=75
abbrev awL:TypeId:=76
abbrev azX:TypeId:=83
abbrev atI:TypeId:=85
abbrev lq:TypeId:=88
abbrev BH:TypeId:=107
abbrev qI:TypeId:=123
instance:MO prog:=⟨by kernel_rfl⟩
end Go.aS

/- Methods by their rows; nil interfaces. Conditions: none; over any program. -/
namespace Go.aS
theorem MV.row{P:Program}{t:TypeId}{name:String}{f:FuncId}(hm:((P.info? t).bind fun i=>i.methods.find? (·.name==name)).map (fun m=>(m.path.toList.isEmpty,m.func))=some (true,some (f,false)))
  (hd:(P.underlying t).map (fun d=>match d with | .pointer _=>false | _=>true)=some true):MV P t name f:=⟨fun h F v Q H=>by
 obtain⟨m,h1,h2⟩:=Option.map_eq_some_iff.1 hm
 obtain⟨i,h3,h4⟩:=Option.bind_eq_some_iff.1 h1
 obtain⟨d,h5,h6⟩:=Option.map_eq_some_iff.1 hd
 simp only[Prod.mk.injEq]at h2
 have hp:m.path.toList=[]:=by simpa using h2.1
 have:TD P t d:=⟨h5⟩
 rw[show P.types.size+Made.depth=(P.types.size+99)+1 from rfl]
 generalize P.types.size+99=n
 simp only[method,bind_eq,au,bind_assoc,dJ h3,h4,hp,follow,bind_pure,h2.2,receiverAt,aC]
 cases d <;>first | (simp at h6;done) | (simp only[Place.get,au,bind_pure];exact H)⟩

def aeR:TypeDesc→Bool
 | .interface _=>false
 | _=>true
class NI(P:Program)(t:TypeId):Prop where
 out:(P.underlying t).map aeR=some true
theorem ZK{x:Cx}{ρ:Env}{S:ah→Prop}{o:Oper}{t:TypeId}{y:Operand}{u:Value}(ho:o.op= .makeInterface t y)[i:NI x.P t](hy:ev ρ y=some u):Yv x S ρ o (.iface t u):=by
 obtain⟨d,h1,h2⟩:=Option.map_eq_some_iff.1 i.out
 have:TD x.P t d:=⟨h1⟩
 exact Tj ho (fun ms e=>by subst e;cases h2) hy
theorem eq_nil{P:Program}{t:TypeId}{ms:Array (String×TypeId)}[TD P t (.interface ms)]{h:Hp}{F:ah}{β:Type}{f:Bool→Sem β}{Q:β→ah→Prop}(d:Nat):tr P h ((Op.equalIn (d+1) t .nilIface .nilIface).bind f) F Q=tr P h (f true) F Q:=by
 simp only[Op.equalIn,bind_eq,au,bind_assoc,bind_pure,aC]
theorem ZL{P:Program}{t t₁:TypeId}{u:Value}{ms:Array (String×TypeId)}[TD P t (.interface ms)]{h:Hp}{F:ah}{β:Type}{f:Bool→Sem β}{Q:β→ah→Prop}(d:Nat):tr P h ((Op.equalIn (d+1) t (.iface t₁ u) .nilIface).bind f) F Q=tr P h (f false) F Q:=by
 simp only[Op.equalIn,bind_eq,au,bind_assoc,bind_pure,aC]
theorem CU(t:TypeId)(a b:Value):∃d,Op.equal t a b=Op.equalIn (d+1) t a b:=⟨9999,rfl⟩

section
variable{x:Cx}{Q:Post}{ρ:Env}{ds:List Deferred}{F:ah}{ops:Array Oper}{S:ah→Prop}{i:Nat}{rest:List Nat}{o:Oper}{v:Value}{d:Tmp}{ty:TypeId}{pos:String}{bK:Array Edge}{g:Option (Nat×Bool)}{L:ah}
theorem abK{t t':TypeId}{ms:Array (String×TypeId)}{y:Operand}(ho:o.op= .binOp .eql t y (.const .nilIface) t')[TD x.P t (.interface ms)](hy:ev ρ y=some .nilIface):Yv x S ρ o (.bool true):=fun e he F hF h' hE=>by
 have hc:e (.const .nilIface)= .nilIface:=he _ _ rfl
 have hg:eqGuard .eql t y (.const .nilIface) .nilIface .nilIface= .pure ():=by
  simp[eqGuard,au]
 obtain⟨dd,hdd⟩:=CU t .nilIface .nilIface
 simp only[execOp,ho,he y _ hy,hc,hg,binOp,hdd,bind_eq,au,bind_assoc,bind_pure,eq_nil]
 exact⟨rfl,rfl⟩
theorem Xz{t t' t₁:TypeId}{u:Value}{ms:Array (String×TypeId)}{y:Operand}(ho:o.op= .binOp .eql t y (.const .nilIface) t')[TD x.P t (.interface ms)](hy:ev ρ y=some (.iface t₁ u)):Yv x S ρ o (.bool false):=fun e he F hF h' hE=>by
 have hc:e (.const .nilIface)= .nilIface:=he _ _ rfl
 have hg:eqGuard .eql t y (.const .nilIface) (.iface t₁ u) .nilIface= .pure ():=by
  simp[eqGuard,au]
 obtain⟨dd,hdd⟩:=CU t (.iface t₁ u) .nilIface
 simp only[execOp,ho,he y _ hy,hc,hg,binOp,hdd,bind_eq,au,bind_assoc,bind_pure,ZL]
 exact⟨rfl,rfl⟩
theorem aBe{t t':TypeId}{ms:Array (String×TypeId)}{y:Operand}(ho:o.op= .binOp .neq t y (.const .nilIface) t')[TD x.P t (.interface ms)](hy:ev ρ y=some .nilIface):Yv x S ρ o (.bool false):=fun e he F hF h' hE=>by
 have hc:e (.const .nilIface)= .nilIface:=he _ _ rfl
 have hg:eqGuard .neq t y (.const .nilIface) .nilIface .nilIface= .pure ():=by
  simp[eqGuard,au]
 obtain⟨dd,hdd⟩:=CU t .nilIface .nilIface
 simp only[execOp,ho,he y _ hy,hc,hg,binOp,hdd,bind_eq,au,bind_assoc,bind_pure,eq_nil]
 exact⟨rfl,rfl⟩

variable{args:List Operand}{ts:Array TypeId}{vs:List Value}{y:Operand}{name:String}{t:TypeId}{u r:Value}{f:FuncId}
end
end Go.aS

/- Functions of the library without a body: asked of the program's tables. Conditions: none; over any program. -/
namespace Go.aS
def J_{α:Type}(P:Program):Sem α→Option α
 | .pure a=>some a
 | .program k=>J_ P (k P)
 | _=>none
theorem oU{α:Type}{P:Program}{h:Hp}:∀{s:Sem α} {a:α} {F:ah} {Q:α→ah→Prop},J_ P s=some a→Q a F→tr P h s F Q
 | .pure b,a,F,Q,e,H=>by simp only[J_,Option.some.injEq]at e;subst e;exact H
 | .program k,a,F,Q,e,H=>oU (s:=k P) e H
 | .load ..,_,_,_,e,_=>by cases e
 | .store ..,_,_,_,e,_=>by cases e
 | .new ..,_,_,_,e,_=>by cases e
 | .shape ..,_,_,_,e,_=>by cases e
 | .freeze ..,_,_,_,e,_=>by cases e
 | .frozen ..,_,_,_,e,_=>by cases e
 | .getObj ..,_,_,_,e,_=>by cases e
 | .setObj ..,_,_,_,e,_=>by cases e
 | .choose ..,_,_,_,e,_=>by cases e
 | .sys ..,_,_,_,e,_=>by cases e
 | .mark ..,_,_,_,e,_=>by cases e
 | .halt _,_,_,_,e,_=>by cases e

class XF(P:Program)(f:FuncId)(e:outParam (Array Value→Sem Value)):Prop where
 out:∃fn,P.funcs[f]? =some fn∧(fn.name== "runtime.NumGoroutine")=false∧fn.body.isNone=true∧(Extern.findNext fn).isNone=true∧Extern.find fn=some e

theorem PI{P:Program}{main:Side}{h:Hp}{F:ah}{f:FuncId}{e:Array Value→Sem Value}[i:XF P f e]{args:Array Value}{R:Value→ah→Prop}(H:tr P h (e args) F R):tr P h (callFunc f args) F (ni P main h R):=by
 obtain⟨fn,h1,h2,h3,h4,h5⟩:=i.out
 have h4':Extern.findNext fn=none:=by simpa using h4
 simp only[callFunc,bind_eq,au,l7,h1,h2,h3,h4',h5,Bool.false_eq_true,if_false,if_true]
 refine⟨rfl,?_⟩
 show tr P h ((e args).bind fun v=>.pure (Next.value v)) F (ni P main h R)
 exact bJ (lM H fun v F' r=>r)

section
variable{x:Cx}{Q:Post}{ρ:Env}{ds:List Deferred}{F:ah}{ops:Array Oper}{i:Nat}{rest:List Nat}{d:Tmp}{ty:TypeId}{pos:String}{bK:Array Edge}{g:Option (Nat×Bool)}
variable{args:List Operand}{ts:Array TypeId}{vs:List Value}{f:FuncId}{e:Array Value→Sem Value}{y:Operand}{name:String}{t:TypeId}{u r u':Value}
theorem cx{R:Value→ah→Prop}(H:∀h',Ext x.h h'→tr x.P h' (e vs.toArray) F R)(K:∀v F',R v F'→Ops x ops rest Q ((d,v)::ρ) ds F')(ho:cO ops.toList i=some ⟨some d,.call ⟨.value (.func f),args.toArray,ts⟩,ty,pos,bK,g⟩:=by rfl)[XF x.P f e](hv:evs ρ args=some vs:=by rfl)
  (hw:want ops ρ ⟨some d,.call ⟨.value (.func f),args.toArray,ts⟩,ty,pos,bK,g⟩:=by first | exact wn | exact ak rfl rfl rfl) (hd:Nat.blt d x.n=true:=by rfl):Ops x ops (i::rest) Q ρ ds F:=
 Ops.eff (o:=⟨some d,.call ⟨.value (.func f),args.toArray,ts⟩,ty,pos,bK,g⟩) (fun ee he=>⟨F,[],by simp,fun h' e1 e2=>by
  have e3:ee (.func f)= .func (.func f) #[] #[]:=he _ _ rfl
  simp only[execOp,resolve,Deferred.ofValue,e3,bind_eq,au,bind_pure,invoke,List.map_toArray,lN he hv,List.append_toArray,List.nil_append,List.append_nil]
  exact PI (lM (H h' e1) fun v F' q=>⟨F',by simp,K v F' q⟩)⟩) (aU ho) hw hd rfl
theorem cxp(hp:J_ x.P (e vs.toArray)=some r)(K:Ops x ops rest Q ((d,r)::ρ) ds F)(ho:cO ops.toList i=some ⟨some d,.call ⟨.value (.func f),args.toArray,ts⟩,ty,pos,bK,g⟩:=by rfl)[XF x.P f e](hv:evs ρ args=some vs:=by rfl)
  (hw:want ops ρ ⟨some d,.call ⟨.value (.func f),args.toArray,ts⟩,ty,pos,bK,g⟩:=by first | exact wn | exact ak rfl rfl rfl) (hd:Nat.blt d x.n=true:=by rfl):Ops x ops (i::rest) Q ρ ds F:=
 cx (R:=fun v F'=>v=r∧F'=F) (fun h' _=>oU hp ⟨rfl,rfl⟩) (fun v F' ⟨h1,h2⟩=>by subst h1 h2;exact K) ho hv hw hd
theorem cix(hm:J_ x.P (method (x.P.types.size+Made.depth) t u name)=some (f,u'))(hp:J_ x.P (e (u'::vs).toArray)=some r)(K:Ops x ops rest Q ((d,r)::ρ) ds F)(ho:cO ops.toList i=some ⟨some d,.call ⟨.invoke y name,args.toArray,ts⟩,ty,pos,bK,g⟩:=by rfl)[XF x.P f e](hy:ev ρ y=some (.iface t u):=by rfl)(hv:evs ρ args=some vs:=by rfl)
  (hw:want ops ρ ⟨some d,.call ⟨.invoke y name,args.toArray,ts⟩,ty,pos,bK,g⟩:=by first | exact wn | exact ak rfl rfl rfl) (hd:Nat.blt d x.n=true:=by rfl):Ops x ops (i::rest) Q ρ ds F:=
 Ops.eff (o:=⟨some d,.call ⟨.invoke y name,args.toArray,ts⟩,ty,pos,bK,g⟩) (fun ee he=>⟨F,[],by simp,fun h' e1 e2=>by
  have e3:((#[Value.iface t u]++vs.toArray)[0]? :Option Value)=some (.iface t u):=by simp
  have e4:(#[Value.iface t u]++vs.toArray).extract 1 (#[Value.iface t u]++vs.toArray).size=vs.toArray:=by
   apply Array.ext'
   simp
  simp only[execOp,resolve,he y _ hy,bind_eq,au,bind_pure,List.map_toArray,lN he hv,invoke,e3,e4,callMethod,l7]
  refine bJ (oU hm ?_)
  have e5: #[u']++vs.toArray=(u'::vs).toArray:=by simp
  simp only[e5]
  exact PI (oU hp ⟨F,by simp,K⟩)⟩) (aU ho) hw hd rfl
end
end Go.aS

/- Pans checked; what they take; what comes out; those that are open. Conditions: none; over the given program. -/
namespace Go.aS
set_option maxRecDepth 100000
set_option maxHeartbeats 4000000
theorem jo(main:Side)(h:Hp)(n lo hi:Int):Pu prog main yj #[I n,I lo,I hi] h (.bool (decide (outs n lo hi))):=by
 refine dV.aG FP rfl (by show 3≤15;decide) [(0,I n),(1,I lo),(2,I hi)] ⟨rfl,rfl,rfl,trivial⟩ ?_
 refine W.seq<|W.region rfl<|agb rfl rfl rfl<|pq<|W.seq<|W.region rfl<|qm rfl rfl rfl<|qm rfl rfl rfl ?_
 refine agW (fO rfl rfl rfl) rfl ?_
 refine qm rfl rfl rfl ?_
 refine Ops.ask (fun ae5=>?_) (fun ae5=>?_)
 ·refine Ops.no ?_
  refine Ops.no ?_
  refine Ops.no ?_
  refine agW (dG rfl rfl rfl) rfl ?_
  refine agb rfl rfl rfl<|pq<|W.ret ?_
  refine uZ ?_
  first | exact congrArg Value.bool (decide_eq_true (Or.inl ‹_›)).symm | exact congrArg Value.bool (decide_eq_decide.2 ⟨.inr,fun h=>h.resolve_left ‹_›⟩)
 ·refine oq (aN rfl rfl) rfl (ak rfl rfl rfl) rfl rfl ?_
  refine oq (aN rfl rfl) rfl (ak rfl rfl rfl) rfl rfl ?_
  refine oq (rC rfl rfl rfl) rfl (ak rfl rfl rfl) rfl rfl ?_
  refine agW (iH rfl rfl rfl) rfl ?_
  refine agb rfl rfl rfl<|pq<|W.ret ?_
  refine uZ ?_
  first | exact congrArg Value.bool (decide_eq_true (Or.inl ‹_›)).symm | exact congrArg Value.bool (decide_eq_decide.2 ⟨.inr,fun h=>h.resolve_left ‹_›⟩)

theorem Qb{ps:List Pn}{k:Nat}{p:Pn}(h:lX ps=lX (p::ps.drop (k+1))):lX ps=if gW p=0 then lX (ps.drop (k+1))else gW p:=h
theorem Vm(main:Side)(h:Hp)(ps:List Pn)(vp:Value)(hf:Sl h Pn.row vp ps):Pu prog main BX #[vp] h (I (nV ps)):=by
 obtain⟨a,cap,rfl⟩:=hf.dA
 refine dV.aG Jv rfl (by show 1≤34;decide) [(0,.slice a ps.length cap)] ⟨rfl,trivial⟩ ?_
 refine W.seq<|W.region rfl<|agb rfl rfl rfl<|pq<|W.seq<|W.seq<|W.region rfl<|qm rfl rfl rfl ?_
 refine agW (dM rfl rfl) rfl ?_
 refine agW (rC rfl rfl rfl) rfl ?_
 refine pq ?_
 refine W.bC rfl (fun c7=>?_) (fun c7=>?_)
 ·refine W.seq<|W.region rfl<|agb rfl rfl rfl<|pq<|W.ret<|aY ?_
  refine uZ ?_
  show I _=I _;congr 1;simp only[nV];rw[if_pos (by omega)]
 ·refine W.skip<|aA<|W.seq<|W.seq<|W.region rfl<|qm rfl rfl rfl ?_
  refine agW (dM rfl rfl) rfl ?_
  refine qm rfl rfl rfl<|pq<|W.block ?_
  refine W.loop (σ:=Nat) (fun k=>k≤ps.length∧lX ps=lX (ps.drop k)) (fun k=>[(10,I k),(9,I ps.length),(8,.slice a ps.length cap)]) (fun _=>[]) (fun k=>ps.length-k) 0 ⟨Nat.zero_le _,rfl⟩ ⟨rfl,rfl,rfl,trivial⟩ .refl ?_
  rintro k ⟨hk,hd⟩
  refine W.seq<|W.region rfl ?_
  refine agW (fO rfl rfl rfl) rfl ?_
  refine pq<|W.seq ?_
  refine W.bC rfl (fun c11=>?_) (fun c11=>?_)
  ·obtain⟨p,hp,hdr⟩:=has (show k<ps.length by omega)
   rw[hdr]at hd
   have hd:=Qb hd
   obtain⟨b,off,c,E,fz,rfl,hb,hx,hy,hz⟩:=hf.at hp
   have hx':c.extract (off+k*3) (off+k*3+3)= #[I p.lo,I p.hi,I p.sh]:=hx
   clear hx hz
   refine W.skip<|aA<|W.seq<|W.block<|W.seq<|W.region rfl ?_
   refine ag3 rfl ?_
   first | refine ag2 rfl ?_ | refine agW (ady rfl rfl) rfl ?_
   refine Ops.new (fun wC=>?_)
   first | refine Ops.jP ?_ | refine Ops.nY ?_
   refine pq<|W.block<|W.seq<|W.region rfl ?_
   refine agY rfl ?_
   refine agX rfl ?_
   refine cp (fun h' hE hL=>jo _ h' _ _ _) ?_
   refine qm rfl rfl rfl ?_
   refine Ops.ask (fun abR=>?_) (fun abR=>?_)
   ·refine Ops.no ?_
    refine Ops.no ?_
    refine Ops.no ?_
    refine agW (dG rfl rfl rfl) rfl ?_
    refine agb rfl rfl rfl<|pq ?_
    refine W.dW ?_
    refine W.seq<|W.region rfl<|agb rfl rfl rfl<|pq<|W.ret<|cZ<|cZ<|aY<|aY ?_
    refine cZ<|aY ?_
    refine uZ ?_
    have hc:gW p=1:=by simp only[gW];rw[if_pos];first | exact .inl ‹_› | exact .inr ‹_›
    show I _=I _;congr 1;simp only[nV];rw[if_neg (by omega),hd,hc];rfl
   ·refine oq (ay rfl rfl) rfl (ak rfl rfl rfl) rfl rfl ?_
    refine oq (iQ rfl rfl) rfl (ak rfl rfl rfl) rfl rfl ?_
    refine cp (fun h' hE hL=>jo _ h' _ _ _) ?_
    refine agW (iH rfl rfl rfl) rfl ?_
    refine agb rfl rfl rfl<|pq ?_
    refine W.bC rfl (fun c14=>?_) (fun c14=>?_)
    ·refine W.seq<|W.region rfl<|agb rfl rfl rfl<|pq<|W.ret<|cZ<|cZ<|aY<|aY ?_
     refine cZ<|aY ?_
     refine uZ ?_
     have hc:gW p=1:=by simp only[gW];rw[if_pos];first | exact .inl ‹_› | exact .inr ‹_›
     show I _=I _;congr 1;simp only[nV];rw[if_neg (by omega),hd,hc];rfl
    ·refine W.seq<|W.region rfl ?_
     refine agY rfl ?_
     refine agX rfl ?_
     refine agY rfl ?_
     refine agX rfl ?_
     refine agW (rC rfl rfl rfl) rfl ?_
     refine agb rfl rfl rfl<|pq ?_
     refine W.bC rfl (fun c23=>?_) (fun c23=>?_)
     ·refine W.seq<|W.region rfl<|agb rfl rfl rfl<|pq<|W.ret<|cZ<|cZ<|aY<|aY ?_
      refine cZ<|aY ?_
      refine uZ ?_
      have hc:gW p=5:=by simp only[gW];rw[if_neg (by rintro(h | h) <;>contradiction),if_pos (by assumption)]
      show I _=I _;congr 1;simp only[nV];rw[if_neg (by omega),hd,hc];rfl
     ·refine W.seq<|W.region rfl ?_
      refine agY rfl ?_
      refine agX rfl ?_
      refine cp (fun h' hE hL=>jo _ h' _ _ _) ?_
      refine agb rfl rfl rfl<|pq ?_
      refine W.bC rfl (fun c29=>?_) (fun c29=>?_)
      ·refine W.seq<|W.region rfl<|agb rfl rfl rfl<|pq<|W.ret<|cZ<|cZ<|aY<|aY ?_
       refine cZ<|aY ?_
       refine uZ ?_
       have hc:gW p=1:=by simp only[gW];rw[if_neg (by rintro(h | h) <;>contradiction),if_neg (by assumption),if_pos (by assumption)]
       show I _=I _;congr 1;simp only[nV];rw[if_neg (by omega),hd,hc];rfl
      ·refine W.skip<|dI<|dI<|aA<|W.region rfl ?_
       refine ag1 rfl ?_
       refine qm rfl rfl rfl<|pq ?_
       have hc:gW p=0:=by simp only[gW];rw[if_neg (by rintro(h | h) <;>contradiction),if_neg (by assumption),if_neg (by assumption)]
       rw[hc,if_pos rfl]at hd
       exact⟨rfl,k+1,⟨by omega,hd⟩,by omega,⟨rfl,rfl,rfl,trivial⟩,TW⟩
  ·have:k=ps.length:=by omega
   subst this
   have hz:lX ps=0:=by rw[hd];simp[lX]
   refine W.exit<|bP<|bP<|gG<|aA<|W.seq<|W.region rfl<|agb rfl rfl rfl<|pq ?_
   refine W.ret ?_
   refine uZ ?_
   show I _=I _;congr 1;simp only[nV];rw[if_neg (by omega),hz]

theorem JR(main:Side)(h:Hp)(ps:List Pn)(vp:Value)(q:Int)(hf:Sl h Pn.row vp ps)(h4:ps.length≤4):Pu prog main qF #[.agg #[vp],I q] h (U8 (P_ ps q)):=by
 obtain⟨a,cap,rfl⟩:=hf.dA
 refine dV.aG zX rfl (by show 2≤32;decide) [(0,.agg #[.slice a ps.length cap]),(1,I q)] ⟨rfl,rfl,trivial⟩ ?_
 refine W.seq<|W.region rfl ?_
 refine Ops.box (fun yR=>?_)
 refine agb rfl rfl rfl<|pq<|W.seq<|W.region rfl<|agb rfl rfl rfl<|pq<|W.seq<|W.seq ?_
 refine W.region rfl ?_
 refine agY rfl ?_
 refine agX rfl ?_
 refine agW (dM rfl rfl) rfl ?_
 refine qm rfl rfl rfl<|pq<|W.block ?_
 refine W.loop (σ:=Nat) (fun k=>k≤ps.length) (fun k=>[(11,I k),(10,I ps.length),(9,.slice a ps.length cap),(1,I q),(5,U8 (qO ((ps.take k).map (·.takes q))))]) (fun _=>[]) (fun k=>ps.length-k) 0 (Nat.zero_le _) ⟨rfl,rfl,rfl,rfl,rfl,trivial⟩ (.skip rfl .refl) ?_
 rintro k hk
 refine W.seq<|W.region rfl ?_
 refine agW (fO rfl rfl rfl) rfl ?_
 refine pq<|W.seq ?_
 refine W.bC rfl (fun c12=>?_) (fun c12=>?_)
 ·have hkl:k<ps.length:=by omega
  obtain⟨p,hp,hdr⟩:=has hkl
  obtain⟨b,off,c,E,fz,rfl,hb,hx,hy,hz⟩:=hf.at hp
  have hx':c.extract (off+k*3) (off+k*3+3)= #[I p.lo,I p.hi,I p.sh]:=hx
  clear hx hz
  have hlt:qO ((ps.take k).map (·.takes q))<2 ^ k:=by have:=Oc (l:=(ps.take k).map (·.takes q));simpa[Nat.min_eq_left hk]using this
  have hnx:(ps.take (k+1)).map (·.takes q)=(ps.take k).map (·.takes q)++[p.takes q]:=by rw[List.take_add_one,hp];simp
  have hl:((ps.take k).map (·.takes q)).length=k:=by simp[Nat.min_eq_left hk]
  refine W.skip<|aA<|W.seq<|W.block<|W.seq<|W.region rfl<|qm rfl rfl rfl ?_
  refine ag3 rfl ?_
  first | refine ag2 rfl ?_ | refine agW (ady rfl rfl) rfl ?_
  refine Ops.new (fun Vo=>?_)
  refine agb rfl rfl rfl ?_
  first | refine Ops.jP ?_ | refine Ops.nY ?_
  refine pq<|W.seq<|W.region rfl<|qm rfl rfl rfl ?_
  refine agY rfl ?_
  refine agX rfl ?_
  refine agW (IJ rfl rfl rfl) rfl ?_
  refine qm rfl rfl rfl ?_
  refine Ops.ask (fun aad=>?_) (fun aad=>?_)
  ·refine oq (aN rfl rfl) rfl (ak rfl rfl rfl) rfl rfl ?_
   refine oq (ay rfl rfl) rfl (ak rfl rfl rfl) rfl rfl ?_
   refine oq (iQ rfl rfl) rfl (ak rfl rfl rfl) rfl rfl ?_
   refine oq (Lr rfl rfl rfl) rfl (ak rfl rfl rfl) rfl rfl ?_
   refine agW (dG rfl rfl rfl) rfl ?_
   refine pq ?_
   refine W.bC rfl (fun c25=>?_) (fun c25=>?_)
   ·refine W.region rfl<|qm rfl rfl rfl<|qm rfl rfl rfl ?_
    refine agW (Wx rfl rfl rfl (by omega)) rfl ?_
    refine KU (acI rfl rfl rfl) (congrArg (Value.int .u8) (Z9 (k:=k) (by omega) hlt)) rfl wn rfl rfl ?_
    refine agb rfl rfl rfl<|Ops.nil<|dI<|aA<|W.region rfl ?_
    refine ag1 rfl ?_
    refine qm rfl rfl rfl<|pq ?_
    have e:qO ((ps.take (k+1)).map (·.takes q))=qO ((ps.take k).map (·.takes q))+2 ^ k:=by
     rw[hnx,EJ,hl,if_pos];simp only[Pn.takes,Bool.and_eq_true,decide_eq_true_eq];exact⟨aad,c25⟩
    exact⟨rfl,k+1,hkl,by omega,⟨rfl,rfl,rfl,rfl,lk rfl (by rw[e]),trivial⟩,TW⟩
   ·refine W.skip<|dI<|aA<|W.region rfl ?_
    refine ag1 rfl ?_
    refine qm rfl rfl rfl<|pq ?_
    have e:qO ((ps.take (k+1)).map (·.takes q))=qO ((ps.take k).map (·.takes q)):=by
     rw[hnx,EJ,hl,if_neg,Nat.add_zero];simp only[Pn.takes,Bool.and_eq_true,decide_eq_true_eq]
     first | exact fun h=>c25 h.2 | exact fun h=>aad h.1
    exact⟨rfl,k+1,hkl,by omega,⟨rfl,rfl,rfl,rfl,lk rfl (by rw[e]),trivial⟩,TW⟩
  ·refine Ops.no ?_
   refine Ops.no ?_
   refine Ops.no ?_
   refine Ops.no ?_
   refine agW (iH rfl rfl rfl) rfl ?_
   refine pq ?_
   refine W.bZ ?_
   refine W.skip<|dI<|aA<|W.region rfl ?_
   refine ag1 rfl ?_
   refine qm rfl rfl rfl<|pq ?_
   have e:qO ((ps.take (k+1)).map (·.takes q))=qO ((ps.take k).map (·.takes q)):=by
    rw[hnx,EJ,hl,if_neg,Nat.add_zero];simp only[Pn.takes,Bool.and_eq_true,decide_eq_true_eq]
    first | exact fun h=>c25 h.2 | exact fun h=>aad h.1
   exact⟨rfl,k+1,hkl,by omega,⟨rfl,rfl,rfl,rfl,lk rfl (by rw[e]),trivial⟩,TW⟩
 ·have hkl:k=ps.length:=by omega
  subst hkl
  refine W.exit<|bP<|bP<|gG<|aA<|W.seq<|W.region rfl<|qm rfl rfl rfl<|agb rfl rfl rfl<|Ops.nil ?_
  refine aA<|W.ret ?_
  refine uZ ?_
  rw[List.take_length];rfl
end Go.aS

/- Sets of pans; those that are open; what comes out; the beginning of each question. Conditions: none; over the given program. -/
namespace Go.aS
set_option maxRecDepth 100000
set_option maxHeartbeats 4000000
theorem X4(main:Side)(h:Hp)(m k:Nat)(hm:m<16)(hk:k<4):Pu prog main yt #[U8 m,I k] h (.bool (m.testBit k)):=by
 refine dV.aG FV rfl (by show 2≤10;decide) [(0,U8 m),(1,I k)] ⟨rfl,rfl,trivial⟩ ?_
 refine W.seq<|W.region rfl<|agb rfl rfl rfl<|pq<|W.seq<|W.region rfl<|qm rfl rfl rfl<|qm rfl rfl rfl ?_
 refine agW (Gw rfl rfl rfl (by omega)) rfl ?_
 refine agW (aaK rfl rfl rfl) rfl ?_
 refine agW (nD rfl rfl rfl) rfl ?_
 refine agb rfl rfl rfl<|pq<|W.ret ?_
 refine uZ ?_
 exact congrArg Value.bool (Z_ hm hk)

abbrev xJ(vp:Value)(c:Nat):Value:=.agg #[vp,U8 c]
theorem Dl(main:Side)(h:Hp)(ps:List Pn)(vp:Value)(i q:Nat)(hf:Sl h Pn.row vp ps)(hok:iP ps)(hi:i<ps.length)(hq:q<13):Pu prog main uh #[.agg #[vp],I i,I q] h (I (gy ps i q)):=by
 obtain⟨p,hp,hdr⟩:=has hi
 have hpk:=hok.pan p (List.mem_of_getElem? hp)
 obtain⟨a,cap,rfl⟩:=hf.dA
 obtain⟨b,off,c,E,fz,hv,hb,hx,hy,hz⟩:=hf.at hp
 refine dV.aG C9 rfl (by show 3≤17;decide) [(0,.agg #[.slice a ps.length cap]),(1,I i),(2,I q)] ⟨rfl,rfl,rfl,trivial⟩ ?_
 have hx':c.extract (off+i*3) (off+i*3+3)= #[I p.lo,I p.hi,I p.sh]:=hx
 have h2:c[off+i*3+2]? =some (I p.sh):=hz 2 (by decide)
 clear hx hz
 cases hv
 refine W.seq<|W.region rfl ?_
 refine Ops.box (fun uU=>?_)
 refine agb rfl rfl rfl<|pq<|W.seq<|W.region rfl<|qm rfl rfl rfl ?_
 refine agY rfl ?_
 refine agX rfl ?_
 refine qm rfl rfl rfl ?_
 refine ag3 rfl ?_
 refine agY rfl ?_
 refine agX rfl ?_
 refine ag1 rfl ?_
 refine agW (y8 rfl rfl rfl) rfl ?_
 refine agW (Tm rfl rfl rfl) rfl ?_
 refine agb rfl rfl rfl<|pq<|W.ret ?_
 refine uZ ?_
 rw[Vl hp]
 show I _=I _
 congr 1

def kU(ps:List Pn)(ql:List Int):Int:=if nV ps≠0 then nV ps else if ql.any (fun q=>decide (outs q 0 12))then 1 else 0
abbrev LZ:Value:=xJ (.slice none 0 0) 0
theorem Am(main:Side)(h:Hp)(ps:List Pn)(vp:Value)(ql:List Int)(vl:Value)(hf:Sl h Pn.row vp ps)(hl:Sl h fH vl ql)(hn:ql.length≤1000):Pu prog main Cc #[vp,vl] h (.tuple #[if kU ps ql=0 then xJ vp 0 else LZ,I (kU ps ql)]):=by
 obtain⟨a,cap,rfl⟩:=hf.dA
 obtain⟨a2,cap2,rfl⟩:=hl.dA
 refine dV.aG JC rfl (by show 2≤28;decide) [(0,.slice a ps.length cap),(1,.slice a2 ql.length cap2)] ⟨rfl,rfl,trivial⟩ ?_
 refine W.seq<|W.region rfl ?_
 refine Ops.new (fun wC=>?_)
 refine agb rfl rfl rfl<|pq<|W.seq<|W.seq<|W.region rfl<|qm rfl rfl rfl ?_
 refine cp (fun h' hE hL=>Vm _ h' _ _ (hf.ext hE)) ?_
 refine agb rfl rfl rfl<|pq<|W.seq<|W.region rfl<|qm rfl rfl rfl ?_
 refine agW (nG rfl rfl rfl) rfl ?_
 refine pq ?_
 refine W.bC rfl (fun c12=>?_) (fun c12=>?_)
 ·refine W.seq<|W.region rfl ?_
  refine agW (eH rfl rfl rfl) rfl ?_
  refine qm rfl rfl rfl ?_
  first | refine Ops.jP ?_ | refine Ops.nY ?_
  refine agb rfl rfl rfl<|pq<|W.ret<|aY ?_
  refine QJ (hv:=D_ (RN zJ)) ⟨?_,.cons rfl .nil⟩
  have e:kU ps ql=nV ps:=by rw[kU,if_pos c12]
  rw[e,if_neg c12];rfl
 ·refine W.skip<|aA<|W.seq<|W.seq<|W.region rfl<|qm rfl rfl rfl ?_
  refine agW (dM rfl rfl) rfl ?_
  refine qm rfl rfl rfl<|pq<|W.block ?_
  refine W.loop (σ:=Nat) (fun k=>k≤ql.length∧ql.any (fun q=>decide (outs q 0 12))=(ql.drop k).any (fun q=>decide (outs q 0 12))) (fun k=>[(17,I k),(16,I ql.length),(15,.slice a2 ql.length cap2),(0,.slice a ps.length cap),(4,.pointer (some ⟨wC,0,none⟩))]) (fun _=>[(wC,.cells #[.slice none 0 0,U8 0] bG (0,0))]) (fun k=>ql.length-k) 0 ⟨Nat.zero_le _,rfl⟩ ⟨rfl,rfl,rfl,rfl,rfl,trivial⟩ .refl ?_
  rintro k ⟨hk,hd⟩
  have h0:nV ps=0:=by simpa using c12
  refine W.seq<|W.region rfl ?_
  refine agW (fO rfl rfl rfl) rfl ?_
  refine pq<|W.seq ?_
  refine W.bC rfl (fun c18=>?_) (fun c18=>?_)
  ·obtain⟨q,hp,hdr⟩:=has (show k<ql.length by omega)
   rw[hdr]at hd
   obtain⟨b,off,c,E,fz,rfl,hb,hx,hy,hz⟩:=hl.at hp
   have hx':c[off+k*1]? =some (I q):=hz 0 (by decide)
   clear hx hz
   refine W.skip<|aA<|W.seq<|W.block<|W.seq<|W.region rfl ?_
   refine ag3 rfl ?_
   refine agX rfl ?_
   refine agb rfl rfl rfl<|pq<|W.seq<|W.region rfl<|qm rfl rfl rfl ?_
   refine cp (fun h' hE hL=>jo _ h' _ _ _) ?_
   refine pq ?_
   refine W.bC rfl (fun Qc=>?_) (fun Qc=>?_)
   ·refine W.seq<|W.region rfl ?_
    refine agW (eH rfl rfl rfl) rfl ?_
    first | refine Ops.jP ?_ | refine Ops.nY ?_
    refine agb rfl rfl rfl<|pq<|W.ret<|cZ<|aY<|aY<|cZ<|aY ?_
    refine QJ (hv:=D_ (RN zJ)) ⟨?_,.cons rfl .nil⟩
    have e:kU ps ql=1:=by rw[kU,if_neg (by simpa using h0),hd];simp[Qc]
    rw[e];rfl
   ·refine W.skip<|dI<|aA<|W.region rfl ?_
    refine ag1 rfl ?_
    refine qm rfl rfl rfl<|pq ?_
    exact⟨rfl,k+1,⟨by omega,by rw[hd];simp[Qc]⟩,by omega,⟨rfl,rfl,rfl,rfl,rfl,trivial⟩,TW⟩
  ·refine W.exit<|bP<|bP<|gG<|aA<|W.seq<|W.region rfl<|qm rfl rfl rfl ?_
   refine agW (eH rfl rfl rfl) rfl ?_
   refine agW (eH rfl rfl rfl) rfl ?_
   first | refine Ops.jP ?_ | refine Ops.nY ?_
   refine agb rfl rfl rfl<|pq<|W.ret ?_
   refine QJ (hv:=D_ (RN zJ)) ⟨?_,.cons rfl .nil⟩
   have e:kU ps ql=0:=by
    obtain rfl:k=ql.length:=by omega
    rw[kU,if_neg (by simpa using h0),hd];simp
   rw[e];rfl
end Go.aS

/- Two answering operations in an open order. Conditions: none; over any program. -/
namespace Go.aS
section
variable{x:Cx}{Q:Post}{ρ:Env}{ds:List Deferred}{F:ah}{ops:Array Oper}{d:Tmp}{ty:TypeId}{pos:String}{bK:Array Edge}{g:Option (Nat×Bool)}
variable{args:List Operand}{ts:Array TypeId}{vs:List Value}{y:Operand}{name:String}{t:TypeId}{u r:Value}{f:FuncId}
def An(x:Cx)(ρ:Env)(o:Oper)(F:ah)(u:Value):Prop:=∀R:Value→ah→Prop,(∀A,Shut A→R u (A++F))→Ef x ρ o F R
end
end Go.aS

/- A loop over a function that may be left: what is owned then is told apart. Conditions: none; over any program. -/
namespace Go.aS
theorem Tc.fn{P:Program}{main:Side}{h:Hp}{ds:List Deferred}{F A:ah}{U:ah→ah}{K R:ah→Prop}{f:FuncId}[FB P f]{cap:Array Value}(hs:Seg A F U)(H:∀h',Ext h h'→fF (U []) h'→Y8 P main f cap h' A R)(k:∀A',R A'→Tc P main h ds (A'++U []) K):Tc P main h ({target:=.fn (.func f) cap,args:= #[]}::ds) F K:=by
 obtain⟨fn,h1,h2,h3⟩:=FB.out (inferInstance:FB P f)
 show tr P h (callFunc f (#[]++cap)) F _
 simp only[callFunc,bind_eq,au,l7,h1,h2,h3,Bool.false_eq_true,if_false,Array.empty_append]
 exact⟨f,cap,rfl,A,U [],hs.perm.1,fun h' e1 e2=>(H h' e1 e2).mono fun A' r=>k A' r⟩
end Go.aS

/- Scopes of labels; slices beside nil. Conditions: none; over any program. -/
namespace Go.aS
end Go.aS

/- Short forms for senders. Conditions: none; over any program. -/
namespace Go.aS
def Zs(h:Hp)(v:Value):Prop:=∀b off n cap,v= .slice (some ⟨b,off,none⟩) n cap→h.z b
theorem Sl.told{α:Type}{row:α→List Value}{w:Nat}[Rw row w]{h:Hp}{v:Value}{l:List α}(H:Sl h row v l)(hz:Zs h v):Sl (zI h) row v l:=by
 obtain⟨a,cap,rfl,hx⟩:=H
 refine⟨a,cap,rfl,fun hne=>?_⟩
 obtain⟨b,off,cc,E,fz,rfl,hb,hp⟩:=hx hne
 exact⟨b,off,cc,E,fz,rfl,Ji (hz _ _ _ _ rfl) hb rfl,hp⟩
theorem Zs.ext{h h':Hp}{v:Value}(H:Zs h v)(e:Ext h h'):Zs h' v:=fun b off n cap hv=>e.2 b (H b off n cap hv)

theorem Zs.nil{h:Hp}:Zs h (.slice none 0 0):=fun b off n cap e=>by cases e

section
variable{x:Cx}{Q:Post}{ρ:Env}{ds:List Deferred}{ops:Array Oper}{id n:Nat}{y₁ y₂ y₃:Nat×Obj}{G:ah}
end
section
variable{x:Cx}{Q:Post}{ρ:Env}{ds:List Deferred}{F:ah}{ops:Array Oper}{i:Nat}{d:Tmp}{ty:TypeId}{pos:String}{bK:Array Edge}{g:Option (Nat×Bool)}{L:ah}{vs:List Value}
end
end Go.aS

/- Structs and arrays of numbers beside each other; maps whose keys are of these. Conditions: none; over any program. -/
namespace Go.aS
class NS(P:Program)(t:TypeId):Prop where
 stood:P.stoodInHeld t=false
 guard:P.eqGuardType P.depth t=false

abbrev nI(n:Int):Value:=.int .i64 n
def EqAt(P:Program)(t:TypeId)(w K:Nat):Prop:=∀{h:Hp} {F:ah} {β:Type} {f:Bool→Sem β} {Q:β→ah→Prop} (d:Nat) {xs ys:Array Value} {off:Nat} {us bs:List Int},us.length=w→bs.length=w→Part xs off (us.map nI)→Part ys off (bs.map nI)→
 tr P h ((part t xs off).bind fun x=>(part t ys off).bind fun y=>(Op.equalIn (d+K) t x y).bind f) F Q=tr P h (f (decide (us=bs))) F Q
def V7(P:Program)(t:TypeId)(w K:Nat):Prop:=∀{h:Hp} {F:ah} {β:Type} {f:Bool→Sem β} {Q:β→ah→Prop} (d:Nat) {us bs:List Int},us.length=w→bs.length=w→
 tr P h ((Op.equalIn (d+K) t (.agg (us.map nI).toArray) (.agg (bs.map nI).toArray)).bind f) F Q=tr P h (f (decide (us=bs))) F Q

theorem EqAt.le{P:Program}{t w K K':Nat}(H:EqAt P t w K)(h:K≤K'):EqAt P t w K':=by
 intro hp F β f Q d xs ys off us bs h1 h2 h3 h4
 have:= @H hp F β f Q (d+(K'-K)) xs ys off us bs h1 h2 h3 h4
 rwa[show d+(K'-K)+K=d+K' by omega]at this
theorem EqAt.int{P:Program}{t:TypeId}[TD P t (.int .i64)][SC P t]:EqAt P t 1 1:=by
 intro hp F β f Q d xs ys off us bs h1 h2 h3 h4
 obtain⟨a,rfl⟩:=List.length_eq_one_iff.1 h1
 obtain⟨b,rfl⟩:=List.length_eq_one_iff.1 h2
 have e1:xs[off]? =some (nI a):=h3.get (j:=0) (by simp)
 have e2:ys[off]? =some (nI b):=h4.get (j:=0) (by simp)
 rw[lT e1,lT e2]
 simp only[Op.equalIn,bind_eq,au,bind_assoc,bind_pure,aC,if_true]
 congr 2
 rw[Ii]
 by_cases h:a=b <;>simp[h]
theorem V7.at{P:Program}{t w K:Nat}(H:V7 P t w K)[AG P t w]:EqAt P t w K:=by
 intro hp F β f Q d xs ys off us bs h1 h2 h3 h4
 have e1:=h3.extract
 have e2:=h4.extract
 rw[List.length_map,h1]at e1
 rw[List.length_map,h2]at e2
 rw[ru,ru,e1,e2]
 exact H d h1 h2

theorem EN{us bs:List Int}{w:Nat}(h:us.take w=bs.take w)(h':us.drop w=bs.drop w):us=bs:=by
 rw[←List.take_append_drop w us,←List.take_append_drop w bs,h,h']
theorem Part.two{xs:Array Value}{off w:Nat}{us:List Int}(h:Part xs off (us.map nI))(hw:w≤us.length):Part xs off ((us.take w).map nI)∧Part xs (off+w) ((us.drop w).map nI):=by
 have e:us.map nI=[]++((us.take w).map nI++(us.drop w).map nI):=by rw[List.nil_append,←List.map_append,List.take_append_drop]
 constructor
 ·rw[e]at h;exact h.sub
 ·have e':us.map nI=(us.take w).map nI++((us.drop w).map nI++[]):=by rw[List.append_nil,←List.map_append,List.take_append_drop]
  rw[e']at h
  have:=h.sub
  rwa[List.length_map,List.length_take,Nat.min_eq_left hw]at this

def Lay(P:Program)(K:Nat):List Field→List Nat→Nat→Prop
 | [],[],_=>True
 | f::fs,w::ws,o=>f.name≠ "_" ∧f.offset=o∧EqAt P f.type w K∧Lay P K fs ws (o+w)
 | _,_,_=>False

theorem Lay.nil{P:Program}{K o:Nat}:Lay P K [] [] o:=trivial
theorem Lay.cons{P:Program}{K o w:Nat}{f:Field}{fs:List Field}{ws:List Nat}(hn:f.name≠ "_")(ho:f.offset=o)(he:EqAt P f.type w K)(hl:Lay P K fs ws (o+w)):Lay P K (f::fs) (w::ws) o:=⟨hn,ho,he,hl⟩
theorem L6{P:Program}{K:Nat}{xs ys:Array Value}{hp:Hp}{F:ah}{β:Type}{Q:β→ah→Prop}(d:Nat){g:Option Bool×Unit→Sem β}:∀(fs:List Field) (ws:List Nat) (o:Nat) (us bs:List Int),Lay P K fs ws o→us.length=ws.sum→bs.length=ws.sum→Part xs o (us.map nI)→Part ys o (bs.map nI)→
  tr P hp ((
            forIn fs (
            (none,()):Option Bool×Unit) fun f __s=>
         if f.name≠ "_" then
          (
           part f.type xs f.offset).bind fun __do_lift=>
           (
            part f.type ys f.offset).bind fun __do_lift_1=>
            (
             Op.equalIn (d+K) f.type __do_lift __do_lift_1).bind fun __do_lift=>
             if(!__do_lift)=true then Sem.pure (ForInStep.done (some false,()))
             else Sem.pure (ForInStep.yield (none,()))
         else Sem.pure (ForInStep.yield (none,()))).bind g) F Q=tr P hp (g (if us=bs then(none,())else(some false,()))) F Q
 | [],[],o,us,bs,_,h1,h2,h3,h4=>by
  have e1:us=[]:=List.length_eq_zero_iff.1 (by simpa using h1)
  have e2:bs=[]:=List.length_eq_zero_iff.1 (by simpa using h2)
  subst e1 e2
  simp only[List.forIn_nil,au,bind_pure,if_true]
 | f::fs,w::ws,o,us,bs,hl,h1,h2,h3,h4=>by
  obtain⟨hn,ho,he,hl⟩:=hl
  simp only[List.sum_cons]at h1 h2
  obtain⟨p1,p2⟩:=h3.two (w:=w) (by omega)
  obtain⟨q1,q2⟩:=h4.two (w:=w) (by omega)
  have e1:(us.take w).length=w:=by simp;omega
  have e2:(bs.take w).length=w:=by simp;omega
  subst ho
  simp only[List.forIn_cons,bind_eq,if_pos hn,bind_assoc]
  rw[he d e1 e2 p1 q1]
  by_cases hc:us.take w=bs.take w
  ·simp only[hc,decide_true,Bool.not_true,Bool.false_eq_true,if_false,bind_pure]
   rw[L6 d fs ws _ (us.drop w) (bs.drop w) hl (by simp;omega) (by simp;omega) p2 q2]
   by_cases hd:us.drop w=bs.drop w
   ·rw[if_pos hd,if_pos (EN hc hd)]
   ·rw[if_neg hd,if_neg (fun h=>hd (by rw[h]))]
  ·simp only[hc,decide_false,Bool.not_false,if_true,bind_pure]
   rw[if_neg (fun h=>hc (by rw[h]))]
   simp only[au,bind_pure]
 | [],_::_,_,_,_,hl,_,_,_,_=>hl.elim
 | _::_,[],_,_,_,hl,_,_,_,_=>hl.elim

theorem V7.struct{P:Program}{t:TypeId}{fs:Array Field}{ws:List Nat}{K:Nat}[TD P t (.struct fs)][n:NS P t](hl:Lay P K fs.toList ws 0):V7 P t ws.sum (K+1):=by
 intro hp F β f Q d us bs h1 h2
 have hs:=n.stood
 show tr P hp ((Op.equalIn (d+K+1) t _ _).bind f) F Q=_
 simp only[Op.equalIn,bind_eq,au,bind_assoc,bind_pure,aC,program,Sem.bind,tr,hs,Bool.false_eq_true,if_false]
 rw[←Array.forIn_toList,L6 d fs.toList ws 0 us bs hl h1 h2 (Part.all _) (Part.all _)]
 by_cases h:us=bs <;>simp[h,bind_pure]

theorem Qd{P:Program}{E w K:Nat}{xs ys:Array Value}{hp:Hp}{F:ah}{β:Type}{Q:β→ah→Prop}(he:EqAt P E w K)(d:Nat){g:Option Bool×Unit→Sem β}:∀(n i:Nat) (us bs:List Int),us.length=n*w→bs.length=n*w→Part xs (i*w) (us.map nI)→Part ys (i*w) (bs.map nI)→
  tr P hp ((
       forIn (List.range' i n) ((none,()):Option Bool×Unit) fun i __s=>
      (
       part E xs (i*w)).bind fun __do_lift=>
       (
        part E ys (i*w)).bind fun __do_lift_1=>
        (
         Op.equalIn (d+K) E __do_lift __do_lift_1).bind fun __do_lift=>
         if(!__do_lift)=true then Sem.pure (ForInStep.done (some false,()))
         else Sem.pure (ForInStep.yield (none,()))).bind g) F Q=tr P hp (g (if us=bs then(none,())else(some false,()))) F Q
 | 0,i,us,bs,h1,h2,h3,h4=>by
  have e1:us=[]:=List.length_eq_zero_iff.1 (by simpa using h1)
  have e2:bs=[]:=List.length_eq_zero_iff.1 (by simpa using h2)
  subst e1 e2
  simp only[List.range'_zero,List.forIn_nil,au,bind_pure,if_true]
 | n+1,i,us,bs,h1,h2,h3,h4=>by
  rw[Nat.succ_mul]at h1 h2
  obtain⟨p1,p2⟩:=h3.two (w:=w) (by omega)
  obtain⟨q1,q2⟩:=h4.two (w:=w) (by omega)
  have e1:(us.take w).length=w:=by simp;omega
  have e2:(bs.take w).length=w:=by simp;omega
  have e3:i*w+w=(i+1)*w:=by rw[Nat.succ_mul]
  rw[e3]at p2 q2
  simp only[List.range'_succ,List.forIn_cons,bind_eq,bind_assoc]
  rw[he d e1 e2 p1 q1]
  by_cases hc:us.take w=bs.take w
  ·simp only[hc,decide_true,Bool.not_true,Bool.false_eq_true,if_false,bind_pure]
   rw[Qd he d n (i+1) (us.drop w) (bs.drop w) (by simp;omega) (by simp;omega) p2 q2]
   by_cases hd:us.drop w=bs.drop w
   ·rw[if_pos hd,if_pos (EN hc hd)]
   ·rw[if_neg hd,if_neg (fun h=>hd (by rw[h]))]
  ·simp only[hc,decide_false,Bool.not_false,if_true,bind_pure]
   rw[if_neg (fun h=>hc (by rw[h]))]
   simp only[au,bind_pure]

theorem V7.array{P:Program}{t n E w K:Nat}{s:Nat}{z:Value}{zc:Array Value}[TD P t (.array n E)][TI P E w s z zc](he:EqAt P E w K):V7 P t (n*w) (K+1):=by
 intro hp F β f Q d us bs h1 h2
 show tr P hp ((Op.equalIn (d+K+1) t _ _).bind f) F Q=_
 simp only[Op.equalIn,bind_eq,au,bind_assoc,bind_pure,aC,dH]
 rw[Std.Legacy.Range.forIn_eq_forIn_range']
 have e:(Std.Legacy.Range.size [:n])=n:=by simp[Std.Legacy.Range.size]
 rw[e]
 refine(Qd he d n 0 us bs h1 h2 (by rw[Nat.zero_mul];exact Part.all _) (by rw[Nat.zero_mul];exact Part.all _)).trans ?_
 by_cases h:us=bs <;>simp[h,bind_pure]

class EV(P:Program)(t:TypeId)(w:outParam Nat):Prop where
 out:V7 P t w 9
theorem V7.le{P:Program}{t w K K':Nat}(H:V7 P t w K)(h:K≤K'):V7 P t w K':=by
 intro hp F β f Q d us bs h1 h2
 have:= @H hp F β f Q (d+(K'-K)) us bs h1 h2
 rwa[show d+(K'-K)+K=d+K' by omega]at this

section rules
variable{x:Cx}{ρ:Env}{F:ah}{S:ah→Prop}{o:Oper}{R:Value→ah→Prop}
theorem X7{P:Program}{t w:Nat}[v:EV P t w]{h:Hp}{F:ah}{β:Type}{f:Bool→Sem β}{Q:β→ah→Prop}{us bs:List Int}(h1:us.length=w)(h2:bs.length=w):tr P h ((Op.equal t (.agg (us.map nI).toArray) (.agg (bs.map nI).toArray)).bind f) F Q=tr P h (f (decide (us=bs))) F Q:=by
 have e:Op.equal t (.agg (us.map nI).toArray) (.agg (bs.map nI).toArray)=Op.equalIn (9991+9) t (.agg (us.map nI).toArray) (.agg (bs.map nI).toArray):=rfl
 rw[e]
 exact v.out 9991 h1 h2
end rules
end Go.aS

/- A scope with a label to which the text goes back; arrays of bools beside each other. Conditions: none; over any program. -/
namespace Go.aS
section
variable{K:Env→List Deferred→ah→Prop}{Q:Post}{ρ:Env}{ds:List Deferred}{F:ah}{l:Nat}
end
/-! ### Arrays of bools. -/
section
variable{x:Cx}{ρ:Env}{S:ah→Prop}{o:Oper}
end
end Go.aS

/- Arrays of bools, one for each quality. Conditions: none. -/
namespace Go.aS
set_option linter.unusedVariables false
end Go.aS

/- From where syrups go round for ever. Conditions: none; over the given program. -/
namespace Go.aS
set_option maxRecDepth 100000
set_option maxHeartbeats 4000000
theorem Sb.eq{A B:ah}(h:A=B):Sb A B:=h▸ .refl
end Go.aS

/- errors.As, at the package's own error. Conditions: none; over the given program. -/
namespace Go.aS
set_option maxRecDepth 100000
set_option maxHeartbeats 4000000
open Go.Extern
abbrev Qh:Array Value→Sem Value:=fun args=>ReflectliteValue.unpack (args.getD 0 (.tuple #[]))
abbrev xType:Array Value→Sem Value:=ReflectliteValue.methodAny (ReflectliteValue.valueError "reflectlite.Value.Type" 0) fun t _ _ _=>ReflectliteType.toType t
abbrev X9:Array Value→Sem Value:=ReflectliteValue.method (ReflectliteValue.valueError "reflectlite.Value.IsNil" 0) ReflectliteValue.isNil
abbrev X_:Array Value→Sem Value:=ReflectliteValue.method (ReflectliteValue.valueError "reflectlite.Value.Elem" 0) ReflectliteValue.elem
abbrev adB:Array Value→Sem Value:=ReflectliteType.abiMethod fun t=>do pure (.int .u8 (←Rtype.kind t))
instance:XF prog oD Qh:=⟨oG,xk,by kernel_rfl,by kernel_rfl,by kernel_rfl,by kernel_rfl⟩
instance:XF prog kX xType:=⟨kY,sQ,by kernel_rfl,by kernel_rfl,by kernel_rfl,by kernel_rfl⟩
instance:XF prog kG X9:=⟨kH,rX,by kernel_rfl,by kernel_rfl,by kernel_rfl,by kernel_rfl⟩
instance:XF prog lD X_:=⟨lF,sW,by kernel_rfl,by kernel_rfl,by kernel_rfl,by kernel_rfl⟩
instance:XF prog mJ ReflectliteValue.set:=⟨mM,uQ,by kernel_rfl,by kernel_rfl,by kernel_rfl,by kernel_rfl⟩
instance:XF prog pW ReflectliteType.typeOf:=⟨pX,yO,by kernel_rfl,by kernel_rfl,by kernel_rfl,by kernel_rfl⟩
instance:XF prog iO (ReflectliteType.method ReflectliteType.elem):=⟨lK,tq,by kernel_rfl,by kernel_rfl,by kernel_rfl,by kernel_rfl⟩
instance:XF prog fD (ReflectliteType.relation "Implements" ReflectliteType.implements_):=⟨jf,n_,by kernel_rfl,by kernel_rfl,by kernel_rfl,by kernel_rfl⟩
instance:XF prog eu (ReflectliteType.relation "AssignableTo" ReflectliteType.assignableTo):=⟨iI,mY,by kernel_rfl,by kernel_rfl,by kernel_rfl,by kernel_rfl⟩
instance:XF prog lS adB:=⟨yw,FY,by kernel_rfl,by kernel_rfl,by kernel_rfl,by kernel_rfl⟩

noncomputable abbrev Ur(t:TypeId):Value:=.iface qI (.agg #[typeHandle prog t])
noncomputable abbrev Us(t:TypeId)(a:Addr)(n:Int):Value:=.agg #[typeHandle prog t,.pointer (some a),.int .u64 n]

theorem L_{h:Hp}{F:ah}{t:TypeId}{v:Value}{cs:Array Value}{n:Int}(hc:v.cells=cs)(hm:∀a,J_ prog (ReflectliteValue.mk t a 0)=some (Us t a n)):tr prog h (Qh #[.iface t v]) F (fun r F'=>∃β,r=Us t ⟨β,0,none⟩ n∧F'=(β,.cells cs t (0,0))::F):=by
 show tr prog h (Sem.bind (newVar t v) fun a=>ReflectliteValue.mk t a 0) F _
 simp only[newVar,newRow,bind_eq,au,bind_assoc,bind_pure,hc]
 exact wI fun r _ _=>oU (hm _) ⟨r,rfl,rfl⟩
theorem Ya{h:Hp}{F:ah}{β b:Nat}{c:Array Value}{E:TypeId}{fz:Nat×Nat}(hl:Look h F β (.cells c E fz))(hc:c[0]? =some (.pointer (some ⟨b,0,none⟩))):tr prog h (X9 #[Us bF ⟨β,0,none⟩ 150]) F (fun r F'=>r= .bool false∧F'=F):=by
 show tr prog h (Sem.bind (ReflectliteValue.parts (Us bF ⟨β,0,none⟩ 150)) _) F _
 refine bJ (oU (a:=some (bF,⟨β,0,none⟩,150)) (by kernel_rfl) ?_)
 show tr prog h (Sem.bind (loadVar bF ⟨β,0,none⟩) _) F _
 exact bJ (uw hl hc ⟨rfl,rfl⟩)
theorem Yb{h:Hp}{F:ah}{β b:Nat}{c:Array Value}{E:TypeId}{fz:Nat×Nat}(hl:Look h F β (.cells c E fz))(hc:c[0]? =some (.pointer (some ⟨b,0,none⟩))):tr prog h (X_ #[Us bF ⟨β,0,none⟩ 150]) F (fun r F'=>r=Us aQ ⟨b,0,none⟩ 409∧F'=F):=by
 show tr prog h (Sem.bind (ReflectliteValue.parts (Us bF ⟨β,0,none⟩ 150)) _) F _
 refine bJ (oU (a:=some (bF,⟨β,0,none⟩,150)) (by kernel_rfl) ?_)
 show tr prog h (Sem.bind (loadVar bF ⟨β,0,none⟩) fun v=>Sem.bind (Rtype.elem? bF) fun e=>_) F _
 refine bJ (uw hl hc ?_)
 refine bJ (oU (a:=some aQ) (by kernel_rfl) ?_)
 exact oU (a:=Us aQ ⟨b,0,none⟩ 409) (by kernel_rfl) ⟨rfl,rfl⟩
theorem abU{h:Hp}{F:ah}{b β:Nat}{c vs:Array Value}{E E':TypeId}{fz:Nat×Nat}{U:Obj→ah}(hl:At b (.cells c E (0,0)) F U)(hc:c.size=2)(hs:Look h F β (.cells vs E' fz))(hn:vs.size=2)(h1:ones vs.toList=true):tr prog h (ReflectliteValue.set #[Us aQ ⟨b,0,none⟩ 409,Us aQ ⟨β,0,none⟩ 153]) F (fun r F'=>r= .tuple #[]∧F'=U (.cells vs E (0,0))):=by
 show tr prog h (Sem.bind (ReflectliteValue.parts (Us aQ ⟨b,0,none⟩ 409)) fun p=>Sem.bind (ReflectliteValue.parts (Us aQ ⟨β,0,none⟩ 153)) fun q=>_) F _
 refine bJ (oU (a:=some (aQ,⟨b,0,none⟩,409)) (by kernel_rfl) ?_)
 refine bJ (oU (a:=some (aQ,⟨β,0,none⟩,153)) (by kernel_rfl) ?_)
 show tr prog h (Sem.bind (loadVar aQ ⟨β,0,none⟩) fun val=>Sem.bind (Rtype.directlyAssignable aQ aQ) fun d=>_) F _
 refine bJ (BM (n:=2) hs (by omega) ?_)
 refine bJ (oU (a:=true) (by kernel_rfl) ?_)
 show tr prog h (Sem.bind (storeVar aQ ⟨b,0,none⟩ _) fun _=>.pure (Value.tuple #[])) F _
 have e:vs.extract 0 (0+2)=vs:=by apply Array.ext';simp[←hn]
 have hcs:(Value.agg vs).cells=vs:=rfl
 rw[e]
 simp only[storeVar,bind_eq,au,bind_assoc,bind_pure,o9,hcs,hn,ne_eq,not_true_eq_false,if_false]
 refine bJ (kV vs.toList 0 c h1 hl (by simp;omega) ⟨rfl,?_⟩)
 rw[Nat.add_zero,IL (by simp;omega)]

theorem adC(main:Side)(h:Hp)(cd fl:Int)(β b1:Nat)(c c1:Array Value)(E1:TypeId)(z1:Nat×Nat)(hc:c.size=2)(h1:h b1=some (.cells c1 E1 z1))(hc1:c1[0]? =some (.pointer (some ⟨β,0,none⟩))):
  dV prog main GN #[.iface aQ (.agg #[I cd,I fl]),.iface bF (.pointer (some ⟨β,0,none⟩)),Us bF ⟨b1,0,none⟩ 150,Ur aQ] h [(β,.cells c aQ (0,0))] (fun v A=>v= .bool true∧Sb [(β,.cells #[I cd,I fl] aQ (0,0))] A):=by
 refine dV.aG N9 rfl (by show 4≤62;decide) [(0,.iface aQ (.agg #[I cd,I fl])),(1,.iface bF (.pointer (some ⟨β,0,none⟩))),(2,Us bF ⟨b1,0,none⟩ 150),(3,Ur aQ)] ⟨rfl,rfl,rfl,rfl,trivial⟩ ?_
 refine W.seq<|W.region rfl ?_
 refine Ops.box (fun yC=>?_)
 refine agb rfl rfl rfl<|pq<|W.block ?_
 refine W.loop (σ:=Unit) (fun _=>True) (fun _=>[(8,.bool false),(6,.pointer (some ⟨yC,0,none⟩)),(0,.iface aQ (.agg #[I cd,I fl])),(1,.iface bF (.pointer (some ⟨β,0,none⟩))),(3,Ur aQ)]) (fun _=>[(yC,.cells #[typeHandle prog bF,.pointer (some ⟨b1,0,none⟩),.int .u64 150] BH (0,0)),(β,.cells c aQ (0,0))]) (fun _=>0) () trivial ⟨rfl,rfl,rfl,rfl,rfl,trivial⟩ .refl ?_
 rintro⟨⟩ -
 refine W.block<|W.seq<|W.seq<|W.region rfl<|qm rfl rfl rfl ?_
 refine cxp (r:=Ur aQ) (by kernel_rfl) ?_
 refine qm rfl rfl rfl ?_
 refine cix (f:=eu) (u':=.agg #[typeHandle prog aQ]) (r:=.bool true) (by kernel_rfl) (by kernel_rfl) ?_
 refine pq ?_
 refine W.dW ?_
 refine W.seq<|W.region rfl ?_
 first | refine ag2 rfl ?_ | refine agW (ady rfl rfl) rfl ?_
 refine cx (fun h' hE=>Yb (.inl (hE.1 _ _ h1)) hc1) (fun v F' hv=>?_)
 obtain⟨rfl,rfl⟩:=hv
 refine qm rfl rfl rfl ?_
 refine cx (fun h' hE=>L_ (n:=153) rfl (fun a=>by kernel_rfl)) (fun v F' hv=>?_)
 obtain⟨yR,rfl,rfl⟩:=hv
 refine cx (fun h' hE=>abU (b:=β) (β:=yR) (.tail (.tail .head)) hc (.inr (.head _)) rfl (show(one (I cd)&&(one (I fl)&&true))=true from rfl)) (fun v F' hv=>?_)
 obtain⟨rfl,rfl⟩:=hv
 refine pq<|W.seq<|W.region rfl<|agb rfl rfl rfl<|pq<|W.ret<|aY<|cZ ?_
 refine aY<|cZ ?_
 exact mg ⟨rfl,TW⟩

theorem adD(main:Side)(h:Hp)(cd fl:Int)(β:Nat)(c:Array Value)(Eg:TypeId)(zg:Nat×Nat)(hc:c.size=2)(hg:h 0=some (.cells #[Ur qM] Eg zg)):
  dV prog main zQ #[.iface aQ (.agg #[I cd,I fl]),.iface bF (.pointer (some ⟨β,0,none⟩))] h [(β,.cells c aQ (0,0))] (fun v A=>v= .bool true∧Sb [(β,.cells #[I cd,I fl] aQ (0,0))] A):=by
 refine dV.aG Ep rfl (by show 2≤42;decide) [(0,.iface aQ (.agg #[I cd,I fl])),(1,.iface bF (.pointer (some ⟨β,0,none⟩)))] ⟨rfl,rfl,trivial⟩ ?_
 refine W.seq<|W.region rfl<|agb rfl rfl rfl<|pq<|W.seq<|W.seq<|W.region rfl<|qm rfl rfl rfl ?_
 refine agW (Xz rfl rfl) rfl ?_
 refine pq ?_
 refine W.bZ ?_
 refine W.skip<|aA<|W.seq<|W.seq<|W.region rfl<|qm rfl rfl rfl ?_
 refine agW (Xz rfl rfl) rfl ?_
 refine pq ?_
 refine W.bZ ?_
 refine W.skip<|aA<|W.seq<|W.region rfl<|qm rfl rfl rfl ?_
 refine cx (fun h' hE=>L_ (n:=150) rfl (fun a=>by kernel_rfl)) (fun v F' hv=>?_)
 obtain⟨β1,rfl,rfl⟩:=hv
 refine Ops.new (fun mZ=>?_)
 first | refine Ops.jP ?_ | refine Ops.nY ?_
 refine pq<|W.seq<|W.region rfl ?_
 first | refine ag2 rfl ?_ | refine agW (ady rfl rfl) rfl ?_
 refine cxp (r:=Ur bF) (by kernel_rfl) ?_
 refine agb rfl rfl rfl<|pq<|W.seq<|W.seq<|W.region rfl<|qm rfl rfl rfl ?_
 refine cix (f:=lS) (u':=typeHandle prog bF) (r:=.int .u8 22) (by kernel_rfl) (by kernel_rfl) ?_
 refine KU (nG rfl rfl rfl) (show Value.bool (decide ((22:Int)≠22))= .bool false from rfl) rfl wn rfl rfl ?_
 refine qm rfl rfl rfl ?_
 first | refine oq (Bf rfl rfl) rfl (ak rfl rfl rfl) rfl rfl ?_ | refine oq (zi rfl rfl) rfl (ak rfl rfl rfl) rfl rfl ?_ | refine oq (ady rfl rfl) rfl (ak rfl rfl rfl) rfl rfl ?_
 refine cx (fun h' hE=>Ya (β:=β1) (b:=β) (.inr (by repeat(first | exact List.Mem.head _ | apply List.Mem.tail))) rfl) (fun v F' hv=>?_)
 obtain⟨rfl,rfl⟩:=hv
 refine agW (iH rfl rfl rfl) rfl ?_
 refine pq ?_
 refine W.bZ ?_
 refine W.skip<|aA<|W.seq<|W.region rfl<|qm rfl rfl rfl ?_
 refine cix (f:=iO) (u':=.agg #[typeHandle prog bF]) (r:=Ur aQ) (by kernel_rfl) (by kernel_rfl) ?_
 refine agb rfl rfl rfl<|pq<|W.seq<|W.seq<|W.region rfl<|qm rfl rfl rfl ?_
 refine cix (f:=lS) (u':=typeHandle prog aQ) (r:=.int .u8 25) (by kernel_rfl) (by kernel_rfl) ?_
 refine KU (nG rfl rfl rfl) (show Value.bool (decide ((25:Int)≠20))= .bool true from rfl) rfl wn rfl rfl ?_
 refine qm rfl rfl rfl ?_
 refine oq (aN rfl rfl) rfl (ak rfl rfl rfl) rfl rfl ?_
 refine oq (iQ rfl rfl (.inl hg) rfl) rfl (ak rfl rfl rfl) rfl rfl ?_
 refine cix (f:=fD) (u':=.agg #[typeHandle prog aQ]) (r:=.bool true) (by kernel_rfl) (by kernel_rfl) ?_
 refine oq (xU rfl rfl) rfl (ak rfl rfl rfl) rfl rfl ?_
 refine agW (dG rfl rfl rfl) rfl ?_
 refine pq ?_
 refine W.bZ ?_
 refine W.skip<|aA<|W.seq<|W.region rfl<|qm rfl rfl rfl<|qm rfl rfl rfl ?_
 first | refine ag2 rfl ?_ | refine agW (ady rfl rfl) rfl ?_
 refine qm rfl rfl rfl ?_
 refine cg (A:=[(β,.cells c aQ (0,0))]) (.tail (.tail .head)) (fun h' hE hL=>adC _ h' cd fl β β1 c _ _ _ hc (hL β1 _ (by repeat(first | exact List.Mem.head _ | apply List.Mem.tail))) rfl) (fun v A' hv=>?_)
 obtain⟨rfl,hsb⟩:=hv
 refine agb rfl rfl rfl<|pq<|W.ret ?_
 refine mg ⟨rfl,?_⟩
 exact .skip rfl (.skip rfl (hsb.trans (.right .refl .nil)))
theorem Yc(main:Side)(h:Hp)(tv:Value):Pu prog main zQ #[.nilIface,tv] h (.bool false):=by
 refine dV.aG Ep rfl (by show 2≤42;decide) [(0,.nilIface),(1,tv)] ⟨rfl,rfl,trivial⟩ ?_
 refine W.seq<|W.region rfl<|agb rfl rfl rfl<|pq<|W.seq<|W.seq<|W.region rfl<|qm rfl rfl rfl ?_
 refine agW (abK rfl rfl) rfl ?_
 refine pq ?_
 refine W.dW ?_
 refine W.seq<|W.region rfl<|agb rfl rfl rfl<|pq<|W.ret<|aY ?_
 exact uZ rfl
end Go.aS

/- Boils. Conditions: none; over the given program. -/
namespace Go.aS
set_option maxRecDepth 100000
set_option maxHeartbeats 4000000
instance:NI prog bF:=⟨by kernel_rfl⟩
instance:NI prog aQ:=⟨by kernel_rfl⟩
def EO(ps:List Pn):Nat→List Int→Nat→Except (Int×Nat) (List Nat)
 | _,[],_=>.ok []
 | q,p::r,i=>if outs p 0 (ps.length-1)then .error (3,i)else if P9 ps q p.toNat=false then .error (12,i)else
   match EO ps (gy ps p.toNat q) r (i+1)with
   | .ok l=>.ok (gy ps p.toNat q::l)
   | .error e=>.error e
def Vr(acc:List Nat):Except (Int×Nat) (List Nat)→Except (Int×Nat) (List Nat)
 | .ok l=>.ok (acc++l)
 | .error e=>.error e
theorem Yd{r:Except (Int×Nat) (List Nat)}:Vr [] r=r:=by cases r <;>rfl
theorem Vs{acc:List Nat}{o:Nat}{r:Except (Int×Nat) (List Nat)}:Vr (acc++[o]) r=Vr acc (match r with | .ok l=>.ok (o::l) | .error e=>.error e):=by cases r <;>simp[Vr]

theorem aag(main:Side)(h:Hp)(ps:List Pn)(vp:Value)(c q:Nat)(way:List Int)(vw:Value)(hf:Sl h Pn.row vp ps)(hok:iP ps)(hq:q<13)(hw:Sl h fH vw way)(hn:way.length≤1000):dV prog main pR #[xJ vp c,I q,vw] h []
  (
   fun v A=>match EO ps q way 0 with
   | .ok l=>∃w S,v= .tuple #[w,.nilIface]∧Os dL fH w (zs l) S∧Sb S A
   | .error e=>v= .tuple #[.slice none 0 0,.iface aQ (.agg #[I e.1,I e.2])]∧Shut A):=by
 obtain⟨a,cap,rfl⟩:=hf.dA
 obtain⟨a2,cap2,rfl⟩:=hw.dA
 have h4:=hok.len
 refine dV.aG yJ rfl (by show 3≤49;decide) [(0,xJ (.slice a ps.length cap) c),(1,I q),(2,.slice a2 way.length cap2)] ⟨rfl,rfl,rfl,trivial⟩ ?_
 refine W.seq<|W.region rfl ?_
 refine Ops.box (cs:= #[.slice a ps.length cap,U8 c]) (fun uU=>?_)
 refine agb rfl rfl rfl<|agb rfl rfl rfl<|pq<|W.seq<|W.region rfl<|agb rfl rfl rfl<|pq<|W.seq ?_
 refine W.seq<|W.region rfl<|qm rfl rfl rfl ?_
 refine agW (dM rfl rfl) rfl ?_
 refine qm rfl rfl rfl<|pq<|W.block ?_
 refine W.Js (σ:=Nat) (τ:=Nat×List Nat) (υ:=Value×ah) (fun k s t=>k≤way.length∧s.1<13∧EO ps q way 0=Vr s.2 (EO ps s.1 (way.drop k) k)∧s.2.length=k∧Os dL fH t.1 (zs s.2) t.2)
  (fun k s t=>[(13,I k),(12,I way.length),(11,.slice a2 way.length cap2),(8,t.1),(1,I s.1),(3,.pointer (some ⟨uU,0,none⟩))]) (fun _ _ t=>(uU,.cells #[.slice a ps.length cap,U8 c] bG (0,0))::t.2) (fun k _ _=>way.length-k) 0 (q,[]) (.slice none 0 0,[]) ⟨Nat.zero_le _,hq,Yd.symm,rfl,.nil .nil⟩ ⟨rfl,rfl,rfl,rfl,rfl,rfl,trivial⟩ .refl ?_
 rintro k ⟨q1,acc⟩ ⟨v,S⟩ ⟨hk,hq1,hb,hlen,hO⟩
 simp only at hq1 hb hlen hO⊢
 refine W.seq<|W.region rfl ?_
 refine agW (fO rfl rfl rfl) rfl ?_
 refine pq<|W.seq ?_
 refine W.bC rfl (fun c14=>?_) (fun c14=>?_)
 ·obtain⟨p,hp,hdr⟩:=has (show k<way.length by omega)
  rw[hdr,EO]at hb
  obtain⟨b,off,cc,E,fz,he,hbb,hx,hy,hz⟩:=hw.at hp
  have hx':cc[off+k*1]? =some (I p):=hz 0 (by decide)
  clear hx hz
  cases he
  refine W.skip<|aA<|W.seq<|W.block<|W.seq<|W.region rfl<|qm rfl rfl rfl ?_
  refine ag3 rfl ?_
  refine agX rfl ?_
  refine agb rfl rfl rfl<|agb rfl rfl rfl<|pq<|W.seq<|W.seq<|W.region rfl<|qm rfl rfl rfl ?_
  refine agY rfl ?_
  refine agY rfl ?_
  refine agX rfl ?_
  refine agW (dM rfl rfl) rfl ?_
  refine ag5 rfl ?_
  refine cp (fun h' hE hL=>jo _ h' _ _ _) ?_
  refine pq ?_
  refine W.bC rfl (fun c24=>?_) (fun c24=>?_)
  ·rw[if_pos c24]at hb
   refine W.seq<|W.region rfl<|qm rfl rfl rfl ?_
   refine agW (eH rfl rfl rfl) rfl ?_
   first | refine agW (ZK rfl rfl) rfl ?_ | refine agW (yfc rfl rfl) rfl ?_
   refine agb rfl rfl rfl<|agb rfl rfl rfl<|pq<|W.ret<|aY<|cZ<|aY<|aY<|cZ ?_
   refine aY ?_
   refine mg (vs:=[_,_]) ?_
   rw[hb]
   exact⟨rfl,.cons rfl hO.shut⟩
  ·rw[if_neg c24]at hb
   obtain⟨i,rfl⟩:∃i:Nat,p=i:=⟨p.toNat,by simp only[outs]at c24;omega⟩
   rw[Int.toNat_natCast]at hb
   have hi:i<ps.length:=by simp only[outs]at c24;omega
   refine W.skip<|aA<|W.seq<|W.seq<|W.region rfl ?_
   refine agY rfl ?_
   first | refine ag2 rfl ?_ | refine agW (ady rfl rfl) rfl ?_
   refine qm rfl rfl rfl ?_
   refine cp (fun h' hE hL=>JR _ h' ps _ _ (hf.ext hE) h4) ?_
   refine qm rfl rfl rfl ?_
   refine cp (fun h' hE hL=>X4 _ h' (P_ ps q1) i (LX (by simpa using h4)) (by omega)) ?_
   refine agW (xU rfl rfl) rfl ?_
   refine pq ?_
   refine W.cond rfl (fun c34=>?_) (fun c34=>?_)
   ·rw[JQ]at c34
    rw[if_pos (by simpa using c34)]at hb
    refine W.seq<|W.region rfl<|qm rfl rfl rfl ?_
    refine agW (eH rfl rfl rfl) rfl ?_
    first | refine agW (ZK rfl rfl) rfl ?_ | refine agW (yfc rfl rfl) rfl ?_
    refine agb rfl rfl rfl<|agb rfl rfl rfl<|pq<|W.ret<|aY<|cZ<|aY<|aY<|cZ ?_
    refine aY ?_
    refine mg (vs:=[_,_]) ?_
    rw[hb]
    exact⟨rfl,.cons rfl hO.shut⟩
   ·rw[JQ]at c34
    rw[if_neg (by simpa using c34),←Vs]at hb
    refine W.skip<|aA<|W.seq<|W.region rfl ?_
    refine agY rfl ?_
    first | refine ag2 rfl ?_ | refine agW (ady rfl rfl) rfl ?_
    refine qm rfl rfl rfl<|qm rfl rfl rfl ?_
    refine cp (fun h' hE hL=>Dl _ h' ps _ i q1 (hf.ext hE) hok hi hq1) ?_
    refine agb rfl rfl rfl<|pq<|W.region rfl<|qm rfl rfl rfl<|qm rfl rfl rfl ?_
    refine Ops.NK (cs:= #[I (gy ps i q1)]) (fun ae_=>?_) rfl
    refine oe rfl wn rfl rfl (iW (row:=fH) (l':=[(gy ps i q1:Int)]) rfl rfl rfl hO (.tail (.tail .all)) (fun h2 _ hl=>Sl.mk (hl ae_ _ (.head _)) rfl (Part.all [I (gy ps i q1)])) (by rw[kT];simp;omega) (by decide) rfl (fun v' S' Ie=>?_))
    refine agb rfl rfl rfl<|Ops.nil<|dI<|aA<|W.region rfl ?_
    refine ag1 rfl ?_
    refine qm rfl rfl rfl<|pq ?_
    exact⟨rfl,k+1,(gy ps i q1,acc++[gy ps i q1]),(v',S'),⟨by omega,AZ,hb,by simp[hlen],by simpa[zs]using Ie⟩,by omega,⟨rfl,rfl,rfl,rfl,rfl,rfl,trivial⟩,.skip rfl .refl⟩
 ·obtain rfl:k=way.length:=by omega
  rw[List.drop_length,EO,Vr,List.append_nil]at hb
  refine W.exit<|bP<|bP<|gG<|aA<|W.seq<|W.region rfl<|qm rfl rfl rfl<|agb rfl rfl rfl<|agb rfl rfl rfl ?_
  refine pq<|W.ret ?_
  refine mg (vs:=[_,_]) ?_
  rw[hb]
  exact⟨_,S,rfl,hO,.skip rfl .refl⟩

def Aq(ps:List Pn)(q:Int)(way:List Int):List Nat×Int:=
 if kU ps [q]≠0 then([],kU ps [q])else if 40<way.length then([],6)else
  match EO ps q.toNat way 0 with
  | .ok l=>(l,0)
  | .error e=>([],e.1)
theorem Sj{ps:List Pn}{q:Int}(h:kU ps [q]=0):iP ps∧0≤q∧q≤12:=by
 unfold kU at h
 split at h
 ·rename_i h1;exact absurd h h1
 ·rename_i h1
  have h2:nV ps=0:=by simpa using h1
  by_cases h3:outs q 0 12
  ·simp[h3]at h
  ·simp only[outs]at h3;exact⟨.yB h2,by omega,by omega⟩
theorem aah(main:Side)(h:Hp)(ps:List Pn)(vp:Value)(q:Int)(way:List Int)(vw:Value)(Eg:TypeId)(zg:Nat×Nat)(hf:Sl h Pn.row vp ps)(hw:Sl h fH vw way)(hg:h 0=some (.cells #[Ur qM] Eg zg)):dV prog main Em #[vp,I q,vw] h []
  (fun v A=>∃w S,v= .tuple #[w,I (Aq ps q way).2]∧Os dL fH w (zs (Aq ps q way).1) S∧Sb S A):=by
 obtain⟨a,cap,rfl⟩:=hf.dA
 obtain⟨a2,cap2,rfl⟩:=hw.dA
 refine dV.aG KF rfl (by show 3≤39;decide) [(0,.slice a ps.length cap),(1,I q),(2,.slice a2 way.length cap2)] ⟨rfl,rfl,rfl,trivial⟩ ?_
 refine W.seq<|W.region rfl<|agb rfl rfl rfl<|agb rfl rfl rfl<|pq<|W.seq<|W.region rfl<|qm rfl rfl rfl<|qm rfl rfl rfl ?_
 refine Ops.NK (cs:= #[I q]) (fun Ye=>?_) rfl
 refine cp (fun h' hE hL=>Am _ h' ps _ [q] _ (hf.ext hE) (Sl.mk (hL Ye _ (.head _)) rfl (Part.all [I q])) (by simp)) ?_
 refine qm rfl rfl rfl<|oq (bD rfl rfl rfl) rfl wn rfl rfl<|oq (bD rfl rfl rfl) rfl wn rfl rfl ?_
 have hcs:∃cs:Array Value,(if kU ps [q]=0 then xJ (.slice a ps.length cap) 0 else LZ)= .agg cs∧cs.size=2∧ones cs.toList=true:=by
  split <;>exact⟨_,rfl,rfl,rfl⟩
 obtain⟨cs,hcs,hcs2,hcs1⟩:=hcs
 rw[hcs]
 refine Ops.new (fun yD=>?_)
 refine Ops.jP (n:=2) (vs:=cs) ?_ (hy:=by rfl) (hn:=hcs2) (h1:=hcs1)
 refine agb rfl rfl rfl<|pq<|W.seq<|W.seq<|W.region rfl<|qm rfl rfl rfl ?_
 refine agW (nG rfl rfl rfl) rfl ?_
 refine pq ?_
 refine W.bC rfl (fun c21=>?_) (fun c21=>?_)
 ·have e:Aq ps q way=([],kU ps [q]):=by rw[Aq,if_pos (by simpa using c21)]
  refine W.seq<|W.region rfl<|qm rfl rfl rfl<|agb rfl rfl rfl<|agb rfl rfl rfl<|pq<|W.ret<|aY ?_
  refine mg (vs:=[_,_]) ?_
  rw[e]
  exact⟨_,[],rfl,.nil .nil,.nil (.cons rfl (.cons rfl .nil))⟩
 ·have h0:kU ps [q]=0:=by simpa using c21
  obtain⟨hok,hq0,hq12⟩:=Sj h0
  rw[if_pos h0]at hcs
  cases hcs
  obtain⟨q,rfl⟩:∃n:Nat,q=n:=⟨q.toNat,by omega⟩
  refine W.skip<|aA<|W.seq<|W.seq<|W.region rfl<|qm rfl rfl rfl ?_
  refine agW (dM rfl rfl) rfl ?_
  refine agW (rC rfl rfl rfl) rfl ?_
  refine pq ?_
  refine W.bC rfl (fun c25=>?_) (fun c25=>?_)
  ·have e:Aq ps q way=([],6):=by rw[Aq,if_neg (by simpa using h0),if_pos (by omega)]
   refine W.seq<|W.region rfl<|agb rfl rfl rfl<|agb rfl rfl rfl<|pq<|W.ret<|aY ?_
   refine mg (vs:=[_,_]) ?_
   rw[e]
   exact⟨_,[],rfl,.nil .nil,.nil (.cons rfl (.cons rfl .nil))⟩
  ·have e:Aq ps q way=match EO ps q way 0 with | .ok l=>(l,0) | .error e=>([],e.1):=by rw[Aq,if_neg (by simpa using h0),if_neg (by omega),Int.toNat_natCast]
   refine W.skip<|aA<|W.seq<|W.region rfl ?_
   first | refine ag2 rfl ?_ | refine agW (ady rfl rfl) rfl ?_
   refine qm rfl rfl rfl<|qm rfl rfl rfl ?_
   refine c0 (fun h' hE hL=>aag _ h' ps _ 0 q way _ (hf.ext hE) hok (by omega) (hw.ext hE) (by omega)) (fun v A' hv=>?_)
   obtain⟨w,S,ev,rv,hv1,hv2,hsb,hrv⟩:∃(w:Value) (S:ah) (ev:Value) (l:List Nat),v= .tuple #[w,ev]∧Os dL fH w (zs l) S∧Sb S A'∧((ev= .nilIface∧Aq ps q way=(l,0))∨∃cd i:Int,ev= .iface aQ (.agg #[I cd,I i])∧Aq ps q way=([],cd)):=by
    rw[e]
    cases hb:EO ps q way 0 with
    | ok l=>
     rw[hb]at hv
     obtain⟨w,S,h1,h2,h3⟩:=hv
     exact⟨w,S,_,l,h1,h2,h3,.inl ⟨rfl,rfl⟩⟩
    | error er=>
     rw[hb]at hv
     exact⟨_,[],_,[],hv.1,.nil .nil,.nil hv.2,.inr ⟨er.1,er.2,rfl,rfl⟩⟩
   subst hv1
   refine Ops.sb (hsb.app .refl) ?_
   obtain⟨a3,cap3,rfl⟩:=hv2.dA
   refine qm rfl rfl rfl<|oq (bD rfl rfl rfl) rfl wn rfl rfl<|oq (bD rfl rfl rfl) rfl wn rfl rfl<|agb rfl rfl rfl<|agb rfl rfl rfl<|pq<|W.seq<|W.region rfl ?_
   refine Ops.new (fun Yf=>?_)
   refine pq<|W.seq<|W.seq<|W.region rfl ?_
   rcases hrv with⟨rfl,hB⟩ | ⟨cd,i,rfl,hB⟩
   ·refine qm rfl rfl rfl ?_
    first | refine agW (ZK rfl rfl) rfl ?_ | refine agW (yfc rfl rfl) rfl ?_
    refine cp (fun h' hE hL=>Yc _ h' _) ?_
    refine pq ?_
    refine W.bZ ?_
    refine W.skip<|aA<|W.seq<|W.region rfl<|qm rfl rfl rfl<|agb rfl rfl rfl<|agb rfl rfl rfl<|pq<|W.ret ?_
    refine mg (vs:=[_,_]) ?_
    rw[hB]
    exact⟨_,S,rfl,hv2,.skip rfl (.right .refl (.cons rfl (.cons rfl .nil)))⟩
   ·refine qm rfl rfl rfl ?_
    first | refine agW (ZK rfl rfl) rfl ?_ | refine agW (yfc rfl rfl) rfl ?_
    refine cg (A:=[(Yf,.cells #[I 0,I 0] aQ (0,0))]) .head (fun h' hE hL=>adD _ h' cd i Yf _ Eg zg rfl (hE.1 _ _ hg)) (fun v A2 hv=>?_)
    obtain⟨rfl,Oh⟩:=hv
    refine Ops.sb (Oh.app .refl) ?_
    refine pq ?_
    refine W.dW ?_
    refine W.seq ?_
    refine W.rE (n:=4) rfl ?_
    refine xq 0 (ay rfl rfl) rfl ?_
    refine xq 1 (iQ rfl rfl) rfl ?_
    refine xq 2 (jS rfl rfl) rfl ?_
    refine xq 3 (jS rfl rfl) rfl ?_
    refine az ?_
    refine aA<|W.ret<|aY ?_
    refine mg (vs:=[_,_]) ?_
    rw[hB]
    exact⟨_,[],rfl,.nil .nil,.nil (.cons rfl (hv2.shut.app (.cons rfl (.cons rfl .nil))))⟩
end Go.aS

/- Numbers out of a hat. Conditions: none; over the given program. -/
namespace Go.aS
set_option maxRecDepth 100000
set_option maxHeartbeats 4000000
abbrev wF(lv:Value)(k:Nat)(s:Int):Obj:=.cells #[lv,I k,.int .u64 s] adi (0,0)

theorem ab8(n:Int):0≤IntKind.u64.wrap n:=by
 show 0≤n % (18446744073709551616:Int)
 omega
theorem YL(a b:Int):0≤bits .xor IntKind.u64 a b:=by
 unfold bits
 exact ab8 _
theorem aaB(main:Side)(h:Hp)(nums:List Int)(lv:Value)(b k:Nat)(s:Int)(hl:Sl h fH lv nums)(hk:k<4000000000):dV prog main zM #[.pointer (some ⟨b,0,none⟩)] h [(b,wF lv k s)] (fun v A=>∃x s',v= .int .u64 x∧0≤x∧Sb [(b,wF lv (k+1) s')] A):=by
 obtain⟨a,cap,rfl⟩:=hl.dA
 refine dV.aG Hz rfl (by show 1≤75;decide) [(0,.pointer (some ⟨b,0,none⟩))] ⟨rfl,trivial⟩ ?_
 refine W.seq<|W.region rfl<|agb rfl rfl rfl<|pq<|W.seq<|W.region rfl<|qm rfl rfl rfl ?_
 refine ag4 rfl ?_
 refine agY rfl ?_
 refine agX rfl ?_
 refine agW (FC rfl rfl) rfl ?_
 refine ag1 rfl ?_
 refine agb rfl rfl rfl<|pq<|W.seq<|W.seq ?_
 refine W.rE (n:=10) rfl ?_
 refine xq 0 (aN rfl rfl) rfl ?_
 first | refine xq 1 (bg rfl rfl) rfl ?_ | refine xq 1 (aT rfl rfl) rfl ?_
 refine xq 2 (ay rfl rfl) rfl ?_
 refine xq 3 (iQ rfl rfl) rfl ?_
 refine xq 4 (aN rfl rfl) rfl ?_
 first | refine xq 5 (bg rfl rfl) rfl ?_ | refine xq 5 (aT rfl rfl) rfl ?_
 refine xq 6 (ay rfl rfl) rfl ?_
 refine xq 7 (iQ rfl rfl) rfl ?_
 refine xq 8 (dM rfl rfl) rfl ?_
 refine xq 9 (fO rfl rfl rfl) rfl ?_
 refine az ?_
 refine aA ?_
 refine W.bC rfl (fun c20=>?_) (fun c20=>?_)
 ·obtain⟨p,hp,-⟩:=has (show k<nums.length by omega)
  obtain⟨b1,off,c,E,fz,rfl,hb,hx,hy,hz⟩:=hl.at hp
  have hz0:=hz 0 (by decide)
  have hpa:c[off+k*1]? =some (I p):=by simpa[fH]using hz0
  refine W.rE (n:=15) rfl ?_
  refine xq 0 (aN rfl rfl) rfl ?_
  refine xq 1 (aN rfl rfl) rfl ?_
  first | refine xq 2 (bg rfl rfl) rfl ?_ | refine xq 2 (aT rfl rfl) rfl ?_
  refine xq 3 (ay rfl rfl) rfl ?_
  refine xq 4 (iQ rfl rfl) rfl ?_
  refine xq 5 (aN rfl rfl) rfl ?_
  first | refine xq 6 (bg rfl rfl) rfl ?_ | refine xq 6 (aT rfl rfl) rfl ?_
  refine xq 7 (ay rfl rfl) rfl ?_
  refine xq 8 (iQ rfl rfl) rfl ?_
  first | refine xq 9 (G_ rfl rfl rfl) rfl ?_ | refine xq 9 (o_ rfl rfl rfl) rfl ?_
  refine xq 10 (iQ rfl rfl) rfl ?_
  refine xq 11 (FC rfl rfl) rfl ?_
  first | refine xq 12 (aaC rfl rfl rfl) rfl ?_ | refine xq 12 (Fz rfl rfl rfl) rfl ?_
  refine xq 13 (Gx rfl rfl rfl) rfl ?_
  refine xq 14 (jS rfl rfl) rfl ?_
  refine az ?_
  refine aA<|W.seq<|W.region rfl<|qm rfl rfl rfl ?_
  refine ag4 rfl ?_
  refine agY rfl ?_
  refine agX rfl ?_
  refine ag1 rfl ?_
  refine ag4 rfl ?_
  refine agY rfl ?_
  refine Ops.yG ?_
  refine pq<|W.seq<|W.region rfl<|qm rfl rfl rfl<|qm rfl rfl rfl ?_
  refine ag4 rfl ?_
  refine agY rfl ?_
  refine agX rfl ?_
  refine qm rfl rfl rfl ?_
  refine agW (Gx rfl rfl rfl) rfl ?_
  first | refine agW (aaC rfl rfl rfl) rfl ?_ | refine agW (Fz rfl rfl rfl) rfl ?_
  refine ag4 rfl ?_
  refine agY rfl ?_
  refine Ops.yG ?_
  refine pq<|W.seq ?_
  refine W.rE (n:=14) rfl ?_
  refine xq 0 (aN rfl rfl) rfl ?_
  refine xq 1 (aN rfl rfl) rfl ?_
  first | refine xq 2 (bg rfl rfl) rfl ?_ | refine xq 2 (aT rfl rfl) rfl ?_
  refine xq 3 (ay rfl rfl) rfl ?_
  refine xq 4 (iQ rfl rfl) rfl ?_
  refine xq 5 (aN rfl rfl) rfl ?_
  first | refine xq 6 (bg rfl rfl) rfl ?_ | refine xq 6 (aT rfl rfl) rfl ?_
  refine xq 7 (ay rfl rfl) rfl ?_
  refine xq 8 (iQ rfl rfl) rfl ?_
  refine xq 9 (Gw rfl rfl rfl (by omega)) rfl ?_
  refine xq 10 (Gx rfl rfl rfl) rfl ?_
  first | refine xq 11 (bg rfl rfl) rfl ?_ | refine xq 11 (aT rfl rfl) rfl ?_
  refine xq 12 (ay rfl rfl) rfl ?_
  refine ae (i:=13) rfl an rfl rfl (eS rfl rfl rfl ?_)
  refine⟨.inl (by kernel_rfl),?_⟩
  refine az ?_
  refine aA<|W.seq<|W.region rfl<|qm rfl rfl rfl ?_
  refine ag4 rfl ?_
  refine agY rfl ?_
  refine agX rfl ?_
  first | refine agW (aaC rfl rfl rfl) rfl ?_ | refine agW (Fz rfl rfl rfl) rfl ?_
  refine agb rfl rfl rfl<|pq<|W.seq<|W.region rfl<|qm rfl rfl rfl<|qm rfl rfl rfl ?_
  refine agW (Gw rfl rfl rfl (by omega)) rfl ?_
  refine agW (Gx rfl rfl rfl) rfl ?_
  refine agW (Gw rfl rfl rfl (by omega)) rfl ?_
  refine agb rfl rfl rfl<|pq<|W.ret ?_
  refine mg ⟨_,_,rfl,?_,.refl⟩
  exact Int.fdiv_nonneg (YL _ _) (by decide)
 ·refine W.skip<|aA<|W.seq<|W.region rfl<|qm rfl rfl rfl ?_
  refine ag4 rfl ?_
  refine agY rfl ?_
  refine agX rfl ?_
  refine ag1 rfl ?_
  refine ag4 rfl ?_
  refine agY rfl ?_
  refine Ops.yG ?_
  refine pq<|W.seq<|W.region rfl<|qm rfl rfl rfl<|qm rfl rfl rfl ?_
  refine ag4 rfl ?_
  refine agY rfl ?_
  refine agX rfl ?_
  refine qm rfl rfl rfl ?_
  refine agW (Gx rfl rfl rfl) rfl ?_
  first | refine agW (aaC rfl rfl rfl) rfl ?_ | refine agW (Fz rfl rfl rfl) rfl ?_
  refine ag4 rfl ?_
  refine agY rfl ?_
  refine Ops.yG ?_
  refine pq<|W.seq ?_
  refine W.rE (n:=14) rfl ?_
  refine xq 0 (aN rfl rfl) rfl ?_
  refine xq 1 (aN rfl rfl) rfl ?_
  first | refine xq 2 (bg rfl rfl) rfl ?_ | refine xq 2 (aT rfl rfl) rfl ?_
  refine xq 3 (ay rfl rfl) rfl ?_
  refine xq 4 (iQ rfl rfl) rfl ?_
  refine xq 5 (aN rfl rfl) rfl ?_
  first | refine xq 6 (bg rfl rfl) rfl ?_ | refine xq 6 (aT rfl rfl) rfl ?_
  refine xq 7 (ay rfl rfl) rfl ?_
  refine xq 8 (iQ rfl rfl) rfl ?_
  refine xq 9 (Gw rfl rfl rfl (by omega)) rfl ?_
  refine xq 10 (Gx rfl rfl rfl) rfl ?_
  first | refine xq 11 (bg rfl rfl) rfl ?_ | refine xq 11 (aT rfl rfl) rfl ?_
  refine xq 12 (ay rfl rfl) rfl ?_
  refine ae (i:=13) rfl an rfl rfl (eS rfl rfl rfl ?_)
  refine⟨.inl (by kernel_rfl),?_⟩
  refine az ?_
  refine aA<|W.seq<|W.region rfl<|qm rfl rfl rfl ?_
  refine ag4 rfl ?_
  refine agY rfl ?_
  refine agX rfl ?_
  first | refine agW (aaC rfl rfl rfl) rfl ?_ | refine agW (Fz rfl rfl rfl) rfl ?_
  refine agb rfl rfl rfl<|pq<|W.seq<|W.region rfl<|qm rfl rfl rfl<|qm rfl rfl rfl ?_
  refine agW (Gw rfl rfl rfl (by omega)) rfl ?_
  refine agW (Gx rfl rfl rfl) rfl ?_
  refine agW (Gw rfl rfl rfl (by omega)) rfl ?_
  refine agb rfl rfl rfl<|pq<|W.ret ?_
  refine mg ⟨_,_,rfl,?_,.refl⟩
  exact Int.fdiv_nonneg (YL _ _) (by decide)
end Go.aS

/- Floors, strikes and plants out of a hat. Conditions: none; over the given program. -/
namespace Go.aS
set_option maxRecDepth 100000
set_option maxHeartbeats 4000000
theorem ab9{x n:Int}(hx:0≤x)(h1:1≤n)(h2:n≤1000000):∃r,IntKind.i64.wrap (x.tmod (IntKind.u64.wrap (IntKind.u64.wrap n+1)))=r∧0≤r∧r≤n:=by
 have e1:IntKind.u64.wrap n=n:=by show n % (18446744073709551616:Int)=n;omega
 have e2:IntKind.u64.wrap (n+1)=n+1:=by show(n+1) % (18446744073709551616:Int)=n+1;omega
 have e3:x.tmod (n+1)=x % (n+1):=Int.tmod_eq_emod_of_nonneg hx
 have h3:=Int.emod_nonneg x (show n+1≠0 by omega)
 have h4:=Int.emod_lt_of_pos x (show 0<n+1 by omega)
 rw[e1,e2,e3]
 rw[nC (by omega) (by omega)]
 exact⟨_,rfl,h3,by omega⟩

theorem adY{n:Int}(h1:1≤n)(h2:n≤1000000):IntKind.u64.wrap (IntKind.u64.wrap n+1)≠0:=by
 have e1:IntKind.u64.wrap n=n:=by show n % (18446744073709551616:Int)=n;omega
 have e2:IntKind.u64.wrap (n+1)=n+1:=by show(n+1) % (18446744073709551616:Int)=n+1;omega
 rw[e1,e2];omega
theorem UC(main:Side)(h:Hp)(nums:List Int)(lv:Value)(b k:Nat)(s n:Int)(hl:Sl h fH lv nums)(hk:k<4000000000)(hn: -1000000≤n∧n≤1000000):dV prog main Ee #[.pointer (some ⟨b,0,none⟩),I n] h [(b,wF lv k s)] (fun v A=>∃r s',v=I r∧(0≤r∧(r≤n∨r=0))∧Sb [(b,wF lv (k+1) s')] A):=by
 refine dV.aG Ky rfl (by show 2≤16;decide) [(0,.pointer (some ⟨b,0,none⟩)),(1,I n)] ⟨rfl,rfl,trivial⟩ ?_
 refine W.seq<|W.region rfl<|agb rfl rfl rfl<|pq<|W.seq<|W.region rfl<|qm rfl rfl rfl ?_
 refine cg (A:=[(b,_)]) .head (fun h' hE hL=>aaB _ h' nums lv b k s (hl.ext hE) hk) (fun v A' hv=>?_)
 obtain⟨x,s',rfl,hx,hsb⟩:=hv
 refine Ops.sb (hsb.app .refl) ?_
 refine agb rfl rfl rfl<|pq<|W.seq<|W.seq<|W.region rfl<|qm rfl rfl rfl ?_
 refine agW (fO rfl rfl rfl) rfl ?_
 refine pq ?_
 refine W.bC rfl (fun c9=>?_) (fun c9=>?_)
 ·refine W.seq<|W.region rfl<|agb rfl rfl rfl<|pq<|W.ret<|aY ?_
  exact mg (vs:=[_]) ⟨0,s',rfl,⟨Int.le_refl _,.inr rfl⟩,.refl⟩
 ·refine W.skip<|aA<|W.seq<|W.region rfl<|qm rfl rfl rfl<|qm rfl rfl rfl ?_
  refine agW (FC rfl rfl) rfl ?_
  refine ag1 rfl ?_
  refine agW (Wu rfl rfl rfl (adY (by omega) hn.2)) rfl ?_
  refine agW (FC rfl rfl) rfl ?_
  refine agb rfl rfl rfl<|pq<|W.ret ?_
  obtain⟨r,hr,h0,h1⟩:=ab9 (n:=n) hx (by omega) hn.2
  exact mg (vs:=[_]) ⟨r,s',congrArg (Value.int .i64) hr,⟨h0,.inl h1⟩,.refl⟩

theorem UD(main:Side)(h:Hp)(nums:List Int)(lv:Value)(b k:Nat)(s lo hi:Int)(hl:Sl h fH lv nums)(hk:k<4000000000)(hn: -100000≤lo∧lo≤100000∧-100000≤hi∧hi≤100000):dV prog main zL #[.pointer (some ⟨b,0,none⟩),I lo,I hi] h [(b,wF lv k s)] (fun v A=>∃r s',v=I r∧(lo≤r∧(r≤hi∨r=lo))∧Sb [(b,wF lv (k+1) s')] A):=by
 refine dV.aG Hy rfl (by show 3≤14;decide) [(0,.pointer (some ⟨b,0,none⟩)),(1,I lo),(2,I hi)] ⟨rfl,rfl,rfl,trivial⟩ ?_
 refine W.seq<|W.region rfl<|agb rfl rfl rfl<|pq<|W.seq<|W.region rfl<|qm rfl rfl rfl<|qm rfl rfl rfl<|qm rfl rfl rfl ?_
 refine qm rfl rfl rfl ?_
 refine ag5 rfl ?_
 refine cg (A:=[(b,_)]) .head (fun h' hE hL=>UC _ h' nums lv b k s (hi-lo) (hl.ext hE) hk (by omega)) (fun v A' hv=>?_)
 obtain⟨r,s',rfl,hr,hsb⟩:=hv
 refine Ops.sb (hsb.app .refl) ?_
 refine ag1 rfl ?_
 refine agb rfl rfl rfl<|pq<|W.ret ?_
 exact mg (vs:=[_]) ⟨lo+r,s',rfl,⟨by omega,by omega⟩,.refl⟩

theorem YM(main:Side)(h:Hp)(nums:List Int)(lv:Value)(b k:Nat)(s:Int)(l:List Int)(vl:Value)(hl:Sl h fH lv nums)(hs:Sl h fH vl l)(hk:k<4000000000)(h1:1≤l.length)(h2:l.length≤1000):dV prog main Ce #[.pointer (some ⟨b,0,none⟩),vl] h [(b,wF lv k s)] (fun v A=>∃r s',v=I r∧r∈l∧Sb [(b,wF lv (k+1) s')] A):=by
 obtain⟨a,cap,rfl⟩:=hs.dA
 refine dV.aG JD rfl (by show 2≤13;decide) [(0,.pointer (some ⟨b,0,none⟩)),(1,.slice a l.length cap)] ⟨rfl,rfl,trivial⟩ ?_
 refine W.seq<|W.region rfl<|agb rfl rfl rfl<|pq<|W.seq<|W.region rfl<|qm rfl rfl rfl<|qm rfl rfl rfl<|qm rfl rfl rfl ?_
 refine agW (dM rfl rfl) rfl ?_
 refine ag5 rfl ?_
 refine cg (A:=[(b,_)]) .head (fun h' hE hL=>UC _ h' nums lv b k s ((l.length:Int)-1) (hl.ext hE) hk (by omega)) (fun v A' hv=>?_)
 obtain⟨r,s',rfl,hr,hsb⟩:=hv
 refine Ops.sb (hsb.app .refl) ?_
 obtain⟨rn,rfl⟩:∃rn:Nat,r=rn:=⟨r.toNat,by omega⟩
 obtain⟨p,hp,-⟩:=has (show rn<l.length by omega)
 obtain⟨b1,off,c,E,fz,rfl,hb,hx,hy,hz⟩:=hs.at hp
 have hz0:=hz 0 (by decide)
 have hpa:c[off+rn*1]? =some (I p):=by simpa[fH]using hz0
 refine ag3 rfl ?_
 refine agX rfl ?_
 refine agb rfl rfl rfl<|pq<|W.ret ?_
 exact mg (vs:=[_]) ⟨p,s',rfl,List.mem_of_getElem? hp,.refl⟩

theorem VQ(main:Side)(h:Hp)(nums:List Int)(lv:Value)(hl:Sl h fH lv nums):dV prog main Ec #[lv] h [] (fun v A=>∃b s,v= .pointer (some ⟨b,0,none⟩)∧A=[(b,wF lv 0 s)]):=by
 obtain⟨a,cap,rfl⟩:=hl.dA
 refine dV.aG Kv rfl (by show 1≤6;decide) [(0,.slice a nums.length cap)] ⟨rfl,trivial⟩ ?_
 refine W.seq<|W.region rfl<|agb rfl rfl rfl<|pq<|W.seq<|W.region rfl<|qm rfl rfl rfl ?_
 refine agW (eH rfl rfl rfl) rfl ?_
 refine Ops.box (fun mZ=>?_)
 refine agb rfl rfl rfl<|pq<|W.ret ?_
 exact mg (vs:=[_]) ⟨_,_,rfl,rfl⟩
end Go.aS

/- Lots of syrup, room, and who gets what. Conditions: none; no program in sight. -/
namespace Go.aS
set_option linter.unusedVariables false
def Ar(l:Lt):Bool:=decide (outs l.qu 0 12)|| decide (outs l.po 1 9)
def Ig(ls:List Lt):Int:=if 4<ls.length then 6 else if ls.any Ar then 1 else 0
def K_(n:Nat)(rs:List Int):Int:=if rs.length<n then 7 else if n<rs.length then 6 else if rs.any (fun r=>decide (outs r 0 20))then 1 else 0
structure Au(ls:List Lt):Prop where
 len:ls.length≤4
 lot:∀l∈ls,0≤l.qu∧l.qu≤12∧1≤l.po∧l.po≤9
theorem Au.yB{ls:List Lt}(h:Ig ls=0):Au ls:=by
 unfold Ig at h
 split at h
 ·cases h
 split at h
 ·cases h
 ·rename_i h1 h2
  refine⟨by omega,fun l hl=>?_⟩
  have:Ar l=false:=by
   rw[Bool.not_eq_true,List.any_eq_false]at h2
   simpa using h2 l hl
  have h3:¬outs l.qu 0 12∧¬outs l.po 1 9:=by simpa[Ar]using this
  unfold outs at h3
  omega
structure Aw(n:Nat)(rs:List Int):Prop where
 len:rs.length=n
 room:∀r∈rs,0≤r∧r≤40
theorem Aw.yB{n:Nat}{rs:List Int}(h:K_ n rs=0):Aw n rs:=by
 unfold K_ at h
 split at h
 ·cases h
 split at h
 ·cases h
 split at h
 ·cases h
 ·rename_i h1 h2 h3
  refine⟨by omega,fun r hr=>?_⟩
  rw[Bool.not_eq_true,List.any_eq_false]at h3
  have h4:¬outs r 0 20:=by simpa using h3 r hr
  unfold outs at h4
  omega

def less(l:Lt)(rs:List Int)(p:Nat):List Int:=rs.set p (rs.getD p 0-l.po)
def jQ{X:Type}[DecidableEq X](s:Int×List X)(x:X)(n:Int):Int×List X:=
 if s.2≠[]∧n<s.1 then s else
 let l:=if s.1<n then[]else s.2
 (n,if x∈l then l else l++[x])
structure lY{X:Type}(f:X→Int)(xs:List X)(r:Int×List X):Prop where
 le:∀x∈xs,f x≤r.1
 eq:r.2=xs.filter fun x=>decide (f x=r.1)
 ne:xs≠[]→r.2≠[]
theorem lY.add{X:Type}[DecidableEq X]{f:X→Int}{xs:List X}{r:Int×List X}{x:X}(H:lY f xs r)(hx:x∉xs):lY f (xs++[x]) (jQ r x (f x)):=by
  obtain⟨h1,h2,h3⟩:=H
  obtain⟨m,l⟩:=r
  simp only at h1 h2 h3
  have hxl:x∉l:=by rw[h2];exact fun h=>hx (List.mem_filter.1 h).1
  simp only[jQ]
  by_cases hc:l≠[]∧f x<m
  ·rw[if_pos hc]
   refine⟨fun y hy=>?_,?_,fun _=>hc.1⟩
   ·rcases List.mem_append.1 hy with hy | hy
    ·exact h1 y hy
    ·rw[List.mem_singleton.1 hy];exact Int.le_of_lt hc.2
   ·rw[List.filter_append,←h2]
    have:f x≠m:=by omega
    simp[this]
  ·rw[if_neg hc]
   by_cases hm:m<f x
   ·simp only[if_pos hm,List.not_mem_nil,if_false,List.nil_append]
    refine⟨fun y hy=>?_,?_,fun _=>by simp⟩
    ·rcases List.mem_append.1 hy with hy | hy
     ·have:=h1 y hy;show f y≤f x;omega
     ·rw[List.mem_singleton.1 hy];exact Int.le_refl _
    ·rw[List.filter_append]
     have:xs.filter (fun y=>decide (f y=f x))=[]:=by
      rw[List.filter_eq_nil_iff]
      intro y hy
      have:=h1 y hy
      simp;omega
     simp[this]
   ·simp only[if_neg hm,if_neg hxl]
    have hxs:xs=[]∨f x=m:=by
     by_cases hxs:xs=[]
     ·exact .inl hxs
     ·have:=h3 hxs
      exact .inr (by by_cases h:f x<m;exact absurd ⟨this,h⟩ hc;omega)
    rcases hxs with rfl | hfm
    ·have hl:l=[]:=by rw[h2];rfl
     subst hl
     have h9:∀y∈[]++[x],f y≤f x:=fun y hy=>by
      have hy':y=x:=List.mem_singleton.1 hy
      rw[hy'];exact Int.le_refl _
     exact⟨h9,by simp,fun _=>by simp⟩
    ·rw[hfm]
     refine⟨fun y hy=>?_,?_,fun _=>by simp⟩
     ·rcases List.mem_append.1 hy with hy | hy
      ·exact h1 y hy
      ·rw[List.mem_singleton.1 hy,hfm];exact Int.le_refl _
     ·rw[List.filter_append,←h2]
      simp[hfm]
theorem lY.one{X:Type}{f:X→Int}{xs:List X}{r r':Int×List X}(h:lY f xs r)(h':lY f xs r')(hx:xs≠[]):r=r':=by
 have key:∀{r r':Int×List X},lY f xs r→lY f xs r'→r.1≤r'.1:=by
  intro r r' h h'
  obtain⟨x,hm⟩:=List.exists_mem_of_ne_nil _ (h.ne hx)
  rw[h.eq]at hm
  obtain⟨q1,q2⟩:=List.mem_filter.1 hm
  have:=h'.le x q1
  simp only[decide_eq_true_eq]at q2
  omega
 have e:r.1=r'.1:=Int.le_antisymm (key h h') (key h' h)
 exact Prod.ext e (by rw[h.eq,h'.eq,e])

end Go.aS

/- A share as it lies in memory while it is made; room as it lies there. Conditions: none; no program in sight. -/
namespace Go.aS
set_option linter.unusedVariables false
structure Gi(n:Nat)(pre q:List Int):Prop where
 len:q.length=4
 pre:q.take pre.length=pre
 tl:q.drop n=List.replicate (4-n) 0
theorem Gi.start{n:Nat}(hn:n≤4):Gi n [] [0,0,0,0]:=by
 refine⟨rfl,rfl,?_⟩
 rcases(by omega:n=0∨n=1∨n=2∨n=3∨n=4)with rfl | rfl | rfl | rfl | rfl <;>rfl
theorem Gi.set{n:Nat}{pre q:List Int}{a:Int}(h:Gi n pre q)(hl:pre.length<n)(hn:n≤4):Gi n (pre++[a]) (q.set pre.length a):=by
 refine⟨by rw[List.length_set,h.len],?_,?_⟩
 ·rw[List.length_append,List.length_singleton,List.take_add_one,List.take_set_of_le (Nat.le_refl _),h.pre,List.getElem?_set_self (by rw[h.len];omega)]
  rfl
 ·rw[List.drop_set_of_lt hl];exact h.tl
theorem Gi.less{n:Nat}{pre q:List Int}{a:Int}(h:Gi n (pre++[a]) q):Gi n pre q:=by
 refine⟨h.len,?_,h.tl⟩
 have:=congrArg (List.take pre.length) h.pre
 rw[List.take_take,List.length_append,List.length_singleton,Nat.min_eq_left (by omega)]at this
 rw[this];simp

end Go.aS

/- The best shares, filled up. Conditions: none; no program in sight. -/
namespace Go.aS
set_option linter.unusedVariables false
theorem VI{α β:Type}{f:α→β}{xs:List α}(h:xs.Nodup)(hf:∀a∈xs,∀b∈xs,f a=f b→a=b):(xs.map f).Nodup:=by
 induction xs with
 | nil=>simp
 | cons a xs ih=>
  rw[List.nodup_cons]at h
  rw[List.map_cons,List.nodup_cons]
  refine⟨fun hm=>?_,ih h.2 fun x hx y hy=>hf x (List.mem_cons_of_mem _ hx) y (List.mem_cons_of_mem _ hy)⟩
  obtain⟨b,hb,e⟩:=List.mem_map.1 hm
  have:=hf b (List.mem_cons_of_mem _ hb) a (List.mem_cons_self ..) e
  exact h.1 (this▸hb)
end Go.aS

/- Boils of one pan, in numbers. Conditions: none; no program in sight. -/
namespace Go.aS
set_option linter.unusedVariables false
structure Spn where
 (lo hi:Int)
 deriving DecidableEq
def Spn.row(s:Spn):List Value:=[I s.lo,I s.hi]
abbrev Spn.val(s:Spn):Value:=.agg #[I s.lo,I s.hi]
instance:Rw Spn.row 2:=⟨fun _=>rfl,fun _=>rfl⟩
def upz(s:Spn):List Int:=(List.range (s.hi-s.lo+1).toNat).map fun(k:Nat)=>s.lo+(k:Int)
theorem ay9{s:Spn}{n:Int}:n∈upz s↔s.lo≤n∧n≤s.hi:=by
 simp only[upz,List.mem_map,List.mem_range]
 constructor
 ·rintro⟨k,h,rfl⟩;omega
 ·intro h;exact⟨(n-s.lo).toNat,by omega,by omega⟩
theorem aAE{s:Spn}:(upz s).Nodup:=VI List.nodup_range fun a _ b _ e=>by omega
def allH:List Spn→List (List Int)
 | []=>[[]]
 | s::r=>(upz s).flatMap fun n=>(allH r).map (n:: ·)
theorem aw6:∀{hs:List Spn} {x:List Int},x∈allH hs→x.length=hs.length
 | [],x,h=>by
          have:x=[]:=by simpa[allH]using h
          subst this;rfl
 | s::r,x,h=>by
  simp only[allH,List.mem_flatMap,List.mem_map]at h
  obtain⟨n,hn,y,hy,rfl⟩:=h
  simp[aw6 hy]
theorem azF:∀{hs:List Spn},(allH hs).Nodup
 | []=>by simp[allH]
 | s::r=>by
  rw[allH,List.nodup_iff_pairwise_ne,List.pairwise_flatMap]
  refine⟨fun n hn=>?_,?_⟩
  ·rw[List.pairwise_map]
   exact(List.nodup_iff_pairwise_ne.1 (azF (hs:=r))).imp fun h e=>h (by simpa using e)
  ·refine(List.nodup_iff_pairwise_ne.1 (aAE (s:=s))).imp fun{a b} h x hx y hy e=>?_
   obtain⟨u,-,rfl⟩:=List.mem_map.1 hx
   obtain⟨v,-,rfl⟩:=List.mem_map.1 hy
   exact h (by simp at e;exact e.1)
def Ju(l:List Int):Int:=l.foldr (· + ·) 0
theorem aw1{a:Int}{l:List Int}:Ju (a::l)=a+Ju l:=rfl
theorem ay_:∀{hs:List Spn} {x:List Int},x∈allH hs→Ju (hs.map (·.lo))≤Ju x∧Ju x≤Ju (hs.map (·.hi))
 | [],x,h=>by
          have:x=[]:=by simpa[allH]using h
          subst this;exact⟨Int.le_refl _,Int.le_refl _⟩
 | s::r,x,h=>by
  simp only[allH,List.mem_flatMap,List.mem_map]at h
  obtain⟨n,hn,y,hy,rfl⟩:=h
  have h1:=ay9.1 hn
  have h2:=ay_ hy
  simp only[List.map_cons,aw1]
  omega
theorem aza:∀{hs:List Spn},(∀s∈hs,s.lo≤s.hi)→hs.map (·.lo)∈allH hs
 | [],_=>by simp[allH]
 | s::r,h=>by
  simp only[allH,List.mem_flatMap,List.mem_map,List.map_cons]
  exact⟨s.lo,ay9.2 ⟨Int.le_refl _,h s (by simp)⟩,_,aza fun x hx=>h x (by simp[hx]),rfl⟩
theorem az9:∀{hs:List Spn},(∀s∈hs,s.lo≤s.hi)→hs.map (·.hi)∈allH hs
 | [],_=>by simp[allH]
 | s::r,h=>by
  simp only[allH,List.mem_flatMap,List.mem_map,List.map_cons]
  exact⟨s.hi,ay9.2 ⟨h s (by simp),Int.le_refl _⟩,_,az9 fun x hx=>h x (by simp[hx]),rfl⟩
theorem aAQ{a b:List Int}:Ju (a++b)=Ju a+Ju b:=by
 induction a with
 | nil=>simp[Ju]
 | cons x a ih=>rw[List.cons_append,aw1,ih,aw1];omega
end Go.aS
