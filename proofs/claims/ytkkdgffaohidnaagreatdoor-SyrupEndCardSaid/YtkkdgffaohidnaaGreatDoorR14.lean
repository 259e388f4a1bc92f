/- What the program's head says, found sign by sign. Conditions: none; over the given program. -/
import Derived.Test.YtkkdgffaohidnaaGreatDoorR13
set_option linter.unusedVariables false
set_option linter.unusedSimpArgs false
set_option linter.unusedSectionVars false

/- What the program's head says, found sign by sign. Conditions: none; over the given program. -/
namespace Go.aS
open Go
set_option maxRecDepth 100000
set_option maxHeartbeats 4000000
def uX:List Char:=['h','a','r','n','e','s','s',' ','d','b','c','2','9','b','b','b','9','7','2','7','f','b','e','b','a','f','7','4','2','9','f','7','2','6','6','f','9','d','8','2','b','5','a','0','2','e','c','0','9','6','9','2','1','0','b','7','2','4','e','1','e','d','2','d','a','c','6','6','c','c','8','d',' ','c','u','t',' ','a','t',' ','m','u','s','c','o','v','a','d','o','/','m','u','s','c','o','v','a','d','o','l','a','w','0','3','.','S','y','r','u','p','R','i','n','g',' ','m','u','s','c','o','v','a','d','o','/','m','u','s','c','o','v','a','d','o','l','a','w','0','3','.','S','y','r','u','p','L','o','n','g','e','s','t',' ','m','u','s','c','o','v','a','d','o','/','m','u','s','c','o','v','a','d','o','l','a','w','0','3','.','S','y','r','u','p','B','o','i','l','s',' ','m','u','s','c','o','v','a','d','o','/','m','u','s','c','o','v','a','d','o','l','a','w','0','3','.','S','y','r','u','p','B','o','i','l','e','d',' ','m','u','s','c','o','v','a','d','o','/','m','u','s','c','o','v','a','d','o','l','a','w','0','3','.','S','y','r','u','p','R','i','n','g','s',' ','m','u','s','c','o','v','a','d','o','/','m','u','s','c','o','v','a','d','o','l','a','w','0','3','.','S','y','r','u','p','E','v','e','r',' ','m','u','s','c','o','v','a','d','o','/','m','u','s','c','o','v','a','d','o','l','a','w','0','3','.','S','y','r','u','p','C','l','o','s','e','d',' ','m','u','s','c','o','v','a','d','o','/','m','u','s','c','o','v','a','d','o','l','a','w','0','3','.','S','y','r','u','p','M','o','r','e',' ','m','u','s','c','o','v','a','d','o','/','m','u','s','c','o','v','a','d','o','l','a','w','0','3','.','S','y','r','u','p','E','n','d',' ','m','u','s','c','o','v','a','d','o','/','m','u','s','c','o','v','a','d','o','l','a','w','0','3','.','S','y','r','u','p','M','i','r','r','o','r',' ','m','u','s','c','o','v','a','d','o','/','m','u','s','c','o','v','a','d','o','l','a','w','0','3','.','S','y','r','u','p','S','h','a','r','e','d',' ','m','u','s','c','o','v','a','d','o','/','m','u','s','c','o','v','a','d','o','l','a','w','0','3','.','S','y','r','u','p','C','o','u','n','t','s',' ','m','u','s','c','o','v','a','d','o','/','m','u','s','c','o','v','a','d','o','l','a','w','0','3','.','S','y','r','u','p','E','n','d','s',' ','m','u','s','c','o','v','a','d','o','/','m','u','s','c','o','v','a','d','o','l','a','w','0','3','.','S','y','r','u','p','S','h','o','r','t','e','s','t',' ','m','u','s','c','o','v','a','d','o','/','m','u','s','c','o','v','a','d','o','l','a','w','0','3','.','S','y','r','u','p','F','o','r','c','e','d',' ','m','u','s','c','o','v','a','d','o','/','m','u','s','c','o','v','a','d','o','l','a','w','0','3','.','S','y','r','u','p','N','u','m','b','e','r','e','d',' ','m','u','s','c','o','v','a','d','o','/','m','u','s','c','o','v','a','d','o','l','a','w','0','3','.','S','y','r','u','p','R','o','o','m',' ','m','u','s','c','o','v','a','d','o','/','m','u','s','c','o','v','a','d','o','l','a','w','0','3','.','S','y','r','u','p','S','h','a','r','e','s',' ','m','u','s','c','o','v','a','d','o','/','m','u','s','c','o','v','a','d','o','l','a','w','0','3','.','S','y','r','u','p','K','n','o','w','n']
theorem ad8:prog.initOrder=String.ofList uX:=by kernel_rfl
theorem UF:prog.initOrder.toList=uX:=by rw[ad8,String.toList_ofList]
theorem YS{P:Program}(h1:P.initOrder.toList=uX):P.mainIs=some (true, "dbc29bbb9727fbebaf7429f7266f9d82b5a02ec0969210b724e1ed2dac66cc8d".toList):=by unfold Program.mainIs;rw[h1];kernel_rfl
theorem acg{P:Program}(h1:P.initOrder.toList=uX):P.make=some .cut:=by unfold Program.make;rw[h1];kernel_rfl
theorem QF{P:Program}(h1:P.initOrder.toList=uX):P.headLifts=[]:=by unfold Program.headLifts;rw[h1];kernel_rfl
theorem OC{P:Program}(h1:P.initOrder.toList=uX):P.liftsFinal=false:=by unfold Program.liftsFinal;rw[QF h1,h1];kernel_rfl
theorem SV{P:Program}(h1:P.initOrder.toList=uX)(h2:P.laysLater=false)(h3:P.bearsReflect=false)(h4:P.doorFits []=true):P.mayEnter=true:=by
 unfold Program.mayEnter
 rw[h1,h2,h3]
 have e:(stripLifts liftWords ("cut".toList::(wordsSigns uX).drop 3)).1=[]:=by kernel_rfl
 have e2:behindMainWord (wordsSigns uX)= "cut".toList::(wordsSigns uX).drop 3:=by kernel_rfl
 rw[e2]
 dsimp only
 rw[e,h4]
 show _=true
 kernel_rfl
theorem ad9:prog.mainIs=some (true, "dbc29bbb9727fbebaf7429f7266f9d82b5a02ec0969210b724e1ed2dac66cc8d".toList):=YS UF
theorem ad_:prog.laysLater=false:=by kernel_rfl
theorem ach:prog.bearsReflect=false:=by kernel_rfl
theorem aea:prog.doorFits []=true:=by kernel_rfl
theorem aci:prog.mayEnter=true:=SV UF ad_ ach aea
theorem makeT{m:Option Make}(h:(some Make.cut==m)=true):(prog.make==m)=true:=by rw[acg UF];exact h
theorem aeb{b:Bool}(h:(b==false)=true):(b==prog.liftsFinal)=true:=by rw[OC UF];exact h
end Go.aS
