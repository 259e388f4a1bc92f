/- From a law that answers true to its card, time passing meanwhile: the parts that all laws of this seat share. Conditions: as the cards say; over the given program. (And 1 texts more.) -/
import Derived.Test.YtkkdgffaohidnaaGreatDoorR13
import Derived.Test.YtkkdgffaohidnaaGreatDoorR08
import Derived.Test.YtkkdgffaohidnaaGreatDoorCards
import Derived.Test.YtkkdgffaohidnaaGreatDoorTie
import Derived.SevenTiedAt
set_option linter.unusedVariables false
set_option linter.unusedSimpArgs false
set_option linter.unusedSectionVars false

/- From a law that answers true to its card, time passing meanwhile: the parts that all laws of this seat share. Conditions: as the cards say; over the given program. -/
namespace Go.aS
open Go.Proofs.YtkkdgffaohidnaaGreatDoor
set_option maxRecDepth 100000
set_option maxHeartbeats 4000000
theorem afH:ownKnob prog.godebug=none:=by kernel_rfl
theorem YR:laidOutB prog=true:=by kernel_rfl
theorem et0:prog.globalNamed "errors.errorType" =some 0:=by kernel_rfl
abbrev acf:String:=match(Rows.laid_errors_errorType:DataW Unit)with
 | .iface s _=>s
 | _=> ""
theorem rt0:(prog.cutTypes.find? (·.1==acf)).map (·.2)=some qI:=by kernel_rfl
theorem ad6:prog.types.size=270:=by kernel_rfl
theorem aaG:((List.range 270).filter fun t=>prog.rowNamed t [101,114,114,111,114])=[qM]:=by kernel_rfl
theorem EX:prog.underlying nS=some (.slice dL):=by kernel_rfl
theorem VX:prog.underlying dL=some (.int .i64):=by kernel_rfl
theorem SS:prog.underlying RS=some .bool:=by kernel_rfl
theorem VY:prog.cellsOf dL=1:=by kernel_rfl

abbrev J9:List (String×DataW Unit):=[("errors.errorType",Rows.laid_errors_errorType)]
theorem aaH{W:World}(h:laidMetH prog J9 W):∃E z,W.heap[0]? =some (.cells #[Ur qM] E z):=by
 have h':laidMet prog [] W∧handlesMet prog J9 W:=h
 obtain⟨name,u,ty,e1,e2,e3,e4,e5⟩:=h'.2 _ (List.mem_singleton.2 rfl)
 have en:name=[101,114,114,111,114]:=(Option.some.inj e1).symm
 subst en
 obtain rfl:=Option.some.inj (rt0.symm.trans e2)
 have hm:ty∈(List.range 270).filter fun t=>prog.rowNamed t [101,114,114,111,114]:=List.mem_filter.2 ⟨List.mem_range.2 (by rw[←ad6];exact e3),e4⟩
 rw[aaG]at hm
 obtain rfl:=List.mem_singleton.1 hm
 simp only[World.var?]at e5
 rw[et0,Option.bind_some]at e5
 split at e5
 ·rename_i cs E z hb
  obtain rfl:=Option.some.inj e5
  exact⟨E,z,hb⟩
 ·cases e5

noncomputable def laidWorld(os:Go.Os):World:=
 let w0:=World.holding prog os ⟨#[], #[],[]⟩
 {w0 with heap:=w0.heap.modify 0 fun
   | .cells _ t frozen=>.cells #[Ur qM] t frozen
   | o=>o}
theorem laidWorld_met(os:Go.Os)(args:Array Value):laidMetH prog J9 ((laidWorld os).forCall (fun _ _=>0) ⟨#[],args,[]⟩).memory:=
 laidMetH_of_parts (laidMet_nil _ _) (by kernel_rfl)

theorem Ld{P:Program}{l:List (String×DataW Unit)}{w w':World}(hh:w.heap=w'.heap)(h:laidMetH P l w):laidMetH P l w':=h.of_heap hh

theorem OB{H:Type}{enc:TypeId×Value→H}{C:Checked}{os:Go.Os}{f:FuncId}{fn:Func}{s:ChangeSpec}{conds:List PathCond}{apart:Bool}{X:World→Array Value→Prop}(w0:World)(args:Array Value)(fuel:Nat)(hos:w0.os=os)
  (hv:(w0.forCall (fun _ _=>0) ⟨#[],args,[]⟩).variablesB C.prog=true)
  (
   hr:((w0.forCall (fun _ _=>0) ⟨#[],args,[]⟩).heap.toList.drop C.prog.globals.size).take ((begin C.prog (fun _ _=>0) default).world.heap.size-C.prog.globals.size)=
   (begin C.prog (fun _ _=>0) default).world.heap.toList.drop C.prog.globals.size)
  (hok:Input.okWideB C.prog (w0.forCall (fun _ _=>0) ⟨#[],args,[]⟩) f ⟨#[],args,[]⟩=true)
  (hpre:s.preB enc C.prog fn conds apart (w0.forCall (fun _ _=>0) ⟨#[],args,[]⟩).memory args fuel=true)
  (hsz:s.sizedB enc C.prog fn apart (w0.forCall (fun _ _=>0) ⟨#[],args,[]⟩).memory args fuel=true)
  (hx:X (w0.forCall (fun _ _=>0) ⟨#[],args,[]⟩).memory args):
  ∃(w:World) (tape:Tape) (i:Input),w.os=os∧(w.forCall tape i).Shaped C.prog∧i.vars=[]∧Input.okWide C.prog (w.forCall tape i) .any w.heap.size f i∧
   ((s.pre enc C.prog fn conds apart (w.forCall tape i).memory i.args∧X (w.forCall tape i).memory i.args)∧sizedMet enc C.prog fn (OpenSpec.ofChange s) apart (w.forCall tape i).memory i.args)∧({calm:=true}:Assume).holds C.prog (lone (Frame.enter C.prog f i.args .normal) [] (w.forCall tape i)):=
 ⟨w0,fun _ _=>0,⟨#[],args,[]⟩,hos,World.shaped_of_B hv hr,(Input.okWide_of_okWideB (base:=0) hok).1,(Input.okWide_of_okWideB hok).2,⟨⟨ChangeSpec.pre_of_preB hpre,hx⟩,sizedMet_of_sizedB hsz⟩,by
  simp only[Assume.holds]
  exact⟨by simp,fun _ _ _ _=>rfl,by simp,by simp,by simp⟩⟩

section
open Go.ChangeShapes Go.WideShapes Go.RowKit
theorem ad7{s:ChangeSpec}{f:FuncId}{fn:Func}(os:Go.Os)(started:os.Started)(H:Type)(enc:TypeId×Value→H)(hfn:prog.funcs[f]? =some fn)(hinit:prog.inits.idxOf? f=none)(hp:fn.params.toList=[nS])(hpa:fn.params= #[nS])(hr:fn.resultTypes.toList=[RS])(hrs:fn.resultTypes.size=1)(hv:s.vars=[])
  (hs:∀d,s.fn H [d]={results:=[.lit (.bool true)],args:=[d]})
  (
   witness:∃(w:World) (tape:Tape) (i:Input),w.os=os∧(w.forCall tape i).Shaped prog∧i.vars=[]∧Input.okWide prog (w.forCall tape i) .any w.heap.size f i∧
   ((s.pre enc prog fn [] false (w.forCall tape i).memory i.args∧laidMetH prog J9 (w.forCall tape i).memory)∧sizedMet enc prog fn (OpenSpec.ofChange s) false (w.forCall tape i).memory i.args)∧({calm:=true}:Assume).holds prog (lone (Frame.enter prog f i.args .normal) [] (w.forCall tape i)))
  (T:∀(main:Side) (_:∀S,main.ok S→∃Fin,S=Mo prog Fin) (_:main.b=true) (h:Hp) (nums:List Int) (lv:Value) (Eg:TypeId) (zg:Nat×Nat) (_:Sl h fH lv nums) (_:h 0=some (.cells #[Ur qM] Eg zg)) (_:h.z 0),QE prog main f #[lv] h (.bool true))
  (F:Stop.Interp):ReturnsInLeavingWide {calm:=true} Go.Proofs.Tryz.checked os f .any (fun w args=>(s.pre enc prog fn [] false w args∧laidMetH prog J9 w)∧sizedMet enc prog fn (OpenSpec.ofChange s) false w args) ((OpenSpec.ofChange s).postWith enc prog fn F (outsideKept [.timePasses]) false true false):=by
 refine returnsInLeavingWide_of_good (C:=Go.Proofs.Tryz.checked) afH started witness ?_
 intro w tape i _ _ _ hok hpre _
 obtain⟨_,_,_,fn',hfn',_,_,_,_,hval0⟩:=hok
 have e:fn'=fn:=Option.some.inj (hfn'.symm.trans hfn)
 subst e
 obtain⟨⟨⟨ds,gs,before,hw,-⟩,hx⟩,-⟩:=hpre
 have hW:=DataW.Whole.of_heap (w':=w.forCall tape i) (by rfl) hw
 have hL:laidMetH prog J9 (w.forCall tape i):=Ld (by rfl) hx
 generalize w.forCall tape i=W at*
 have hval:∀(j:Nat) t v,fn'.params[j]? =some t→i.args[j]? =some v→Value.okWide prog W .any w.heap.size t v:=hval0
 have hW':=hW
 obtain⟨p,q,hA0,hV,rfl,_,_⟩:=hW
 have hA:DataW.TrodAll enc prog W 0 (fun _=>true) true fn'.params.toList i.args.toList ds p:=hA0
 rw[hp]at hA
 rw[hpa]at hval
 obtain⟨v0,d0,ha,rfl,h0⟩:=trodAll_one hA
 have hargs:i.args= #[v0]:=by simpa using ha
 rw[hargs]at hval hW'⊢
 rw[hv]at hV
 obtain⟨rfl,rfl⟩:=trodVars_none hV
 simp only[List.append_nil]at hW'
 have hlt:∀x∈p,x.block<W.heap.size:=fun x hx=>by simpa using hW'.lt x hx
 obtain⟨a0,len,cap,rfl⟩:=okWide_slice EX (hval 0 nS v0 rfl rfl)
 obtain⟨E,z,hg⟩:=aaH hL
 have hsl:∃nums,Sl (atStart W) fH (.slice a0 len cap) nums:=by
  obtain⟨fuel,hf⟩:=h0
  rcases open_ints EX VX VY hf with⟨hcs,_⟩ | ⟨a,len',cap',zs,hcs,_,hl,hm,hz,_,hcell,_⟩
  ·simp[Value.cells]at hcs
   obtain⟨rfl,rfl,rfl⟩:=hcs
   exact⟨[],.nil⟩
  ·simp[Value.cells]at hcs
   obtain⟨rfl,rfl,rfl⟩:=hcs
   simp only[if_true]at hz
   exact⟨zs.take len,Sl.atStart (by omega) hcell⟩
 obtain⟨nums,hsl⟩:=hsl
 have hgs:atStart W 0=some (.cells #[Ur qM] E z):=ku.2 ⟨hg,rfl⟩
 obtain⟨M,last,o,w',t',h1,h2,h3,h4⟩:=QE.run hinit (T (GI prog (tZ prog fun v _=>v= .bool true)) (fun S h=>⟨_,h⟩) rfl (atStart W) nums _ E z hsl hgs ⟨_,hg,rfl⟩)
 refine⟨M,last,o,w',t',h1,h2,h3,h4.mono fun v hF=>?_⟩
 obtain⟨rfl,hk⟩:=hF
 have hb:=hk.below
 refine postWith_blind (postWith_of_post ⟨[d0],[],p,[],p,[],hW',?_,?_,?_,hb.frame _,fun h=>by cases h⟩ hk.os)
 ·have hrl:Value.resultList fn'.resultTypes.size (.bool true)=[.bool true]:=by rw[hrs];rfl
  rw[List.append_nil,hs,hrl,hr];exact trodAll_mk1 (shut_bool SS true)
 ·rw[List.append_nil,hs,hp]
  exact trodAll_mk1 (Below.trod YR (by kernel_rfl) (of_decide_eq_true (by kernel_rfl)) h0 hb hlt)
 ·rw[List.append_nil,hs,hv];rfl
end
theorem VZ(Lk:Looks){p:Pinned}{s:OpenSpec}{c:OpenClaim}(al:List (List PathCond))(kinds:List LaidKind)(tests:Bool)(har:Bool×String)(lk:Bool)
  (hc:c.holds p s) (hal:∀D∈al,(c.withDomain D).holds p s) (hw:c.wfByText s=true) (hwal:∀D∈al,(c.withDomain D).wfByText s=true)
  (htie:c.laidByTextAt Lk p kinds tests)
  (hst:c.start= .entering) (hnb:c.noBlocks=false∧c.again=false) (hm:p.checked.prog.mainIs=some (har.1,har.2.toList)) (hn:(!har.1&&har.2.isEmpty&& !lk)=false)
  (hl:∀f fn,p.checked.prog.funcNamed c.func=some f→p.checked.prog.funcs[f]? =some fn→lk=p.checked.prog.looks []∧∀(j:Nat) t,fn.params[j]? =some t→p.checked.prog.wantsStandIn t=false)
  (hg:true=c.goesBy p.checked.prog):
  Claim7.holds p (.plain s) {stood:={row:=c,standIns:=[],harness:=har,looks:=lk},kinds:=[],alts:=al,goes:=true,laidByText:=true,laidKinds:=kinds,laidTests:=tests,laidLooks:=Lk}:=by
 have h6:∀r:OpenClaim,Claim7.isSixth {stood:={row:=r,standIns:=[],harness:=har,looks:=lk},kinds:=[]}=false:=fun r=>by simpa[Claim7.isSixth]using hn
 refine⟨Claim7.tied_new_at Lk kinds tests (Claim7.new_of_sixth hc har lk hst hnb hm (h6 c) hl) hw,fun D hD=>?_,htie,(fun h=>by cases h),hg⟩
 exact Claim7.tied_new_at Lk kinds tests (Claim7.new_of_sixth (hal D hD) har lk hst hnb hm (h6 _) hl) (hwal D hD)

end Go.aS

/- What the program's head says, found sign by sign. Conditions: none; over the given program. -/
namespace Go.aS
open Go
set_option maxRecDepth 100000
set_option maxHeartbeats 4000000
def uX:List Char:=['h','a','r','n','e','s','s',' ','d','b','c','2','9','b','b','b','9','7','2','7','f','b','e','b','a','f','7','4','2','9','f','7','2','6','6','f','9','d','8','2','b','5','a','0','2','e','c','0','9','6','9','2','1','0','b','7','2','4','e','1','e','d','2','d','a','c','6','6','c','c','8','d',' ','c','u','t',' ','a','t',' ','m','u','s','c','o','v','a','d','o','/','m','u','s','c','o','v','a','d','o','l','a','w','0','3','.','S','y','r','u','p','R','i','n','g',' ','m','u','s','c','o','v','a','d','o','/','m','u','s','c','o','v','a','d','o','l','a','w','0','3','.','S','y','r','u','p','L','o','n','g','e','s','t',' ','m','u','s','c','o','v','a','d','o','/','m','u','s','c','o','v','a','d','o','l','a','w','0','3','.','S','y','r','u','p','B','o','i','l','s',' ','m','u','s','c','o','v','a','d','o','/','m','u','s','c','o','v','a','d','o','l','a','w','0','3','.','S','y','r','u','p','B','o','i','l','e','d',' ','m','u','s','c','o','v','a','d','o','/','m','u','s','c','o','v','a','d','o','l','a','w','0','3','.','S','y','r','u','p','R','i','n','g','s',' ','m','u','s','c','o','v','a','d','o','/','m','u','s','c','o','v','a','d','o','l','a','w','0','3','.','S','y','r','u','p','E','v','e','r',' ','m','u','s','c','o','v','a','d','o','/','m','u','s','c','o','v','a','d','o','l','a','w','0','3','.','S','y','r','u','p','C','l','o','s','e','d',' ','m','u','s','c','o','v','a','d','o','/','m','u','s','c','o','v','a','d','o','l','a','w','0','3','.','S','y','r','u','p','M','o','r','e',' ','m','u','s','c','o','v','a','d','o','/','m','u','s','c','o','v','a','d','o','l','a','w','0','3','.','S','y','r','u','p','E','n','d',' ','m','u','s','c','o','v','a','d','o','/','m','u','s','c','o','v','a','d','o','l','a','w','0','3','.','S','y','r','u','p','M','i','r','r','o','r',' ','m','u','s','c','o','v','a','d','o','/','m','u','s','c','o','v','a','d','o','l','a','w','0','3','.','S','y','r','u','p','S','h','a','r','e','d',' ','m','u','s','c','o','v','a','d','o','/','m','u','s','c','o','v','a','d','o','l','a','w','0','3','.','S','y','r','u','p','C','o','u','n','t','s',' ','m','u','s','c','o','v','a','d','o','/','m','u','s','c','o','v','a','d','o','l','a','w','0','3','.','S','y','r','u','p','E','n','d','s',' ','m','u','s','c','o','v','a','d','o','/','m','u','s','c','o','v','a','d','o','l','a','w','0','3','.','S','y','r','u','p','S','h','o','r','t','e','s','t',' ','m','u','s','c','o','v','a','d','o','/','m','u','s','c','o','v','a','d','o','l','a','w','0','3','.','S','y','r','u','p','F','o','r','c','e','d',' ','m','u','s','c','o','v','a','d','o','/','m','u','s','c','o','v','a','d','o','l','a','w','0','3','.','S','y','r','u','p','N','u','m','b','e','r','e','d',' ','m','u','s','c','o','v','a','d','o','/','m','u','s','c','o','v','a','d','o','l','a','w','0','3','.','S','y','r','u','p','R','o','o','m',' ','m','u','s','c','o','v','a','d','o','/','m','u','s','c','o','v','a','d','o','l','a','w','0','3','.','S','y','r','u','p','S','h','a','r','e','s',' ','m','u','s','c','o','v','a','d','o','/','m','u','s','c','o','v','a','d','o','l','a','w','0','3','.','S','y','r','u','p','K','n','o','w','n']
theorem ad8:prog.initOrder=String.ofList uX:=by kernel_rfl
theorem UF:prog.initOrder.toList=uX:=by rw[ad8,String.toList_ofList]
theorem YS{P:Program}(h1:P.initOrder.toList=uX):P.mainIs=some (true, "dbc29bbb9727fbebaf7429f7266f9d82b5a02ec0969210b724e1ed2dac66cc8d".toList):=by unfold Program.mainIs;rw[h1];kernel_rfl
theorem acg{P:Program}(h1:P.initOrder.toList=uX):P.make=some .cut:=by unfold Program.make;rw[h1];kernel_rfl
theorem QF{P:Program}(h1:P.initOrder.toList=uX):P.headLifts=[]:=by unfold Program.headLifts;rw[h1];kernel_rfl
theorem OC{P:Program}(h1:P.initOrder.toList=uX):P.liftsFinal=false:=by unfold Program.liftsFinal;rw[QF h1,h1];kernel_rfl
theorem SV{P:Program}(h1:P.initOrder.toList=uX)(h2:P.laysLater=false)(h3:P.bearsReflect=false)(h4:P.doorFits []=true):P.mayEnter=true:=by
 unfold Program.mayEnter
 rw[h1,h2,h3]
 have e:(stripLifts liftWords ("cut".toList::(wordsSigns uX).drop 3)).1=[]:=by kernel_rfl
 have e2:behindMainWord (wordsSigns uX)= "cut".toList::(wordsSigns uX).drop 3:=by kernel_rfl
 rw[e2]
 dsimp only
 rw[e,h4]
 show _=true
 kernel_rfl
theorem ad9:prog.mainIs=some (true, "dbc29bbb9727fbebaf7429f7266f9d82b5a02ec0969210b724e1ed2dac66cc8d".toList):=YS UF
theorem ad_:prog.laysLater=false:=by kernel_rfl
theorem ach:prog.bearsReflect=false:=by kernel_rfl
theorem aea:prog.doorFits []=true:=by kernel_rfl
theorem aci:prog.mayEnter=true:=SV UF ad_ ach aea
theorem makeT{m:Option Make}(h:(some Make.cut==m)=true):(prog.make==m)=true:=by rw[acg UF];exact h
theorem aeb{b:Bool}(h:(b==false)=true):(b==prog.liftsFinal)=true:=by rw[OC UF];exact h
end Go.aS
