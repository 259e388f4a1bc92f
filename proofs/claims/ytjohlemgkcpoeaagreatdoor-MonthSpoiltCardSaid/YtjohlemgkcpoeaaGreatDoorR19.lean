/- From a law that answers true to its card, time passing meanwhile: the parts that all laws of this seat share. Conditions: as the cards say; over the given program. -/
import Derived.Test.YtjohlemgkcpoeaaGreatDoorR18
import Derived.Test.YtjohlemgkcpoeaaGreatDoorR07
import Derived.Conc.HoldsTime
import Derived.Test.YtjohlemgkcpoeaaGreatDoorR10
import Derived.Test.YtjohlemgkcpoeaaGreatDoorCards
import Derived.Test.YtjohlemgkcpoeaaGreatDoorTie
import Derived.SevenTiedAt
set_option linter.unusedVariables false
set_option linter.unusedSimpArgs false
set_option linter.unusedSectionVars false
set_option maxRecDepth 100000
set_option maxHeartbeats 40000000

namespace Go.jc
open Go.Proofs.YtjohlemgkcpoeaaGreatDoor
theorem ayI:ownKnob aV.godebug=none:=by kernel_rfl
theorem akK:laidOutB aV=true:=by kernel_rfl
theorem et0:aV.globalNamed "errors.errorType" =some 0:=by kernel_rfl
abbrev aq_:String:=match(Rows.laid_errors_errorType:DataW Unit)with
 | .iface s _=>s
 | _=> ""
theorem rt0:(aV.cutTypes.find? (·.1==aq_)).map (·.2)=some yB:=by kernel_rfl
theorem auY:aV.types.size=391:=by kernel_rfl
theorem anq:((List.range 391).filter fun t=>aV.rowNamed t [101,114,114,111,114])=[kC]:=by kernel_rfl
theorem Oc:aV.underlying tV=some (.slice aX):=by kernel_rfl
theorem ahp:aV.underlying aX=some (.int .i64):=by kernel_rfl
theorem aee:aV.underlying KO=some .bool:=by kernel_rfl
theorem ahq:aV.cellsOf aX=1:=by kernel_rfl

abbrev Ry:List (String×DataW Unit):=[("errors.errorType",Rows.laid_errors_errorType)]
theorem anr{W:World}(h:laidMetH aV Ry W):∃E z,W.heap[0]? =some (.cells #[QI kC] E z):=by
 have h':laidMet aV [] W/\handlesMet aV Ry W:=h;obtain⟨name,u,ty,e1,e2,e3,e4,e5⟩:=h'.2 _ (dP.2 rfl);have en:name=[101,114,114,111,114]:=(Option.some.inj e1).symm;subst en;obtain rfl:=Option.some.inj (rt0.symm.trans e2);have hm:ty∈(List.range 391).filter fun t=>aV.rowNamed t [101,114,114,111,114]:=List.mem_filter.2 ⟨List.mem_range.2 (by rw[<-auY];exact e3),e4⟩;rw[anq]at hm;obtain rfl:=dP.1 hm;simp only[World.var?]at e5;rw[et0,Option.bind_some]at e5;split at e5
 ·rename_i cs E z hb;obtain rfl:=Option.some.inj e5;exact⟨E,z,hb⟩
 cases e5

noncomputable def Wx(os:Go.Os):World:=
 let w0:=World.holding aV os ⟨#[], #[],[]⟩
 {w0 with heap:=w0.heap.modify 0 fun
   | .cells _ t frozen=>.cells #[QI kC] t frozen
   | o=>o}
theorem Vl(os:Go.Os)(args:Array Value):laidMetH aV Ry ((Wx os).forCall (fun _ _=>0) ⟨#[],args,[]⟩).memory:=
 laidMetH_of_parts (laidMet_nil _ _) aB

theorem Wu{P:Program}{l:List (String×DataW Unit)}{w w':World}(hh:w.heap=w'.heap)(h:laidMetH P l w):laidMetH P l w':=h.of_heap hh

variable{f:FuncId}{s:ChangeSpec}
theorem XZ{H:Type}{enc:TypeId×Value->H}{C:Checked}{os:Go.Os}{fn:Func}{conds:List PathCond}{apart:Bool}{X:World->Array Value->Prop}(w0:World)(args:Array Value)(fuel:Nat)(hos:w0.os=os)
  (hv:(w0.forCall (fun _ _=>0) ⟨#[],args,[]⟩).variablesB C.prog=true)
  (
   hr:((w0.forCall (fun _ _=>0) ⟨#[],args,[]⟩).heap.toList.drop C.prog.globals.size).take ((begin C.prog (fun _ _=>0) default).world.heap.size-C.prog.globals.size)=
   (begin C.prog (fun _ _=>0) default).world.heap.toList.drop C.prog.globals.size)
  (uU:Input.okWideB C.prog (w0.forCall (fun _ _=>0) ⟨#[],args,[]⟩) f ⟨#[],args,[]⟩=true)
  (Tn:s.preB enc C.prog fn conds apart (w0.forCall (fun _ _=>0) ⟨#[],args,[]⟩).memory args fuel=true)
  (oH:s.sizedB enc C.prog fn apart (w0.forCall (fun _ _=>0) ⟨#[],args,[]⟩).memory args fuel=true)
  (hx:X (w0.forCall (fun _ _=>0) ⟨#[],args,[]⟩).memory args):
  ∃(w:World) (tape:Tape) (i:Input),w.os=os/\(w.forCall tape i).Shaped C.prog/\i.vars=[]/\Input.okWide C.prog (w.forCall tape i) .any w.heap.size f i/\
   ((s.pre enc C.prog fn conds apart (w.forCall tape i).memory i.args/\X (w.forCall tape i).memory i.args)/\sizedMet enc C.prog fn (OpenSpec.ofChange s) apart (w.forCall tape i).memory i.args)/\({calm:=true}:Assume).holds C.prog (lone (Frame.enter C.prog f i.args .normal) [] (w.forCall tape i)):=
 ⟨w0,fun _ _=>0,⟨#[],args,[]⟩,hos,World.shaped_of_B hv hr,(Input.okWide_of_okWideB (base:=0) uU).1,(Input.okWide_of_okWideB uU).2,⟨⟨ChangeSpec.pre_of_preB Tn,hx⟩,sizedMet_of_sizedB oH⟩,by
  simp only[Assume.holds];exact⟨by simp,fun _ _ _ _=>rfl,by simp,by simp,by simp⟩⟩

section
open Go.ChangeShapes Go.WideShapes Go.RowKit
theorem arY{fn:Func}(os:Go.Os)(started:os.Started)(H:Type)(enc:TypeId×Value->H)(hfn:aV.funcs[f]? =some fn)(auZ:aV.inits.idxOf? f=none)(hp:fn.params.toList=[tV])(hpa:fn.params= #[tV])(hr:fn.resultTypes.toList=[KO])(hrs:fn.resultTypes.size=1)(hv:s.vars=[])
  (hs:∀d,s.fn H [d]={results:=[.lit (.bool true)],args:=[d]})
  (
   witness:∃(w:World) (tape:Tape) (i:Input),w.os=os/\(w.forCall tape i).Shaped aV/\i.vars=[]/\Input.okWide aV (w.forCall tape i) .any w.heap.size f i/\
   ((s.pre enc aV fn [] false (w.forCall tape i).memory i.args/\laidMetH aV Ry (w.forCall tape i).memory)/\sizedMet enc aV fn (OpenSpec.ofChange s) false (w.forCall tape i).memory i.args)/\({calm:=true}:Assume).holds aV (lone (Frame.enter aV f i.args .normal) [] (w.forCall tape i)))
  (T:∀(main:aN) (_:∀S,main.ok S->∃Fin,S=Mn aV Fin) (_:main.b=true) (h:Hp) (cZ:List Int) (lv:Value) (Eg:TypeId) (zg:Nat×Nat) (_:Sl h bY lv cZ) (_:h 0=some (.cells #[QI kC] Eg zg)) (_:h.z 0),acg aV main f #[lv] h (.bool true))
  (F:Stop.Interp):ReturnsInLeavingWide {calm:=true} Go.Proofs.Tryz.checked os f .any (fun w args=>(s.pre enc aV fn [] false w args/\laidMetH aV Ry w)/\sizedMet enc aV fn (OpenSpec.ofChange s) false w args) ((OpenSpec.ofChange s).postWith enc aV fn F (outsideKept [.timePasses]) false true false):=by
 refine returnsInLeavingWide_of_good (C:=Go.Proofs.Tryz.checked) ayI started witness ?_;intro w tape i _ _ _ uU Tn _;obtain⟨_,_,_,fn',ayJ,_,_,_,_,au0⟩:=uU;have e:fn'=fn:=Option.some.inj (ayJ.symm.trans hfn);subst e;obtain⟨⟨⟨ds,gs,before,hw,-⟩,hx⟩,-⟩:=Tn;have hW:=DataW.Whole.of_heap (w':=w.forCall tape i) (by rfl) hw;have hL:laidMetH aV Ry (w.forCall tape i):=Wu (by rfl) hx;generalize w.forCall tape i=W at*;have ara:∀(j:Nat) t v,fn'.params[j]? =some t->i.args[j]? =some v->Value.okWide aV W .any w.heap.size t v:=au0;have hW':=hW;obtain⟨p,q,hA0,hV,rfl,_,_⟩:=hW;have hA:DataW.TrodAll enc aV W 0 (fun _=>true) true fn'.params.toList i.args.toList ds p:=hA0;rw[hp]at hA;rw[hpa]at ara;obtain⟨v0,d0,ha,rfl,h0⟩:=trodAll_one hA;have aeP:i.args= #[v0]:=by simpa using ha
 rw[aeP]at ara hW'⊢;rw[hv]at hV;obtain⟨rfl,rfl⟩:=trodVars_none hV;simp only[List.append_nil]at hW';have fK:∀x∈p,x.block<W.heap.size:=fun x hx=>by simpa using hW'.lt x hx
 obtain⟨a0,len,cap,rfl⟩:=okWide_slice Oc (ara 0 tV v0 rfl rfl);obtain⟨E,z,hg⟩:=anr hL
 have P7:∃cZ,Sl (kZ W) bY (.slice a0 len cap) cZ:=by
  obtain⟨fuel,hf⟩:=h0;rcases open_ints Oc ahp ahq hf with⟨IW,_⟩ | ⟨a,aAK,f_,zs,IW,_,hl,hm,hz,_,ajo,_⟩
  ·simp[Value.cells]at IW;obtain⟨rfl,rfl,rfl⟩:=IW;exact⟨[],.nil⟩
  simp[Value.cells]at IW;obtain⟨rfl,rfl,rfl⟩:=IW;simp only[if_true]at hz;exact⟨zs.take len,Sl.kZ aj ajo⟩
 obtain⟨cZ,P7⟩:=P7;have hgs:kZ W 0=some (.cells #[QI kC] E z):=lN.2 ⟨hg,O⟩;obtain⟨M,last,o,w',t',h1,h2,h3,h4⟩:=acg.run auZ (T (G_ aV (AX aV fun v _=>v= .bool true)) (fun S h=>⟨_,h⟩) rfl (kZ W) cZ _ E z P7 hgs ⟨_,hg,rfl⟩);refine⟨M,last,o,w',t',h1,h2,h3,h4.mono fun v hF=>?_⟩;obtain⟨rfl,hk⟩:=hF;have hb:Below W.heap.size W {w' with os:=W.os}:=⟨rfl,hk.tape,hk.output,hk.size,hk.block⟩
 refine postWith_blind (postWith_of_post ⟨[d0],[],p,[],p,[],hW',?_,?_,?_,hb.frame _,fun h=>by cases h⟩ (hk.os▸Go.ConcM.OsLater.refl _))
 ·have hrl:Value.resultList fn'.resultTypes.size (.bool true)=[.bool true]:=by rw[hrs];rfl
  rw[List.append_nil,hs,hrl,hr];exact trodAll_mk1 (shut_bool aee true)
 ·rw[List.append_nil,hs,hp];exact trodAll_mk1 (Below.trod akK aB (of_decide_eq_true aB) h0 hb fK)
 rw[List.append_nil,hs,hv];rfl
end
theorem afF(Lk:Looks){p:Pinned}{s:OpenSpec}{c:OpenClaim}(al:List (List PathCond))(kinds:List LaidKind)(afE:Bool)(har:Bool×String)(lk:Bool)
  (hc:c.holds p s) (Y0:∀D∈al,(c.withDomain D).holds p s) (hw:c.wfByText s=true) (ayK:∀D∈al,(c.withDomain D).wfByText s=true)
  (ayL:c.laidByTextAt Lk p kinds afE)
  (fP:c.start= .entering) (Eo:c.noBlocks=false/\c.again=false) (hm:p.checked.prog.mainIs=some (har.1,har.2.toList)) (hn:(!har.1&&har.2.isEmpty&& !lk)=false)
  (hl:∀f fn,p.checked.prog.funcNamed c.func=some f->p.checked.prog.funcs[f]? =some fn->lk=p.checked.prog.looks []/\∀(j:Nat) t,fn.params[j]? =some t->p.checked.prog.wantsStandIn t=false)
  (hg:true=c.goesBy p.checked.prog):
  Claim7.holds p (.plain s) {stood:={row:=c,standIns:=[],harness:=har,looks:=lk},kinds:=[],alts:=al,goes:=true,laidByText:=true,laidKinds:=kinds,laidTests:=afE,laidLooks:=Lk}:=by
 have h6:∀r:OpenClaim,Claim7.isSixth {stood:={row:=r,standIns:=[],harness:=har,looks:=lk},kinds:=[]}=false:=fun r=>by simpa[Claim7.isSixth]using hn
 refine⟨Claim7.tied_new_at Lk kinds afE (Claim7.new_of_sixth hc har lk fP Eo hm (h6 c) hl) hw,fun D hD=>?_,ayL,(fun h=>by cases h),hg⟩;exact Claim7.tied_new_at Lk kinds afE (Claim7.new_of_sixth (Y0 D hD) har lk fP Eo hm (h6 _) hl) (ayK D hD)

end Go.jc
