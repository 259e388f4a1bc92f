/- Short forms for walks: results, calls of functions that only answer. Conditions: none; over any program. (And 5 texts more.) -/
import Derived.Test.YtjohlemgkcpoeaaGreatDoorR06
import Derived.Test.YtjohlemgkcpoeaaGreatDoorProg
import Derived.Test.YtjohlemgkcpoeaaGreatDoorR02
import Derived.KernelRfl
set_option linter.unusedVariables false
set_option linter.unusedSimpArgs false
set_option linter.unusedSectionVars false
set_option maxRecDepth 100000
set_option maxHeartbeats 4000000

open Go.Proofs.Tryz
namespace Go.jc
def ada(ρ:Env):List ResultVar->Option (List Value)
 | []=>some []
 | .tmp t::r=>match look ρ t,ada ρ r with
  | some v,some vs=>some (v::vs)
  | _,_=>none
 | .cell _ _::_=>none
theorem aeQ{P:Program}{h:Hp}{F:ah}{ρ:Env}:∀{rs:List ResultVar} {vs:List Value},ada ρ rs=some vs->yX P h F rs ρ vs
 | [],vs,e=>by simp only[ada,dY]at e;exact e.symm
 | .tmp t::r,vs,e=>by
  simp only[ada]at e;split at e
  ·rename_i v vs' h1 h2
   cases e
   exact⟨v,vs',O,h1,aeQ h2⟩
  cases e
 | .cell _ _::_,vs,e=>by cases e

abbrev Pu(P:Program)(main:aN)(f:FuncId)(args:Array Value)(h:Hp)(u:Value):Prop:=bG P main f args h [] (fun v A=>v=u/\eH A)

variable{A:ah}{E b wO cap d' fuel i j listed m s t:Nat}{R R':Value->ah->Prop}{U:Obj->ah}{a:Option Addr}{c zc:Array Value}{fz:Nat×Nat}{h:Hp}{hi y:Operand}{k:IntKind}{o:Oper}{u v z:Value}{vs:List Value}{α σ τ:Type}{p:α}
section
variable{P:Program}{main:aN}{fn:Func}{h:Hp}{R:Value->ah->Prop}{e:Exit}{ρ:Env}{F:ah}{ds:List Deferred}
theorem iQ(hR:R (pack vs) F)(he:e= .ret\/e= .normal:=by first | exact .inl rfl | exact .inr rfl)(hv:ada ρ fn.results.toList=some vs:=by rfl):leave P main fn h R e ρ [] F:=
 ZV he (by simp) (aeQ hv) hR
theorem lQ(hu:pack vs=u)(he:e= .ret\/e= .normal:=by first | exact .inl rfl | exact .inr rfl)(hv:ada ρ fn.results.toList=some vs:=by rfl)(hs:eH F:=by repeat(first | exact eH.nil | assumption | refine eH.cons rfl ?_ | refine eH.app ?_ ?_)):leave P main fn h (fun v A=>v=u/\eH A) e ρ [] F:=
 iQ ⟨hu,hs⟩ he hv

theorem WC.marked{d:Nat}{K:ah->Prop}(hl:At d (.deferred (some [])) F U)(H:WC P main h ds (U (.deferred none)) K):WC P main h (mark d::ds) F K:=by
 obtain⟨F1,F2,e1,e2⟩:=hl.split;show tr P h (Instr.takeDeferred d) F fun l F'=>l=[]/\WC P main h ds F' K;simp only[Instr.takeDeferred,bind_eq,au];refine⟨.deferred (some []),.inr (e1▸by simp),(fun _ _ _=>by simp),O,?_⟩;refine⟨.deferred (some []),F1,F2,e1,(fun _ _ _=>by simp),O,O,?_⟩;rw[e2]at H;exact H
theorem lvm{d:Nat}(H:leave P main fn h R e ρ ds (U (.deferred none)))(hl:At d (.deferred (some [])) F U:=by repeat(first | exact At.head | apply At.tail | apply At.app)):leave P main fn h R e ρ (mark d::ds) F:=
 ⟨H.1,WC.marked hl H.2⟩
end
section
variable{x:Cx}{Q:fO}{ρ:Env}{ds:List Deferred}{F:ah}{ops:Array Oper}{i:Nat}{rest:List Nat}{d:Tmp}{ty:TypeId}{pos:String}{bW:Array Edge}{g:Option (Nat×Bool)}{L:ah}
variable{f:FuncId}{args:List Operand}{ts:Array TypeId}{vs:List Value}
theorem cp(H:∀h',Ext x.h h'->je F h'->Pu x.P x.main f vs.toArray h' u)(K:aA x ops rest Q ((d,u)::ρ) ds F)(ho:dS ops.toList i=some ⟨some d,.call ⟨.value (.func f),args.toArray,ts⟩,ty,pos,bW,g⟩:=by rfl)[FB x.P f](hv:jv ρ args=some vs:=by rfl)
  (hw:gY ops ρ ⟨some d,.call ⟨.value (.func f),args.toArray,ts⟩,ty,pos,bW,g⟩:=by first | exact wn | exact aI rfl rfl rfl) (hd:Nat.blt d x.n=true:=by rfl):aA x ops (i::rest) Q ρ ds F:=
 aA.Ql (o:=⟨some d,.call ⟨.value (.func f),args.toArray,ts⟩,ty,pos,bW,g⟩) (oL O hv H fun v A' hv=>by
  obtain⟨rfl,hs⟩:=hv;exact aA.sb (Sb.left .refl hs) K) (aK ho) hw hd O
theorem c0(H:∀h',Ext x.h h'->je F h'->bG x.P x.main f vs.toArray h' [] R')(K:∀v A',R' v A'->aA x ops rest Q ((d,v)::ρ) ds (A'++F))(ho:dS ops.toList i=some ⟨some d,.call ⟨.value (.func f),args.toArray,ts⟩,ty,pos,bW,g⟩:=by rfl)[FB x.P f](hv:jv ρ args=some vs:=by rfl)
  (hw:gY ops ρ ⟨some d,.call ⟨.value (.func f),args.toArray,ts⟩,ty,pos,bW,g⟩:=by first | exact wn | exact aI rfl rfl rfl) (hd:Nat.blt d x.n=true:=by rfl):aA x ops (i::rest) Q ρ ds F:=
 aA.Ql (o:=⟨some d,.call ⟨.value (.func f),args.toArray,ts⟩,ty,pos,bW,g⟩) (oL O hv H fun v A' hv=>K v A' hv) (aK ho) hw hd O
theorem cg{U:ah->ah}(hs:L8 A F U)(H:∀h',Ext x.h h'->je (U []) h'->bG x.P x.main f vs.toArray h' A R')(K:∀v A',R' v A'->aA x ops rest Q ((d,v)::ρ) ds (U A'))(ho:dS ops.toList i=some ⟨some d,.call ⟨.value (.func f),args.toArray,ts⟩,ty,pos,bW,g⟩:=by rfl)[FB x.P f](hv:jv ρ args=some vs:=by rfl)
  (hw:gY ops ρ ⟨some d,.call ⟨.value (.func f),args.toArray,ts⟩,ty,pos,bW,g⟩:=by first | exact wn | exact aI rfl rfl rfl) (hd:Nat.blt d x.n=true:=by rfl):aA x ops (i::rest) Q ρ ds F:=
 aA.Ql (o:=⟨some d,.call ⟨.value (.func f),args.toArray,ts⟩,ty,pos,bW,g⟩) (gq O hv hs H fun v A' hv=>K v A' hv) (aK ho) hw hd O
end
section
variable{x:Cx}{Q:fO}{ρ:Env}{ds:List Deferred}{F:ah}{ops:Array Oper}{i:Nat}{rest:List Nat}{d:Tmp}{op:Op}{ty:TypeId}{pos:String}{bW:Array Edge}{g:Option (Nat×Bool)}{L:ah}
theorem Ky{d:Nat}(h:look ρ d=some v):look ((d,v)::ρ)=look ρ:=by
 funext t;show(bif Nat.beq t d then some v else look ρ t)=look ρ t
 cases e:Nat.beq t d with
 | true=>rw[Nat.eq_of_beq_eq_true e,h];rfl
 | false=>rfl
theorem Any.ask{p:Prop}[Decidable p](ht:p->Any x ops L fuel listed Q ((d',.bool true)::ρ) ds F)(hf:¬p->Any x ops L fuel listed Q ((d',.bool false)::ρ) ds F)(hv:look ρ d'=some (.bool (decide p)):=by rfl):Any x ops L fuel listed Q ρ ds F:=by
 by_cases hp:p
 ·have:=ht hp;have e:look ρ d'=some (.bool true):=by rw[hv];simp[hp]
  unfold Any at this⊢;rwa[Ky e]at this
 have:=hf hp;have e:look ρ d'=some (.bool false):=by rw[hv];simp[hp]
 unfold Any at this⊢;rwa[Ky e]at this
theorem aA.aiL{w b:Bool}{D:Option Tmp}(ht:b=true->aA x ops (i::rest) Q ((d',.bool true)::ρ) ds F)(hf:b=false->aA x ops (i::rest) Q ((d',.bool false)::ρ) ds F)(ho:dS ops.toList i=some ⟨D,op,ty,pos,bW,some (j,w)⟩:=by rfl)(hj:(dS ops.toList j).bind (·.dst)=some d':=by rfl)(hv:look ρ d'=some (.bool b):=by rfl):aA x ops (i::rest) Q ρ ds F:=by
 have key:∀u:Bool,b=u->aA x ops (i::rest) Q ((d',.bool u)::ρ) ds F->aA x ops (i::rest) Q ρ ds F:=by
  intro u hu H b' k cs Stop tmps hk M h1 h0 h2 h3 h4 h5 hc;refine H b' k cs Stop tmps hk M h1 h0 h2 (fun t y hy=>?_) h4 h5 hc;rw[Ky (hu▸hv)]at hy;exact h3 t y hy
 cases b with
 | true=>exact key true rfl (ht rfl)
 | false=>exact key false rfl (hf rfl)
variable{f:FuncId}{args:List Operand}{ts:Array TypeId}{vs:List Value}
theorem acp(H:∀h',Ext x.h h'->je F h'->Pu x.P x.main f vs.toArray h' u)(K:Any x ops L fuel (listed||| 2 ^ i) Q ((d,u)::ρ) ds F)(hS:lastT ops i=true\/aC L F:=by first | exact .inr (by repeat(first | exact fun _ h=>h | apply aC.cons | apply aC.app)) | exact .inl aB)
  (ho:dS ops.toList i=some ⟨some d,.call ⟨.value (.func f),args.toArray,ts⟩,ty,pos,bW,g⟩:=by rfl) [FB x.P f] (hv:jv ρ args=some vs:=by rfl)
  (hw:iM ops (look ρ) ⟨some d,.call ⟨.value (.func f),args.toArray,ts⟩,ty,pos,bW,g⟩ true:=by first | exact an | exact bD rfl rfl rfl rfl) (hd:Nat.blt d x.n=true:=by rfl) (hr:rH ops listed=[i]:=by kernel_rfl):Any x ops L (fuel+1) listed Q ρ ds F:=
 Any.Ql (o:=⟨some d,.call ⟨.value (.func f),args.toArray,ts⟩,ty,pos,bW,g⟩) (oL O hv H fun v A' hv=>by
  obtain⟨rfl,hs⟩:=hv;exact⟨hS.imp id fun k p hp=>bZ _ (k p hp),Any.sb (Sb.left .refl hs) K⟩) hr (aK ho) hw hd O
end
section
variable{x:Cx}{Q Q':fO}{ρ:Env}{ds:List Deferred}{F:ah}
theorem aaG{K K':Env->List Deferred->ah->Prop}{e:Exit}{ρ:Env}{ds:List Deferred}{F:ah}(h:thn K Q e ρ ds F)(hk:∀ρ ds F,K ρ ds F->K' ρ ds F):thn K' Q e ρ ds F:=by
 cases e <;>first | exact hk _ _ _ h | exact h
theorem W.anV{c:Code}(C:σ->τ->Prop)(E:σ->τ->Env)(D:σ->τ->ah)(μ:σ->τ->Nat)(l7:σ)(Tz:τ)(X8:C l7 Tz)(he:Sub (E l7 Tz) ρ)(hF:Sb (D l7 Tz) F)
  (round:∀s t,C s t->W x c (thn (fun gW iT F'=>iT=ds/\∃s' t',C s' t'/\μ s' t'<μ s t/\Sub (E s' t') gW/\Sb (D s' t') F') Q) (E s t) ds (D s t)):W x (.loop c) Q ρ ds F:=
 W.loop (σ:=σ×τ) (fun p=>C p.1 p.2) (fun p=>E p.1 p.2) (fun p=>D p.1 p.2) (fun p=>μ p.1 p.2) (l7,Tz) X8 he hF fun p h=>(round p.1 p.2 h).mono fun _ _ _ _ q=>aaG q fun _ _ _ ⟨e,s',t',h1⟩=>⟨e,(s',t'),h1⟩
theorem W.uq{υ:Type}{c:Code}(C:σ->τ->υ->Prop)(E:σ->τ->υ->Env)(D:σ->τ->υ->ah)(μ:σ->τ->υ->Nat)(l7:σ)(Tz:τ)(alH:υ)(X8:C l7 Tz alH)(he:Sub (E l7 Tz alH) ρ)(hF:Sb (D l7 Tz alH) F)
  (round:∀s t u,C s t u->W x c (thn (fun gW iT F'=>iT=ds/\∃s' t' u',C s' t' u'/\μ s' t' u'<μ s t u/\Sub (E s' t' u') gW/\Sb (D s' t' u') F') Q) (E s t u) ds (D s t u)):W x (.loop c) Q ρ ds F:=
 W.loop (σ:=σ×τ×υ) (fun p=>C p.1 p.2.1 p.2.2) (fun p=>E p.1 p.2.1 p.2.2) (fun p=>D p.1 p.2.1 p.2.2) (fun p=>μ p.1 p.2.1 p.2.2) (l7,Tz,alH) X8 he hF fun p h=>(round p.1 p.2.1 p.2.2 h).mono fun _ _ _ _ q=>aaG q fun _ _ _ ⟨e,s',t',u',h1⟩=>⟨e,(s',t',u'),h1⟩
end
theorem Part.TM{row:α->List Value}{w:Nat}[Rw row w]{off:Nat}{l:List α}(h:Part c off (flat row l))(hi:l[i]? =some p)(k:Nat)(hk:k<w):c[off+i*w+k]? =(row p)[k]? :=
 (h.wS hi).get (by rw[Rw.len];exact hk)

theorem Sl.at{row:α->List Value}{w:Nat}[Rw row w]{n:Nat}{l:List α}(H:Sl h row (.slice a n cap) l)(hi:l[i]? =some p):
  ∃b off c E fz,a=some ⟨b,off,none⟩/\h b=some (.cells c E fz)/\c.extract (off+i*w) (off+i*w+w)=(row p).toArray/\off+i*w+w<=c.size/\∀k,k<w->c[off+i*w+k]? =(row p)[k]? :=by
 have iK:l≠[]:=by rintro rfl;simp at hi
 obtain⟨a',f_,e,hx⟩:=H
 cases e
 obtain⟨b,off,c,E,fz,rfl,hb,hp⟩:=hx iK;obtain⟨h1,h2⟩:=hp.afN hi;exact⟨b,off,c,E,fz,O,hb,h1,h2,fun k hk=>hp.TM hi k hk⟩
theorem has{l:List α}(h:i<l.length):∃p,l[i]? =some p/\l.drop i=p::l.drop (i+1):=⟨l[i],jh h,(List.getElem_cons_drop ..).symm⟩
theorem Sl.aU{row:α->List Value}{w:Nat}[Rw row w]{l:List α}(H:Sl h row v l):∃a cap,v= .slice a l.length cap:=by
 obtain⟨a,cap,e,_⟩:=H;exact⟨a,cap,e⟩

theorem qE{B:ah}(h:Sb A B:=by repeat(first | exact Sb.refl | apply Sb.cons | refine Sb.skip rfl ?_ | exact Sb.nil (by assumption))):Sb A B:=h
section rules
variable{x:Cx}{Q:fO}{ρ:Env}{ds:List Deferred}{F:ah}{ops:Array Oper}{S:ah->Prop}{i:Nat}{rest:List Nat}{o:Oper}{v:Value}{R:Value->ah->Prop}
theorem TN{n:Nat}{off:Nat}(ho:o.op= .slice t y none none none)[TD x.P t (.array n E)][TI x.P E s wO z zc](hy:ev ρ y=some (.pointer (some ⟨b,off,none⟩))):Yv x S ρ o (.slice (some ⟨b,off,none⟩) n n):=fun e he F hF h' hE=>by
 simp only[execOp,ho,he y _ hy,Instr.sliceAt,Instr.sureAddr,Instr.sliceBounds,bind_eq,au,bind_assoc,bind_pure,Option.map_none,aF,fF,Nat.zero_mul,kF,Nat.add_zero,ite_self,Nat.sub_zero];exact⟨O,O⟩
theorem Et{n:Nat}{off:Nat}(ho:o.op= .slice t y none (some hi) none)[TD x.P t (.array n E)][TI x.P E s wO z zc](hy:ev ρ y=some (.pointer (some ⟨b,off,none⟩)))(hh:ev ρ hi=some (.int k (m:Int)))(hm:m<=n:=by omega):Yv x S ρ o (.slice (some ⟨b,off,none⟩) m n):=fun e he F hF h' hE=>by
 have e1:(0:Int)<=m/\(m:Int)<=n:=by omega
 simp only[execOp,ho,he y _ hy,he hi _ hh,Instr.sliceAt,Instr.sureAddr,Instr.sliceBounds,Instr.sliceBound,asIntOf,bind_eq,au,bind_assoc,bind_pure,Option.map_none,Option.map_some,aF,fF,if_pos e1,Int.toNat_natCast,Nat.zero_mul,kF,Nat.add_zero,ite_self,Nat.sub_zero];exact⟨O,O⟩
theorem WU{l:Nat}(ho:o.op= .slice t y none (some hi) none)[TD x.P t (.slice E)][TI x.P E s wO z zc](hy:ev ρ y=some (.slice a l cap))(hh:ev ρ hi=some (.int k (m:Int)))(ha:a.map (·.spot)=some none\/a=none)(hm:m<=cap:=by omega):Yv x S ρ o (.slice a m cap):=fun e he F hF h' hE=>by
 have e1:(0:Int)<=m/\(m:Int)<=cap:=by omega
 have e2:a.map (·.add (0*s))=a:=by
  rcases ha with ha | rfl
  ·cases a with
   | none=>cases ha
   | some a=>simp at ha;simp[kF ha,<-ha]
  rfl
 simp only[execOp,ho,he y _ hy,he hi _ hh,Instr.sliceAt,Instr.slice,Instr.sliceBounds,Instr.sliceBound,asIntOf,bind_eq,au,bind_assoc,bind_pure,Option.map_none,Option.map_some,aF,fF,if_pos e1,Int.toNat_natCast,e2,ite_self,Nat.sub_zero];exact⟨O,O⟩
theorem aiM{n s' b':Nat}{z':Value}{zc':Array Value}(ho:o.op= .build t #[])[TD x.P t (.array n E)][TI x.P t s b z zc][TI x.P E s' b' z' zc']:Yv x S ρ o (.agg zc):=fun e he F hF h' hE=>by
 obtain⟨j,_,_,_,_,hz⟩:=TI.out (inferInstance:TI x.P t s b z zc);simp only[execOp,ho,Instr.build,bind_eq,au,bind_assoc,bind_pure,jQ,aF,fF,hz,List.map_toArray,List.map_nil,Instr.fill];exact⟨O,O⟩

theorem adb{row:α->List Value}{w:Nat}[Rw row w]{t':Nat}{yx:Operand}{xv:Value}{off n:Nat}{C:TypeId}{l:List α}(ho:o.op= .call ⟨.builtin .copy, #[y,yx], #[t,t']⟩)[TD x.P t (.slice E)][TI x.P E w wO z zc]
  (hy:ev ρ y=some (.slice (some ⟨b,off,none⟩) n cap)) (hx:ev ρ yx=some xv) (hs:Sl x.h row xv l) (hle:l.length<=n) (hl:At b (.cells c C (0,0)) F U) (hc:off+l.length*w<=c.size)
  (H:R (.int .i64 l.length) (U (.cells (gQ c off (flat row l)) C (0,0)))):Ef x ρ o F R:=
 Ef.uY fun e he h' hE=>by
  have xK:=Sl.ext hE hs;obtain⟨a,cp,rfl⟩:=hs.aU;have asZ:Nat.min l.length n=l.length:=Nat.min_eq_left hle;simp only[execOp,ho,resolve,invoke,builtin,Builtin.copy_,List.map_toArray,dQ,List.map_nil,he y _ hy,he yx _ hx,List.getElem?_toArray,List.getElem?_cons_zero,List.getElem?_cons_succ,bind_eq,au,bind_assoc,bind_pure,aF,Builtin.lenOf,fF,asZ];refine cu (GV xK ?_);refine cu (l9 (flat row l) 0 c (sH l) hl (by rw[gU];omega) ?_);exact⟨_,.inl O,by simpa[goInt]using H⟩
end rules
theorem Ef.YH{x:Cx}{ρ:Env}{F:ah}(hy:Yv x (· =F) ρ o v)(H:R v F):Ef x ρ o F R:=fun e he=>
 ⟨F,[],by simp,fun h' e1 e2=>qg (hy e he F O h' e1) fun nx F' ⟨h1,h2⟩=>by
  subst h1 h2;exact⟨F',by simp,H⟩⟩

section
variable{x:Cx}{Q:fO}{ρ:Env}{ds:List Deferred}{F:ah}{ops:Array Oper}{i:Nat}{rest:List Nat}{d:Tmp}{ty:TypeId}{pos:String}{bW:Array Edge}{g:Option (Nat×Bool)}{L:ah}
variable{args:List Operand}{ts:Array TypeId}{vs:List Value}{y:Operand}{fv u:Value}
abbrev PuV(P:Program)(main:aN)(fv:Value)(vs:List Value)(h:Hp)(u:Value):Prop:=gG P main fv vs h [] (fun v A=>v=u/\eH A)
theorem aiN(ho:o.op= .call ⟨.value y,args.toArray,ts⟩)(hy:ev ρ y=some fv)(hv:jv ρ args=some vs)(H:∀h',Ext x.h h'->je F h'->PuV x.P x.main fv vs h' u)(K:∀A,eH A->R u (A++F)):Ef x ρ o F R:=
 AL ho hy hv (L8.head (A:=[]) (G:=F)) H fun v A' hv=>by
  obtain⟨rfl,hs⟩:=hv;exact K A' hs
theorem cv(H:∀h',Ext x.h h'->je F h'->PuV x.P x.main fv vs h' u)(K:aA x ops rest Q ((d,u)::ρ) ds F)(ho:dS ops.toList i=some ⟨some d,.call ⟨.value y,args.toArray,ts⟩,ty,pos,bW,g⟩:=by rfl)(hy:ev ρ y=some fv:=by rfl)(hv:jv ρ args=some vs:=by rfl)
  (hw:gY ops ρ ⟨some d,.call ⟨.value y,args.toArray,ts⟩,ty,pos,bW,g⟩:=by first | exact wn | exact aI rfl rfl rfl) (hd:Nat.blt d x.n=true:=by rfl):aA x ops (i::rest) Q ρ ds F:=
 aA.Ql (o:=⟨some d,.call ⟨.value y,args.toArray,ts⟩,ty,pos,bW,g⟩) (aiN O hy hv H fun A hs=>aA.sb (Sb.left .refl hs) K) (aK ho) hw hd O
theorem aA.noU{op:Op}{w:Bool}(H:aA x ops rest Q ((d,undef)::ρ) ds F)(ho:dS ops.toList i=some ⟨some d,op,ty,pos,bW,some (j,w)⟩:=by rfl)(hj:(dS ops.toList j).bind (·.dst)=some d':=by rfl)(hv:look ρ d'=some undef:=by rfl)(hd:Nat.blt d x.n=true:=by rfl):aA x ops (i::rest) Q ρ ds F:=by
 intro b k cs Stop tmps hk M h1 h0 h2 h3 h4 h5 hc;have hj':(ops[j]?).bind (·.dst)=some d':=by rw[IL]at hj;simpa using hj
 have hw:Region.wanted ⟨some d,op,ty,pos,bW,some (j,w)⟩ (yielded ops tmps)=false:=by
  simp only[Region.wanted,yielded,hj',Option.bind_some,h3 d' _ hv]
  rfl
 obtain⟨p1,p2⟩:=h3.Jg (o:=⟨some d,op,ty,pos,bW,some (j,w)⟩) h4 hd undef;refine .idle O (fun _=>Ar (aK ho) hw) ?_;rw[fQ (cs:=cs) (aK ho) undef];exact H b k cs Stop _ _ _ h1 h0 h2 p1 p2 h5 hc
theorem aA.zZ{len:Nat}{parts:List (Nat×Operand)}{cs:Array Value}(H:∀β,aA x ops rest Q ((d,.slice (some ⟨β,0,none⟩) len len)::ρ) ds ((β,.cells cs E (0,0))::F))(ho:dS ops.toList i=some ⟨some d,.buildSlice t len parts.toArray,ty,pos,bW,g⟩:=by rfl)[TD x.P t (.slice E)][TI x.P E s b z zc](hv:jv ρ (parts.map (·.2))=some vs:=by rfl)(hls:0<len*s:=by decide)(hl:len*s<=2 ^ 24:=by decide)
  (hf:Instr.fill (fun i=>some (i*s,s)) ((List.range (len*s)).map (fun i=>zc[i % zc.size]!)).toArray ((parts.map (·.1)).zip vs)=some cs:=by rfl)
  (hw:gY ops ρ ⟨some d,.buildSlice t len parts.toArray,ty,pos,bW,g⟩:=by first | exact wn | exact aI rfl rfl rfl) (hd:Nat.blt d x.n=true:=by rfl):aA x ops (i::rest) Q ρ ds F:=
 aA.Ql (o:=⟨some d,.buildSlice t len parts.toArray,ty,pos,bW,g⟩) (Ea O hv hls hl (by rw[show(Array.range (len*s)).map (zc[· % zc.size]!)=((List.range (len*s)).map (fun i=>zc[i % zc.size]!)).toArray by apply Array.ext';simp];exact hf) fun β _ _=>H β) (aK ho) hw hd O
theorem aA.alJ(H:∀β,aA x ops rest Q ((d,.slice (some ⟨β,0,none⟩) 0 0)::ρ) ds ((β,.cells #[] E (0,0))::F))(ho:dS ops.toList i=some ⟨some d,.buildSlice t 0 #[],ty,pos,bW,g⟩:=by rfl)[TD x.P t (.slice E)][TI x.P E s b z zc]
  (hw:gY ops ρ ⟨some d,.buildSlice t 0 #[],ty,pos,bW,g⟩:=by first | exact wn | exact aI rfl rfl rfl) (hd:Nat.blt d x.n=true:=by rfl):aA x ops (i::rest) Q ρ ds F:=
 aA.Ql (o:=⟨some d,.buildSlice t 0 #[],ty,pos,bW,g⟩) (Vq O fun β _ _=>H β) (aK ho) hw hd O
theorem cgv{U:ah->ah}(hs:L8 A F U)(H:∀h',Ext x.h h'->je (U []) h'->gG x.P x.main fv vs h' A R')(K:∀v A',R' v A'->aA x ops rest Q ((d,v)::ρ) ds (U A'))(ho:dS ops.toList i=some ⟨some d,.call ⟨.value y,args.toArray,ts⟩,ty,pos,bW,g⟩:=by rfl)(hy:ev ρ y=some fv:=by rfl)(hv:jv ρ args=some vs:=by rfl)
  (hw:gY ops ρ ⟨some d,.call ⟨.value y,args.toArray,ts⟩,ty,pos,bW,g⟩:=by first | exact wn | exact aI rfl rfl rfl) (hd:Nat.blt d x.n=true:=by rfl):aA x ops (i::rest) Q ρ ds F:=
 aA.Ql (o:=⟨some d,.call ⟨.value y,args.toArray,ts⟩,ty,pos,bW,g⟩) (AL O hy hv hs H fun v A' r=>K v A' r) (aK ho) hw hd O
theorem apz:L8 A (A++[]) (· ++[]):=L8.head
theorem cga{f:FuncId}(H:∀h',Ext x.h h'->bG x.P x.main f vs.toArray h' F R')(K:∀v A',R' v A'->aA x ops rest Q ((d,v)::ρ) ds A')(ho:dS ops.toList i=some ⟨some d,.call ⟨.value (.func f),args.toArray,ts⟩,ty,pos,bW,g⟩:=by rfl)[FB x.P f](hv:jv ρ args=some vs:=by rfl)
  (hw:gY ops ρ ⟨some d,.call ⟨.value (.func f),args.toArray,ts⟩,ty,pos,bW,g⟩:=by first | exact wn | exact aI rfl rfl rfl) (hd:Nat.blt d x.n=true:=by rfl):aA x ops (i::rest) Q ρ ds F:=
 aA.perm (F':=F++[]) (by simp) (cg apz (fun h' e _=>H h' e) (fun v A' r=>aA.perm (F':=A') (by simp) (K v A' r)) ho hv hw hd)
theorem a2{i d:Nat}{op JM:Op}{ty':TypeId}{pos':String}{Kz:Array Edge}{g':Option (Nat×Bool)}{w:Value}(ho:dS ops.toList i=some ⟨some d,op,ty,pos,bW,g⟩)(mM:dS ops.toList j=some ⟨some d',JM,ty',pos',Kz,g'⟩)
  (hy:Yv x (· =F) ρ ⟨some d,op,ty,pos,bW,g⟩ v) (hy2:Yv x (· =F) ((d',w)::ρ) ⟨some d,op,ty,pos,bW,g⟩ v) (hy':Yv x (· =F) ρ ⟨some d',JM,ty',pos',Kz,g'⟩ w) (apB:Yv x (· =F) ((d,v)::ρ) ⟨some d',JM,ty',pos',Kz,g'⟩ w)
  (hw:iM ops (look ρ) ⟨some d,op,ty,pos,bW,g⟩ true) (hw2:iM ops (look ((d',w)::ρ)) ⟨some d,op,ty,pos,bW,g⟩ true) (hw':iM ops (look ρ) ⟨some d',JM,ty',pos',Kz,g'⟩ true) (apD:iM ops (look ((d,v)::ρ)) ⟨some d',JM,ty',pos',Kz,g'⟩ true)
  (hd:Nat.blt d x.n=true) (IK:Nat.blt d' x.n=true) (hn:fB op=true) (GN:fB JM=true)
  (H:Any x ops [] fuel ((listed||| 2 ^ i)||| 2 ^ j) Q ((d',w)::(d,v)::ρ) ds F) (iK:Nat.beq d d'=false:=by rfl)
  (hr:rH ops listed=[i,j]:=by kernel_rfl) (TP:rH ops (listed||| 2 ^ i)=[j]:=by kernel_rfl) (hr2:rH ops (listed||| 2 ^ j)=[i]:=by kernel_rfl):Any x ops [] (fuel+2) listed Q ρ ds F:=by
 have hk:∀F:ah,aC [] F:=fun _ p hp=>by cases hp
 refine Any.Vp (o:=⟨some d,op,ty,pos,bW,g⟩) (o':=⟨some d',JM,ty',pos',Kz,g'⟩) hr (aK ho) (aK mM) hw hw' hd IK hn GN (Ef.YH hy ⟨.inr (hk _),?_⟩) (Ef.YH hy' ⟨.inr (hk _),?_⟩)
 ·exact Any.Ql (o:=⟨some d',JM,ty',pos',Kz,g'⟩) (Ef.YH apB ⟨.inr (hk _),H⟩) TP (aK mM) apD IK GN
 refine Any.Ql (o:=⟨some d,op,ty,pos,bW,g⟩) (Ef.YH hy2 ⟨.inr (hk _),?_⟩) hr2 (aK ho) hw2 hd hn;have e1:(listed||| 2 ^ j)||| 2 ^ i=(listed||| 2 ^ i)||| 2 ^ j:=by rw[Nat.or_assoc,Nat.or_comm (2 ^ j),<-Nat.or_assoc]
 have e2:look ((d,v)::(d',w)::ρ)=look ((d',w)::(d,v)::ρ):=by
  funext t;show(bif Nat.beq t d then some v else bif Nat.beq t d' then some w else look ρ t)=(bif Nat.beq t d' then some w else bif Nat.beq t d then some v else look ρ t)
  cases h1:Nat.beq t d with
  | false=>rfl
  | true=>
   have:t=d:=Nat.eq_of_beq_eq_true h1;subst this;rw[iK];rfl
 rw[e1];unfold Any at H⊢;show J7 _ _ _ _ _ _ (look ((d,v)::(d',w)::ρ)) _;rw[e2];exact H
end
section
variable{P:Program}{h:Hp}{F:ah}{ρ:Env}{r:List ResultVar}{vs:List Value}
theorem nM:yX P h F [] ρ []:=rfl
theorem adf{t:Tmp}(H:yX P h F r ρ vs)(hv:look ρ t=some v:=by rfl):yX P h F (.tmp t::r) ρ (v::vs):=⟨v,vs,O,hv,H⟩
theorem qU{a:Tmp}{n:Nat}{E:TypeId}(H:yX P h F r ρ vs)[i:AG P t n](ha:look ρ a=some (.pointer (some ⟨b,0,none⟩)):=by rfl)(hl:(b,Obj.cells c E fz)∈F:=by repeat(first | exact List.Mem.head _ | apply List.Mem.tail))(hn:c.size=n:=by first | rfl | assumption):yX P h F (.cell a t::r) ρ (.agg c::vs):=
 ⟨_,vs,b,0,c,E,fz,O,ha,.inr hl,.inr ⟨n,i,aj,by congr 1;apply Array.ext';simp[<-hn]⟩,H⟩
theorem rSc{a:Tmp}{E:TypeId}(H:yX P h F r ρ vs)[i:SC P t](ha:look ρ a=some (.pointer (some ⟨b,0,none⟩)):=by rfl)(hl:(b,Obj.cells c E fz)∈F:=by repeat(first | exact List.Mem.head _ | apply List.Mem.tail))(hv:c[0]? =some v:=by first | rfl | assumption):yX P h F (.cell a t::r) ρ (v::vs):=
 ⟨v,vs,b,0,c,E,fz,O,ha,.inr hl,.inl ⟨i,hv⟩,H⟩
variable{main:aN}{fn:Func}{R:Value->ah->Prop}{e:Exit}
theorem AY(hR:R (pack vs) F)(he:e= .ret\/e= .normal:=by first | exact .inl rfl | exact .inr rfl)(hv:yX P h F fn.results.toList ρ vs:=by(repeat(first | exact nM | refine adf ?_ | refine qU ?_ | refine rSc ?_))):leave P main fn h R e ρ [] F:=
 ZV he (by simp) hv hR
end
abbrev I(n:Int):Value:=.int .i64 n
structure Fl where
 (pl lo hi co:Int)
 deriving DecidableEq
structure St where
 (day co wa:Int)
 deriving DecidableEq
structure Be where
 (fl day:Int)
 deriving DecidableEq
def Fl.row(f:Fl):List Value:=[I f.pl,I f.lo,I f.hi,I f.co]
def St.row(f:St):List Value:=[I f.day,I f.co,I f.wa]
def Be.row(f:Be):List Value:=[I f.fl,I f.day]
abbrev Fl.val(f:Fl):Value:=.agg #[I f.pl,I f.lo,I f.hi,I f.co]
abbrev St.val(f:St):Value:=.agg #[I f.day,I f.co,I f.wa]
abbrev Be.val(f:Be):Value:=.agg #[I f.fl,I f.day]
instance:Rw Fl.row 4:=⟨fun _=>rfl,fun _=>rfl⟩
instance:Rw St.row 3:=⟨fun _=>rfl,fun _=>rfl⟩
instance:Rw Be.row 2:=⟨fun _=>rfl,fun _=>rfl⟩

def outs(n lo hi:Int):Prop:=n<lo\/hi<n
instance{n lo hi:Int}:Decidable (outs n lo hi):=inferInstanceAs (Decidable (_\/_))

def lu(f:Fl):Int:=
 if outs f.pl 1 9\/outs f.lo 1 6\/outs f.hi 1 6 then 1 else if f.hi<f.lo then 5 else if outs f.co 0 9 then 1 else 0
def kV:List Fl->Int
 | []=>0
 | f::r=>if lu f=0 then kV r else lu f
def kW(before:Int)(s:St):Int:=if outs s.day 0 12\/outs s.co 1 6\/outs s.wa 0 3 then 1 else if s.day<before then 5 else 0
def g_:Int->List St->Int
 | _,[]=>0
 | b,s::r=>if kW b s=0 then g_ s.day r else kW b s
def dU(fs:List Fl)(ss:List St):Int:=
 if fs.length=0 then 7 else if 2<fs.length then 6 else if kV fs≠0 then kV fs else if 4<ss.length then 6 else g_ 0 ss

abbrev jI(p:List Be):Value:=.agg (flat Be.row p).toArray
def fZ:Be:=⟨-1,0⟩
def oC(l:List Be):List Be:=l++List.replicate (4-l.length) fZ
theorem TQ{l:List Be}(h:l.length<=4):(oC l).length=4:=by simp[oC];omega
def Hl(k:Nat):Array Value:=(flat Be.row (List.replicate k ⟨-1,0⟩++List.replicate (4-k) ⟨0,0⟩)).toArray
theorem af_{l:List Be}(h:l.length<=4):gQ (Hl 4) 0 (flat Be.row l)=(flat Be.row (oC l)).toArray:=by
 match l,h with
 | [],_=>simp[Hl,oC,flat,gQ,Be.row,List.replicate,fZ]
 | [a],_=>simp[Hl,oC,flat,gQ,Be.row,List.replicate,fZ]
 | [a,b],_=>simp[Hl,oC,flat,gQ,Be.row,List.replicate,fZ]
 | [a,b,c],_=>simp[Hl,oC,flat,gQ,Be.row,List.replicate,fZ]
 | [a,b,c,d],_=>simp[Hl,oC,flat,gQ,Be.row,List.replicate,fZ]
 | a::b::c::d::e::r,h=>simp at h

abbrev as2:Value:=jI [⟨0,0⟩,⟨0,0⟩,⟨0,0⟩,⟨0,0⟩]
end Go.jc

namespace Go.Proofs.YtjohlemgkcpoeaaGreatDoor
open Go Go.jc
instance:TD Tryz.prog 3 (.int .i64):=⟨underlying3⟩
instance:SC Tryz.prog 3:=⟨aB⟩
instance:TI Tryz.prog 3 1 8 (.int .i64 0) #[(.int .i64 0)]:=⟨aB,rfl⟩
instance:SC Tryz.prog 4:=⟨aB⟩
instance:TI Tryz.prog 4 1 1 (.bool false) #[(.bool false)]:=⟨aB,rfl⟩
instance:TD Tryz.prog 20 (.interface #[]):=⟨underlying20⟩
instance:TD Tryz.prog 21 (.int .i32):=⟨underlying21⟩
instance:SC Tryz.prog 21:=⟨aB⟩
instance:TD Tryz.prog 22 (.slice 3):=⟨underlying22⟩
instance:SC Tryz.prog 22:=⟨aB⟩
instance:TI Tryz.prog 22 1 24 (.slice none 0 0) #[(.slice none 0 0)]:=⟨aB,rfl⟩
instance:TD Tryz.prog 25 (.slice 140):=⟨underlying25⟩
instance:SC Tryz.prog 25:=⟨aB⟩
instance:TD Tryz.prog 26 (.slice 149):=⟨underlying26⟩
instance:SC Tryz.prog 26:=⟨aB⟩
instance:TD Tryz.prog 27 (.slice 73):=⟨underlying27⟩
instance:SC Tryz.prog 27:=⟨aB⟩
instance:TI Tryz.prog 27 1 24 (.slice none 0 0) #[(.slice none 0 0)]:=⟨aB,rfl⟩
instance:TD Tryz.prog 28 (.slice 44):=⟨underlying28⟩
instance:SC Tryz.prog 28:=⟨aB⟩
instance:TI Tryz.prog 28 1 24 (.slice none 0 0) #[(.slice none 0 0)]:=⟨aB,rfl⟩
instance:AG Tryz.prog 30 6:=⟨aB,aB⟩
instance:TI Tryz.prog 30 6 128 (.agg #[(.slice none 0 0),(.int .i64 0),(.slice none 0 0),(.slice none 0 0),(.slice none 0 0),(.slice none 0 0)]) #[(.slice none 0 0),(.int .i64 0),(.slice none 0 0),(.slice none 0 0),(.slice none 0 0),(.slice none 0 0)]:=⟨aB,rfl⟩
instance:FA Tryz.prog 30 0 0 25:=⟨0,aB⟩
instance:FA Tryz.prog 30 1 1 3:=⟨0,aB⟩
instance:FA Tryz.prog 30 2 2 26:=⟨0,aB⟩
instance:FA Tryz.prog 30 3 3 22:=⟨0,aB⟩
instance:FA Tryz.prog 30 4 4 27:=⟨0,aB⟩
instance:FA Tryz.prog 30 5 5 28:=⟨0,aB⟩
instance:BP Tryz.prog 30 [(0,1),(1,1),(2,1),(3,1),(4,1),(5,1)]:=⟨aB⟩
instance:AG Tryz.prog 35 2:=⟨aB,aB⟩
instance:TI Tryz.prog 35 2 16 (.agg #[(.int .i64 0),(.int .i64 0)]) #[(.int .i64 0),(.int .i64 0)]:=⟨aB,rfl⟩
instance:FA Tryz.prog 35 0 0 3:=⟨0,aB⟩
instance:FA Tryz.prog 35 1 1 3:=⟨0,aB⟩
instance:BP Tryz.prog 35 [(0,1),(1,1)]:=⟨aB⟩
instance:SC Tryz.prog 36:=⟨aB⟩
instance:TI Tryz.prog 36 1 8 (.int .i64 0) #[(.int .i64 0)]:=⟨aB,rfl⟩
instance:AG Tryz.prog 44 5:=⟨aB,aB⟩
instance:TI Tryz.prog 44 5 56 (.agg #[(.slice none 0 0),(.int .i64 0),(.int .i64 0),(.int .i64 0),(.int .i64 0)]) #[(.slice none 0 0),(.int .i64 0),(.int .i64 0),(.int .i64 0),(.int .i64 0)]:=⟨aB,rfl⟩
instance:FA Tryz.prog 44 0 0 22:=⟨0,aB⟩
instance:FA Tryz.prog 44 1 1 3:=⟨0,aB⟩
instance:FA Tryz.prog 44 2 2 3:=⟨0,aB⟩
instance:FA Tryz.prog 44 3 3 3:=⟨0,aB⟩
instance:FA Tryz.prog 44 4 4 3:=⟨0,aB⟩
instance:BP Tryz.prog 44 [(0,1),(1,1),(2,1),(3,1),(4,1)]:=⟨aB⟩
instance:TD Tryz.prog 49 (.slice 159):=⟨underlying49⟩
instance:SC Tryz.prog 49:=⟨aB⟩
instance:TI Tryz.prog 49 1 24 (.slice none 0 0) #[(.slice none 0 0)]:=⟨aB,rfl⟩
instance:AG Tryz.prog 51 2:=⟨aB,aB⟩
instance:TI Tryz.prog 51 2 48 (.agg #[(.slice none 0 0),(.slice none 0 0)]) #[(.slice none 0 0),(.slice none 0 0)]:=⟨aB,rfl⟩
instance:FA Tryz.prog 51 0 0 27:=⟨0,aB⟩
instance:FA Tryz.prog 51 1 1 49:=⟨0,aB⟩
instance:BP Tryz.prog 51 [(0,1),(1,1)]:=⟨aB⟩
instance:TD Tryz.prog 54 (.slice 58):=⟨underlying54⟩
instance:SC Tryz.prog 54:=⟨aB⟩
instance:AG Tryz.prog 58 2:=⟨aB,aB⟩
instance:TI Tryz.prog 58 2 16 (.agg #[(.int .i64 0),(.int .i64 0)]) #[(.int .i64 0),(.int .i64 0)]:=⟨aB,rfl⟩
instance:FA Tryz.prog 58 0 0 3:=⟨0,aB⟩
instance:FA Tryz.prog 58 1 1 3:=⟨0,aB⟩
instance:BP Tryz.prog 58 [(0,1),(1,1)]:=⟨aB⟩
instance:TD Tryz.prog 64 (.int .u64):=⟨underlying64⟩
instance:SC Tryz.prog 64:=⟨aB⟩
instance:TI Tryz.prog 64 1 8 (.int .u64 0) #[(.int .u64 0)]:=⟨aB,rfl⟩
instance:TI Tryz.prog 66 3 40 (.agg #[(.slice none 0 0),(.int .i64 0),(.int .u64 0)]) #[(.slice none 0 0),(.int .i64 0),(.int .u64 0)]:=⟨aB,rfl⟩
instance:FA Tryz.prog 66 0 0 22:=⟨0,aB⟩
instance:FA Tryz.prog 66 1 1 3:=⟨0,aB⟩
instance:FA Tryz.prog 66 2 2 64:=⟨0,aB⟩
instance:BP Tryz.prog 66 [(0,1),(1,1),(2,1)]:=⟨aB⟩
instance:AG Tryz.prog 73 4:=⟨aB,aB⟩
instance:TI Tryz.prog 73 4 32 (.agg #[(.int .i64 0),(.int .i64 0),(.int .i64 0),(.int .i64 0)]) #[(.int .i64 0),(.int .i64 0),(.int .i64 0),(.int .i64 0)]:=⟨aB,rfl⟩
instance:FA Tryz.prog 73 0 0 3:=⟨0,aB⟩
instance:FA Tryz.prog 73 1 1 35:=⟨1,aB⟩
instance:FA Tryz.prog 73 2 3 3:=⟨0,aB⟩
instance:BP Tryz.prog 73 [(0,1),(1,2),(3,1)]:=⟨aB⟩
instance:SC Tryz.prog 80:=⟨aB⟩
instance:TI Tryz.prog 80 1 8 (.pointer none) #[(.pointer none)]:=⟨aB,rfl⟩
instance:TI Tryz.prog 85 3 24 (.agg #[(.int .i64 0),(.int .i64 0),(.bool false)]) #[(.int .i64 0),(.int .i64 0),(.bool false)]:=⟨aB,rfl⟩
instance:FA Tryz.prog 85 0 0 3:=⟨0,aB⟩
instance:FA Tryz.prog 85 1 1 3:=⟨0,aB⟩
instance:FA Tryz.prog 85 2 2 4:=⟨0,aB⟩
instance:AG Tryz.prog 88 1:=⟨aB,aB⟩
instance:TI Tryz.prog 88 1 8 (.agg #[.nilFunc]) #[.nilFunc]:=⟨aB,rfl⟩
instance:FA Tryz.prog 88 0 0 86:=⟨0,aB⟩
instance:BP Tryz.prog 88 [(0,1)]:=⟨aB⟩
instance:TD Tryz.prog 92 (.slice 116):=⟨underlying92⟩
instance:SC Tryz.prog 92:=⟨aB⟩
instance:TI Tryz.prog 92 1 24 (.slice none 0 0) #[(.slice none 0 0)]:=⟨aB,rfl⟩
instance:SC Tryz.prog 93:=⟨aB⟩
instance:TI Tryz.prog 95 8 160 (.agg #[(.slice none 0 0),(.int .i64 0),(.slice none 0 0),(.slice none 0 0),(.slice none 0 0),(.slice none 0 0),(.slice none 0 0),(.pointer none)]) #[(.slice none 0 0),(.int .i64 0),(.slice none 0 0),(.slice none 0 0),(.slice none 0 0),(.slice none 0 0),(.slice none 0 0),(.pointer none)]:=⟨aB,rfl⟩
instance:FA Tryz.prog 95 0 0 30:=⟨5,aB⟩
instance:FA Tryz.prog 95 1 6 92:=⟨0,aB⟩
instance:FA Tryz.prog 95 2 7 93:=⟨0,aB⟩
instance:BP Tryz.prog 95 [(0,6),(6,1),(7,1)]:=⟨aB⟩
instance:AG Tryz.prog 98 2:=⟨aB,aB⟩
instance:TI Tryz.prog 98 2 32 (.agg #[(.slice none 0 0),(.int .i64 0)]) #[(.slice none 0 0),(.int .i64 0)]:=⟨aB,rfl⟩
instance:FA Tryz.prog 98 0 0 22:=⟨0,aB⟩
instance:FA Tryz.prog 98 1 1 3:=⟨0,aB⟩
instance:BP Tryz.prog 98 [(0,1),(1,1)]:=⟨aB⟩
instance:TD Tryz.prog 103 (.int .u32):=⟨underlying103⟩
instance:FA Tryz.prog 105 1 0 103:=⟨0,aB⟩
instance:FA Tryz.prog 107 0 0 21:=⟨0,aB⟩
instance:FA Tryz.prog 109 1 0 107:=⟨1,aB⟩
instance:FA Tryz.prog 111 1 0 105:=⟨0,aB⟩
instance:FA Tryz.prog 111 2 1 109:=⟨1,aB⟩
instance:SC Tryz.prog 113:=⟨aB⟩
instance:TI Tryz.prog 113 1 16 .nilIface #[.nilIface]:=⟨aB,rfl⟩
instance:TI Tryz.prog 115 9 88 (.agg #[(.slice none 0 0),(.int .i64 0),(.int .i64 0),(.int .i64 0),(.int .i64 0),(.int .u32 0),(.int .i32 0),(.int .u32 0),.nilIface]) #[(.slice none 0 0),(.int .i64 0),(.int .i64 0),(.int .i64 0),(.int .i64 0),(.int .u32 0),(.int .i32 0),(.int .u32 0),.nilIface]:=⟨aB,rfl⟩
instance:FA Tryz.prog 115 0 0 44:=⟨4,aB⟩
instance:FA Tryz.prog 115 1 5 111:=⟨2,aB⟩
instance:FA Tryz.prog 115 2 8 113:=⟨0,aB⟩
instance:BP Tryz.prog 115 [(0,5),(5,3),(8,1)]:=⟨aB⟩
instance:SC Tryz.prog 116:=⟨aB⟩
instance:TI Tryz.prog 116 1 8 (.pointer none) #[(.pointer none)]:=⟨aB,rfl⟩
instance:TD Tryz.prog 125 (.slice 133):=⟨underlying125⟩
instance:SC Tryz.prog 125:=⟨aB⟩
instance:TI Tryz.prog 125 1 24 (.slice none 0 0) #[(.slice none 0 0)]:=⟨aB,rfl⟩
instance:AG Tryz.prog 127 2:=⟨aB,aB⟩
instance:TI Tryz.prog 127 2 32 (.agg #[(.int .i64 0),(.slice none 0 0)]) #[(.int .i64 0),(.slice none 0 0)]:=⟨aB,rfl⟩
instance:FA Tryz.prog 127 0 0 3:=⟨0,aB⟩
instance:FA Tryz.prog 127 1 1 125:=⟨0,aB⟩
instance:AG Tryz.prog 129 2:=⟨aB,aB⟩
instance:TI Tryz.prog 129 2 48 (.agg #[(.slice none 0 0),(.slice none 0 0)]) #[(.slice none 0 0),(.slice none 0 0)]:=⟨aB,rfl⟩
instance:FA Tryz.prog 129 0 0 51:=⟨1,aB⟩
instance:BP Tryz.prog 129 [(0,2)]:=⟨aB⟩
instance:TD Tryz.prog 133 (.array 4 58):=⟨underlying133⟩
instance:AG Tryz.prog 133 8:=⟨aB,aB⟩
instance:TI Tryz.prog 133 8 64 (.agg #[(.int .i64 0),(.int .i64 0),(.int .i64 0),(.int .i64 0),(.int .i64 0),(.int .i64 0),(.int .i64 0),(.int .i64 0)]) #[(.int .i64 0),(.int .i64 0),(.int .i64 0),(.int .i64 0),(.int .i64 0),(.int .i64 0),(.int .i64 0),(.int .i64 0)]:=⟨aB,rfl⟩
instance:TI Tryz.prog 134 0 0 (.agg #[]) #[]:=⟨aB,rfl⟩
instance:BP Tryz.prog 134 []:=⟨aB⟩
instance:AG Tryz.prog 140 5:=⟨aB,aB⟩
instance:TI Tryz.prog 140 5 40 (.agg #[(.int .i64 0),(.int .i64 0),(.int .i64 0),(.int .i64 0),(.int .i64 0)]) #[(.int .i64 0),(.int .i64 0),(.int .i64 0),(.int .i64 0),(.int .i64 0)]:=⟨aB,rfl⟩
instance:FA Tryz.prog 140 0 0 3:=⟨0,aB⟩
instance:FA Tryz.prog 140 1 1 3:=⟨0,aB⟩
instance:FA Tryz.prog 140 2 2 3:=⟨0,aB⟩
instance:FA Tryz.prog 140 3 3 3:=⟨0,aB⟩
instance:FA Tryz.prog 140 4 4 3:=⟨0,aB⟩
instance:BP Tryz.prog 140 [(0,1),(1,1),(2,1),(3,1),(4,1)]:=⟨aB⟩
instance:TD Tryz.prog 142 (.slice 144):=⟨underlying142⟩
instance:SC Tryz.prog 142:=⟨aB⟩
instance:AG Tryz.prog 144 2:=⟨aB,aB⟩
instance:TI Tryz.prog 144 2 16 (.agg #[(.int .i64 0),(.int .i64 0)]) #[(.int .i64 0),(.int .i64 0)]:=⟨aB,rfl⟩
instance:FA Tryz.prog 144 0 0 3:=⟨0,aB⟩
instance:FA Tryz.prog 144 1 1 3:=⟨0,aB⟩
instance:BP Tryz.prog 144 [(0,1),(1,1)]:=⟨aB⟩
instance:AG Tryz.prog 149 3:=⟨aB,aB⟩
instance:TI Tryz.prog 149 3 24 (.agg #[(.int .i64 0),(.int .i64 0),(.int .i64 0)]) #[(.int .i64 0),(.int .i64 0),(.int .i64 0)]:=⟨aB,rfl⟩
instance:FA Tryz.prog 149 0 0 3:=⟨0,aB⟩
instance:FA Tryz.prog 149 1 1 3:=⟨0,aB⟩
instance:FA Tryz.prog 149 2 2 3:=⟨0,aB⟩
instance:BP Tryz.prog 149 [(0,1),(1,1),(2,1)]:=⟨aB⟩
instance:TD Tryz.prog 151 (.int .u64):=⟨underlying151⟩
instance:TD Tryz.prog 155 (.map 161 3):=⟨underlying155⟩
instance:SC Tryz.prog 155:=⟨aB⟩
instance:TI Tryz.prog 157 3 16 (.agg #[(.int .i32 0),(.int .u32 0),(.map none)]) #[(.int .i32 0),(.int .u32 0),(.map none)]:=⟨aB,rfl⟩
instance:FA Tryz.prog 157 0 0 109:=⟨1,aB⟩
instance:FA Tryz.prog 157 1 2 155:=⟨0,aB⟩
instance:BP Tryz.prog 157 [(0,2),(2,1)]:=⟨aB⟩
instance:AG Tryz.prog 159 3:=⟨aB,aB⟩
instance:TI Tryz.prog 159 3 24 (.agg #[(.int .i64 0),(.int .i64 0),(.int .i64 0)]) #[(.int .i64 0),(.int .i64 0),(.int .i64 0)]:=⟨aB,rfl⟩
instance:FA Tryz.prog 159 0 0 3:=⟨0,aB⟩
instance:FA Tryz.prog 159 1 1 3:=⟨0,aB⟩
instance:FA Tryz.prog 159 2 2 3:=⟨0,aB⟩
instance:BP Tryz.prog 159 [(0,1),(1,1),(2,1)]:=⟨aB⟩
instance:TD Tryz.prog 161 (.array 4 159):=⟨underlying161⟩
instance:AG Tryz.prog 161 12:=⟨aB,aB⟩
instance:TI Tryz.prog 161 12 96 (.agg #[(.int .i64 0),(.int .i64 0),(.int .i64 0),(.int .i64 0),(.int .i64 0),(.int .i64 0),(.int .i64 0),(.int .i64 0),(.int .i64 0),(.int .i64 0),(.int .i64 0),(.int .i64 0)]) #[(.int .i64 0),(.int .i64 0),(.int .i64 0),(.int .i64 0),(.int .i64 0),(.int .i64 0),(.int .i64 0),(.int .i64 0),(.int .i64 0),(.int .i64 0),(.int .i64 0),(.int .i64 0)]:=⟨aB,rfl⟩
instance:AG Tryz.prog 170 3:=⟨aB,aB⟩
instance:TI Tryz.prog 170 3 56 (.agg #[(.slice none 0 0),(.slice none 0 0),.nilFunc]) #[(.slice none 0 0),(.slice none 0 0),.nilFunc]:=⟨aB,rfl⟩
instance:FA Tryz.prog 170 0 0 129:=⟨1,aB⟩
instance:FA Tryz.prog 170 1 2 168:=⟨0,aB⟩
instance:BP Tryz.prog 170 [(0,2),(2,1)]:=⟨aB⟩
instance:TD Tryz.prog 176 (.map 133 4):=⟨underlying176⟩
instance:SC Tryz.prog 181:=⟨aB⟩
instance:TD Tryz.prog 184 (.slice 189):=⟨underlying184⟩
instance:SC Tryz.prog 184:=⟨aB⟩
instance:TI Tryz.prog 184 1 24 (.slice none 0 0) #[(.slice none 0 0)]:=⟨aB,rfl⟩
instance:AG Tryz.prog 186 2:=⟨aB,aB⟩
instance:TI Tryz.prog 186 2 32 (.agg #[(.int .i64 0),(.slice none 0 0)]) #[(.int .i64 0),(.slice none 0 0)]:=⟨aB,rfl⟩
instance:FA Tryz.prog 186 0 0 3:=⟨0,aB⟩
instance:FA Tryz.prog 186 1 1 184:=⟨0,aB⟩
instance:TD Tryz.prog 189 (.array 4 3):=⟨underlying189⟩
instance:AG Tryz.prog 189 4:=⟨aB,aB⟩
instance:TI Tryz.prog 189 4 32 (.agg #[(.int .i64 0),(.int .i64 0),(.int .i64 0),(.int .i64 0)]) #[(.int .i64 0),(.int .i64 0),(.int .i64 0),(.int .i64 0)]:=⟨aB,rfl⟩
instance:TI Tryz.prog 193 2 16 (.agg #[(.int .i64 0),(.int .i64 0)]) #[(.int .i64 0),(.int .i64 0)]:=⟨aB,rfl⟩
instance:TD Tryz.prog 196 (.interface #[("Error",362)]):=⟨underlying196⟩
instance:FA Tryz.prog 202 2 0 64:=⟨0,aB⟩
instance:TI Tryz.prog 204 2 16 (.agg #[(.int .u64 0),(.int .u32 0)]) #[(.int .u64 0),(.int .u32 0)]:=⟨aB,rfl⟩
instance:FA Tryz.prog 204 1 0 202:=⟨0,aB⟩
instance:FA Tryz.prog 204 2 1 103:=⟨0,aB⟩
instance:SC Tryz.prog 217:=⟨aB⟩
instance:TD Tryz.prog 220 (.slice 221):=⟨underlying220⟩
instance:SC Tryz.prog 220:=⟨aB⟩
instance:TI Tryz.prog 220 1 24 (.slice none 0 0) #[(.slice none 0 0)]:=⟨aB,rfl⟩
instance:TD Tryz.prog 221 (.chan .both 133):=⟨underlying221⟩
instance:SC Tryz.prog 221:=⟨aB⟩
instance:TI Tryz.prog 221 1 8 (.chan none) #[(.chan none)]:=⟨aB,rfl⟩
instance:AG Tryz.prog 224 1:=⟨aB,aB⟩
instance:TI Tryz.prog 224 1 24 (.agg #[(.slice none 0 0)]) #[(.slice none 0 0)]:=⟨aB,rfl⟩
instance:FA Tryz.prog 224 0 0 26:=⟨0,aB⟩
instance:BP Tryz.prog 224 [(0,1)]:=⟨aB⟩
instance:SC Tryz.prog 225:=⟨aB⟩
instance:AG Tryz.prog 227 2:=⟨aB,aB⟩
instance:TI Tryz.prog 227 2 32 (.agg #[(.slice none 0 0),(.int .u8 0)]) #[(.slice none 0 0),(.int .u8 0)]:=⟨aB,rfl⟩
instance:FA Tryz.prog 227 0 0 224:=⟨0,aB⟩
instance:FA Tryz.prog 227 1 1 225:=⟨0,aB⟩
instance:BP Tryz.prog 227 [(0,1),(1,1)]:=⟨aB⟩
instance:TI Tryz.prog 233 4 80 (.agg #[(.slice none 0 0),(.int .u8 0),(.slice none 0 0),(.slice none 0 0)]) #[(.slice none 0 0),(.int .u8 0),(.slice none 0 0),(.slice none 0 0)]:=⟨aB,rfl⟩
instance:FA Tryz.prog 233 0 0 227:=⟨1,aB⟩
instance:FA Tryz.prog 233 1 2 142:=⟨0,aB⟩
instance:FA Tryz.prog 233 2 3 22:=⟨0,aB⟩
instance:BP Tryz.prog 233 [(0,2),(2,1),(3,1)]:=⟨aB⟩
instance:AG Tryz.prog 246 3:=⟨aB,aB⟩
instance:TI Tryz.prog 246 3 24 (.agg #[(.pointer none),(.pointer none),(.int .u64 0)]) #[(.pointer none),(.pointer none),(.int .u64 0)]:=⟨aB,rfl⟩
instance:SC Tryz.prog 249:=⟨aB⟩
instance:TD Tryz.prog 256 (.pointer 204):=⟨underlying256⟩
instance:TD Tryz.prog 262 (.pointer 103):=⟨underlying262⟩
instance:TD Tryz.prog 269 (.pointer 107):=⟨underlying269⟩
instance:TD Tryz.prog 278 (.slice 341):=⟨underlying278⟩
instance:SC Tryz.prog 278:=⟨aB⟩
instance:TI Tryz.prog 278 1 24 (.slice none 0 0) #[(.slice none 0 0)]:=⟨aB,rfl⟩
instance:SC Tryz.prog 279:=⟨aB⟩
instance:AG Tryz.prog 281 2:=⟨aB,aB⟩
instance:TI Tryz.prog 281 2 32 (.agg #[(.slice none 0 0),(.int .u8 0)]) #[(.slice none 0 0),(.int .u8 0)]:=⟨aB,rfl⟩
instance:FA Tryz.prog 281 0 0 278:=⟨0,aB⟩
instance:FA Tryz.prog 281 1 1 279:=⟨0,aB⟩
instance:BP Tryz.prog 281 [(0,1),(1,1)]:=⟨aB⟩
instance:TD Tryz.prog 283 (.int .u8):=⟨underlying283⟩
instance:SC Tryz.prog 283:=⟨aB⟩
instance:TI Tryz.prog 283 1 1 (.int .u8 0) #[(.int .u8 0)]:=⟨aB,rfl⟩
instance:TD Tryz.prog 285 (.array 3 283):=⟨underlying285⟩
instance:AG Tryz.prog 285 3:=⟨aB,aB⟩
instance:TI Tryz.prog 285 3 3 (.agg #[(.int .u8 0),(.int .u8 0),(.int .u8 0)]) #[(.int .u8 0),(.int .u8 0),(.int .u8 0)]:=⟨aB,rfl⟩
instance:TD Tryz.prog 290 (.slice 283):=⟨underlying290⟩
instance:TD Tryz.prog 294 (.interface #[("muscovado/floor.day",83)]):=⟨underlying294⟩
instance:SC Tryz.prog 294:=⟨aB⟩
instance:TI Tryz.prog 294 1 16 .nilIface #[.nilIface]:=⟨aB,rfl⟩
instance:AG Tryz.prog 297 2:=⟨aB,aB⟩
instance:TI Tryz.prog 297 2 24 (.agg #[.nilIface,(.int .i64 0)]) #[.nilIface,(.int .i64 0)]:=⟨aB,rfl⟩
instance:FA Tryz.prog 297 0 0 294:=⟨0,aB⟩
instance:BP Tryz.prog 297 [(0,1),(1,1)]:=⟨aB⟩
instance:SC Tryz.prog 298:=⟨aB⟩
instance:TD Tryz.prog 302 (.array 22 35):=⟨underlying302⟩
instance:AG Tryz.prog 302 44:=⟨aB,aB⟩
instance:AG Tryz.prog 341 5:=⟨aB,aB⟩
instance:TI Tryz.prog 341 5 40 (.agg #[(.int .i64 0),(.int .i64 0),(.int .i64 0),(.int .i64 0),(.int .i64 0)]) #[(.int .i64 0),(.int .i64 0),(.int .i64 0),(.int .i64 0),(.int .i64 0)]:=⟨aB,rfl⟩
instance:FA Tryz.prog 341 0 0 140:=⟨4,aB⟩
instance:BP Tryz.prog 341 [(0,5)]:=⟨aB⟩
instance:TD Tryz.prog 343 (.map 285 4):=⟨underlying343⟩
instance:SC Tryz.prog 343:=⟨aB⟩
instance:TD Tryz.prog 344 (.slice 349):=⟨underlying344⟩
instance:SC Tryz.prog 344:=⟨aB⟩
instance:TI Tryz.prog 344 1 24 (.slice none 0 0) #[(.slice none 0 0)]:=⟨aB,rfl⟩
instance:TI Tryz.prog 346 2 32 (.agg #[(.slice none 0 0),(.map none)]) #[(.slice none 0 0),(.map none)]:=⟨aB,rfl⟩
instance:FA Tryz.prog 346 0 0 344:=⟨0,aB⟩
instance:FA Tryz.prog 346 1 1 343:=⟨0,aB⟩
instance:BP Tryz.prog 346 [(0,1),(1,1)]:=⟨aB⟩
instance:AG Tryz.prog 349 4:=⟨aB,aB⟩
instance:TI Tryz.prog 349 4 32 (.agg #[(.slice none 0 0),(.int .u8 0),(.int .u8 0),(.int .u8 0)]) #[(.slice none 0 0),(.int .u8 0),(.int .u8 0),(.int .u8 0)]:=⟨aB,rfl⟩
instance:FA Tryz.prog 349 0 0 22:=⟨0,aB⟩
instance:FA Tryz.prog 349 1 1 285:=⟨2,aB⟩
instance:BP Tryz.prog 349 [(0,1),(1,3)]:=⟨aB⟩
instance:TI Tryz.prog 355 1 8 (.agg #[(.int .i64 0)]) #[(.int .i64 0)]:=⟨aB,rfl⟩
instance:FA Tryz.prog 355 0 0 3:=⟨0,aB⟩
instance:BP Tryz.prog 355 [(0,1)]:=⟨aB⟩
instance:TI Tryz.prog 357 1 8 (.agg #[(.int .i64 0)]) #[(.int .i64 0)]:=⟨aB,rfl⟩
instance:FA Tryz.prog 357 0 0 3:=⟨0,aB⟩
instance:BP Tryz.prog 357 [(0,1)]:=⟨aB⟩
instance:FB Tryz.prog 6:=⟨aB⟩
instance:FB Tryz.prog 7:=⟨aB⟩
instance:FB Tryz.prog 8:=⟨aB⟩
instance:FB Tryz.prog 9:=⟨aB⟩
instance:FB Tryz.prog 10:=⟨aB⟩
instance:FB Tryz.prog 11:=⟨aB⟩
instance:FB Tryz.prog 12:=⟨aB⟩
instance:FB Tryz.prog 13:=⟨aB⟩
instance:FB Tryz.prog 14:=⟨aB⟩
instance:FB Tryz.prog 16:=⟨aB⟩
instance:FB Tryz.prog 18:=⟨aB⟩
instance:FB Tryz.prog 19:=⟨aB⟩
instance:FB Tryz.prog 20:=⟨aB⟩
instance:FB Tryz.prog 21:=⟨aB⟩
instance:FB Tryz.prog 22:=⟨aB⟩
instance:FB Tryz.prog 23:=⟨aB⟩
instance:FB Tryz.prog 24:=⟨aB⟩
instance:FB Tryz.prog 25:=⟨aB⟩
instance:FB Tryz.prog 26:=⟨aB⟩
instance:FB Tryz.prog 27:=⟨aB⟩
instance:FB Tryz.prog 28:=⟨aB⟩
instance:FB Tryz.prog 29:=⟨aB⟩
instance:FB Tryz.prog 30:=⟨aB⟩
instance:FB Tryz.prog 31:=⟨aB⟩
instance:FB Tryz.prog 32:=⟨aB⟩
instance:FB Tryz.prog 33:=⟨aB⟩
instance:FB Tryz.prog 34:=⟨aB⟩
instance:FB Tryz.prog 35:=⟨aB⟩
instance:FB Tryz.prog 36:=⟨aB⟩
instance:FB Tryz.prog 37:=⟨aB⟩
instance:FB Tryz.prog 38:=⟨aB⟩
instance:FB Tryz.prog 39:=⟨aB⟩
instance:FB Tryz.prog 40:=⟨aB⟩
instance:FB Tryz.prog 41:=⟨aB⟩
instance:FB Tryz.prog 42:=⟨aB⟩
instance:FB Tryz.prog 43:=⟨aB⟩
instance:FB Tryz.prog 44:=⟨aB⟩
instance:FB Tryz.prog 46:=⟨aB⟩
instance:FB Tryz.prog 47:=⟨aB⟩
instance:FB Tryz.prog 48:=⟨aB⟩
instance:FB Tryz.prog 49:=⟨aB⟩
instance:FB Tryz.prog 50:=⟨aB⟩
instance:FB Tryz.prog 51:=⟨aB⟩
instance:FB Tryz.prog 52:=⟨aB⟩
instance:FB Tryz.prog 53:=⟨aB⟩
instance:FB Tryz.prog 54:=⟨aB⟩
instance:FB Tryz.prog 55:=⟨aB⟩
instance:FB Tryz.prog 56:=⟨aB⟩
instance:FB Tryz.prog 57:=⟨aB⟩
instance:FB Tryz.prog 58:=⟨aB⟩
instance:FB Tryz.prog 59:=⟨aB⟩
instance:FB Tryz.prog 60:=⟨aB⟩
instance:FB Tryz.prog 61:=⟨aB⟩
instance:FB Tryz.prog 62:=⟨aB⟩
instance:FB Tryz.prog 63:=⟨aB⟩
instance:FB Tryz.prog 64:=⟨aB⟩
instance:FB Tryz.prog 65:=⟨aB⟩
instance:FB Tryz.prog 66:=⟨aB⟩
instance:FB Tryz.prog 67:=⟨aB⟩
instance:FB Tryz.prog 68:=⟨aB⟩
instance:FB Tryz.prog 69:=⟨aB⟩
instance:FB Tryz.prog 70:=⟨aB⟩
instance:FB Tryz.prog 71:=⟨aB⟩
instance:FB Tryz.prog 72:=⟨aB⟩
instance:FB Tryz.prog 73:=⟨aB⟩
instance:FB Tryz.prog 74:=⟨aB⟩
instance:FB Tryz.prog 75:=⟨aB⟩
instance:FB Tryz.prog 76:=⟨aB⟩
instance:FB Tryz.prog 77:=⟨aB⟩
instance:FB Tryz.prog 78:=⟨aB⟩
instance:FB Tryz.prog 79:=⟨aB⟩
instance:FB Tryz.prog 80:=⟨aB⟩
instance:FB Tryz.prog 81:=⟨aB⟩
instance:FB Tryz.prog 82:=⟨aB⟩
instance:FB Tryz.prog 83:=⟨aB⟩
instance:FB Tryz.prog 84:=⟨aB⟩
instance:FB Tryz.prog 85:=⟨aB⟩
instance:FB Tryz.prog 86:=⟨aB⟩
instance:FB Tryz.prog 87:=⟨aB⟩
instance:FB Tryz.prog 88:=⟨aB⟩
instance:FB Tryz.prog 89:=⟨aB⟩
instance:FB Tryz.prog 90:=⟨aB⟩
instance:FB Tryz.prog 91:=⟨aB⟩
instance:FB Tryz.prog 92:=⟨aB⟩
instance:FB Tryz.prog 93:=⟨aB⟩
instance:FB Tryz.prog 94:=⟨aB⟩
instance:FB Tryz.prog 95:=⟨aB⟩
instance:FB Tryz.prog 96:=⟨aB⟩
instance:FB Tryz.prog 97:=⟨aB⟩
instance:FB Tryz.prog 98:=⟨aB⟩
instance:FB Tryz.prog 99:=⟨aB⟩
instance:FB Tryz.prog 100:=⟨aB⟩
instance:FB Tryz.prog 101:=⟨aB⟩
instance:FB Tryz.prog 102:=⟨aB⟩
instance:FB Tryz.prog 103:=⟨aB⟩
instance:FB Tryz.prog 104:=⟨aB⟩
instance:FB Tryz.prog 105:=⟨aB⟩
instance:FB Tryz.prog 106:=⟨aB⟩
instance:FB Tryz.prog 107:=⟨aB⟩
instance:FB Tryz.prog 108:=⟨aB⟩
instance:FB Tryz.prog 109:=⟨aB⟩
instance:FB Tryz.prog 110:=⟨aB⟩
instance:FB Tryz.prog 111:=⟨aB⟩
instance:FB Tryz.prog 112:=⟨aB⟩
instance:FB Tryz.prog 114:=⟨aB⟩
instance:FB Tryz.prog 118:=⟨aB⟩
instance:FB Tryz.prog 119:=⟨aB⟩
instance:FB Tryz.prog 127:=⟨aB⟩
instance:FB Tryz.prog 129:=⟨aB⟩
instance:FB Tryz.prog 130:=⟨aB⟩
instance:FB Tryz.prog 135:=⟨aB⟩
instance:FB Tryz.prog 142:=⟨aB⟩
instance:FB Tryz.prog 143:=⟨aB⟩
instance:FB Tryz.prog 144:=⟨aB⟩
instance:FB Tryz.prog 145:=⟨aB⟩
instance:FB Tryz.prog 146:=⟨aB⟩
instance:FB Tryz.prog 147:=⟨aB⟩
instance:FB Tryz.prog 148:=⟨aB⟩
instance:FB Tryz.prog 149:=⟨aB⟩
instance:FB Tryz.prog 150:=⟨aB⟩
instance:FB Tryz.prog 151:=⟨aB⟩
instance:FB Tryz.prog 152:=⟨aB⟩
instance:FB Tryz.prog 153:=⟨aB⟩
instance:FB Tryz.prog 154:=⟨aB⟩
instance:FB Tryz.prog 155:=⟨aB⟩
instance:FB Tryz.prog 156:=⟨aB⟩
instance:FB Tryz.prog 157:=⟨aB⟩
instance:FB Tryz.prog 158:=⟨aB⟩
instance:FB Tryz.prog 159:=⟨aB⟩
instance:FB Tryz.prog 160:=⟨aB⟩
instance:FB Tryz.prog 161:=⟨aB⟩
instance:FB Tryz.prog 162:=⟨aB⟩
instance:FB Tryz.prog 163:=⟨aB⟩
instance:FB Tryz.prog 164:=⟨aB⟩
instance:FB Tryz.prog 165:=⟨aB⟩
instance:FB Tryz.prog 169:=⟨aB⟩
instance:FB Tryz.prog 170:=⟨aB⟩
instance:FB Tryz.prog 183:=⟨aB⟩
instance:FB Tryz.prog 186:=⟨aB⟩
instance:FB Tryz.prog 187:=⟨aB⟩
instance:FB Tryz.prog 188:=⟨aB⟩
instance:FB Tryz.prog 189:=⟨aB⟩
instance:FB Tryz.prog 190:=⟨aB⟩
instance:FB Tryz.prog 191:=⟨aB⟩
instance:FB Tryz.prog 192:=⟨aB⟩
instance:FB Tryz.prog 193:=⟨aB⟩
instance:FB Tryz.prog 194:=⟨aB⟩
instance:FB Tryz.prog 195:=⟨aB⟩
instance:FB Tryz.prog 196:=⟨aB⟩
instance:FB Tryz.prog 197:=⟨aB⟩
instance:FB Tryz.prog 200:=⟨aB⟩
instance:FB Tryz.prog 201:=⟨aB⟩
instance:FB Tryz.prog 202:=⟨aB⟩
instance:FB Tryz.prog 203:=⟨aB⟩
instance:FB Tryz.prog 223:=⟨aB⟩
instance:FB Tryz.prog 224:=⟨aB⟩
instance:FB Tryz.prog 247:=⟨aB⟩
instance:FB Tryz.prog 248:=⟨aB⟩
end Go.Proofs.YtjohlemgkcpoeaaGreatDoor

namespace Go.jc
noncomputable abbrev aV:Program:=Proofs.Tryz.prog
abbrev aat:Nat:=3
noncomputable abbrev aav:Func:=f3
theorem aaF:aV.funcs[aat]? =some aav:=func3
abbrev YI:Nat:=6
abbrev Vz:Nat:=7
abbrev VB:Nat:=8
abbrev YJ:Nat:=9
abbrev VD:Nat:=10
abbrev abM:Nat:=11
abbrev aaI:Nat:=12
abbrev acy:Nat:=13
abbrev YK:Nat:=14
abbrev YL:Nat:=16
abbrev YM:Nat:=18
abbrev TR:Nat:=19
abbrev YN:Nat:=20
abbrev VF:Nat:=21
abbrev TS:Nat:=22
abbrev YO:Nat:=23
abbrev YP:Nat:=24
abbrev VG:Nat:=25
abbrev TT:Nat:=26
abbrev VH:Nat:=27
abbrev Qw:Nat:=28
abbrev alM:Nat:=29
abbrev alN:Nat:=30
abbrev alO:Nat:=31
abbrev YQ:Nat:=32
abbrev adg:Nat:=33
abbrev TU:Nat:=34
abbrev VI:Nat:=35
abbrev qF:Nat:=36
abbrev Eu:Nat:=37
abbrev nV:Nat:=38
abbrev KA:Nat:=39
abbrev acs:Nat:=40
abbrev acC:Nat:=41
abbrev acD:Nat:=42
abbrev KD:Nat:=43
abbrev MW:Nat:=44
abbrev JO:Nat:=46
abbrev MX:Nat:=47
abbrev MZ:Nat:=48
abbrev M_:Nat:=49
abbrev OM:Nat:=50
abbrev aaJ:Nat:=51
abbrev VJ:Nat:=52
abbrev Jk:Nat:=53
abbrev VK:Nat:=54
abbrev aaK:Nat:=55
abbrev TV:Nat:=56
abbrev VL:Nat:=57
abbrev VN:Nat:=58
abbrev Qx:Nat:=59
abbrev Ez:Nat:=60
abbrev AZ:Nat:=61
abbrev kK:Nat:=62
abbrev mD:Nat:=63
abbrev FU:Nat:=64
abbrev iG:Nat:=65
abbrev KE:Nat:=66
abbrev qG:Nat:=67
abbrev pz:Nat:=68
abbrev Hq:Nat:=69
abbrev KF:Nat:=70
abbrev Qy:Nat:=71
abbrev CX:Nat:=72
abbrev EC:Nat:=73
abbrev KG:Nat:=74
abbrev Jl:Nat:=75
abbrev Hr:Nat:=76
abbrev KH:Nat:=77
abbrev TW:Nat:=78
abbrev Na:Nat:=79
abbrev Qz:Nat:=80
abbrev OO:Nat:=81
abbrev Ht:Nat:=82
abbrev KI:Nat:=83
abbrev Nb:Nat:=84
abbrev lS:Nat:=85
noncomputable abbrev wZ:Func:=f85
abbrev Hu:Nat:=86
abbrev FV:Nat:=87
abbrev uZ:Nat:=88
noncomputable abbrev FW:Func:=f88
abbrev Hw:Nat:=89
abbrev uy:Nat:=90
noncomputable abbrev ED:Func:=f90
abbrev Jm:Nat:=91
abbrev ni:Nat:=92
abbrev yH:Nat:=93
abbrev yA:Nat:=94
abbrev Hz:Nat:=95
abbrev FX:Nat:=96
abbrev wG:Nat:=97
abbrev uz:Nat:=98
abbrev TY:Nat:=99
abbrev qV:Nat:=100
abbrev HY:Nat:=101
abbrev FY:Nat:=102
abbrev Jp:Nat:=103
abbrev pF:Nat:=104
abbrev FZ:Nat:=105
abbrev w_:Nat:=106
abbrev VO:Nat:=107
abbrev Nc:Nat:=108
abbrev KJ:Nat:=109
abbrev OQ:Nat:=110
abbrev OT:Nat:=111
abbrev Jr:Nat:=112
abbrev Nh:Nat:=114
abbrev F5:Nat:=115
noncomputable abbrev F6:Func:=f115
abbrev BD:Nat:=116
noncomputable abbrev BF:Func:=f116
abbrev z_:Nat:=117
noncomputable abbrev Aa:Func:=f117
abbrev aaL:Nat:=118
abbrev H7:Nat:=119
abbrev Js:Nat:=120
noncomputable abbrev Jt:Func:=f120
abbrev T_:Nat:=121
noncomputable abbrev Ua:Func:=f121
abbrev VP:Nat:=122
noncomputable abbrev VQ:Func:=f122
abbrev F7:Nat:=123
noncomputable abbrev F8:Func:=f123
abbrev BG:Nat:=127
abbrev aaM:Nat:=128
noncomputable abbrev aaN:Func:=f128
abbrev Ac:Nat:=129
abbrev zn:Nat:=130
abbrev lG:Nat:=132
noncomputable abbrev Ad:Func:=f132
abbrev Ub:Nat:=133
noncomputable abbrev Uc:Func:=f133
abbrev qW:Nat:=135
abbrev YR:Nat:=136
noncomputable abbrev YS:Func:=f136
abbrev kX:Nat:=137
noncomputable abbrev rP:Func:=f137
abbrev tH:Nat:=138
noncomputable abbrev tJ:Func:=f138
abbrev EF:Nat:=140
noncomputable abbrev EG:Func:=f140
abbrev zo:Nat:=142
abbrev sQ:Nat:=143
abbrev KL:Nat:=144
abbrev QA:Nat:=145
abbrev Ud:Nat:=146
abbrev VR:Nat:=147
abbrev Jv:Nat:=148
abbrev Fp:Nat:=149
abbrev xY:Nat:=150
abbrev A8:Nat:=151
abbrev F9:Nat:=152
abbrev Nj:Nat:=153
abbrev sS:Nat:=154
abbrev oI:Nat:=155
abbrev Jw:Nat:=156
abbrev CY:Nat:=157
abbrev VT:Nat:=158
abbrev QB:Nat:=159
abbrev rQ:Nat:=160
abbrev xg:Nat:=161
abbrev H8:Nat:=162
abbrev Nk:Nat:=163
abbrev nX:Nat:=164
abbrev CZ:Nat:=165
abbrev H9:Nat:=166
noncomputable abbrev H_:Func:=f166
abbrev BH:Nat:=167
noncomputable abbrev BI:Func:=f167
abbrev C9:Nat:=168
noncomputable abbrev C_:Func:=f168
abbrev YT:Nat:=169
abbrev OU:Nat:=170
abbrev Df:Nat:=172
noncomputable abbrev Dh:Func:=f172
abbrev BJ:Nat:=173
noncomputable abbrev BK:Func:=f173
abbrev Ae:Nat:=174
noncomputable abbrev Af:Func:=f174
abbrev rU:Nat:=175
noncomputable abbrev rV:Func:=f175
abbrev tK:Nat:=183
abbrev BL:Nat:=185
noncomputable abbrev BM:Func:=f185
abbrev iZ:Nat:=186
noncomputable abbrev qX:Func:=f186
abbrev mF:Nat:=187
abbrev ny:Nat:=188
abbrev OV:Nat:=189
abbrev KN:Nat:=190
abbrev zq:Nat:=191
abbrev Ah:Nat:=192
abbrev OW:Nat:=193
abbrev Jy:Nat:=194
abbrev OX:Nat:=195
abbrev qH:Nat:=196
abbrev Ia:Nat:=197
abbrev Ai:Nat:=199
noncomputable abbrev Aj:Func:=f199
abbrev Nl:Nat:=200
abbrev zu:Nat:=201
abbrev xk:Nat:=202
abbrev QC:Nat:=203
abbrev xZ:Nat:=219
noncomputable abbrev QD:Func:=f219
abbrev u_:Nat:=223
abbrev uD:Nat:=224
abbrev lT:Nat:=237
noncomputable abbrev uF:Func:=f237
abbrev qY:Nat:=239
noncomputable abbrev BN:Func:=f239
abbrev nC:Nat:=240
noncomputable abbrev vM:Func:=f240
abbrev Di:Nat:=247
abbrev Dj:Nat:=248
abbrev aX:TypeId:=3
abbrev KO:TypeId:=4
abbrev tV:TypeId:=22
abbrev fC:TypeId:=30
abbrev YU:TypeId:=35
abbrev aeR:TypeId:=36
abbrev kD:TypeId:=44
abbrev j_:TypeId:=51
abbrev adh:TypeId:=54
abbrev ku:TypeId:=58
abbrev as3:TypeId:=66
abbrev A_:TypeId:=73
abbrev jB:TypeId:=80
abbrev rW:TypeId:=85
abbrev dZ:TypeId:=88
abbrev nD:TypeId:=93
abbrev gB:TypeId:=95
abbrev oG:TypeId:=98
abbrev VU:TypeId:=113
abbrev dX:TypeId:=115
abbrev dA:TypeId:=116
abbrev aga:TypeId:=125
abbrev KP:TypeId:=127
abbrev x9:TypeId:=129
abbrev dD:TypeId:=133
abbrev zx:TypeId:=134
abbrev IZ:TypeId:=140
abbrev anW:TypeId:=144
abbrev aaO:TypeId:=149
abbrev iH:TypeId:=157
abbrev pG:TypeId:=159
abbrev jE:TypeId:=161
abbrev wH:TypeId:=162
abbrev Ib:TypeId:=170
abbrev jU:TypeId:=181
abbrev lU:TypeId:=186
abbrev h_:TypeId:=189
abbrev kC:TypeId:=196
abbrev QE:TypeId:=198
abbrev Dk:TypeId:=204
abbrev aaP:TypeId:=217
abbrev uG:TypeId:=220
abbrev Ic:TypeId:=221
abbrev QF:TypeId:=227
abbrev EH:TypeId:=233
abbrev OY:TypeId:=243
abbrev Jz:TypeId:=246
abbrev jV:TypeId:=281
abbrev QG:TypeId:=283
abbrev kS:TypeId:=285
abbrev EI:TypeId:=294
abbrev fG:TypeId:=297
abbrev ig:TypeId:=298
abbrev YV:TypeId:=302
abbrev rF:TypeId:=306
abbrev yB:TypeId:=312
abbrev zB:TypeId:=341
abbrev dN:TypeId:=346
abbrev eX:TypeId:=349
abbrev adi:TypeId:=355
abbrev adk:TypeId:=357
instance:MO aV:=⟨aB⟩
theorem rX(main:aN)(h:Hp)(n lo hi:Int):Pu aV main Qy #[I n,I lo,I hi] h (.bool (decide (outs n lo hi))):=by
 refine bG.bH func71 [(0,I n),(1,I lo),(2,I hi)] ?_;refine gZ ?_;refine aA.ask (fun YW=>?_) (fun YW=>?_)
 ·refine jk ?_;refine lQ ?_
  first | exact congrArg Value.bool (decide_eq_true (Or.inl ‹_›)).symm | exact congrArg Value.bool (decide_eq_decide.2 ⟨.inr,fun h=>h.resolve_left ‹_›⟩)
 refine jk ?_;refine lQ ?_
 first | exact congrArg Value.bool (decide_eq_true (Or.inl ‹_›)).symm | exact congrArg Value.bool (decide_eq_decide.2 ⟨.inr,fun h=>h.resolve_left ‹_›⟩)

theorem VW(main:aN)(h:Hp)(f:Fl):Pu aV main KF #[f.val] h (I (lu f)):=by
 refine bG.bH func70 [(0,f.val)] ?_;refine d_ ?_;refine aA.box (fun vg=>?_);refine kR ?_;refine cp (fun h' hE hL=>rX _ h' _ _ _) ?_;refine zT ?_;refine aA.ask (fun YW=>?_) (fun YW=>?_)
 ·refine CW ?_;refine W.kG ?_;refine jk ?_;refine lQ ?_
  simp_all[lu,pack]
 refine gI ?_;refine cp (fun h' hE hL=>rX _ h' _ _ _) ?_;refine d_ ?_;refine aA.ask (fun as4=>?_) (fun as4=>?_)
 ·refine jk ?_;refine W.kG ?_;refine jk ?_;refine lQ ?_
  simp_all[lu,pack]
 refine gI ?_;refine cp (fun h' hE hL=>rX _ h' _ _ _) ?_;refine gI ?_;refine W.aJ O (fun c3=>?_) (fun c3=>?_)
 ·refine jk ?_;refine lQ ?_
  simp_all[lu,pack]
 refine iC ?_;refine W.aJ O (fun BO=>?_) (fun BO=>?_)
 ·refine jk ?_;refine lQ ?_
  simp_all[lu,pack]
 refine lF ?_;refine cp (fun h' hE hL=>rX _ h' _ _ _) ?_;refine d_ ?_;refine W.aJ O (fun ZH=>?_) (fun ZH=>?_)
 ·refine jk ?_;refine lQ ?_
  simp_all[lu,pack]
 refine kR ?_;refine lQ ?_
 simp_all[lu,pack]

theorem Ue(main:aN)(h:Hp)(fs:List Fl)(ss:List St)(vf vs:Value)(hf:Sl h Fl.row vf fs)(hs:Sl h St.row vs ss):Pu aV main JO #[.agg #[vf,vs]] h (I (dU fs ss)):=by
 obtain⟨a,cap,rfl⟩:=hf.aU;obtain⟨a',f_,rfl⟩:=hs.aU;refine bG.bH func46 [(0,.agg #[.slice a fs.length cap,.slice a' ss.length f_])] ?_;refine d_ ?_;refine aA.box (fun vg=>?_);refine gZ ?_;refine W.aJ O (fun OZ=>?_) (fun OZ=>?_)
 ·refine lg ?_;refine lQ ?_;show I _=I _;congr 1;simp only[dU];rw[if_pos aj]
 refine gZ ?_;refine W.aJ O (fun PV=>?_) (fun PV=>?_)
 ·refine lg ?_;refine lQ ?_;show I _=I _;congr 1;simp only[dU];rw[if_neg aj,if_pos aj]
 refine iC ?_;refine W.loop (σ:=Nat) (fun k=>k<=fs.length/\kV fs=kV (fs.drop k)) (fun k=>[(20,I k),(19,I fs.length),(18,.slice a fs.length cap),(1,.pointer (some ⟨vg,0,none⟩))]) (fun _=>[(vg,.cells #[.slice a fs.length cap,.slice a' ss.length f_] j_ (0,0))]) (fun k=>fs.length-k) 0 ⟨Nat.zero_le _,O⟩ iw qE ?_;rintro k ⟨hk,hd⟩;refine kJ ?_;refine W.aJ O (fun Oh=>?_) (fun Oh=>?_)
 ·obtain⟨p,hp,yI⟩:=has (show k<fs.length by omega);rw[yI]at hd;obtain⟨b,off,c,E,fz,rfl,hb,hx,hy,hz⟩:=hf.at hp;have Aq:c.extract (off+k*4) (off+k*4+4)= #[I p.pl,I p.lo,I p.hi,I p.co]:=hx;clear hx hz;refine kR ?_;refine aA.new (fun mW=>?_);refine kJ ?_;refine cp (fun h' hE hL=>VW _ h' _) ?_;refine jk ?_;refine W.aJ O (fun ZH=>?_) (fun ZH=>?_)
  ·refine iC ?_;refine lQ ?_;show I _=I _;congr 1;simp only[dU];simp only[kV]at hd;simp_all;omega
  refine jk ?_;exact⟨O,k+1,⟨aj,by simp only[kV]at hd;simp_all⟩,aj,iw,qE⟩
 have:k=fs.length:=by omega
 subst this;have hz:kV fs=0:=by rw[hd];simp[kV]
 clear hd;refine CW ?_;refine W.aJ O (fun c33=>?_) (fun c33=>?_)
 ·refine lg ?_;refine lQ ?_;show I _=I _;congr 1;simp only[dU];rw[if_neg aj,if_neg aj,if_neg aj,if_pos aj]
 refine Qu ?_;refine W.loop (σ:=Nat×Int) (fun s=>s.1<=ss.length/\g_ 0 ss=g_ s.2 (ss.drop s.1)) (fun s=>[(37,I s.1),(36,I ss.length),(35,.slice a' ss.length f_),(6,I s.2)]) (fun _=>[]) (fun s=>ss.length-s.1) (0,0) ⟨Nat.zero_le _,O⟩ iw qE ?_;rintro⟨k,bef⟩ ⟨fA,IK⟩;simp only at fA IK;refine kJ ?_;refine W.aJ O (fun c38=>?_) (fun c38=>?_)
 ·obtain⟨p,hp,yI⟩:=has (show k<ss.length by simp only at c38;omega);rw[yI]at IK;obtain⟨b,off,c,E,fz,rfl,hb,hx,hy,hz⟩:=hs.at hp;have Aq:c.extract (off+k*3) (off+k*3+3)= #[I p.day,I p.co,I p.wa]:=hx;clear hx hz;refine kR ?_;refine aA.new (fun zC=>?_);refine jk ?_;refine cp (fun h' hE hL=>rX _ h' _ _ _) ?_;refine zT ?_;refine aA.ask (fun as6=>?_) (fun as6=>?_)
  ·refine gZ ?_;refine W.kG ?_;refine iC ?_;refine lQ ?_;have hc:kW bef p=1:=by simp only[kW];rw[if_pos];first | exact .inl ‹_› | exact .inr (.inl ‹_›) | exact .inr (.inr ‹_›)
   show I _=I _;congr 1;simp only[dU];simp only[g_,hc]at IK;rw[if_neg aj,if_neg aj,if_neg aj,if_neg aj,IK];rfl
  refine d_ ?_;refine cp (fun h' hE hL=>rX _ h' _ _ _) ?_;refine d_ ?_;refine aA.ask (fun as7=>?_) (fun as7=>?_)
  ·refine kJ ?_;refine W.kG ?_;refine iC ?_;refine lQ ?_;have hc:kW bef p=1:=by simp only[kW];rw[if_pos];first | exact .inl ‹_› | exact .inr (.inl ‹_›) | exact .inr (.inr ‹_›)
   show I _=I _;congr 1;simp only[dU];simp only[g_,hc]at IK;rw[if_neg aj,if_neg aj,if_neg aj,if_neg aj,IK];rfl
  refine d_ ?_;refine cp (fun h' hE hL=>rX _ h' _ _ _) ?_;refine d_ ?_;refine W.aJ O (fun c53=>?_) (fun c53=>?_)
  ·refine iC ?_;refine lQ ?_;have hc:kW bef p=1:=by simp only[kW];rw[if_pos];first | exact .inl ‹_› | exact .inr (.inl ‹_›) | exact .inr (.inr ‹_›)
   show I _=I _;congr 1;simp only[dU];simp only[g_,hc]at IK;rw[if_neg aj,if_neg aj,if_neg aj,if_neg aj,IK];rfl
  refine gZ ?_;refine W.aJ O (fun c57=>?_) (fun c57=>?_)
  ·refine iC ?_;refine lQ ?_;show I _=I _;congr 1;simp only[dU];simp only[g_]at IK;rw[if_neg aj,if_neg aj,if_neg aj,if_neg aj,IK];simp_all[kW]
  refine kJ ?_;refine zW rfl rfl rfl<|aA.nil<|iE<|fH<|W.region rfl ?_;refine gI ?_;exact⟨O,(k+1,p.day),⟨by simp only at c38⊢;omega,by simp only[g_]at IK;rw[IK];simp_all[kW]⟩,by simp only at c38⊢;omega,iw,qE⟩
 have:k=ss.length:=by simp only at c38;omega
 subst this;refine gZ ?_;refine lQ ?_;show I _=I _;congr 1;simp only[dU];rw[if_neg aj,if_neg aj,if_neg aj,if_neg aj,IK];simp[g_]
end Go.jc
