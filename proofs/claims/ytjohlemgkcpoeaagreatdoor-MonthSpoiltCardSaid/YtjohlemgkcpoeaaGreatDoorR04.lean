/- The memory and the trace of many goroutines, each with what it knows and may write: kept by own steps, by acts on shared blocks, by handing over. Conditions: none; over any program. (And 3 texts more.) -/
import Derived.Test.YtjohlemgkcpoeaaGreatDoorR03
import Derived.Conc.Pipeline3
set_option linter.unusedVariables false
set_option linter.unusedSimpArgs false
set_option linter.unusedSectionVars false
set_option maxRecDepth 100000
set_option maxHeartbeats 4000000

namespace Go.jc
open Go.Conc (Before Knows knows_own touchAt touchAt_of touchAt_old noRace_append getElem?_append_old getElem?_append_cases lt_size_of_getElem? touch_of hb_po mem_of_getElem? hb_app ofEvents_eq Deaf deaf_old g?_old act?_old heard_old lt_of_act? Deaf_own Deaf_other)
def Apart(M:Nat->Prop)(k:Hp):Prop:=∀b,M b->(k b).isSome=true->lI (k b)=true

variable{M M':Nat->Prop}{b g:Nat}{es:Array Event}{k k':Hp}{v:Option (Hp×(Nat->Prop))}{w':World}
theorem yP.rely{w:World}(ha:yP k' w)(g:iR k M w w' es)(hap:Apart M k')(hfk:∀b o,k' b=some o->ji o=true->w'.heap[b]? =w.heap[b]?):yP k' w':=by
 intro b o ho;obtain⟨o',h1,h2,hv⟩:=ha b o ho;by_cases hm:M b
 ·have hc:o.isChan=true:=by
   have:=hap b hm (by rw[ho];rfl);rw[ho]at this;exact this
  rcases h2 with h2 | ⟨_,h2 | h2⟩
  ·exact⟨o',g.lJ b o' h1 (by rw[h2];exact hc),.inl h2,hv⟩
  ·exact⟨o',g.lJ b o' h1 h2,.inr ⟨hc,.inl h2⟩,hv⟩
  exact⟨o',by rw[hfk b o ho h2];exact h1,.inr ⟨hc,.inr h2⟩,hv⟩
 exact⟨o',by rw[g.keep b (nT h1) hm];exact h1,h2,hv⟩

theorem aaf{w:World}(h:Apart M k)(ha:yP k w):Apart (grown M w w') k:=by
 intro b hb hs;rcases hb with hb | hb
 ·exact h b hb hs
 obtain⟨o,ho⟩:=iJ.1 hs;have:=ha.lt ho;omega
theorem ac4{w:World}(h:Apart M' k)(hd:LH k' M')(ha:yP k' w):Apart M' (snap k w w'):=by
 intro b hb hs;obtain⟨o,ho⟩:=iJ.1 (hd b hb);have fK:=ha.lt ho
 cases hc:lI (k b)with
 | true=>simp[snap,hc]
 | false=>
  have hk:(k b).isSome=true:=by
   cases hk:(k b).isSome with
   | true=>rfl
   | false=>
    have h3:¬w.heap.size<=b:=by omega
    simp[snap,hc,hk,h3]at hs
  rw[h b hb hk]at hc;cases hc
theorem sK{w:World}{c:Nat}{o:Obj}(h:k c=some o)(hc:o.isChan=true):snap k w w' c=some o:=by simp[snap,h,lI,hc]
theorem IU{w:World}(h:k b=none)(hb:b<w.heap.size):snap k w w' b=none:=by
 have h3:¬w.heap.size<=b:=by omega
 simp[snap,h,lI,h3]

theorem CO{w:World}(ha:yP k w)(g:iR k M w w' es){po:Nat}{c:Array Value}(h:snap k w w' b=some (bn c po)):k b=some (bn c po):=by
 obtain⟨o',h1,_,h2⟩:=wL ha g b _ h;obtain⟨c',e,fz,rfl,_⟩:=h2 c po rfl
 cases hc:lI (k b)with
 | true=>rw[<-h];simp[snap,hc]
 | false=>
  simp only[snap,hc,eU,if_false]at h;split at h
  ·rw[h1]at h;cases h
  cases h

abbrev Prs:=Nat->Option (Hp×(Nat->Prop))
def vJ(pr:Prs)(g:Nat)(v:Option (Hp×(Nat->Prop))):Prs:=fun x=>if x=g then v else pr x
variable{pr:Prs}
theorem iP:vJ pr g v g=v:=by simp[vJ]
theorem jZ{x:Nat}(h:x≠g):vJ pr g v x=pr x:=by simp[vJ,h]

structure Kno(w:World)(t:Trace)(g:Nat)(k:Hp)(M:Nat->Prop):Prop where
 rO:yP k w
 qC:LH k M
 own:∀b,M b->lI (k b)=false->Own t g b
 rd:∀b,(k b).isSome=true->lI (k b)=false->Rd t g b
 vw:∀b c po off,k b=some (bn c po)->off<c.size->off≠po->RdC t g b off

structure LY(w:World)(t:Trace)(n:Nat)(dv:Nat->Nat)(pr:Prs)(sh nU:Nat->Prop):Prop where
 tk:TK t n w.heap.size dv
 xQ:∀g k M,pr g=some (k,M)->Kno w t g k M
 apart:∀g g' k M k' M',g≠g'->pr g=some (k,M)->pr g'=some (k',M')->Apart M k'
 AV:∀b g k M o,sh b->pr g=some (k,M)->k b=some o->ji o=true
 fk:∀b g k M o,pr g=some (k,M)->k b=some o->ji o=true->sh b
 tC:∀b g k M,nU b->pr g=some (k,M)->k b=none
 lt:∀b,sh b\/nU b->b<w.heap.size

section
variable{w w':World}{t u:Trace}{n:Nat}{dv dv':Nat->Nat}{pr:Prs}{sh nU:Nat->Prop}
theorem Kno.lt(h:Kno w t g k M)(hb:M b):b<w.heap.size:=let⟨_,ho⟩:=iJ.1 (h.qC b hb);h.rO.lt ho
theorem Kno.klt(h:Kno w t g k M)(hb:(k b).isSome=true):b<w.heap.size:=let⟨_,ho⟩:=iJ.1 hb;h.rO.lt ho

theorem LY.step{fn:FuncId}{pos:String}(Y:LY w t n dv pr sh nU)(hg:pr g=some (k,M))(hn:g<n)(gu:iR k M w w' es):
  LY w' (t++MemOp.ofEvents g fn pos es) n dv (vJ pr g (some (snap k w w',grown M w w'))) sh nU:=by
 have K:=Y.xQ g k M hg
 have mg:∀{x k' M'},vJ pr g (some (snap k w w',grown M w w')) x=some (k',M')->(x=g/\k'=snap k w w'/\M'=grown M w w')\/(x≠g/\pr x=some (k',M')):=by
  intro x k' M' h;by_cases hx:x=g
  ·subst hx;rw[iP]at h;cases h;exact .inl ⟨rfl,rfl,rfl⟩
  rw[jZ hx]at h;exact .inr ⟨hx,h⟩
 refine⟨Y.tk.step hn K.rO gu K.own K.rd K.vw,fun x k' M' h=>?_,fun x y k1 M1 k2 M2 MB h1 h2=>?_,fun b x k' M' o hb h ho=>?_,fun b x k' M' o h ho hf=>?_,fun b x k' M' hb h=>?_,fun b hb=>Nat.lt_of_lt_of_le (Y.lt b hb) gu.size⟩
 ·rcases mg h with⟨rfl,rfl,rfl⟩ | ⟨hx,h⟩
  ·exact⟨wL K.rO gu,Cj K.rO K.qC gu.size,fun b hb hc=>SN Y.tk.below b hb fun hm=>K.own b hm (Z5 b hc),alm Y.tk.below K.rd,fun b c po off h h1 h2=>(K.vw b c po off (CO K.rO gu h) h1 h2).app fun op aY _ _ _ _=>by obtain⟨e,_,rfl⟩:=mem_ofEvents aY;rfl⟩
  have K':=Y.xQ x k' M' h;have a1:=Y.apart g x k M k' M' (Ne.symm hx) hg h;have a2:=Y.apart x g k' M' k M hx h hg
  have hfk:∀b o,k' b=some o->ji o=true->w'.heap[b]? =w.heap[b]? :=fun b o ho hf=>by
   have hs:=Y.fk b x k' M' o h ho hf;by_cases hm:M b
   ·obtain⟨o2,ho2⟩:=iJ.1 (K.qC b hm);exact gu.JF b o2 ho2 (Y.AV b g k M o2 hs hg ho2)
   exact gu.keep b (Y.lt b (.inl hs)) hm
  refine⟨K'.rO.rely gu a1 hfk,K'.qC,fun b hb hc=>afR gu (K'.own b hb hc) (K'.lt hb) (a2 b hb) fun c po e=>?_,fun b hb hc=>ah7 gu (K'.rd b hb hc) (K'.klt hb) fun hm=>?_,fun b c po off hb h1 h2=>(K'.vw b c po off hb h1 h2).app fun op aY a ha hl hw=>?_⟩
  ·have hs:=Y.fk b g k M _ hg e O;obtain⟨o,ho⟩:=iJ.1 (K'.qC b hb);rw[ho,show lI (some o)=o.isChan from rfl,eP (Y.AV b x k' M' o hs h ho)]at hc;cases hc
  ·rw[a1 b hm hb]at hc;cases hc
  exfalso;obtain⟨e,he,rfl⟩:=mem_ofEvents aY;obtain⟨bl,h3,h4,_,_,h5⟩:=wV (gu.jv e he) ha;obtain rfl:b=bl:=h4 b (by rw[hl];rfl);rcases h5 with⟨h5,h6,_⟩ | h5 | ⟨h5,_⟩
  ·obtain⟨o,ho⟩:=iJ.1 h5;rw[ho,show lI (some o)=o.isChan from rfl,eP (Y.AV b g k M o (Y.fk b x k' M' _ h hb rfl) hg ho)]at h6;cases h6
  ·have:=K'.rO.lt hb;omega
  rw[hw]at h5;cases h5
 ·rcases mg h1 with⟨rfl,rfl,rfl⟩ | ⟨hx,q1⟩
  ·rcases mg h2 with⟨rfl,_,_⟩ | ⟨hy,q2⟩
   ·exact absurd O MB
   exact aaf (Y.apart _ y k M k2 M2 MB hg q2) (Y.xQ y k2 M2 q2).rO
  rcases mg h2 with⟨rfl,rfl,rfl⟩ | ⟨hy,q2⟩
  ·have K1:=Y.xQ x k1 M1 q1;exact ac4 (Y.apart x _ k1 M1 k M MB q1 hg) K1.qC K1.rO
  exact Y.apart x y k1 M1 k2 M2 MB q1 q2
 ·rcases mg h with⟨rfl,rfl,rfl⟩ | ⟨hx,h⟩
  ·cases hk:k b with
   | none=>rw[IU hk (Y.lt b (.inl hb))]at ho;cases ho
   | some o'=>
    have hf:=Y.AV b _ k M o' hb hg hk;rw[sK hk (eP hf)]at ho
    cases ho;exact hf
  exact Y.AV b x k' M' o hb h ho
 ·rcases mg h with⟨rfl,rfl,rfl⟩ | ⟨hx,h⟩
  ·cases hc:lI (k b)with
   | true=>
    have:snap k w w' b=k b:=by simp[snap,hc]
    rw[this]at ho;exact Y.fk b _ k M o hg ho hf
   | false=>
    exfalso;have Gv:=eP hf;simp only[snap,hc,eU,if_false]at ho;split at ho
    ·by_cases fK:b<w.heap.size
     ·obtain⟨Om,e⟩:=iJ.1 (show(w.heap[b]?).isSome=true by simp;omega)
      cases anF:Om.isChan with
      | true=>
       cases hk:k b with
       | none=>rename_i hx;simp[hk]at hx;omega
       | some y=>
        obtain⟨ak8,e2,e3,_⟩:=K.rO b y hk;rw[e]at e2;cases e2;rw[hk]at hc;rcases e3 with e3 | e3
        ·rw[<-e3]at hc;rw[show lI (some Om)=Om.isChan from rfl,anF]at hc;cases hc
        rw[show lI (some y)=y.isChan from rfl,e3.1]at hc;cases hc
      | false=>rw[gu.stay b Om o e anF ho]at Gv;cases Gv
     have:=gu.news b o aj ho Gv;subst this;cases hf
    cases ho
  exact Y.fk b x k' M' o h ho hf
 rcases mg h with⟨rfl,rfl,rfl⟩ | ⟨hx,h⟩
 ·exact IU (Y.tC b _ k M hb hg) (Y.lt b (.inr hb))
 exact Y.tC b x k' M' hb h

theorem LY.afT{n':Nat}{tch:Nat->Prop}(Y:LY w t n dv pr sh nU)(hn:g<n)(GN:n<=n')(oH:w'.heap.size=w.heap.size)(xR:∀b,¬tch b->w'.heap[b]? =w.heap[b]?)(hu:Vs t g w.heap.size u)
  (hut:∀op∈u,∀a,op.act.touch? =some a->∀b,In a.loc b->tch b) (hk:∀b x k M o,tch b->pr x=some (k,M)->k b=some o->o.isChan=true/\(ji o=true\/∃o',w'.heap[b]? =some o'/\o'.isChan=true)/\∀c po,o≠bn c po)
  (hd:∀g,Deaf (t++u) g=dv' g):LY w' (t++u) n' dv' pr sh nU:=by
 refine⟨Y.tk.sh hn GN (by rw[oH];exact Nat.le_refl _) hu hd,fun x k M h=>?_,Y.apart,Y.AV,Y.fk,Y.tC,fun b hb=>by rw[oH];exact Y.lt b hb⟩;have K:=Y.xQ x k M h
 have nt:∀b,(k b).isSome=true->lI (k b)=false->¬tch b:=fun b hs hc ht=>by
  obtain⟨o,ho⟩:=iJ.1 hs;have:=(hk b x k M o ht h ho).1;rw[ho]at hc;rw[show lI (some o)=o.isChan from rfl,this]at hc;cases hc
 refine⟨fun b o ho=>?_,K.qC,fun b hb hc=>?_,fun b hb hc=>?_,fun b c po off hb h1 h2=>(K.vw b c po off hb h1 h2).app fun op aY a ha hl _=>?_⟩
 ·obtain⟨o',h1,h2,hv⟩:=K.rO b o ho;by_cases ht:tch b
  ·obtain⟨h3,h4 | ⟨ak8,h4,h5⟩,h6⟩:=hk b x k M o ht h ho
   ·have fK:b<w'.heap.size:=by rw[oH];exact nT h1
    exact⟨w'.heap[b],Array.getElem?_eq_getElem fK,.inr ⟨h3,.inr h4⟩,.of h6⟩
   exact⟨ak8,h4,.inr ⟨h3,.inl h5⟩,.of h6⟩
  exact⟨o',by rw[xR b ht];exact h1,h2,hv⟩
 ·exact hu.own (K.own b hb hc) fun op aY a ha hl=>nt b (K.qC b hb) hc (hut op aY a ha b hl)
 ·exact hu.rd (K.rd b hb hc) fun op aY a ha hl=>nt b hb hc (hut op aY a ha b hl)
 exact absurd O ((hk b x k M _ (hut op aY a ha b (by rw[hl];rfl)) h hb).2.2 c po)

theorem LY.set(Y:LY w t n dv pr sh nU)(hK:Kno w t g k' M')(h1:∀x k M,x≠g->pr x=some (k,M)->Apart M' k/\Apart M k')(h2:∀b o,k' b=some o->(sh b->ji o=true)/\(ji o=true->sh b))(h3:∀b,nU b->k' b=none):
  LY w t n dv (vJ pr g (some (k',M'))) sh nU:=by
 have mg:∀{x k1 M1},vJ pr g (some (k',M')) x=some (k1,M1)->(x=g/\k1=k'/\M1=M')\/(x≠g/\pr x=some (k1,M1)):=by
  intro x k1 M1 h;by_cases hx:x=g
  ·subst hx;rw[iP]at h;cases h;exact .inl ⟨rfl,rfl,rfl⟩
  rw[jZ hx]at h;exact .inr ⟨hx,h⟩
 refine⟨Y.tk,fun x k1 M1 h=>?_,fun x y k1 M1 k2 M2 MB e1 e2=>?_,fun b x k1 M1 o hb h ho=>?_,fun b x k1 M1 o h ho hf=>?_,fun b x k1 M1 hb h=>?_,Y.lt⟩
 ·rcases mg h with⟨rfl,rfl,rfl⟩ | ⟨hx,h⟩
  ·exact hK
  exact Y.xQ x k1 M1 h
 ·rcases mg e1 with⟨rfl,rfl,rfl⟩ | ⟨hx,q1⟩
  ·rcases mg e2 with⟨rfl,_,_⟩ | ⟨hy,q2⟩
   ·exact absurd O MB
   exact(h1 y k2 M2 hy q2).1
  rcases mg e2 with⟨rfl,rfl,rfl⟩ | ⟨hy,q2⟩
  ·exact(h1 x k1 M1 hx q1).2
  exact Y.apart x y k1 M1 k2 M2 MB q1 q2
 ·rcases mg h with⟨rfl,rfl,rfl⟩ | ⟨hx,h⟩
  ·exact(h2 b o ho).1 hb
  exact Y.AV b x k1 M1 o hb h ho
 ·rcases mg h with⟨rfl,rfl,rfl⟩ | ⟨hx,h⟩
  ·exact(h2 b o ho).2 hf
  exact Y.fk b x k1 M1 o h ho hf
 rcases mg h with⟨rfl,rfl,rfl⟩ | ⟨hx,h⟩
 ·exact h3 b hb
 exact Y.tC b x k1 M1 hb h
theorem LY.drop(Y:LY w t n dv pr sh nU):LY w t n dv (vJ pr g none) sh nU:=by
 have mg:∀{x k1 M1},vJ pr g none x=some (k1,M1)->pr x=some (k1,M1):=by
  intro x k1 M1 h;by_cases hx:x=g
  ·subst hx;rw[iP]at h;cases h
  rw[jZ hx]at h;exact h
 exact⟨Y.tk,fun x k1 M1 h=>Y.xQ x k1 M1 (mg h),fun x y k1 M1 k2 M2 MB e1 e2=>Y.apart x y k1 M1 k2 M2 MB (mg e1) (mg e2),fun b x k1 M1 o hb h ho=>Y.AV b x k1 M1 o hb (mg h) ho,fun b x k1 M1 o h ho hf=>Y.fk b x k1 M1 o (mg h) ho hf,fun b x k1 M1 hb h=>Y.tC b x k1 M1 hb (mg h),Y.lt⟩
theorem LY.re{sh' alo:Nat->Prop}(Y:LY w t n dv pr sh nU)(h1:∀b g k M o,pr g=some (k,M)->k b=some o->(sh' b->ji o=true)/\(ji o=true->sh' b))(h2:∀b g k M,alo b->pr g=some (k,M)->k b=none)(h3:∀b,sh' b\/alo b->b<w.heap.size):LY w t n dv pr sh' alo:=
 ⟨Y.tk,Y.xQ,Y.apart,fun b g k M o hb h ho=>(h1 b g k M o h ho).1 hb,fun b g k M o h ho hf=>(h1 b g k M o h ho).2 hf,h2,h3⟩
theorem LY.Eh{pr':Prs}(Y:LY w t n dv pr sh nU)(h:∀g,pr' g=pr g):LY w t n dv pr' sh nU:=by
 have:pr'=pr:=funext h;rw[this];exact Y
theorem Kno.at(h:Kno w t g k M)(d:Nat):Kno (w.at d) t g k M:=⟨h.rO,h.qC,h.own,h.rd,h.vw⟩
theorem LY.at(Y:LY w t n dv pr sh nU)(d:Nat):LY (w.at d) t n dv pr sh nU:=⟨Y.tk,fun g k M h=>(Y.xQ g k M h).at d,Y.apart,Y.AV,Y.fk,Y.tC,Y.lt⟩
end
end Go.jc

namespace Go.jc
open Go.Conc (crowd parked rcase scase QuitsIn QuitsD Before Knows knows_own touchAt touchAt_of touchAt_old noRace_append getElem?_append_old getElem?_append_cases lt_size_of_getElem? touch_of hb_po mem_of_getElem? hb_app ofEvents_eq woken Deaf deaf_old g?_old act?_old heard_old lt_of_act? Deaf_own Deaf_other counts_old deaf_inside)
open Go.ConcM (OsLater)
open Go.ConcN (RelBy)
class Base where
 ref:World
structure Kept(w w':World):Prop where
 os:w'.os=w.os
 output:w'.output=w.output
 tape:w'.tape=w.tape
 size:w.heap.size<=w'.heap.size
 block:∀b,b<w.heap.size->w'.heap[b]? =w.heap[b]?
theorem Kept.refl(w:World):Kept w w:=⟨O,O,O,Nat.le_refl _,fun _ _=>rfl⟩
variable{M nU:Nat->Prop}{P:Program}{a:Addr}{b i j:Nat}{dv:Nat->Nat}{es:Array Event}{g g':Goroutine}{k:Hp}{m:Machine}{o:Outcome}{o1 o2 z:MemOp}{pos:String}{pr:Prs}{r w':World}{t u:Trace}{v:Value}{α:Type}{y:α}
theorem Kept.Ji{w:World}(h:Kept r w)(g:iR k M w w' es)(hl:∀b,M b->r.heap.size<=b):Kept r w':=
 ⟨g.os.trans h.os,g.output.trans h.output,g.tape.trans h.tape,Nat.le_trans h.size g.size,fun b hb=>(g.keep b (Nat.lt_of_lt_of_le hb h.size) fun hm=>by have:=hl b hm;omega).trans (h.block b hb)⟩
theorem Kept.off{w:World}(h:Kept r w)(h1:w'.os=w.os)(h2:w'.output=w.output)(h3:w'.tape=w.tape)(oH:w'.heap.size=w.heap.size)(ho:∀b,b<r.heap.size->w'.heap[b]? =w.heap[b]?):Kept r w':=
 ⟨h1.trans h.os,h2.trans h.output,h3.trans h.tape,by rw[oH];exact h.size,fun b hb=>(ho b hb).trans (h.block b hb)⟩
theorem Kept.at{w:World}(h:Kept r w)(d:Nat):Kept r (w.at d):=⟨h.os,h.output,h.tape,h.size,h.block⟩
theorem gy{l:List α}{p:α}(h:l[i]? =some p):i<l.length:=by
 rcases bQ i l.length with h' | h'
 ·exact h'
 rw[fM h']at h;cases h
theorem MC{l:List α}{b:α}(h:(l.set i b)[j]? =some y):(j=i/\y=b/\i<l.length)\/(j≠i/\l[j]? =some y):=by
 rw[List.getElem?_set]at h;split at h
 ·rename_i e;subst e;split at h
  ·rename_i hl
   cases h
   exact .inl ⟨O,O,hl⟩
  cases h
 rename_i e;exact .inr ⟨fun x=>e x.symm,h⟩
section
variable{t u:Trace}
end
def MF(P:Program)(ga QW:Goroutine):Bool:=mayWake P ga&&QW.status != .blocked&&QW.status != .waiting
theorem sN(P:Program)(ga QW:Goroutine)(w':World)(o:Goroutine):woken P ga QW w' o=if MF P ga QW=true then o.again w' else o:=rfl
theorem aie{ga QW o:Goroutine}(h:o.status= .running\/o.status= .finished):woken P ga QW w' o=o:=by
 rw[sN];split
 ·exact Conc.again_running _ h
 rfl
theorem SX(hs:g.status= .running)(ho:g.offers=none)(w:World):({g with status:=.blocked}:Goroutine).again w=g:=by
 obtain⟨a,b,c,d,e⟩:=g;have xK:c= .running:=hs;have mM:e=none:=ho;subst xK mM;simp[Goroutine.again]
theorem afU{g k:Nat}(h:∀n,t.counts n->t.g? n=some k->Knows t g n)(hu:∀n,t.size<=n->(t++u).g? n=some k->¬(t++u).counts n):∀n,(t++u).counts n->(t++u).g? n=some k->Knows (t++u) g n:=by
 intro n hc hg;rcases bQ n t.size with hn | hn
 ·exact(h n ((counts_old hn).1 hc) (by rw[g?_old hn]at hg;exact hg)).app u
 exact absurd hc (hu n hn hg)
theorem uh{k:Nat}(hu:∀op∈u,op.g≠k):∀n,t.size<=n->(t++u).g? n=some k->¬(t++u).counts n:=by
 intro n hn hg;obtain⟨op,ho,hog⟩:=jR.1 hg;rcases getElem?_append_cases ho with⟨h1,_⟩ | ⟨_,h1⟩
 ·omega
 exact absurd hog (hu op h1)
theorem jT{gs:Array Goroutine}{n:Nat}(fK:n<gs.size):((gs.map (woken P g g' w')).setIfInBounds n g')[j]? =if j=n then some g' else(gs[j]?).map (woken P g g' w'):=by
 by_cases hj:j=n
 ·subst hj;simp[fK]
 rw[if_neg hj,kM (fun e=>hj e.symm),Array.getElem?_map]
section
variable{w w':World}{t u:Trace}
theorem aag{g:Nat}{fn:FuncId}{pos:String}{n:Nat}{sh:Nat->Prop}(Y:LY w t n dv pr sh nU)(hg:pr g=some (k,M))(gu:iR k M w w' es)(hb:nU b):
  w'.heap[b]? =w.heap[b]? /\∀op∈MemOp.ofEvents g fn pos es,∀a,op.act.touch? =some a->¬In a.loc b:=by
 have hk:=Y.tC b g k M hb hg;have fK:=Y.lt b (.inr hb);refine⟨gu.keep b fK fun hm=>?_,SQ gu fK (fun h=>by rw[hk]at h;cases h) fun c po e=>by rw[hk]at e;cases e⟩;have:=(Y.xQ g k M hg).qC b hm;rw[hk]at this;cases this
theorem Yq{g:Nat}{fn:FuncId}{pos:String}{n:Nat}{sh:Nat->Prop}(Y:LY w t n dv pr sh nU)(hg:pr g=some (k,M))(gu:iR k M w w' es)(hb:sh b):
  w'.heap[b]? =w.heap[b]? /\((∀c po,k b≠some (bn c po))->∀op∈MemOp.ofEvents g fn pos es,∀a,op.act.touch? =some a->¬In a.loc b):=by
 have fK:=Y.lt b (.inl hb);have hk:∀o,k b=some o->ji o=true:=fun o ho=>Y.AV b g k M o hb hg ho;refine⟨?_,fun hv=>SQ gu fK (fun h=>?_) hv⟩
 ·by_cases hm:M b
  ·obtain⟨o,ho⟩:=iJ.1 ((Y.xQ g k M hg).qC b hm);exact gu.JF b o ho (hk o ho)
  exact gu.keep b fK hm
 obtain⟨o,ho⟩:=iJ.1 h;rw[ho];exact eP (hk o ho)
theorem aah{l:List α}{a:α}(h:l[i]? =some a):l.set i a=l:=by
 apply List.ext_getElem?;intro j;rw[List.getElem?_set];split
 ·rename_i e;subst e;rw[if_pos (gy h),h]
 rfl
theorem alp{n g:Nat}{sh:Nat->Prop}(Y:LY w t n dv pr sh nU)(hg:pr g=some (k,M))(hb:sh b):snap k w w' b=k b:=by
 cases hk:k b with
 | none=>exact IU hk (Y.lt b (.inl hb))
 | some o=>exact sK hk (eP (Y.AV b g k M o hb hg hk))
theorem LY.alone{n:Nat}{sh:Nat->Prop}(Y:LY w t n dv pr sh nU){g g':Nat}{k':Hp}{M':Nat->Prop}(iK:g≠g')(h:pr g=some (k,M))(h':pr g'=some (k',M')){c:Obj}(hb:M b)(hk:k b=some c)(hc:c.isChan=false)(hs:¬sh b):k' b=none:=by
 cases e:k' b with
 | none=>rfl
 | some o=>
  exfalso;have h1:=Y.apart g g' k M k' M' iK h h' b hb (by rw[e];rfl);rw[e,qP]at h1;have h2:=(Y.xQ g k M h).rO.get hk hc;obtain⟨o',h3,h4,_⟩:=(Y.xQ g' k' M' h').rO b o e;rw[h2]at h3;cases h3;rcases h4 with h4 | ⟨_,h4 | h4⟩
  ·rw[h4,h1]at hc;cases hc
  ·rw[hc]at h4;cases h4
  exact hs (Y.fk b g' k' M' o h' e h4)
end
theorem Ei{w:World}{off:Nat}{c:Array Value}{t:TypeId}{fz:Nat×Nat}(h:w.heap[b]? =some (.cells c t fz)):(w.setCell ⟨b,off,none⟩ v).heap[b]? =some (.cells (c.setIfInBounds off v) t fz):=by
 simp[World.setCell,Array.getElem?_modify,h]
theorem wX{w:World}{b' off:Nat}(h:b'≠b):(w.setCell ⟨b,off,none⟩ v).heap[b']? =w.heap[b']? :=by
 simp[World.setCell,Array.getElem?_modify,Ne.symm h]
theorem qh{w:World}:(w.setCell a v).heap.size=w.heap.size:=by simp[World.setCell]
def aai(b:Nat)(e:Event):Prop:=(∃m,e=yw m/\(∀a,m≠ .release a)/\(∀a,m≠ .read a)/\∀a,m≠ .write a)\/∃c:Addr,c.block=b/\(e=FM c\/e=Kt c)
theorem SY{e:Event}(h:aai b e):(∀a,MemAct.ofEvent e≠ .mark (.release a))/\∀a,(MemAct.ofEvent e).touch? =some a->a.kind= .atomic/\In a.loc b/\∀b',In a.loc b'->b'=b:=by
 rcases h with⟨m,rfl,h1,h2,h3⟩ | ⟨c,rfl,rfl | rfl⟩
 ·have e1:MemAct.ofEvent (yw m)= .mark m:=rfl;refine⟨fun a e=>?_,fun a ha=>?_⟩
  ·rw[e1]at e;injection e with e;exact h1 a e
  rw[e1]at ha
  cases m <;>simp only[MemAct.touch?]at ha <;>first | (cases ha;done) | exact absurd rfl (h2 _) | exact absurd rfl (h3 _)
 ·refine⟨fun a e=>(by cases e),fun a ha=>?_⟩;simp only[FM,MemAct.ofEvent,MemAct.touch?,dY]at ha;subst ha;exact⟨O,O,fun b' e=>e.symm⟩
 refine⟨fun a e=>(by cases e),fun a ha=>?_⟩;simp only[Kt,MemAct.ofEvent,MemAct.touch?,dY]at ha;subst ha;exact⟨O,O,fun b' e=>e.symm⟩
theorem anG{g size:Nat}{fn:FuncId}(he:∀e∈es,aai b e)(hp:PlK t g b)(hb:b<size):Vs t g size (MemOp.ofEvents g fn pos es)/\∀op∈MemOp.ofEvents g fn pos es,∀a,op.act.touch? =some a->a.kind≠ .plain/\∀b',In a.loc b'->b'=b:=by
 refine⟨⟨fun op aY=>?_,fun op aY a ha=>?_,fun op aY a=>?_⟩,fun op aY a ha=>?_⟩ <;>obtain⟨e,h1,rfl⟩:=mem_ofEvents aY
 ·rfl
 ·obtain⟨h2,h3,h4⟩:=(SY (he e h1)).2 a ha;exact⟨by rw[h2];simp,fun h=>(by rw[h2]at h;cases h),b,h3,h4,hb,hp⟩
 ·exact(SY (he e h1)).1 a
 obtain⟨h2,h3,h4⟩:=(SY (he e h1)).2 a ha;exact⟨by rw[h2];simp,h4⟩
structure OA(b:Nat)(w w':World):Prop where
 size:w'.heap.size=w.heap.size
 off:∀b',b'≠b->w'.heap[b']? =w.heap[b']?
 os:w'.os=w.os
 output:w'.output=w.output
 tape:w'.tape=w.tape
theorem OA.refl(b:Nat)(w:World):OA b w w:=⟨rfl,fun _ _=>rfl,rfl,rfl,rfl⟩
theorem OA.set(w:World)(a:Addr)(v:Value):OA a.block w (w.setCell a v):=⟨qh,fun b' h=>by simp[World.setCell,Array.getElem?_modify,Ne.symm h],rfl,rfl,rfl⟩
theorem Kept.asn{w:World}(h:Kept r w)(e:OA b w w')(hb:r.heap.size<=b):Kept r w':=h.off e.os e.output e.tape e.size fun b' wz=>e.off b' aj
theorem jK.aso{x:xP}{p:MP}{c:Wn}(H:jK x p c)(h:0<c .s4):x.ws=0:=by
 cases p with
 | wt old B=>cases old <;>simp only[jK]at H <;>omega
 | reg=>simp only[jK]at H;rcases H with H | H | H | H <;>omega
 | _=>simp only[jK]at H;omega
def vK(d:Nat)(es:Array Event):Prop:=∀j e,es[j]? =some e->(MemAct.ofEvent e).touch? =none\/((∃ad wr,e=⟨.cell ad,wr,true⟩)/\0<deafBehind d (es.extract 0 j))
theorem aaj{d:Nat}{m:Mark}(h:(MemAct.ofEvent (yw m)).touch? =none):vK d #[yw m]:=by
 intro j e he
 cases j with
 | zero=>simp at he;subst he;exact .inl h
 | succ j=>simp at he
theorem aif{d:Nat}(hd:0<d):vK d #[FM a]:=by
 intro j e he
 cases j with
 | zero=>simp at he;subst he;exact .inr ⟨⟨a,false,rfl⟩,by simpa[deafBehind]using hd⟩
 | succ j=>simp at he
theorem aii{d:Nat}(hd:0<d):vK d #[Kt a]:=by
 intro j e he
 cases j with
 | zero=>simp at he;subst he;exact .inr ⟨⟨a,true,rfl⟩,by simpa[deafBehind]using hd⟩
 | succ j=>simp at he
theorem aak{d:Nat}(hd:0<d):vK d #[FM a,Kt a]:=by
 intro j e he
 cases j with
 | zero=>simp at he;subst he;exact .inr ⟨⟨a,false,rfl⟩,by simpa[deafBehind]using hd⟩
 | succ j=>
  cases j with
  | zero=>simp at he;subst he;exact .inr ⟨⟨a,true,rfl⟩,by simpa[deafBehind,FM]using hd⟩
  | succ j=>simp at he
theorem afV{d:Nat}:vK d (FN a):=by
 intro j e he
 match j with
 | 0=>simp[FN]at he;subst he;exact .inl rfl
 | 1=>simp[FN]at he;subst he;exact .inr ⟨⟨a,false,rfl⟩,by simp[deafBehind,FN,yw]⟩
 | 2=>simp[FN]at he;subst he;exact .inr ⟨⟨a,true,rfl⟩,by simp[deafBehind,FN,yw,FM]⟩
 | 3=>simp[FN]at he;subst he;exact .inl rfl
 | n+4=>simp[FN]at he
section
variable{w w':World}{t u:Trace}
theorem Yr{k d:Nat}(h:vK d es)(hd:Deaf t k=d){fn:FuncId}:∀n,t.size<=n->(t++MemOp.ofEvents k fn pos es).g? n=some k->¬(t++MemOp.ofEvents k fn pos es).counts n:=by
 intro i hi _ hc;obtain⟨x,hx,_,hk⟩:=hc;obtain⟨act,aoZ,hxt⟩:=Option.bind_eq_some_iff.1 hx;obtain⟨op,ho,rfl⟩:=jR.1 aoZ
 have hj:(MemOp.ofEvents k fn pos es)[i-t.size]? =some op:=by
  rw[Array.getElem?_append]at ho;simpa[Nat.not_lt.2 hi]using ho
 rw[ofEvents_eq,Array.getElem?_map]at hj;obtain⟨e,he,rfl⟩:=jR.1 hj
 have hjs:i-t.size<=es.size:=by
  rcases bQ (i-t.size) es.size with h' | h'
  ·omega
  rw[Array.getElem?_eq_none h']at he;cases he
 rcases h _ e he with h0 | ⟨⟨ad,wr,rfl⟩,hdd⟩
 ·simp only at hxt;rw[h0]at hxt;cases hxt
 have hxk:x.kind= .atomic:=by
  cases wr <;>simp[MemAct.ofEvent,MemAct.touch?]at hxt <;>subst hxt <;>rfl
 rcases hk with hk | ⟨g,hg,DZ⟩
 ·exact hk hxk
 have hg1:g=k:=by simp[Trace.g?,ho]at hg;exact hg.symm
 subst hg1;have:=deaf_inside t g fn pos es (i-t.size) hjs;rw[show t.size+(i-t.size)=i by omega,DZ,hd]at this;omega
theorem Qp{l:List (List α)}{A:List α}(h:l[i]? =some []):(l.set i A).flatten.Perm (A++l.flatten):=by
 induction l generalizing i with
 | nil=>simp at h
 | cons y l ih=>
  cases i with
  | zero=>
   simp only[List.getElem?_cons_zero,dY]at h;subst h;simp
  | succ i=>
   simp only[List.getElem?_cons_succ]at h;simp only[List.set_cons_succ,List.flatten_cons];exact((ih h).append_left y).trans (by rw[<-eF,<-eF];exact(dK).append_right _)
theorem MG{g:Nat}{fn:FuncId}(hm:∀e∈es,Event.mute e=true):∀op∈MemOp.ofEvents g fn pos es,op.g=g/\op.act.touch? =none/\(∀a,op.act≠ .mark (.release a))/\∀a,op.act≠ .mark (.releaseMerge a):=by
 intro op aY;obtain⟨e,he,rfl⟩:=mem_ofEvents aY;have h:=hm e he;unfold Event.mute at h;split at h
 ·exact⟨rfl,rfl,fun a e=>(by cases e),fun a e=>by cases e⟩
 ·exact⟨rfl,rfl,fun a e=>(by cases e),fun a e=>by cases e⟩
 cases h
theorem PO{g:Nat}{fn:FuncId}(hm:∀e∈es,Event.mute e=true):∀n,t.size<=n->¬(t++MemOp.ofEvents g fn pos es).counts n:=by
 intro n hn ⟨x,hx,_⟩;obtain⟨act,aoZ,hxt⟩:=Option.bind_eq_some_iff.1 hx;obtain⟨op,ho,rfl⟩:=jR.1 aoZ;rcases getElem?_append_cases ho with⟨h1,_⟩ | ⟨_,h1⟩
 ·omega
 rw[(MG hm op h1).2.1]at hxt;cases hxt
theorem LY.mute{n g:Nat}{dv':Nat->Nat}{sh:Nat->Prop}{fn:FuncId}(Y:LY w t n dv pr sh nU)(hg:g<n)(hm:∀e∈es,Event.mute e=true)(hd:∀x,dv' x=if x=g then deafBehind (dv g) es else dv x):LY w (t++MemOp.ofEvents g fn pos es) n dv' pr sh nU:=by
 have hu:=MG (g:=g) (fn:=fn) (pos:=pos) hm;refine Y.afT (tch:=fun _=>False) hg (Nat.le_refl _) rfl (fun _ _=>rfl) ⟨fun op h=>(hu op h).1,fun op h a ha=>(by rw[(hu op h).2.1]at ha;cases ha),fun op h=>(hu op h).2.2.1⟩ (fun op h a ha=>by rw[(hu op h).2.1]at ha;cases ha) (fun b x k M o hb=>hb.elim) fun x=>?_;rw[hd];by_cases hx:x=g
 ·subst hx;rw[if_pos O,Deaf_own,Y.tk.deaf]
 rw[if_neg hx,Deaf_other t (Ne.symm hx) _ fun op h=>(hu op h).1];exact Y.tk.deaf x
end
section
variable{P:Program}{w w':World}{t u:Trace}
theorem S9{n d:Nat}(h:QuitsD P n d g)(hs:g.status= .running):∃n' g' es,n=n'+1/\(∀e∈es,Event.mute e=true)/\(∀w,stepG P false g w= .go g' w es)/\QuitsD P n' (deafBehind d es) g':=by
 cases n with
 | zero=>have:=h.1;rw[hs]at this;cases this
 | succ n=>
  rcases h with⟨h1,_⟩ | ⟨_,g',es,h1,h2,h3⟩
  ·rw[hs]at h1;cases h1
  exact⟨n,g',es,O,h1,h2,h3⟩
theorem G8{l:List α}{a:α}(h:(l++[a])[j]? =some y):l[j]? =some y\/(j=l.length/\y=a):=by
 rcases bQ j l.length with hj | hj
 ·rw[List.getElem?_append_left hj]at h;exact .inl h
 rw[List.getElem?_append_right hj]at h
 have:j-l.length=0:=by
  rcases Nat.eq_zero_or_pos (j-l.length)with h' | h'
  ·exact h'
  rw[fM (by simp;omega)]at h;cases h
 rw[this]at h;simp only[List.getElem?_cons_zero,dY]at h;exact .inr ⟨aj,h.symm⟩
def OB(n:Nat)(fn:FuncId)(pos:String):MemOp:={g:=0,fn,pos,act:=.go n}
def go2(n:Nat)(fn:FuncId)(pos:String):MemOp:={g:=n,fn,pos,act:=.start}
variable{n:Nat}{dv:Nat->Nat}{pr:Prs}{sh nU:Nat->Prop}{fn fn':FuncId}{pos pos':String}
theorem Yt:t++ #[o1,o2]=(t++ #[o1])++ #[o2]:=by rw[Array.append_assoc];rfl
theorem OC{a:Touch}(ha:touchAt (t++ #[o1,o2]) i=some a)(h1:o1.act.touch? =none)(h2:o2.act.touch? =none):touchAt t i=some a:=by
 rcases jM ha with⟨_,h⟩ | ⟨op,_,hm,h⟩
 ·exact h
 have:op=o1\/op=o2:=by simpa using hm
 rcases this with rfl | rfl
 ·rw[h1]at h;cases h
 rw[h2]at h;cases h
theorem iU{op:MemOp}(h:op∈ #[z]):op=z:=by simpa using h
theorem LY.word{g n':Nat}(Y:LY w t n dv pr sh nU)(hn:g<n)(GN:n<=n')(hg:z.g=g)(h1:z.act.touch? =none)(h2:∀m,z.act≠ .mark m):LY w (t++ #[z]) n' dv pr sh nU/\∀x,Deaf (t++ #[z]) x=dv x:=by
 have d1:∀x,Deaf (t++ #[z]) x=dv x:=fun x=>by
  rw[Go.ConcN.Deaf_still t x _ fun op h=>(by rw[iU h];exact⟨h2 _,h2 _⟩),Y.tk.deaf]
 refine⟨Y.afT (tch:=fun _=>False) hn GN rfl (fun _ _=>rfl) ⟨fun op h=>(by rw[iU h];exact hg),fun op h a ha=>(by rw[iU h,h1]at ha;cases ha),fun op h a=>(by rw[iU h];exact h2 _)⟩ (fun op h a ha=>by rw[iU h,h1]at ha;cases ha) (fun b x k M o hb=>hb.elim) d1,d1⟩
theorem LY.start(Y:LY w t n dv pr sh nU)(hn:0<n)(hd:dv 0=0)(Yu:dv n=0):LY w (t++ #[OB n fn pos,go2 n fn' pos']) (n+1) dv pr sh nU/\∀i,Knows t 0 i->Knows (t++ #[OB n fn pos,go2 n fn' pos']) n i:=by
 obtain⟨Y1,d1⟩:=Y.word (z:=OB n fn pos) hn (Nat.le_succ n) rfl rfl (by simp[OB]);obtain⟨Y2,_⟩:=Y1.word (z:=go2 n fn' pos') (Nat.lt_succ_self n) (Nat.le_refl _) rfl rfl (by simp[go2]);have e1:(t++ #[OB n fn pos,go2 n fn' pos'])[t.size]? =some (OB n fn pos):=by rw[Array.getElem?_append_right aj];simp
 have e2:(t++ #[OB n fn pos,go2 n fn' pos'])[t.size+1]? =some (go2 n fn' pos'):=by rw[Array.getElem?_append_right aj];simp
 have hh1:(t++ #[OB n fn pos,go2 n fn' pos']).heard t.size:=Y.tk.heard (r:=0) e1 hd
 have hh2:(t++ #[OB n fn pos,go2 n fn' pos']).heard (t.size+1):=by
  have hs:(t++ #[OB n fn pos]).size=t.size+1:=by simp
  have:=Y1.tk.heard (r:=0) (u:= #[go2 n fn' pos']) (z:=go2 n fn' pos') (by rw[hs,<-Yt];exact e2) Yu;rw[hs,<-Yt]at this;exact this
 have awg:HappensBefore (t++ #[OB n fn pos,go2 n fn' pos']) t.size (t.size+1):=
  .single (.inr ⟨.spawn (child:=n) (by simp only[Trace.act?,e1];rfl) (by simp only[Trace.act?,e2];rfl) (by simp only[Trace.g?,e2];rfl),hh1,hh2⟩)
 refine⟨by rw[Yt];exact Y2,?_⟩;rintro i ⟨q,z,h1,h2,h3⟩;have hq:=lt_size_of_getElem? h1;have h4:HappensBefore (t++ #[OB n fn pos,go2 n fn' pos']) q t.size:=hb_po hq (by rw[getElem?_append_old hq];exact h1) e1 h2;exact⟨t.size+1,_,e2,O,.inr ((h3.app _).hb (h4.trans awg))⟩
end
theorem OD{g a:Nat}(h1:t.g? a=some g)(h2:t.g? b=some g)(h:a<=b):Before t a b:=by
 rcases bQ a b with hl | hl
 ·obtain⟨y,hy,ey⟩:=jR.1 h1;obtain⟨z,hz,ez⟩:=jR.1 h2;exact .inr (hb_po hl hy hz (ey.trans ez.symm))
 exact .inl aj
def Ends(P:Program)(Q:Machine->Outcome->World->Trace->Prop)(m:Machine)(t:Trace):Prop:=
 ∃n last o w t',runNT P (n+1) m t=(.ended o w,t')/\runN P n m= .next last/\step P last= .ended o w/\Q last o w t'

section
variable{P:Program}{Q:Machine->Outcome->World->Trace->Prop}
theorem Ends.step{m':Machine}{ops:Array MemOp}(hs:stepT P m=(.next m',ops))(h:Ends P Q m' (t++ops)):Ends P Q m t:=by
 obtain⟨n,last,o,w,t',h1,h2,h3,h4⟩:=h;exact⟨n+1,last,o,w,t',by rw[runNT_succ_next hs];exact h1,by rw[runN_succ_next hs];exact h2,h3,h4⟩
theorem Ends.stop{ops:Array MemOp}{w:World}(hs:stepT P m=(.ended o w,ops))(hq:Q m o w (t++ops)):Ends P Q m t:=
 ⟨0,m,o,w,t++ops,by simp[runNT,hs],O,by simp[Go.step,hs],hq⟩

def afW(gs:Array Goroutine):Nat:=gs.toList.countP fun g=>g.status== .running

inductive Move(P:Program)(Q:Machine->Outcome->World->Trace->Prop){α:Type}(R:α->α->Prop)(Inv:α->Array Goroutine->World->Trace->Prop)(c:α)(gs:Array Goroutine)(w:World)(t:Trace)(sl:Option (Nat×Nat))(i:Nat):Prop
 | on {m':Machine} {ops:Array MemOp} (h:runT P (crowd gs w sl) i=(.next m',ops)) (he:Ends P Q m' (t++ops))
 | over {o:Outcome} {w':World} {ops:Array MemOp} (h:runT P (crowd gs w sl) i=(.ended o w',ops)) (he:∀sl' d,Q (crowd gs (w.at d) sl') o w' (t++ops))
 | less {c':α} {gs':Array Goroutine} {w':World} {ops:Array MemOp} (h:runT P (crowd gs w sl) i=(.next (crowd gs' w' sl),ops)) (hI:Inv c' gs' w' (t++ops)) (hR:R c' c)
 | wait {gs':Array Goroutine} {w':World} {ops:Array MemOp} (h:runT P (crowd gs w sl) i=(.next (crowd gs' w' sl),ops)) (hI:Inv c gs' w' (t++ops)) (hn:afW gs'<afW gs)

theorem node{R:α->α->Prop}{Inv:α->Array Goroutine->World->Trace->Prop}
  (nN:∀c gs w t d,Inv c gs w t->Inv c gs (w.at d) t)
  (pick:∀c gs w t,Inv c gs w t->(∀g∈gs,Conc.awake g)/\∃(i:Nat) (g:Goroutine),gs[i]? =some g/\g.status= .running)
  (move:∀c,Acc R c->∀gs w t sl i g,Inv c gs w t->gs[i]? =some g->g.status= .running->Move P Q R Inv c gs w t sl i):
  ∀c,Acc R c->∀gs w t sl,Inv c gs w t->Ends P Q (crowd gs w sl) t:=by
 intro c hc
 induction hc with
 | intro c hc ih=>
  have key:∀N gs,afW gs=N->∀w t sl,Inv c gs w t->Ends P Q (crowd gs w sl) t:=by
   intro N
   induction N using Nat.strongRecOn with
   | _ N ihN=>
    intro gs hN w t sl I;obtain⟨h1,h2⟩:=pick c gs w t I;obtain⟨i,g,d,sl',h3,h4,h5⟩:=Conc.crowd_pick (P:=P) (w:=w) (sl:=sl) h1 h2
    cases move c (.intro c hc) gs (w.at d) t sl' i g (nN _ _ _ _ d I) h3 h4 with
    | on h he=>exact Ends.step (h5.trans h) he
    | over h he=>exact Ends.stop (h5.trans h) (he sl w.drawn)
    | less h hI hR=>exact Ends.step (h5.trans h) (ih _ hR _ _ _ _ hI)
    | wait h hI hn=>exact Ends.step (h5.trans h) (ihN _ (hN▸hn) _ rfl _ _ _ hI)
  exact fun gs w t sl I=>key _ gs O w t sl I
end
inductive Jj{α:Type}(R:α->α->Prop):List α->List α->Prop
 | here {x x':α} {l:List α} (h:R x' x):Jj R (x'::l) (x::l)
 | there {y:α} {l l':List α} (h:Jj R l' l):Jj R (y::l') (y::l)
theorem aal{α:Type}{R:α->α->Prop}:∀{l:List α},(∀p∈l,Acc R p)->Acc (Jj R) l
 | [],_=>⟨_,fun y hy=>by cases hy⟩
 | x::l,h=>by
  have hx:=h _ (bT ..);have hl:=aal (l:=l) fun p hp=>h p (dH _ hp);clear h
  induction hx generalizing l with
  | intro x _ ihx=>
   induction hl with
   | intro l hl ihl=>
    refine⟨_,fun y hy=>?_⟩
    cases hy with
    | here h=>exact ihx _ h _ (Acc.intro _ hl)
    | there h=>exact ihl _ h
theorem Jj.at{α:Type}{R:α->α->Prop}{x x':α}(h:R x' x):∀{l:List α} {i:Nat},l[i]? =some x->Jj R (l.set i x') l
 | [],i,e=>by simp at e
 | y::l,0,e=>by
  simp only[List.getElem?_cons_zero,dY]at e;subst e;exact .here h
 | y::l,i+1,e=>.there (Jj.at h (by simpa using e))
theorem aam{gs:Array Goroutine}(h:gs[i]? =some g)(hg:g.status= .running)(Oy:g'.status= .blocked):afW (gs.setIfInBounds i g')<afW gs:=by
 have key:∀(l:List Goroutine) (i:Nat),l[i]? =some g->(l.set i g').countP (fun g=>g.status== .running)<l.countP fun g=>g.status== .running:=by
  intro l
  induction l with
  | nil=>intro i h;simp at h
  | cons y l ih=>
   intro i h
   cases i with
   | zero=>
    simp only[List.getElem?_cons_zero,dY]at h;subst h;rw[List.set_cons_zero,List.countP_cons,List.countP_cons,hg,Oy];simp
   | succ i=>
    simp only[List.getElem?_cons_succ]at h;have:=ih i h;rw[List.set_cons_succ,List.countP_cons,List.countP_cons];omega
 unfold afW;rw[Array.toList_setIfInBounds];exact key _ i (by simpa using h)
section
variable{P:Program}{gs:Array Goroutine}{w:World}
theorem Vt:gs.map (woken P g {g with status:=.blocked} w)=gs:=by
 have:woken P g {g with status:=.blocked} w=id:=by
  funext o;rw[sN,if_neg];rfl;simp[MF]
 rw[this];simp
end
theorem qO.split{m:Bool}{π:qL}{E:π.S->Goroutine->Prop}{s:π.S}(T:qO P m π E s g):
  (∃hs h,T= .exit hs h)\/(∃(g':Goroutine) (hs:g.status= .running) (e:∀w,stepG P m g w= .go g' w #[]) (T':qO P m π E s g'),T= .idle hs e T')\/∃a hs hc ho wait ok wk fr h,T= .act a hs hc ho wait ok wk fr h:=by
 cases T with
 | exit hs h=>exact .inl ⟨hs,h,rfl⟩
 | idle hs e T=>exact .inr (.inl ⟨_,hs,e,T,rfl⟩)
 | act a hs hc ho wait ok wk fr h=>exact .inr (.inr ⟨a,hs,hc,ho,wait,ok,wk,fr,h,rfl⟩)
theorem awake_of(h:g.status= .running\/g.status= .finished\/g.status= .blocked):Conc.awake g:=fun tm e=>by
 rcases h with h | h | h <;>rw[h]at e <;>cases e
def AX(P:Program)(fO:Value->World->Prop)(g:Goroutine)(k:Hp)(M:Nat->Prop):Prop:=
 g.status= .running/\(∀c o,M c->k c=some o->opn o=false)/\∀w,yP k w->LH k M->∃v w' es,stepG P true g w= .ended (.done v) w' es/\iR k M w w' es/\fO v w'
abbrev PK[Base](fO:Value->World->Prop):Value->World->Prop:=fun v w'=>fO v w'/\Kept Base.ref w'
section
variable{P:Program}{gs:Array Goroutine}{w w':World}
theorem runT_crowd_ended{sl:Option (Nat×Nat)}(hi:gs[i]? =some g)(h:stepG P (i==0) g w= .ended o w' es):
  runT P (crowd gs w sl) i=(.ended o w',MemOp.ofEvents i g.frame.fn g.frame.place es):=by
 obtain⟨fK,rfl⟩:=Array.getElem?_eq_some_iff.1 hi;have hsw:=Conc.swapAt_of_lt fK {(default:Goroutine)with status:=.finished};show runT P {world:=w,gs:=gs,rest:={timers:= #[],alone:=none,slice:=sl}} i=_;unfold runT;simp only[hsw,h,GStep.es]
end
theorem aeH{g:Nat}{fn:FuncId}{m:Mark}:∃z:MemOp,MemOp.ofEvents g fn pos #[yw m]= #[z]/\z.act= .mark m/\z.g=g:=⟨{g,fn,pos,act:=.ofEvent (yw m)},by rw[ofEvents_eq];simp,O,O⟩
theorem IV{n:Nat}{w:World}(h:∀b,M b->n<=b)(hn:n<=w.heap.size):∀b,grown M w w' b->n<=b:=fun b hb=>by
 rcases hb with hb | hb
 ·exact h b hb
 omega
def ac5(g jd:Goroutine):Prop:=jd.frame=g.frame/\jd.callers=g.callers/\jd.dying=g.dying
theorem ac5.step{main:Bool}{jd:Goroutine}(h:ac5 g jd)(w:World):stepG P main jd w=stepG P main g w:=Conc.stepG_same h.1 h.2.1 h.2.2 w
end Go.jc

namespace Go.jc
open Go.Conc (crowd parked rcase scase QuitsIn QuitsD Before Knows knows_own touchAt touchAt_of touchAt_old getElem?_append_old getElem?_append_cases lt_size_of_getElem? touch_of hb_po hb_app ofEvents_eq woken Deaf deaf_old g?_old act?_old heard_old lt_of_act? Deaf_own Deaf_other counts_old deaf_inside)
open Go.ConcN (RelBy)
def LS.d:LS->Nat
 | .wg _ d=>d
 | .dn _ d=>d
def LS.wr:LS->WR
 | .dn r _=>r
 | _=>.live
inductive KS(P:Program) where
 | run (c:Nat) (g:Goroutine) (k:Hp) (M:Nat->Prop)
 | uj (c:Nat) (k:Hp) (M:Nat->Prop)
 | quit (c:Option Nat) (n d:Nat)
 | work (γ:GP) (j:Nat) {d:Nat} {g:Goroutine} {k:Hp} {M:Nat->Prop} (T:Vg P γ j d g k M)
 | fin (γ:GP) (j:Nat) (pre:Option (Hp×(Nat->Prop))) (A:ah) {s:LS} {g:Goroutine} (T:qO P false (gJ γ.toGrp) (Gone P) s g)
 | gone (j:Nat) (A:ah) (n d:Nat)
variable{A:ah}{M:Nat->Prop}{c gn j:Nat}{es:Array Event}{g:Goroutine}{k:Hp}{r:WR}{α β:Type}{a a':α}{f:α->Option β}{γ:GP}
section
variable{P:Program}
def KS.ch:KS P->Option Nat
 | .run c .. =>some c
 | .uj c .. =>some c
 | .quit c .. =>c
 | _=>none
def KS.act:KS P->Option (Hp×(Nat->Prop))
 | .run _ _ k M=>some (k,M)
 | .uj _ k M=>some (k,M)
 | .work (k:=k) (M:=M) .. =>some (k,M)
 | .fin _ _ pre .. =>pre
 | _=>none
def KS.deaf:KS P->Nat
 | .quit _ _ d=>d
 | .work (d:=d) .. =>d
 | .fin (s:=s) .. =>s.d
 | .gone _ _ _ d=>d
 | _=>0
def KS.OE:KS P->ah
 | .fin _ _ pre A _=>match pre with | none=>A | some _=>[]
 | .gone _ A _ _=>A
 | _=>[]
def KS.wr:KS P->Option WR
 | .work .. =>some .live
 | .fin (s:=s) .. =>some s.wr
 | .gone .. =>some .gone
 | _=>none
def KS.Cb:KS P->Option Nat
 | .work _ j _=>some j
 | .fin _ j .. =>some j
 | .gone j .. =>some j
 | _=>none

inductive Fh:KS P->KS P->Prop
 | step {c:Nat} {g g':Goroutine} {k:Hp} {M:Nat->Prop} {w w':World} {es:Array Event} {s r:Nat} (ha:yP k w) (hd:LH k M) (ho:w.heap[c]? =some (.chan 0 #[] false s r false)) (e:stepG P false g w= .go g' w' es) (hg:iR k M w w' es):Fh (.run c g' (snap k w w') (grown M w w')) (.run c g k M)
 | uj {c:Nat} {g:Goroutine} {k:Hp} {M:Nat->Prop}:Fh (.uj c k M) (.run c g k M)
 | quit {c n d:Nat} {g:Goroutine} {k:Hp} {M:Nat->Prop}:Fh (.quit (some c) n d) (.run c g k M)
 | quits {c:Option Nat} {n n' d d':Nat} (h:n'<n):Fh (.quit c n' d') (.quit c n d)
 | asq {γ:GP} {j d:Nat} {g:Goroutine} {k:Hp} {M:Nat->Prop} {hs:g.status= .running} {ok:∀w,yP k w->LH k M->∃g' w' es,stepG P false g w= .go g' w' es/\iR k M w w' es}
   {h:∀w g' w' es,yP k w->LH k M->stepG P false g w= .go g' w' es->Vg P γ j d g' (snap k w w') (grown M w w')} {w:World} {g':Goroutine} {w':World} {es:Array Event} {a:yP k w} {b:LH k M} {e:stepG P false g w= .go g' w' es}:Fh (.work γ j (h w g' w' es a b e)) (.work γ j (.step hs ok h))
 | ao0 {γ:GP} {j d d':Nat} {g:Goroutine} {k:Hp} {M:Nat->Prop} {hs:g.status= .running} {ok:∀w,yP k w->LH k M->∃g' w' es,stepG P false g w= .go g' w' es/\iR k M w w' #[]/\Ox k M d es d'}
   {h:∀w g' w' es,yP k w->LH k M->stepG P false g w= .go g' w' es->Vg P γ j d' g' (snap k w w') (grown M w w')} {w:World} {g':Goroutine} {w':World} {es:Array Event} {a:yP k w} {b:LH k M} {e:stepG P false g w= .go g' w' es}:Fh (.work γ j (h w g' w' es a b e)) (.work γ j (.y9 hs ok h))
 | asr {γ:GP} {j:Nat} {g:Goroutine} {k:Hp} {M:Nat->Prop} {A:ah} {hA:∀b o,(b,o)∈A->k b=some o/\M b/\o.isChan=false} {hn:(A.map (·.1)).Nodup} {hR:γ.R j A} {T:qO P false (gJ γ.toGrp) (Gone P) (.dn .live 0) g}:Fh (.fin γ j (some (k,M)) A T) (.work γ j (.done A hA hn hR T))
 | alq {γ:GP} {j:Nat} {pre:Option (Hp×(Nat->Prop))} {A:ah} {s:LS} {g g':Goroutine} {hs:g.status= .running} {e:∀w,stepG P false g w= .go g' w #[]} {T:qO P false (gJ γ.toGrp) (Gone P) s g'}:Fh (.fin γ j pre A T) (.fin γ j pre A (.idle hs e T))
 | Yw {γ:GP} {j:Nat} {pre ao1:Option (Hp×(Nat->Prop))} {A:ah} {s:LS} {g:Goroutine} {a:LA} {hs hc ho wait ok wk fr} {hh:∀w x g' w' es s',Ku γ.toGrp w x->SI a s x->¬yZ a x->stepG P false g w= .go g' w' es->Jh a s x s'->qO P false (gJ γ.toGrp) (Gone P) s' g'} {w:World} {x:xP} {g':Goroutine} {w':World} {es:Array Event} {s':LS} {h1 h2 h3 h4 h5}:
   Fh (.fin γ j ao1 A (hh w x g' w' es s' h1 h2 h3 h4 h5)) (.fin γ j pre A (.act (π:=gJ γ.toGrp) a hs hc ho wait ok wk fr hh))
 | alr {γ:GP} {j:Nat} {pre:Option (Hp×(Nat->Prop))} {A:ah} {s:LS} {g:Goroutine} {T:qO P false (gJ γ.toGrp) (Gone P) s g} {n d:Nat}:Fh (.gone j A n d) (.fin γ j pre A T)
 | aeI {j:Nat} {A:ah} {n n' d d':Nat} (h:n'<n):Fh (.gone j A n' d') (.gone j A n d)
theorem QX{c:Option Nat}:∀n d,Acc (Fh (P:=P)) (.quit c n d):=fun n=>by
 induction n using Nat.strongRecOn with
 | _ n ih=>exact fun d=>⟨_,fun y hy=>by cases hy with | quits h=>exact ih _ h _⟩
theorem Yx:∀n d,Acc (Fh (P:=P)) (.gone j A n d):=fun n=>by
 induction n using Nat.strongRecOn with
 | _ n ih=>exact fun d=>⟨_,fun y hy=>by cases hy with | aeI h=>exact ih _ h _⟩
theorem Yy:Acc (Fh (P:=P)) (.uj c k M):=⟨_,fun y hy=>by cases hy⟩
theorem als{s:(gJ γ.toGrp).S}(T:qO P false (gJ γ.toGrp) (Gone P) s g):∀pre,Acc (Fh (P:=P)) (.fin γ j pre A T):=by
 induction T with
 | exit hs he=>exact fun pre=>⟨_,fun y hy=>by cases hy;exact Yx _ _⟩
 | idle hs e T ih=>exact fun pre=>⟨_,fun y hy=>by cases hy;exact ih _;exact Yx _ _⟩
 | act a hs hc ho wait ok wk fr hh ih=>exact fun pre=>⟨_,fun y hy=>by cases hy;exact ih _ _ _ _ _ _ _ _ _ _ _ _;exact Yx _ _⟩
theorem aij{d:Nat}(T:Vg P γ j d g k M):Acc (Fh (P:=P)) (.work γ j T):=by
 induction T with
 | step hs ok h ih=>exact⟨_,fun y hy=>by cases hy;exact ih _ _ _ _ _ _ _⟩
 | y9 hs ok h ih=>exact⟨_,fun y hy=>by cases hy;exact ih _ _ _ _ _ _ _⟩
 | done A hA hn hR T=>exact⟨_,fun y hy=>by cases hy;exact als _ _⟩
theorem Ch.ao2(h:Ch P c g k M):Acc (Fh (P:=P)) (.run c g k M):=by
 induction h with
 | step hs ok h ih=>
  refine⟨_,fun y hy=>?_⟩
  cases hy with
  | step ha hd ho e hg=>exact ih _ _ _ _ ha hd e
  | uj=>exact Yy
  | quit=>exact QX _ _
 | send hs hk e h ih=>
  refine⟨_,fun y hy=>?_⟩
  cases hy with
  | step ha hd ho e' hg=>rw[e]at e';cases e'
  | uj=>exact Yy
  | quit=>exact QX _ _
 | close hs hk hw xK e h=>
  refine⟨_,fun y hy=>?_⟩
  cases hy with
  | step ha hd ho e' hg=>
   rw[e _ _ _ ho]at e'
   cases e'
   have:=hg.lJ _ _ ho O;have fK:=nT ho;simp[World.shut,fK]at this
  | uj=>exact Yy
  | quit=>exact QX _ _

def xU(k₀:Hp)(aH:Nat->Prop)(ks:List (KS P)):Prs:=fun x=>if x=0 then some (k₀,aH)else(ks[x-1]?).bind KS.act
def D5(dG:Nat)(ks:List (KS P)):Nat->Nat:=fun x=>if x=0 then dG else((ks[x-1]?).map KS.deaf).getD 0
structure OG where
 γ:GP
 left:Nat
 p:MP
 x:xP
 xc:Array Value
def LJ(og:Option OG):Nat->Prop:=fun b=>∃o,og=some o/\(b=o.γ.Wg\/(b=o.γ.X/\o.p≠ .out))
def qR(ks:List (KS P)):Nat->Prop:=fun b=>∃o,(b,o)∈(ks.map KS.OE).flatten
def cK(ks:List (KS P)):Wn:=fun r=>(ks.filterMap KS.wr).count r
end
variable{o o':OG}
section
variable{P:Program}{k₀ fU:Hp}{aH jo:Nat->Prop}{d dG ayY:Nat}{ks:List (KS P)}{i:Nat}{x x':KS P}
theorem aW:xU k₀ aH ks 0=some (k₀,aH):=by simp[xU]
theorem iY(h:ks[i]? =some x):xU k₀ aH ks (i+1)=x.act:=by
 unfold xU;rw[if_neg aj,show i+1-1=i by omega,h];rfl
theorem fV{g:Nat}(h:xU k₀ aH ks g=some (k,M)):(g=0/\k=k₀/\M=aH)\/∃(i:Nat) (x:KS P),g=i+1/\ks[i]? =some x/\x.act=some (k,M):=by
 unfold xU at h;by_cases h1:g=0
 ·rw[if_pos h1]at h;cases h;exact .inl ⟨h1,rfl,rfl⟩
 rw[if_neg h1]at h;obtain⟨m,h3,h4⟩:=Option.bind_eq_some_iff.1 h;exact .inr ⟨g-1,m,aj,h3,h4⟩
theorem zh(g:Nat):xU fU jo ks g=vJ (xU k₀ aH ks) 0 (some (fU,jo)) g:=by
 by_cases hg:g=0
 ·subst hg;rw[iP];exact aW
 rw[jZ hg];simp[xU,hg]
theorem wF(h:ks[i]? =some x)(g:Nat):xU k₀ aH (ks.set i x') g=vJ (xU k₀ aH ks) (i+1) x'.act g:=by
 have hl:=gy h;by_cases hg:g=i+1
 ·subst hg;rw[iP];exact iY (by rw[List.getElem?_set,if_pos O,if_pos hl])
 rw[jZ hg];unfold xU;by_cases h1:g=0
 ·rw[if_pos h1,if_pos h1]
 rw[if_neg h1,if_neg h1,List.getElem?_set,if_neg aj]
theorem CP(h:ks[i]? =some x)(ha:x'.act=x.act)(g:Nat):xU k₀ aH (ks.set i x') g=xU k₀ aH ks g:=by
 rw[wF h];by_cases hg:g=i+1
 ·rw[hg,iP,ha,iY h]
 rw[jZ hg]
theorem aik(g:Nat):xU fU jo (ks++[x]) g=vJ (vJ (xU k₀ aH ks) 0 (some (fU,jo))) (ks.length+1) x.act g:=by
 by_cases hg:g=ks.length+1
 ·subst hg;rw[iP];exact iY (by rw[List.getElem?_append_right (Nat.le_refl _)];simp)
 rw[jZ hg];by_cases h0:g=0
 ·subst h0;rw[iP];exact aW
 rw[jZ h0];unfold xU;rw[if_neg h0,if_neg h0];rcases bQ (g-1) ks.length with h2 | h2
 ·rw[List.getElem?_append_left h2]
 rw[List.getElem?_append_right h2,fM h2,fM (by simp;omega)]
theorem zi:D5 dG ks 0=dG:=by simp[D5]
theorem Bv(h:ks[i]? =some x):D5 dG ks (i+1)=x.deaf:=by
 unfold D5;rw[if_neg aj,show i+1-1=i by omega,h];rfl
theorem aan(g:Nat):D5 dG ks g=if g=0 then dG else D5 d ks g:=by
 by_cases hg:g=0
 ·subst hg;rw[if_pos O];simp[D5]
 rw[if_neg hg];simp[D5,hg]
theorem MH(h:ks[i]? =some x)(g:Nat):D5 dG (ks.set i x') g=if g=i+1 then x'.deaf else D5 dG ks g:=by
 have hl:=gy h;by_cases hg:g=i+1
 ·rw[if_pos hg];subst hg;exact Bv (by rw[List.getElem?_set,if_pos O,if_pos hl])
 rw[if_neg hg];unfold D5;by_cases h1:g=0
 ·rw[if_pos h1,if_pos h1]
 rw[if_neg h1,if_neg h1,List.getElem?_set,if_neg aj]
theorem CQ(h:ks[i]? =some x)(hd:x'.deaf=x.deaf):D5 dG (ks.set i x')=D5 dG ks:=by
 funext g;rw[MH h];by_cases hg:g=i+1
 ·rw[if_pos hg,hg,Bv h,hd]
 rw[if_neg hg]
theorem ail(hx:x.deaf=0):D5 dG (ks++[x])=D5 dG ks:=by
 funext g;unfold D5;by_cases h0:g=0
 ·rw[if_pos h0,if_pos h0]
 rw[if_neg h0,if_neg h0];rcases bQ (g-1) ks.length with h2 | h2
 ·rw[List.getElem?_append_left h2]
 rw[List.getElem?_append_right h2,fM h2];rcases Nat.eq_zero_or_pos (g-1-ks.length)with h3 | h3
 ·rw[h3];simp[hx]
 rw[fM (by simp;omega)]
theorem Ej{l:List α}{i:Nat}(h:l[i]? =some a)(e:f a'=f a):(l.set i a').filterMap f=l.filterMap f:=by
 induction l generalizing i with
 | nil=>simp at h
 | cons y l ih=>
  cases i with
  | zero=>
   simp only[List.getElem?_cons_zero,dY]at h;subst h;simp only[List.set_cons_zero,List.filterMap_cons,e]
  | succ i=>
   simp only[List.getElem?_cons_succ]at h;simp only[List.set_cons_succ,List.filterMap_cons,ih h]
theorem ain[DecidableEq β]{l:List α}{i:Nat}{r r':β}(h:l[i]? =some a)(e:f a=some r)(e':f a'=some r')(q:β):((l.set i a').filterMap f).count q+(if r=q then 1 else 0)=(l.filterMap f).count q+(if r'=q then 1 else 0):=by
 induction l generalizing i with
 | nil=>simp at h
 | cons y l ih=>
  cases i with
  | zero=>
   simp only[List.getElem?_cons_zero,dY]at h;subst h;simp only[List.set_cons_zero,List.filterMap_cons,e,e',List.count_cons,beq_iff_eq];omega
  | succ i=>
   simp only[List.getElem?_cons_succ]at h;have:=ih h;simp only[List.set_cons_succ,List.filterMap_cons]
   cases f y with
   | none=>exact this
   | some z=>simp only[List.count_cons];omega
theorem aeJ(h:ks[i]? =some x)(e:x'.wr=x.wr):cK (ks.set i x')=cK ks:=by unfold cK;rw[Ej h e]
theorem OH{r':WR}(h:ks[i]? =some x)(e:x.wr=some r)(e':x'.wr=some r'):Wv (cK ks) r r' (cK (ks.set i x')):=fun q=>ain h e e' q
theorem Yz(h:ks[i]? =some x)(e:x.wr=some r):0<cK ks r:=List.count_pos_iff.2 (List.mem_filterMap.2 ⟨x,dL h,e⟩)
theorem afX(h:0<cK ks r):∃(i:Nat) (x:KS P),ks[i]? =some x/\x.wr=some r:=by
 obtain⟨a,h1,h2⟩:=List.mem_filterMap.1 (List.count_pos_iff.1 h);obtain⟨i,hi⟩:=List.getElem?_of_mem h1;exact⟨i,a,hi,h2⟩
theorem ao4(q:WR):cK (ks++[x]) q=cK ks q+(if x.wr=some q then 1 else 0):=by
 unfold cK;rw[List.filterMap_append,List.count_append]
 cases h:x.wr with
 | none=>simp[h]
 | some r=>
  simp only[List.filterMap_cons,h,List.filterMap_nil,List.count_cons,List.count_nil,beq_iff_eq,dY];split <;>simp
theorem anI(q:WR):cK ks q<=(ks.filterMap KS.Cb).length:=by
 have e:(ks.filterMap KS.wr).length=(ks.filterMap KS.Cb).length:=by
  induction ks with
  | nil=>rfl
  | cons y l ih=>simp only[List.filterMap_cons];cases y <;>simp[KS.wr,KS.Cb,ih]
 unfold cK;rw[<-e];exact List.count_le_length
theorem aio(q q':WR)(h:q≠q'):cK ks q+cK ks q'<=(ks.filterMap KS.Cb).length:=by
 have e:(ks.filterMap KS.wr).length=(ks.filterMap KS.Cb).length:=by
  induction ks with
  | nil=>rfl
  | cons y l ih=>simp only[List.filterMap_cons];cases y <;>simp[KS.wr,KS.Cb,ih]
 have key:∀l:List WR,l.count q+l.count q'<=l.length:=fun l=>by
  induction l with
  | nil=>simp
  | cons y l ih=>
   simp only[List.count_cons,gK,beq_iff_eq];split <;>split <;>first | omega | (exfalso;simp_all)
 unfold cK;rw[<-e];exact key _
theorem MI(h:ks[i]? =some x)(e:x'.OE=x.OE):(ks.set i x').map KS.OE=ks.map KS.OE:=by
 rw[List.map_set];exact aah (by rw[iL,h,Option.map_some,e])
theorem CS(h:ks[i]? =some x)(e:x'.OE=x.OE):qR (ks.set i x')=qR ks:=by unfold qR;rw[MI h e]
theorem MJ{b:Nat}{o:Obj}(h:ks[i]? =some x)(hb:(b,o)∈x.OE):qR ks b:=⟨o,List.mem_flatten.2 ⟨x.OE,List.mem_map.2 ⟨x,dL h,O⟩,hb⟩⟩
end
structure MK(w:World)(t:Trace)(k₀:Hp)(aH:Nat->Prop)(i c:Nat)(k:Hp)(M:Nat->Prop):Prop where
 mc:M c
 ghost:∃l,k c=some (mO l)/\k₀ c=some (mO l)
 m0:aH c
 opened:∃s r,w.heap[c]? =some (.chan 0 #[] false s r false)
 plc:PlK t (i+1) c
 nf:∀b o,k b=some o->ji o=false
def aeK(w:World)(t:Trace)(k₀:Hp)(aH:Nat->Prop)(i:Nat)(c:Option Nat):Prop:=
 ((∀c',c=some c'->k₀ c'=some Fg)/\∀n,t.counts n->t.g? n=some (i+1)->Knows t 0 n)\/
 (∃c',c=some c'/\k₀ c'=some (mO [])/\aH c'/\(∃s r,w.heap[c']? =some (.chan 0 #[] true s r false))/\∃pc,t.act? pc=some (.close c')/\t.g? pc=some (i+1)/\t.heard pc/\∀n,t.counts n->t.g? n=some (i+1)->Before t n pc)
def S_(w:World)(t:Trace)(γ:GP)(i j:Nat)(A:ah):Prop:=
 γ.R j A/\(∀b o,(b,o)∈A->w.heap[b]? =some o/\o.isChan=false/\b≠γ.Wg/\b≠γ.X)/\∃p,RelBy (jY γ.Wg) t (i+1) p/\∀b o,(b,o)∈A->∀n a,touchAt t n=some a->In a.loc b->Before t n p
def Bz(P:Program)(w:World)(t:Trace)(k₀:Hp)(aH:Nat->Prop)(og:Option OG)(i:Nat)(g:Goroutine):KS P->Prop
 | .run c g' k M=>g'=g/\g.status= .running/\Ch P c g k M/\MK w t k₀ aH i c k M
 | .uj c k M=>∃g' v l z,g=parked g' #[scase c v z] .send/\k c=some (mO (v::l))/\Ch P c (g'.finishComm P #[scase c v z] .send 0 undef false) (dM k c (mO l)) M/\MK w t k₀ aH i c k M
 | .quit c n d=>QuitsD P n d g/\aeK w t k₀ aH i c
 | .work γ _ (g:=g') _=>g'=g/\(∃o,og=some o/\o.γ=γ)/\PlK t (i+1) γ.Wg
 | .fin γ j pre A (s:=s) (g:=g') _=>g'=g/\(∃o,og=some o/\o.γ=γ)/\PlK t (i+1) γ.Wg/\∃r d,s= .dn r d/\r≠ .gone/\(r= .live->∃k M,pre=some (k,M)/\(∀b o,(b,o)∈A->k b=some o/\M b/\o.isChan=false)/\(A.map (·.1)).Nodup/\γ.R j A)/\(r≠ .live->pre=none/\S_ w t γ i j A)
 | .gone j A n d=>QuitsD P n d g/\∃o,og=some o/\S_ w t o.γ i j A
def XR{P:Program}(o:OG)(ks:List (KS P))(a:Touch)(gn:Option Nat):Prop:=a.kind= .plain/\a.write=false/\a.loc≠ .cell o.γ.hole/\∃(i:Nat) (x:KS P),ks[i]? =some x/\x.wr≠none/\gn=some (i+1)
structure Fj[Base]{P:Program}(w:World)(t:Trace)(ks:List (KS P))(o:OG):Prop where
 wok:jK o.x o.p (cK ks)
 num:(ks.filterMap KS.Cb).length+o.left<=63
 tok:∀s,o.p= .add s->s<=1
 at_:Ku o.γ.toGrp w o.x
 plk:PlK t 0 o.γ.Wg
 asu:True
 low:Base.ref.heap.size<=o.γ.Wg
 Vu:o.γ.X≠o.γ.Wg
 ac6:Base.ref.heap.size<=o.γ.X
 xat:o.p≠ .out->w.heap[o.γ.X]? =some (.cells o.xc o.γ.tX o.γ.fX)
 ac7:o.p≠ .out->∀n a,touchAt t n=some a->In a.loc o.γ.X->Knows t 0 n\/XR o ks a (t.g? n)

structure MS[Base](P:Program)(gs:Array Goroutine)(w:World)(t:Trace)(dG:Nat)(k₀:Hp)(aH:Nat->Prop)(og:Option OG)(ks:List (KS P)):Prop where
 size:gs.size=ks.length+1
 Y:LY w t (ks.length+1) (D5 dG ks) (xU k₀ aH ks) (LJ og) (qR ks)
 new:∀b,aH b->k₀ b=some sZ->Own t 0 b/\w.heap[b]? =some sZ
 Cc:∀(i:Nat) (x:KS P),ks[i]? =some x->∃g,gs[i+1]? =some g/\Bz P w t k₀ aH og i g x
 one:∀(i j c:Nat) (x y:KS P),ks[i]? =some x->ks[j]? =some y->x.ch=some c->y.ch=some c->i=j
 has:∀c l,aH c->k₀ c=some (mO l)->∃(i:Nat) (x:KS P),ks[i]? =some x/\x.ch=some c
 Td:∀o,og=some o->Fj w t ks o
 Vw:og=none->∀x∈ks,x.wr=none
 Kv:((ks.map KS.OE).flatten.map (·.1)).Nodup
 base:Kept Base.ref w
 low:∀g k M b,xU k₀ aH ks g=some (k,M)->M b->Base.ref.heap.size<=b
 Kw:∀b,qR ks b->Base.ref.heap.size<=b
 vX:∀gn k M b c po,xU k₀ aH ks gn=some (k,M)->k b=some (bn c po)->∃o,og=some o/\o.p≠ .out/\b=o.γ.X/\(gn≠0->po=o.γ.q)

section
variable{P:Program}{gs:Array Goroutine}{w w':World}{t u:Trace}{k₀ fU:Hp}{aH jo:Nat->Prop}{dG:Nat}{og En:Option OG}{ks ks':List (KS P)}{i:Nat}{g:Goroutine}{x:KS P}
theorem Bz.chan(h:Bz P w t k₀ aH og i g x)(hc:x.ch=some c):(∃o,k₀ c=some o/\o.isChan=true/\o≠sZ/\ji o=false):=by
 cases x with
 | run c' g' k M=>
  cases hc
  obtain⟨l,_,e⟩:=h.2.2.2.ghost;exact⟨_,e,O,by simp[mO,sZ],O⟩
 | uj c' k M=>
  cases hc
  obtain⟨_,_,_,_,_,_,_,L⟩:=h;obtain⟨l,_,e⟩:=L.ghost;exact⟨_,e,O,by simp[mO,sZ],O⟩
 | quit c' n d=>
  rcases h.2 with⟨h1,_⟩ | ⟨c'',e,h1,_⟩
  ·exact⟨_,h1 c hc,O,by simp[Fg,sZ],O⟩
  cases hc.symm.trans e
  exact⟨_,h1,O,by simp[mO,sZ],O⟩
 | _=>cases hc
theorem Bz.status(h:Bz P w t k₀ aH og i g x):g.status= .running\/g.status= .finished\/∃g' c v z,g=parked g' #[scase c v z] .send/\x.ch=some c:=by
 cases x with
 | run c g' k M=>exact .inl h.2.1
 | uj c k M=>obtain⟨g',v,l,z,rfl,_⟩:=h;exact .inr (.inr ⟨g',c,v,z,rfl,rfl⟩)
 | quit c n d=>exact h.1.status.imp id .inl
 | work γ j T=>obtain⟨rfl,_⟩:=h;exact .inl T.status
 | fin γ j pre A T=>obtain⟨rfl,_⟩:=h;exact .inl T.status
 | gone j A n d=>exact h.1.status.imp id .inl

theorem MK.keep(L:MK w t k₀ aH i c k M)(hh:∀o,w.heap[c]? =some o->o.isChan=true->w'.heap[c]? =some o)(hk:fU c=k₀ c)(hm:(∃l,k₀ c=some (mO l))->aH c->jo c)
  (hp:∀op∈u,∀a,op.act.touch? =some a->a.kind= .plain->¬In a.loc c):MK w' (t++u) fU jo i c k M:=by
 obtain⟨l,h1,h2⟩:=L.ghost;obtain⟨s,r,ho⟩:=L.opened;exact⟨L.mc,⟨l,h1,by rw[hk];exact h2⟩,hm ⟨l,h2⟩ L.m0,⟨s,r,hh _ ho O⟩,L.plc.app fun op aY a ha hl OI=>absurd hl (hp op aY a ha OI),L.nf⟩
theorem aeK.keep{c:Option Nat}(L:aeK w t k₀ aH i c)(hh:∀c',c=some c'->∀o,w.heap[c']? =some o->o.isChan=true->w'.heap[c']? =some o)(hk:∀c',c=some c'->fU c'=k₀ c')(hm:∀c',c=some c'->(∃l,k₀ c'=some (mO l))->aH c'->jo c')
  (hu:∀n,t.size<=n->(t++u).g? n=some (i+1)->¬(t++u).counts n):aeK w' (t++u) fU jo i c:=by
 rcases L with⟨h1,h2⟩ | ⟨c',e,h1,h2,⟨s,r,h3⟩,pc,h4,h5,h6,h7⟩
 ·exact .inl ⟨fun c' e=>by rw[hk c' e];exact h1 c' e,afU h2 hu⟩
 have hpc:=lt_of_act? h4;refine .inr ⟨c',e,by rw[hk c' e];exact h1,hm c' e ⟨[],h1⟩ h2,⟨s,r,hh c' e _ h3 O⟩,pc,by rw[act?_old hpc];exact h4,by rw[g?_old hpc];exact h5,(heard_old hpc).2 h6,fun n hc hg=>?_⟩;rcases bQ n t.size with hn | hn
 ·exact(h7 n ((counts_old hn).1 hc) (by rw[g?_old hn]at hg;exact hg)).app u
 exact absurd hc (hu n hn hg)
theorem S_.keep(h:S_ w t γ i j A)(hE:∀b o,(b,o)∈A->w'.heap[b]? =w.heap[b]? /\∀op∈u,∀a,op.act.touch? =some a->¬In a.loc b)(hu:∀n,t.size<=n->(t++u).g? n=some (i+1)->¬(t++u).counts n):S_ w' (t++u) γ i j A:=by
 obtain⟨h1,h2,p,h3,h4⟩:=h;refine⟨h1,fun b o hb=>⟨by rw[(hE b o hb).1];exact(h2 b o hb).1,(h2 b o hb).2⟩,p,h3.app hu,fun b o hb n a ha hl=>?_⟩;rcases jM ha with⟨_,h5⟩ | ⟨op,_,hm,h5⟩
 ·exact(h4 b o hb n a h5 hl).app u
 exact absurd hl ((hE b o hb).2 op hm a h5)
theorem Bz.keep(h:Bz P w t k₀ aH og i g x)(hog:∀o,og=some o->∃o',En=some o'/\o'.γ=o.γ)(hh:∀c,x.ch=some c->∀o,w.heap[c]? =some o->o.isChan=true->w'.heap[c]? =some o)(hk:∀c,x.ch=some c->fU c=k₀ c)(hm:∀c,x.ch=some c->(∃l,k₀ c=some (mO l))->aH c->jo c)
  (hu:∀op∈u,op.g≠i+1) (hp:∀c,x.ch=some c->∀op∈u,∀a,op.act.touch? =some a->a.kind= .plain->¬In a.loc c) (hw:∀o,og=some o->∀op∈u,∀a,op.act.touch? =some a->a.kind= .plain->¬In a.loc o.γ.Wg)
  (hE:∀b o,(b,o)∈x.OE->w'.heap[b]? =w.heap[b]? /\∀op∈u,∀a,op.act.touch? =some a->¬In a.loc b):Bz P w' (t++u) fU jo En i g x:=by
 cases x with
 | run c g' k M=>exact⟨h.1,h.2.1,h.2.2.1,h.2.2.2.keep (hh c rfl) (hk c rfl) (hm c rfl) (hp c rfl)⟩
 | uj c k M=>
  obtain⟨g',v,l,z,h1,h2,h3,L⟩:=h;exact⟨g',v,l,z,h1,h2,h3,L.keep (hh c O) (hk c O) (hm c O) (hp c O)⟩
 | quit c n d=>exact⟨h.1,h.2.keep (fun c' e=>hh c' e) (fun c' e=>hk c' e) (fun c' e=>hm c' e) (uh hu)⟩
 | work γ j T=>
  obtain⟨h1,⟨o,h2,rfl⟩,h3⟩:=h;obtain⟨o',h4,h5⟩:=hog o h2;exact⟨h1,⟨o',h4,h5⟩,h3.app fun op aY a ha hl OI=>absurd hl (hw o h2 op aY a ha OI)⟩
 | fin γ j pre A T=>
  obtain⟨h1,⟨o,h2,rfl⟩,h3,r,d,h6,h7,h8,h9⟩:=h;obtain⟨o',h4,h5⟩:=hog o h2;refine⟨h1,⟨o',h4,h5⟩,h3.app fun op aY a ha hl OI=>absurd hl (hw o h2 op aY a ha OI),r,d,h6,h7,h8,fun hr=>?_⟩;obtain⟨rfl,h10⟩:=h9 hr;exact⟨O,h10.keep (fun b o hb=>hE b o hb) (uh hu)⟩
 | gone j A n d=>
  obtain⟨h1,o,h2,h3⟩:=h;obtain⟨o',h4,h5⟩:=hog o h2;exact⟨h1,o',h4,by rw[h5];exact h3.keep (fun b o hb=>hE b o hb) (uh hu)⟩
structure Off(og:Option OG)(ks ks':List (KS P))(w w':World)(u:Trace):Prop where
 nU:∀b,qR ks b->w'.heap[b]? =w.heap[b]? /\∀op∈u,∀a,op.act.touch? =some a->¬In a.loc b
 wg:∀o,og=some o->w'.heap[o.γ.Wg]? =w.heap[o.γ.Wg]? /\∀op∈u,∀a,op.act.touch? =some a->a.kind= .plain->¬In a.loc o.γ.Wg
 x:∀o,og=some o->o.p≠ .out->w'.heap[o.γ.X]? =w.heap[o.γ.X]? /\∀op∈u,∀a,op.act.touch? =some a->In a.loc o.γ.X->op.g=0\/XR o ks' a (some op.g)
theorem Off.none(h:∀b,qR ks b\/LJ og b->w'.heap[b]? =w.heap[b]? /\∀op∈u,∀a,op.act.touch? =some a->¬In a.loc b):Off og ks ks' w w' u:=
 ⟨fun b hb=>h b (.inl hb),fun o ho=>let h1:=h _ (.inr ⟨o,ho,.inl O⟩);⟨h1.1,fun op aY a ha _=>h1.2 op aY a ha⟩,fun o ho hp=>let h1:=h _ (.inr ⟨o,ho,.inr ⟨O,hp⟩⟩);⟨h1.1,fun op aY a ha hl=>absurd hl (h1.2 op aY a ha)⟩⟩
theorem XR.keep{a:Touch}{gn:Option Nat}(h:XR o ks a gn)(hγ:o'.γ=o.γ)(Tf:∀(i:Nat) (x:KS P),ks[i]? =some x->x.wr≠none->∃x':KS P,ks'[i]? =some x'/\x'.wr≠none):XR o' ks' a gn:=by
 obtain⟨h1,h2,h3,i,x,h4,h5,h6⟩:=h;obtain⟨x',h7,h8⟩:=Tf i x h4 h5;exact⟨h1,h2,by rw[hγ];exact h3,i,x',h7,h8,h6⟩
theorem CU(h:∀n a,touchAt t n=some a->In a.loc o.γ.X->Knows t 0 n\/XR o ks a (t.g? n))(hγ:o'.γ=o.γ)(Tf:∀(i:Nat) (x:KS P),ks[i]? =some x->x.wr≠none->∃x':KS P,ks'[i]? =some x'/\x'.wr≠none)
  (hu:∀op∈u,∀a,op.act.touch? =some a->In a.loc o.γ.X->op.g=0\/XR o' ks' a (some op.g)):∀n a,touchAt (t++u) n=some a->In a.loc o'.γ.X->Knows (t++u) 0 n\/XR o' ks' a ((t++u).g? n):=by
 intro n a ha hl;rw[hγ]at hl;rcases jM ha with⟨hn,h1⟩ | ⟨op,ho,hm,h1⟩
 ·rw[g?_old hn];exact(h n a h1 hl).imp (fun h=>h.app u) fun h=>h.keep hγ Tf
 rcases hu op hm a h1 hl with h2 | h2
 ·have:=knows_own ho;rw[h2]at this;exact .inl this
 right;rw[show(t++u).g? n=some op.g by simp[Trace.g?,ho]];exact h2
theorem Fj.keep[Base](h:Fj w t ks o)(h1:cK ks'=cK ks)(h2:ks'.filterMap KS.Cb=ks.filterMap KS.Cb)(Tf:∀(i:Nat) (x:KS P),ks[i]? =some x->x.wr≠none->∃x':KS P,ks'[i]? =some x'/\x'.wr≠none)(E:Off (some o) ks ks' w w' u):Fj w' (t++u) ks' o:=
 ⟨by rw[h1];exact h.wok,by rw[h2];exact h.num,h.tok,by unfold Ku;rw[(E.wg o O).1];exact h.at_,h.plk.app fun op aY a ha hl OI=>absurd hl ((E.wg o O).2 op aY a ha OI),trivial,h.low,h.Vu,h.ac6,fun hp=>by rw[(E.x o O hp).1];exact h.xat hp,fun hp=>CU (h.ac7 hp) O Tf (E.x o O hp).2⟩
theorem ao6{x':KS P}(hi:ks[i]? =some x)(h:x'.wr=x.wr):∀(j:Nat) (y:KS P),ks[j]? =some y->y.wr≠none->∃y':KS P,(ks.set i x')[j]? =some y'/\y'.wr≠none:=fun j y hj hy=>by
 by_cases e:i=j
 ·subst e;rw[hi]at hj;cases hj;exact⟨x',by rw[List.getElem?_set,if_pos O,if_pos (gy hi)],by rw[h];exact hy⟩
 exact⟨y,by rw[List.getElem?_set,if_neg e];exact hj,hy⟩
theorem Bz.again(h:Bz P w t k₀ aH og i g x)(hc:∀c,x.ch=some c->∀o,w.heap[c]? =some o->o.isChan=true->w'.heap[c]? =some o):g.again w'=g:=by
 cases x with
 | run c g' k M=>exact Conc.again_running w' (.inl h.2.1)
 | uj c k M=>
  obtain⟨g',v,l,z,rfl,_,_,L⟩:=h;obtain⟨s,r,ho⟩:=L.opened;exact Conc.again_send_open (hc c O _ ho O)
 | quit c n d=>exact Conc.again_running w' h.1.status
 | work γ j T=>obtain⟨rfl,_⟩:=h;exact Conc.again_running w' (.inl T.status)
 | fin γ j pre A T=>obtain⟨rfl,_⟩:=h;exact Conc.again_running w' (.inl T.status)
 | gone j A n d=>exact Conc.again_running w' h.1.status

theorem OJ{n:Nat}{dv:Nat->Nat}{pr:Prs}{sh nU:Nat->Prop}{fn:FuncId}{pos:String}(Y:LY w t n dv pr sh nU)(hg:pr gn=some (k,M))(gu:iR k M w w' es){o:Obj}(hc:w.heap[c]? =some o)(ho:o.isChan=true):
  ∀op∈MemOp.ofEvents gn fn pos es,∀a,op.act.touch? =some a->¬In a.loc c:=by
 refine SQ gu (nT hc) (fun hs=>?_) fun c' po e=>?_
 ·obtain⟨y,hy⟩:=iJ.1 hs;obtain⟨o',h1,h2,_⟩:=(Y.xQ gn k M hg).rO c y hy;rw[hc]at h1;cases h1;rw[hy];rcases h2 with h2 | h2
  ·rw[<-h2];exact ho
  exact h2.1
 obtain⟨o',h1,_,h2⟩:=(Y.xQ gn k M hg).rO c _ e;obtain⟨_,_,_,rfl,_⟩:=h2 c' po rfl;rw[hc]at h1;cases h1;cases ho
theorem MS.off[Base]{d:Nat}{fn:FuncId}{pos:String}(I:MS P gs w t d k₀ aH og ks)(hg:xU k₀ aH ks gn=some (k,M))(gu:iR k M w w' es)(Tf:gn≠0->∀o c po,og=some o->k o.γ.X=some (bn c po)->∃x':KS P,ks'[gn-1]? =some x'/\x'.wr≠none):Off og ks ks' w w' (MemOp.ofEvents gn fn pos es):=by
 refine⟨fun b hb=>aag I.Y hg gu hb,fun o ho=>?_,fun o ho hp=>?_⟩
 ·have h1:=Yq (fn:=fn) (pos:=pos) I.Y hg gu (b:=o.γ.Wg) ⟨o,ho,.inl O⟩;refine⟨h1.1,fun op aY a ha _=>h1.2 (fun c po e=>?_) op aY a ha⟩;obtain⟨o',e1,_,e2,_⟩:=I.vX gn k M _ c po hg e;rw[ho]at e1;cases e1;exact(I.Td o ho).Vu e2.symm
 have yu:LJ og o.γ.X:=⟨o,ho,.inr ⟨O,hp⟩⟩
 refine⟨(Yq (fn:=fn) (pos:=pos) I.Y hg gu yu).1,fun op aY a ha hl=>?_⟩;by_cases h0:gn=0
 ·left;obtain⟨e,_,rfl⟩:=mem_ofEvents aY;exact h0
 right;obtain⟨e,he,rfl⟩:=mem_ofEvents aY;obtain⟨bl,_,h2,h3,_,h5⟩:=wV (gu.jv e he) ha;obtain rfl:=h2 _ hl;rcases h5 with⟨h5,h6,_⟩ | h5 | ⟨h5,off,c,po,h6,h7,_,h8⟩
 ·obtain⟨y,hy⟩:=iJ.1 h5;rw[hy,qP,eP (I.Y.AV _ gn k M y yu hg hy)]at h6;cases h6
 ·have:=I.Y.lt _ (.inl yu);omega
 obtain⟨x',h9,h10⟩:=Tf h0 o c po ho h7;obtain⟨o',e1,_,_,e2⟩:=I.vX gn k M _ c po hg h7;rw[ho]at e1;cases e1;refine⟨h3,h5,fun e=>?_,gn-1,x',h9,h10,by simp only[dY];omega⟩;rw[h6]at e;injection e with e
 injection e with _ e _
 exact h8 (e.trans (e2 h0).symm)
end
end Go.jc

namespace Go.jc
open Go.Conc (crowd parked rcase scase QuitsIn QuitsD Before Knows knows_own touchAt touchAt_of touchAt_old getElem?_append_old getElem?_append_cases lt_size_of_getElem? touch_of hb_po hb_app ofEvents_eq woken Deaf deaf_old g?_old act?_old heard_old lt_of_act? Deaf_own Deaf_other counts_old deaf_inside)
open Go.ConcN (RelBy)
variable{dv:Nat->Nat}{gn n' r s:Nat}{nU:Nat->Prop}{o o':Obj}{pr:Prs}{v:Value}
section
variable{P:Program}{gs gs':Array Goroutine}{w w':World}{t u:Trace}{k k₀ fU:Hp}{M aH jo:Nat->Prop}{og En:Option OG}{ks:List (KS P)}{d d' dG i c:Nat}{g g':Goroutine}{x x':KS P}{es:Array Event}{fn:FuncId}{pos:String}
theorem LY.comm{n c:Nat}{sh:Nat->Prop}(Y:LY w t n dv pr sh nU)(hn:n<=n')(oH:w'.heap.size=w.heap.size)(xR:∀b,b≠c->w'.heap[b]? =w.heap[b]?)(awi:w.heap[c]? =some o)(ho:o.isChan=true)(awj:w'.heap[c]? =some o')(mM:o'.isChan=true)
  (hu:∀op∈u,op.act.touch? =none/\(∀m,op.act≠ .mark m)/\op.g<n'):LY w' (t++u) n' dv pr sh nU:=by
 have d1:∀x,Deaf (t++u) x=dv x:=fun x=>by
  rw[Go.ConcN.Deaf_still t x _ fun op h=>⟨(hu op h).2.1 _,(hu op h).2.1 _⟩,Y.tk.deaf]
 have ML:∀{i a},touchAt (t++u) i=some a->i<t.size/\touchAt t i=some a:=fun ha=>by
  rcases jM ha with h1 | ⟨op,_,hm,h1⟩
  ·exact h1
  rw[(hu op hm).1]at h1;cases h1
 have app:∀{g b},Own t g b->Own (t++u) g b:=fun h=>h.app fun op aY a ha=>by rw[(hu op aY).1]at ha;cases ha
 have awk:∀{g b},Rd t g b->Rd (t++u) g b:=fun h=>h.app fun op aY a ha=>by rw[(hu op aY).1]at ha;cases ha
 refine⟨⟨fun op aY a hm=>?_,fun said=>?_,fun i a b ha hb=>by rw[oH];exact Y.tk.below i a b (ML ha).2 hb,fun op aY=>?_,d1,fun i a ha hs=>?_⟩,fun g k M h=>?_,Y.apart,Y.AV,Y.fk,Y.tC,fun b hb=>by rw[oH];exact Y.lt b hb⟩
 ·rcases Array.mem_append.1 aY with h1 | h1
  ·exact Y.tk.norel op h1 a hm
  exact absurd hm ((hu op h1).2.1 _)
 ·rintro⟨i,j,hij,⟨a,b,ha,hb,hc⟩,n1,n2⟩;exact Y.tk.clean said ⟨i,j,hij,⟨a,b,(ML ha).2,(ML hb).2,hc⟩,fun e=>n1 (hb_app u e),fun e=>n2 (hb_app u e)⟩
 ·rcases Array.mem_append.1 aY with h1 | h1
  ·exact Nat.lt_of_lt_of_le (Y.tk.who op h1) hn
  exact(hu op h1).2.2
 ·rw[g?_old (ML ha).1];exact Y.tk.said i a (ML ha).2 hs
 have K:=Y.xQ g k M h;refine⟨fun b y hy=>?_,K.qC,fun b hb hc=>app (K.own b hb hc),fun b hb hc=>awk (K.rd b hb hc),fun b c po off h1 h2 h3=>(K.vw b c po off h1 h2 h3).app fun op aY a ha=>by rw[(hu op aY).1]at ha;cases ha⟩;obtain⟨y',h1,h2,hv⟩:=K.rO b y hy;by_cases hb:b=c
 ·subst hb;rw[awi]at h1;cases h1;refine⟨_,awj,.inr ?_,.of fun c po e=>?_⟩
  ·rcases h2 with rfl | h2
   ·exact⟨ho,.inl mM⟩
   exact⟨h2.1,.inl mM⟩
  obtain⟨_,_,_,rfl,_⟩:=hv c po e;cases ho
 exact⟨y',by rw[xR b hb];exact h1,h2,hv⟩
theorem ofEvents_g{fn:FuncId}{pos:String}{es:Array Event}:∀op∈MemOp.ofEvents gn fn pos es,op.g=gn:=fun op aY=>by obtain⟨e,_,rfl⟩:=mem_ofEvents aY;rfl
theorem LY.ghost{n:Nat}{sh:Nat->Prop}{k:Hp}{M:Nat->Prop}{y:Obj}(Y:LY w t n dv pr sh nU)(hg:pr gn=some (k,M))(hk:k c=some o)(ho:o.isChan=true)(hf:ji o=false)(mM:o'.isChan=true)(hf':ji o'=false)(hw:w.heap[c]? =some y)(hy:y.isChan=true):
  LY w t n dv (vJ pr gn (some (dM k c o',M))) sh nU:=by
 have K:=Y.xQ gn k M hg;have hC:∀b,lI (dM k c o' b)=lI (k b)/\(dM k c o' b).isSome=(k b).isSome:=fun b=>Md hk ho mM
 refine Y.set ⟨fun b z hz=>?_,fun b hb=>by rw[(hC b).2];exact K.qC b hb,fun b hb hc=>K.own b hb (by rw[<-(hC b).1];exact hc),fun b hb hc=>K.rd b (by rw[<-(hC b).2];exact hb) (by rw[<-(hC b).1];exact hc),fun b c' po off h1 h2 h3=>(aZ h1).elim (fun h=>by rw[<-h.2]at hf';cases hf') fun h=>K.vw b c' po off h.2 h2 h3⟩
  (fun x k1 M1 hx h1=>⟨Y.apart gn x k M k1 M1 (Ne.symm hx) hg h1,fun b hb hs=>by rw[(hC b).1];exact Y.apart x gn k1 M1 k M hx h1 hg b hb (by rw[<-(hC b).2];exact hs)⟩) (fun b z hz=>?_) fun b hb=>?_
 ·rcases aZ hz with⟨rfl,rfl⟩ | ⟨_,h2⟩
  ·exact⟨y,hw,.inr ⟨mM,.inl hy⟩,.of fun c po e=>by rw[e]at hf';cases hf'⟩
  exact K.rO b z h2
 ·rcases aZ hz with⟨rfl,rfl⟩ | ⟨_,h2⟩
  ·exact⟨fun h=>(by have:=Y.AV _ gn k M o h hg hk;rw[hf]at this;cases this),fun h=>by rw[hf']at h;cases h⟩
  exact⟨fun h=>Y.AV b gn k M z h hg h2,fun h=>Y.fk b gn k M z hg h2 h⟩
 have hkb:=Y.tC b gn k M hb hg;rw[bJ _ _ fun e=>by rw[e,hk]at hkb;cases hkb];exact hkb
theorem Ox.ops(h:Ox k M d es d'):∀op∈MemOp.ofEvents gn fn pos es,op.g=gn/\(∀a,op.act≠ .mark (.release a))/\∀a,op.act.touch? =some a->a.kind= .atomic/\∃b,In a.loc b/\(∀b',In a.loc b'->b'=b)/\M b/\(k b).isSome=true/\lI (k b)=false:=by
 intro op aY;obtain⟨e,he,rfl⟩:=mem_ofEvents aY;rcases h.1 e he with rfl | rfl | ⟨a,rfl⟩ | ⟨a,rfl⟩ | ⟨a,rfl | rfl,hM,hs,hc⟩
 ·exact⟨rfl,fun a e=>(by cases e),fun a e=>by cases e⟩
 ·exact⟨rfl,fun a e=>(by cases e),fun a e=>by cases e⟩
 ·exact⟨rfl,fun a e=>(by cases e),fun a e=>by cases e⟩
 ·exact⟨rfl,fun a e=>(by cases e),fun a e=>by cases e⟩
 ·refine⟨rfl,fun a e=>(by cases e),fun y hy=>?_⟩;simp only[FM,MemAct.ofEvent,MemAct.touch?,dY]at hy;subst hy;exact⟨O,a.block,O,fun b' e=>e.symm,hM,hs,hc⟩
 refine⟨rfl,fun a e=>(by cases e),fun y hy=>?_⟩;simp only[Kt,MemAct.ofEvent,MemAct.touch?,dY]at hy;subst hy;exact⟨O,a.block,O,fun b' e=>e.symm,hM,hs,hc⟩
theorem LY.YA{n:Nat}{dv':Nat->Nat}{sh:Nat->Prop}(Y:LY w t n dv pr sh nU)(hg:pr gn=some (k,M))(hn:gn<n)(hp:Ox k M (dv gn) es d')(hd:∀x,dv' x=if x=gn then d' else dv x):
  LY w (t++MemOp.ofEvents gn fn pos es) n dv' pr sh nU:=by
 have K:=Y.xQ gn k M hg;have ho:=hp.ops (gn:=gn) (fn:=fn) (pos:=pos)
 have nt:∀{x k' M' b},x≠gn->pr x=some (k',M')->(k' b).isSome=true->lI (k' b)=false->∀op∈MemOp.ofEvents gn fn pos es,∀a,op.act.touch? =some a->¬In a.loc b:=fun{x k' M' b} hx h hs hc op aY a ha hl=>by
  obtain⟨_,alx,_,h2,h3,_,_⟩:=(ho op aY).2.2 a ha;obtain rfl:=h2 b hl;have:=Y.apart gn x k M k' M' (Ne.symm hx) hg h b h3 hs;rw[hc]at this;cases this
 refine⟨Y.tk.sh hn (Nat.le_refl _) (Nat.le_refl _) ⟨fun op h=>(ho op h).1,fun op h a ha=>?_,fun op h=>(ho op h).2.1⟩ fun x=>?_,fun x k' M' h=>?_,Y.apart,Y.AV,Y.fk,Y.tC,Y.lt⟩
 ·obtain⟨h1,b,h2,h3,h4,h5,h6⟩:=(ho op h).2.2 a ha;exact⟨by rw[h1];simp,fun e=>(by rw[h1]at e;cases e),b,h2,h3,K.lt h4,(K.own b h4 h6).plk⟩
 ·rw[hd];by_cases hx:x=gn
  ·subst hx;rw[if_pos O,Deaf_own,Y.tk.deaf];exact hp.2
  rw[if_neg hx,Deaf_other t (Ne.symm hx) _ fun op h=>(ho op h).1];exact Y.tk.deaf x
 have K':=Y.xQ x k' M' h;by_cases hx:x=gn
 ·subst hx;exact⟨K'.rO,K'.qC,fun b hb hc=>(K'.own b hb hc).app fun op h _ _ _=>(ho op h).1,fun b hb hc=>(K'.rd b hb hc).app fun op h _ _ _ _=>(ho op h).1,fun b c po off h1 h2 h3=>(K'.vw b c po off h1 h2 h3).app fun op h _ _ _ _=>(ho op h).1⟩
 exact⟨K'.rO,K'.qC,fun b hb hc=>(K'.own b hb hc).app fun op aY a ha hl=>absurd hl (nt hx h (K'.qC b hb) hc op aY a ha),fun b hb hc=>(K'.rd b hb hc).app fun op aY a ha hl=>absurd hl (nt hx h hb hc op aY a ha),fun b c po off h1 h2 h3=>(K'.vw b c po off h1 h2 h3).app fun op aY a ha hl _=>by
  obtain⟨_,alx,_,h5,_,h6,h7⟩:=(ho op aY).2.2 a ha;obtain rfl:=h5 b (by rw[hl];rfl);obtain⟨y,hy⟩:=iJ.1 h6;rw[hy,qP,eP (Y.AV b gn k M y (Y.fk b x k' M' _ h h1 rfl) hg hy)]at h7;cases h7⟩

theorem MS.heap[Base](I:MS P gs w t dG k₀ aH og ks)(h:Bz P w t k₀ aH og i g x)(hc:x.ch=some c):∃o,w.heap[c]? =some o/\o.isChan=true:=by
 cases x with
 | run c' g' k M=>cases hc;obtain⟨s,r,ho⟩:=h.2.2.2.opened;exact⟨_,ho,rfl⟩
 | uj c' k M=>
  cases hc
  obtain⟨_,_,_,_,_,_,_,L⟩:=h;obtain⟨s,r,ho⟩:=L.opened;exact⟨_,ho,rfl⟩
 | quit c' n d=>
  rcases h.2 with⟨h1,_⟩ | ⟨c'',e,_,_,⟨s,r,ho⟩,_⟩
  ·obtain⟨o',h2,h3,_⟩:=(I.Y.xQ 0 k₀ aH aW).rO c _ (h1 c hc);refine⟨o',h2,?_⟩;rcases h3 with rfl | ⟨_,h3 | h3⟩
   ·rfl
   ·exact h3
   cases h3
  cases hc.symm.trans e;exact⟨_,ho,rfl⟩
 | _=>cases hc
theorem MS.anJ[Base](I:MS P gs w t dG k₀ aH og ks){o:OG}(h:og=some o):o.γ.Wg<w.heap.size:=I.Y.lt _ (.inl ⟨o,h,.inl O⟩)

def noV(k:Hp)(b:Nat):Prop:=k b≠some sZ/\∀c po,k b≠some (bn c po)
theorem noV.of{k:Hp}{b:Nat}(h:k b=some o)(h1:o≠sZ)(h2:ji o=false):noV k b:=⟨fun e=>by rw[h]at e;cases e;exact h1 rfl,fun c po e=>by rw[h]at e;cases e;cases h2⟩
theorem MS.turn[Base](I:MS P gs w t dG k₀ aH og ks)(hi:ks[i]? =some x)(um:x'.ch=x.ch)(Y:LY w' (t++u) (ks.length+1) (D5 dG (ks.set i x')) (xU fU aH (ks.set i x')) (LJ En) (qR (ks.set i x')))
  (hT:∀b o,w.heap[b]? =some o->o.isChan=true->x.ch≠some b->(∀op∈u,∀a,op.act.touch? =some a->¬In a.loc b)/\w'.heap[b]? =some o) (hE:∀b,qR ks b->w'.heap[b]? =w.heap[b]? /\∀op∈u,∀a,op.act.touch? =some a->¬In a.loc b)
  (hw:∀o,og=some o->∀op∈u,∀a,op.act.touch? =some a->a.kind= .plain->¬In a.loc o.γ.Wg) (hog:∀o,og=some o->∃o',En=some o'/\o'.γ=o.γ/\o'.p=o.p) (hG:∀o',En=some o'->Fj w' (t++u) (ks.set i x') o') (hN:En=none->x'.wr=none)
  (hvx:∀k' M' b c po,x'.act=some (k',M')->k' b=some (bn c po)->∃k M,x.act=some (k,M)/\k b=some (bn c po))
  (hk:∀b,x.ch≠some b->fU b=k₀ b) (Jf:∀c,x.ch=some c->noV fU c) (hu:∀op∈u,op.g=i+1\/op.g=0) (hs:gs'.size=gs.size) (Ce:gs'[i+1]? =some g') (hgo:∀m,m≠i+1->0<m->gs'[m]? =gs[m]?)
  (hK:Bz P w' (t++u) fU aH En i g' x') (ao9:(((ks.set i x').map KS.OE).flatten.map (·.1)).Nodup) (ac8:∀k' M' b,x'.act=some (k',M')->M' b->Base.ref.heap.size<=b) (aip:∀b,qR (ks.set i x') b->Base.ref.heap.size<=b) (hkp:Kept Base.ref w'):
  MS P gs' w' (t++u) dG fU aH En (ks.set i x'):=by
 have awl:∀o,og=some o->∃o',En=some o'/\o'.γ=o.γ:=fun o h=>let⟨o',h1,h2,_⟩:=hog o h;⟨o',h1,h2⟩
 refine⟨by rw[hs,I.size,List.length_set],by rw[List.length_set];exact Y,fun b hb hn=>?_,fun j y hj=>?_,fun j m c y z hj hm hy hz=>?_,fun c l hc hl=>?_,hG,fun hn y hy=>?_,ao9,hkp,fun gn k M b hp hb=>?_,aip,fun gn k M b c po hp hb=>?_⟩
 ·have iK:x.ch≠some b:=fun e=>(Jf b e).1 hn;rw[hk b iK]at hn;obtain⟨h1,h2⟩:=I.new b hb hn;obtain⟨h3,h4⟩:=hT b _ h2 rfl iK;exact⟨h1.app fun op aY a ha hl=>absurd hl (h3 op aY a ha),h4⟩
 ·rcases MC hj with⟨rfl,rfl,_⟩ | ⟨iK,hj⟩
  ·exact⟨g',Ce,hK⟩
  obtain⟨gj,h1,h2⟩:=I.Cc j y hj;have hyc:∀c,y.ch=some c->x.ch≠some c:=fun c e1 e2=>iK (I.one j i c y x hj hi e1 e2);refine⟨gj,by rw[hgo (j+1) aj aj];exact h1,h2.keep awl (fun c hc o ho Gv=>(hT c o ho Gv (hyc c hc)).2) (fun c hc=>hk c (hyc c hc)) (fun _ _ _ h=>h) (fun op aY=>by rcases hu op aY with h | h <;>omega) (fun c hc op aY a ha _=>?_) hw fun b o hb=>hE b (MJ hj hb)⟩;obtain⟨o,ho,Gv⟩:=I.heap h2 hc;exact(hT c o ho Gv (hyc c hc)).1 op aY a ha
 ·rcases MC hj with⟨e1,e2,_⟩ | ⟨iK,hj'⟩ <;>rcases MC hm with⟨e3,e4,_⟩ | ⟨az7,Vf⟩
  ·exact e1.trans e3.symm
  ·subst e2;exact e1.trans (I.one i m c x z hi Vf (um▸hy) hz)
  ·subst e4;exact(I.one j i c y x hj' hi hy (um▸hz)).trans e3.symm
  exact I.one j m c y z hj' Vf hy hz
 ·by_cases PS:x.ch=some c
  ·exact⟨i,x',by rw[List.getElem?_set,if_pos O,if_pos (gy hi)],um.trans PS⟩
  rw[hk c PS]at hl;obtain⟨j,y,hj,hy⟩:=I.has c l hc hl;have iK:i≠j:=by rintro rfl;rw[hi]at hj;cases hj;exact PS hy
  exact⟨j,y,by rw[List.getElem?_set,if_neg iK];exact hj,hy⟩
 ·have xJ:og=none:=by
   cases h:og with
   | none=>rfl
   | some o=>obtain⟨o',e,_⟩:=hog o h;rw[hn]at e;cases e
  rcases List.mem_or_eq_of_mem_set hy with h | rfl
  ·exact I.Vw xJ y h
  exact hN hn
 ·rcases fV hp with⟨rfl,rfl,rfl⟩ | ⟨j,y,rfl,hj,hy⟩
  ·exact I.low 0 k₀ _ b aW hb
  rcases MC hj with⟨rfl,rfl,_⟩ | ⟨iK,hj⟩
  ·exact ac8 k M b hy hb
  exact I.low _ k M b (by rw[iY hj];exact hy) hb
 have on:∀{gn:Nat} {k:Hp} {M:Nat->Prop},xU k₀ aH ks gn=some (k,M)->k b=some (bn c po)->∃o,En=some o/\o.p≠ .out/\b=o.γ.X/\(gn≠0->po=o.γ.q):=fun h1 h2=>by
  obtain⟨o,h3,h4,h5,h6⟩:=I.vX _ _ _ _ _ _ h1 h2;obtain⟨o',h7,h8,h9⟩:=hog o h3;exact⟨o',h7,by rw[h9];exact h4,by rw[h8];exact h5,by rw[h8];exact h6⟩
 rcases fV hp with⟨rfl,rfl,rfl⟩ | ⟨j,y,rfl,hj,hy⟩
 ·have iK:x.ch≠some b:=fun e=>(Jf b e).2 c po hb;rw[hk b iK]at hb;exact on (gn:=0) aW hb
 rcases MC hj with⟨rfl,rfl,_⟩ | ⟨iK,hj⟩
 ·obtain⟨k1,M1,h1,h2⟩:=hvx k M b c po hy hb;exact on ((iY hi).trans h1) h2
 exact on ((iY hj).trans hy) hb
theorem QY(o:OG)(h:og=some o):∃o',og=some o'/\o'.γ=o.γ:=⟨o,h,O⟩
theorem MS.aao[Base](I:MS P gs w t dG k₀ aH og ks)(hi:ks[i]? =some x)(um:x'.ch=x.ch)(Ti:x'.wr=x.wr)(hj:x'.Cb=x.Cb)(he:x'.OE=x.OE)(Y:LY w' (t++u) (ks.length+1) (D5 dG (ks.set i x')) (xU fU aH (ks.set i x')) (LJ og) (qR ks))
  (hT:∀b o,w.heap[b]? =some o->o.isChan=true->x.ch≠some b->(∀op∈u,∀a,op.act.touch? =some a->¬In a.loc b)/\w'.heap[b]? =some o) (E:Off og ks (ks.set i x') w w' u) (hvx:∀k' M' b c po,x'.act=some (k',M')->k' b=some (bn c po)->∃k M,x.act=some (k,M)/\k b=some (bn c po))
  (hk:∀b,x.ch≠some b->fU b=k₀ b) (Jf:∀c,x.ch=some c->noV fU c) (hu:∀op∈u,op.g=i+1\/op.g=0) (hs:gs'.size=gs.size) (Ce:gs'[i+1]? =some g') (hgo:∀m,m≠i+1->0<m->gs'[m]? =gs[m]?)
  (hK:Bz P w' (t++u) fU aH og i g' x') (ac8:∀k' M' b,x'.act=some (k',M')->M' b->Base.ref.heap.size<=b) (hkp:Kept Base.ref w'):MS P gs' w' (t++u) dG fU aH og (ks.set i x'):=
 I.turn hi um (by rw[CS hi he];exact Y) hT E.nU (fun o h=>(E.wg o h).2) (fun o h=>⟨o,h,O,O⟩) (fun o h=>(I.Td o h).keep (aeJ hi Ti) (Ej hi hj) (ao6 hi Ti) (h▸E)) (fun h=>Ti.trans (I.Vw h _ (dL hi))) hvx hk Jf hu hs Ce hgo hK (by rw[MI hi he];exact I.Kv) ac8 (fun b hb=>I.Kw b (by rw[CS hi he]at hb;exact hb)) hkp
theorem MS.WQ[Base](I:MS P gs w t dG k₀ aH og ks)(hi:ks[i]? =some x)(um:x'.ch=x.ch)(Ti:x.wr=none)(ao_:x'.wr=none)(Y:LY w' (t++u) (ks.length+1) (D5 dG (ks.set i x')) (xU fU aH (ks.set i x')) (LJ og) (qR ks))
  (hT:∀b o,w.heap[b]? =some o->o.isChan=true->x.ch≠some b->(∀op∈u,∀a,op.act.touch? =some a->¬In a.loc b)/\w'.heap[b]? =some o) (E:Off og ks (ks.set i x') w w' u) (hvx:∀k' M' b c po,x'.act=some (k',M')->k' b=some (bn c po)->∃k M,x.act=some (k,M)/\k b=some (bn c po))
  (hk:∀b,x.ch≠some b->fU b=k₀ b) (Jf:∀c,x.ch=some c->noV fU c) (hu:∀op∈u,op.g=i+1\/op.g=0) (hs:gs'.size=gs.size) (Ce:gs'[i+1]? =some g') (hgo:∀m,m≠i+1->0<m->gs'[m]? =gs[m]?)
  (hK:Bz P w' (t++u) fU aH og i g' x') (ac8:∀k' M' b,x'.act=some (k',M')->M' b->Base.ref.heap.size<=b) (hkp:Kept Base.ref w'):MS P gs' w' (t++u) dG fU aH og (ks.set i x'):=by
 have e0:∀y:KS P,y.wr=none->y.OE=[]:=fun y h=>by cases y <;>first | rfl | cases h
 have e2:∀y:KS P,y.wr=none->y.Cb=none:=fun y h=>by cases y <;>first | rfl | cases h
 exact I.aao hi um (ao_.trans Ti.symm) (by rw[e2 x Ti,e2 x' ao_]) (by rw[e0 x Ti,e0 x' ao_]) Y hT E hvx hk Jf hu hs Ce hgo hK ac8 hkp

theorem MS.anL[Base](I:MS P gs w t dG k₀ aH og ks)(gu:iR k₀ aH w w' es)(hs:gs'.size=gs.size)(hgo:∀m,0<m->gs'[m]? =gs[m]?):
  MS P gs' w' (t++MemOp.ofEvents 0 fn pos es) dG (snap k₀ w w') (grown aH w w') og ks:=by
 have K:=I.Y.xQ 0 k₀ aH aW;have E:Off og ks ks w w' (MemOp.ofEvents 0 fn pos es):=I.off aW gu fun h=>absurd O h;refine⟨by rw[hs,I.size],(I.Y.step aW aj gu).Eh fun g=>zh g,fun b hb hn=>?_,fun j y hj=>?_,I.one,fun c l hc hl=>?_,fun o h=>(I.Td o h).keep O O (fun i x h1 h2=>⟨x,h1,h2⟩) (h▸E),I.Vw,I.Kv,I.base.Ji gu fun b hb=>I.low 0 k₀ aH b aW hb,fun gn k M b hp hb=>?_,I.Kw,fun gn k M b c po hp hb=>?_⟩
 ·cases h:lI (k₀ b)with
  | true=>
   have e:snap k₀ w w' b=k₀ b:=by simp[snap,h]
   rw[e]at hn
   have hm:aH b:=by
    rcases hb with hb | hb
    ·exact hb
    have:=K.rO.lt hn;omega
   obtain⟨h1,h2⟩:=I.new b hm hn;exact⟨SN (w:=w) (w':=w') I.Y.tk.below b (.inl hm) fun _=>h1,gu.lJ _ _ h2 O⟩
  | false=>
   refine⟨SN (w:=w) (w':=w') I.Y.tk.below b hb fun hm=>K.own b hm h,?_⟩;simp only[snap,h,eU,if_false]at hn;split at hn
   ·exact hn
   cases hn
 ·obtain⟨gj,h1,h2⟩:=I.Cc j y hj;refine⟨gj,by rw[hgo (j+1) aj];exact h1,h2.keep QY (fun c _ o ho Gv=>gu.lJ _ _ ho Gv) (fun c hc=>?_) (fun c _ _ h=>.inl h) (fun op aY=>by rw[ofEvents_g op aY];omega) (fun c hc op aY a ha _=>?_) (fun o h=>(E.wg o h).2) fun b o hb=>E.nU b (MJ hj hb)⟩
  ·obtain⟨o,ho,Gv,_⟩:=h2.chan hc;rw[sK ho Gv,ho]
  obtain⟨o,ho,Gv⟩:=I.heap h2 hc;exact OJ I.Y aW gu ho Gv op aY a ha
 ·cases h:lI (k₀ c)with
  | true=>
   have e:snap k₀ w w' c=k₀ c:=by simp[snap,h]
   rw[e]at hl;refine I.has c l ?_ hl;rcases hc with hc | hc
   ·exact hc
   have:=K.rO.lt hl;omega
  | false=>
   exfalso;simp only[snap,h,eU,if_false]at hl;split at hl
   ·by_cases hc:w.heap.size<=c
    ·exact y7 (gu.news c _ hc hl O)
    obtain⟨o,ho⟩:=iJ.1 (show(w.heap[c]?).isSome=true by simp;omega)
    cases Gv:o.isChan with
    | false=>have:=gu.stay c o _ ho Gv hl;cases this
    | true=>
     cases hk:k₀ c with
     | none=>rename_i hx;simp[hk,hc]at hx
     | some y=>
      obtain⟨o',h1,h2,_⟩:=K.rO c y hk;rw[ho]at h1;cases h1;rw[hk]at h;rcases h2 with h2 | h2
      ·rw[<-h2]at h;rw[show lI (some o)=o.isChan from rfl,Gv]at h;cases h
      rw[show lI (some y)=y.isChan from rfl,h2.1]at h;cases h
   cases hl
 ·rcases fV hp with⟨rfl,rfl,rfl⟩ | ⟨j,y,rfl,hj,hy⟩
  ·exact IV (fun b hb=>I.low 0 k₀ aH b aW hb) I.base.size b hb
  exact I.low _ k M b (by rw[iY hj];exact hy) hb
 rcases fV hp with⟨rfl,rfl,rfl⟩ | ⟨j,y,rfl,hj,hy⟩
 ·exact I.vX 0 k₀ aH b c po aW (CO K.rO gu hb)
 exact I.vX _ k M b c po ((iY hj).trans hy) hb
theorem MS.YA[Base](I:MS P gs w t dG k₀ aH og ks)(hp:Ox k₀ aH dG es d'):MS P gs w (t++MemOp.ofEvents 0 fn pos es) d' k₀ aH og ks:=by
 have ho:=hp.ops (gn:=0) (fn:=fn) (pos:=pos)
 have um:∀{b o},k₀ b=some o->o.isChan=true->∀op∈MemOp.ofEvents 0 fn pos es,∀a,op.act.touch? =some a->¬In a.loc b:=fun{b o} hb hc op aY a ha hl=>by
  obtain⟨_,alx,_,h2,_,_,h3⟩:=(ho op aY).2.2 a ha;obtain rfl:=h2 b hl;rw[hb]at h3;rw[show lI (some o)=o.isChan from rfl,hc]at h3;cases h3
 have nU:∀b,qR ks b->∀op∈MemOp.ofEvents 0 fn pos es,∀a,op.act.touch? =some a->¬In a.loc b:=fun b hb op aY a ha hl=>by
  obtain⟨_,alx,_,h4,_,h5,_⟩:=(ho op aY).2.2 a ha;obtain rfl:=h4 b hl;rw[I.Y.tC b 0 k₀ aH hb aW]at h5;cases h5
 have OI:∀op∈MemOp.ofEvents 0 fn pos es,∀a,op.act.touch? =some a->a.kind≠ .plain:=fun op aY a ha=>by rw[((ho op aY).2.2 a ha).1];simp
 refine⟨I.size,I.Y.YA aW aj (by rw[zi];exact hp) aan,fun b hb hn=>?_,fun j y hj=>?_,I.one,I.has,fun o h=>(I.Td o h).keep O O (fun i x h1 h2=>⟨x,h1,h2⟩) ⟨fun b hb=>⟨O,nU b hb⟩,fun o _=>⟨O,fun op aY a ha hp=>absurd hp (OI op aY a ha)⟩,fun o _ _=>⟨O,fun op aY _ _ _=>.inl (ho op aY).1⟩⟩,I.Vw,I.Kv,I.base,I.low,I.Kw,I.vX⟩
 ·obtain⟨h1,h2⟩:=I.new b hb hn;exact⟨h1.app fun op aY a ha hl=>absurd hl (um hn O op aY a ha),h2⟩
 obtain⟨gj,h1,h2⟩:=I.Cc j y hj;refine⟨gj,h1,h2.keep QY (fun _ _ _ h _=>h) (fun _ _=>rfl) (fun _ _ _ h=>h) (fun op aY=>by rw[(ho op aY).1];omega) (fun c hc op aY a ha _=>?_) (fun o _ op aY a ha hp=>absurd hp (OI op aY a ha)) fun b o hb=>⟨O,nU b (MJ hj hb)⟩⟩;obtain⟨o,h3,h4,_⟩:=h2.chan hc;exact um h3 h4 op aY a ha

theorem MS.asw[Base](I:MS P gs w t dG k₀ aH og ks)(hi:ks[i]? =some (.run c g k M))(L:MK w t k₀ aH i c k M)(gu:iR k M w w' es)(Oy:g'.status= .running)(hc:Ch P c g' (snap k w w') (grown M w w'))
  (hs:gs'.size=gs.size) (Ce:gs'[i+1]? =some g') (hgo:∀m,m≠i+1->0<m->gs'[m]? =gs[m]?):MS P gs' w' (t++MemOp.ofEvents (i+1) fn pos es) dG k₀ aH og (ks.set i (.run c g' (snap k w w') (grown M w w'))):=by
 have qw:xU k₀ aH ks (i+1)=some (k,M):=iY hi;obtain⟨l,h1,h2⟩:=L.ghost;obtain⟨s,r,ho⟩:=L.opened;have Gp:=gy hi;refine I.WQ (x':=.run c g' (snap k w w') (grown M w w')) hi rfl rfl rfl ?_ (fun b o hb Gv _=>⟨OJ I.Y qw gu hb Gv,gu.lJ _ _ hb Gv⟩) (I.off qw gu fun _ o c' po _ e=>by have:=L.nf _ _ e;cases this) (fun k' M' b c' po e hb=>by cases e;exact⟨k,M,rfl,CO (I.Y.xQ _ k M qw).rO gu hb⟩) (fun _ _=>rfl) (fun c' e=>?_) (fun op aY=>.inl (ofEvents_g op aY)) hs Ce hgo ⟨rfl,Oy,hc,.inl L.mc,⟨l,sK h1 rfl,h2⟩,L.m0,⟨s,r,gu.lJ _ _ ho rfl⟩,?_,fun b y hy=>?_⟩ (fun k' M' b e hb=>?_) (I.base.Ji gu fun b hb=>I.low _ k M b qw hb)
 ·rw[CQ hi (x':=.run c g' (snap k w w') (grown M w w')) O];exact(I.Y.step qw aj gu).Eh fun g=>wF hi g
 ·cases e;exact .of h2 y7 rfl
 ·exact L.plc.app fun op aY _ _ _ _=>ofEvents_g op aY
 ·cases hf:ji y with
  | false=>rfl
  | true=>
   have yu:=(I.Y.step (fn:=fn) (pos:=pos) qw aj gu).fk b (i+1) _ _ y iP hy hf;rw[alp I.Y qw yu]at hy;rw[L.nf b y hy]at hf;cases hf
 cases e
 exact IV (fun b hb=>I.low _ k M b qw hb) I.base.size b hb

theorem MS.uj[Base]{z:Value}{l:List Value}(I:MS P gs w t dG k₀ aH og ks)(hi:ks[i]? =some (.run c g k M))(L:MK w t k₀ aH i c k M)(hk:k c=some (mO (v::l)))(h:Ch P c (g'.finishComm P #[scase c v z] .send 0 undef false) (dM k c (mO l)) M)
  (hs:gs'.size=gs.size) (Ce:gs'[i+1]? =some (parked g' #[scase c v z] .send)) (hgo:∀m,m≠i+1->0<m->gs'[m]? =gs[m]?):MS P gs' w t dG k₀ aH og (ks.set i (.uj c k M)):=by
 have qw:xU k₀ aH ks (i+1)=some (k,M):=iY hi;obtain⟨l',_,h2⟩:=L.ghost;have e:t++(#[]:Trace)=t:=by simp
 have:=I.WQ (u:= #[]) (x':=.uj c k M) hi O O O (by
   rw[CQ hi (x':=.uj c k M) O,e];exact I.Y.Eh fun g=>CP (x':=.uj c k M) hi rfl g) (fun b o hb _ _=>⟨fun op h=>by simp at h,hb⟩) (.none fun b _=>⟨rfl,fun op h=>by simp at h⟩) (fun k' M' b c' po e hb=>by cases e;exact⟨k,M,rfl,hb⟩) (fun _ _=>rfl) (fun c' e=>by cases e;exact .of h2 y7 rfl) (fun op h=>by simp at h) hs Ce hgo ⟨g',v,l,z,rfl,hk,h,by rw[e];exact L⟩ (fun k' M' b e hb=>by cases e;exact I.low _ k M b qw hb) I.base
 rwa[e]at this

theorem MS.quits[Base]{co:Option Nat}{n d:Nat}(I:MS P gs w t dG k₀ aH og ks)(hi:ks[i]? =some (.quit co n d))(hm:∀e∈es,Event.mute e=true)(hq:QuitsD P n' (deafBehind d es) g')
  (hs:gs'.size=gs.size) (Ce:gs'[i+1]? =some g') (hgo:∀m,m≠i+1->0<m->gs'[m]? =gs[m]?):MS P gs' w (t++MemOp.ofEvents (i+1) fn pos es) dG k₀ aH og (ks.set i (.quit co n' (deafBehind d es))):=by
 obtain⟨jd,h1,h2,h3⟩:=I.Cc i _ hi;have Gp:=gy hi;have hu:=MG (g:=i+1) (fn:=fn) (pos:=pos) hm;refine I.WQ (x':=.quit co n' (deafBehind d es)) hi rfl rfl rfl ?_ (fun b o hb _ _=>⟨fun op aY a ha=>(by rw[(hu op aY).2.1]at ha;cases ha),hb⟩) (.none fun b _=>⟨rfl,fun op aY a ha=>(by rw[(hu op aY).2.1]at ha;cases ha)⟩) (fun k' M' b c' po e hb=>by cases e) (fun _ _=>rfl) (fun c' e=>?_) (fun op aY=>.inl (hu op aY).1) hs Ce hgo ⟨hq,h3.keep (fun _ _ _ h _=>h) (fun _ _=>rfl) (fun _ _ _ h=>h) fun n hn _=>PO hm n hn⟩ (fun k' M' b e hb=>by cases e) I.base
 ·have Y:=I.Y.mute (g:=i+1) (fn:=fn) (pos:=pos) (dv':=D5 dG (ks.set i (.quit co n' (deafBehind d es)))) aj hm fun x=>by rw[MH hi,Bv hi];rfl
  exact Y.Eh fun g=>CP (x':=.quit co n' (deafBehind d es)) hi O g
 obtain⟨o,ho,_,hn,hf⟩:=Bz.chan (og:=og) (x:=(.quit co n d:KS P)) ⟨h2,h3⟩ e;exact .of ho hn hf

theorem MS.meet[Base]{l:List Value}(I:MS P gs w t dG k₀ aH og ks)(hi:ks[i]? =some x)(um:x.ch=some c)(hx:x.act=some (k,M))(DZ:x.deaf=0)(Ti:x.wr=none)(L:MK w t k₀ aH i c k M)(hk:k c=some (mO (v::l)))
  (Oy:g'.status= .running) (h:Ch P c g' (dM k c (mO l)) M) (oH:w'.heap.size=w.heap.size) (xR:∀b,b≠c->w'.heap[b]? =w.heap[b]?) (hc:w'.heap[c]? =some (.chan 0 #[] false s r false))
  (hu:∀op∈u,op.act.touch? =none/\(∀m,op.act≠ .mark m)/\(op.g=i+1\/op.g=0)) (h1':w'.os=w.os) (h2':w'.output=w.output) (h3':w'.tape=w.tape)
  (hs:gs'.size=gs.size) (Ce:gs'[i+1]? =some g') (hgo:∀m,m≠i+1->0<m->gs'[m]? =gs[m]?):
  MS P gs' w' (t++u) dG (dM k₀ c (mO l)) aH og (ks.set i (.run c g' (dM k c (mO l)) M)):=by
 obtain⟨afZ,h1,h2⟩:=L.ghost;obtain⟨l7,az8,ho⟩:=L.opened;have Gp:=gy hi;have qw:xU k₀ aH ks (i+1)=some (k,M):=(iY hi).trans hx;have Y1:=I.Y.comm (n':=ks.length+1) (Nat.le_refl _) oH xR ho rfl hc rfl fun op aY=>⟨(hu op aY).1,(hu op aY).2.1,by rcases(hu op aY).2.2 with h | h <;>omega⟩
 have Y2:=Y1.ghost (o':=mO l) qw h1 O O O O hc O;have Y3:=Y2.ghost (gn:=0) (o':=mO l) (by rw[jZ aj];exact aW) h2 O O O O hc O
 have iK:∀b,qR ks b\/LJ og b->b≠c:=fun b hb e=>by
  subst e;rcases hb with hb | hb
  ·rw[I.Y.tC _ _ _ _ hb qw]at h1;cases h1
  have:=I.Y.AV _ _ _ _ _ hb qw h1;cases this
 refine I.WQ hi (x':=.run c g' (dM k c (mO l)) M) um.symm Ti rfl ?_ (fun b o hb _ iK=>⟨fun op aY a ha=>(by rw[(hu op aY).1]at ha;cases ha),by rw[xR b fun e=>iK (e▸um)];exact hb⟩) (.none fun b hb=>⟨xR b (iK b hb),fun op aY a ha=>(by rw[(hu op aY).1]at ha;cases ha)⟩) (fun k' M' b c' po e hb=>by cases e;exact⟨k,M,hx,(aZ hb).elim (fun h=>by have:=h.2;simp[mO,bn]at this) fun h=>h.2⟩) (fun b hb=>bJ _ _ fun e=>hb (e▸um)) (fun c' e=>?_) (fun op aY=>(hu op aY).2.2) hs Ce hgo
  ⟨rfl,Oy,h,L.mc,⟨l,bP _ _ _,bP _ _ _⟩,L.m0,⟨s,r,hc⟩,L.plc.app fun op aY a ha=>(by rw[(hu op aY).1]at ha;cases ha),fun b y hy=>(aZ hy).elim (fun h=>h.2▸rfl) fun h=>L.nf b y h.2⟩ (fun k' M' b e hb=>by cases e;exact I.low _ k M b qw hb) (I.base.off h1' h2' h3' oH fun b hb=>xR b fun e=>by have:=I.low 0 k₀ aH c aW L.m0;omega)
 ·rw[CQ hi (x':=.run c g' (dM k c (mO l)) M) DZ.symm];refine Y3.Eh fun gn=>?_;rw[wF hi];by_cases hg0:gn=0
  ·subst hg0;rw[iP,jZ aj];exact aW
  rw[jZ hg0];by_cases hg1:gn=i+1
  ·rw[hg1,iP,iP];rfl
  rw[jZ hg1,jZ hg1];simp[xU,hg0]
 cases um.symm.trans e
 exact .of (bP _ _ _) y7 O

theorem aap(hi:ks[i]? =some x):ks.set i x=ks:=aah hi
theorem MS.done[Base]{n d:Nat}(I:MS P gs w t 0 k₀ aH og ks)(hi:ks[i]? =some (.quit (some c) n d))(hg:k₀ c=some (mO [])){op:MemOp}(h0:op.g=0)(ho:op.act= .recvClosed c)(hs:gs'.size=gs.size)(hgo:∀m,0<m->gs'[m]? =gs[m]?):
  MS P gs' w (t++ #[op]) 0 (dM k₀ c Fg) aH og ks:=by
 obtain⟨jd,h1,h2,h3⟩:=I.Cc i _ hi;rcases h3 with⟨h3,_⟩ | ⟨c',e,h3,h4,⟨s,r,h5⟩,pc,h6,h7,h8,h9⟩
 ·rw[h3 c O]at hg;exact absurd (Option.some.inj hg).symm G6
 cases e
 have hu:∀JM∈ #[op],JM.act.touch? =none/\(∀m,JM.act≠ .mark m)/\JM.g<ks.length+1:=fun JM aY=>by
  rw[iU aY,ho,h0];exact⟨O,by simp,aj⟩
 have Y1:=I.Y.comm (Nat.le_refl _) O (fun _ _=>rfl) h5 O h5 O hu;have Y2:=Y1.ghost (o':=Fg) aW hg O O O O h5 O;have hpc:=lt_of_act? h6;have aiq:(t++ #[op])[t.size]? =some op:=by rw[Array.getElem?_append_right (Nat.le_refl _)];simp
 have e6:(t++ #[op]).act? pc=some (.close c):=by rw[act?_old hpc];exact h6
 have hd0:D5 0 ks op.g=0:=by rw[h0];exact zi
 have asx:HappensBefore (t++ #[op]) pc t.size:=
  .single (.inr ⟨.closed (c:=c) e6 (by simp[Trace.act?,aiq,ho]),(heard_old hpc).2 h8,I.Y.tk.heard (r:=0) aiq hd0⟩)
 have nt:∀JM∈ #[op],∀a,JM.act.touch? =some a->False:=fun JM aY a ha=>by rw[(hu JM aY).1]at ha;cases ha
 have:=I.WQ (x':=.quit (some c) n d) hi rfl rfl rfl (by rw[aap hi];exact Y2.Eh fun g=>zh g) (fun b o hb _ _=>⟨fun JM aY a ha=>(nt JM aY a ha).elim,hb⟩) (.none fun b _=>⟨rfl,fun JM aY a ha=>(nt JM aY a ha).elim⟩) (fun k' M' b c' po e hb=>by cases e) (fun b hb=>bJ _ _ fun e=>hb (e▸rfl)) (fun c' e=>by cases e;exact .of (bP _ _ _) Yp rfl) (fun JM aY=>.inr (by rw[iU aY,h0])) hs
  (g':=jd) (by rw[hgo (i+1) aj];exact h1) (fun m _ hm=>hgo m hm) ⟨h2,.inl ⟨fun c' e=>by cases e;exact bP _ _ _,fun n hc hgn=>?_⟩⟩ (fun k' M' b e hb=>by cases e) I.base
 ·rwa[aap hi]at this
 rcases bQ n t.size with hn | hn
 ·have hb:=h9 n ((counts_old hn).1 hc) (by rw[g?_old hn]at hgn;exact hgn);exact⟨t.size,op,aiq,h0,.inr ((hb.app _).hb asx)⟩
 obtain⟨JM,mM,hog⟩:=jR.1 hgn;rcases getElem?_append_cases mM with⟨h10,_⟩ | ⟨_,h10⟩
 ·omega
 rw[iU h10,h0]at hog;omega

theorem air(j c:Nat)(fn:FuncId)(pos:String):MemOp.ofEvents j fn pos (yF c)= #[{g:=j,fn,pos,act:=.access ⟨.obj c,false,true⟩},{g:=j,fn,pos,act:=.close c}]:=by
 rw[ofEvents_eq];simp[yF,MemAct.ofEvent]
theorem MS.close[Base]{n:Nat}(I:MS P gs w t dG k₀ aH og ks)(hi:ks[i]? =some (.run c g k M))(L:MK w t k₀ aH i c k M)(hk:k c=some (mO []))(hq:QuitsIn P n g')(ho:w.heap[c]? =some (.chan 0 #[] false s r false))
  (hs:gs'.size=gs.size) (Ce:gs'[i+1]? =some g') (hgo:∀m,m≠i+1->0<m->gs'[m]? =gs[m]?):MS P gs' (w.shut c s r false) (t++MemOp.ofEvents (i+1) fn pos (yF c)) dG k₀ aH og (ks.set i (.quit (some c) n 0)):=by
 have fK:=nT ho;have Gp:=gy hi;have qw:xU k₀ aH ks (i+1)=some (k,M):=iY hi;obtain⟨afZ,h1,h2⟩:=L.ghost;rw[hk]at h1;obtain rfl:=yG h1;rw[air]
 let o1:MemOp:={g:=i+1,fn,pos,act:=.access ⟨.obj c,false,true⟩}
 let o2:MemOp:={g:=i+1,fn,pos,act:=.close c}
 show MS P gs' (w.shut c s r false) (t++ #[o1,o2]) dG k₀ aH og (ks.set i (.quit (some c) n 0));have mem:∀op∈ #[o1,o2],op=o1\/op=o2:=fun op h=>by simpa using h
 have hg1:∀op∈ #[o1,o2],op.g=i+1:=fun op h=>by rcases mem op h with rfl | rfl <;>rfl
 have hmk:∀op∈ #[o1,o2],∀m,op.act≠ .mark m:=fun op h m=>by rcases mem op h with rfl | rfl <;>simp[o1,o2]
 have hw':(w.shut c s r false).heap[c]? =some (.chan 0 #[] true s r false):=by simp[World.shut,fK]
 have xR:∀b,b≠c->(w.shut c s r false).heap[b]? =w.heap[b]? :=fun b hb=>by simp[World.shut,Ne.symm hb]
 have ht1:∀op∈ #[o1,o2],∀a,op.act.touch? =some a->a.kind= .atomic/\In a.loc c/\∀b,In a.loc b->b=c:=by
  intro op h a ha;rcases mem op h with rfl | rfl
  ·simp only[o1,MemAct.touch?,dY]at ha;subst ha;exact⟨O,O,fun b e=>e.symm⟩
  cases ha
 have Y1:LY (w.shut c s r false) (t++ #[o1,o2]) (ks.length+1) (D5 dG ks) (xU k₀ aH ks) (LJ og) (qR ks):=by
  refine I.Y.afT (g:=i+1) (tch:=fun b=>b=c) aj (Nat.le_refl _) (by simp[World.shut]) (fun b hb=>xR b hb) ⟨hg1,fun op aY a ha=>?_,fun op aY a=>hmk op aY _⟩ (fun op aY a ha b hl=>(ht1 op aY a ha).2.2 b hl) (fun b x k M o hb hp hkb=>?_) fun x=>?_
  ·obtain⟨e1,e2,e3⟩:=ht1 op aY a ha;exact⟨by rw[e1];simp,fun h=>(by rw[e1]at h;cases h),c,e2,e3,fK,L.plc⟩
  ·subst hb;obtain⟨o',e1,e2,e3⟩:=(I.Y.xQ x k M hp).rO b o hkb;rw[ho]at e1;cases e1;refine⟨?_,.inr ⟨_,hw',rfl⟩,fun c po e=>by obtain⟨_,_,_,e4,_⟩:=e3 c po e;cases e4⟩;rcases e2 with rfl | e2
   ·rfl
   exact e2.1
  rw[Go.ConcN.Deaf_still t x _ fun op h=>⟨hmk op h _,hmk op h _⟩];exact I.Y.tk.deaf x
 have e2:(t++ #[o1,o2])[t.size+1]? =some o2:=by rw[Array.getElem?_append_right aj];simp
 have hhd:(t++ #[o1,o2]).heard (t.size+1):=by
  have hs1:(t++ #[o1]).size=t.size+1:=by simp
  refine⟨i+1,by simp[Trace.g?,e2,o2],?_⟩;have e3:t++ #[o1,o2]=(t++ #[o1])++ #[o2]:=Yt;rw[e3,<-hs1,deaf_old (Nat.le_refl _)]
  have:Deaf (t++ #[o1]) (i+1)=0:=by
   rw[Go.ConcN.Deaf_still t _ _ fun op h=>⟨by rw[iU h];simp[o1],by rw[iU h];simp[o1]⟩,I.Y.tk.deaf,Bv hi];rfl
  exact this
 have iK:∀b,qR ks b\/LJ og b->b≠c:=fun b hb e=>by
  subst e;rcases hb with hb | hb
  ·rw[I.Y.tC _ _ _ _ hb qw]at hk;cases hk
  have:=I.Y.AV _ _ _ _ _ hb qw hk;cases this
 refine I.WQ hi (x':=.quit (some c) n 0) rfl rfl rfl ?_ (fun b o hb _ iK=>?_) (.none fun b hb=>⟨xR b (iK b hb),fun op aY a ha hl=>iK b hb ((ht1 op aY a ha).2.2 b hl)⟩) (fun k' M' b c' po e hb=>by cases e) (fun _ _=>rfl) (fun c' e=>?_) (fun op aY=>.inl (hg1 op aY)) hs Ce hgo ⟨.of_quitsIn hq,.inr ⟨c,rfl,h2,L.m0,⟨s,r,hw'⟩,t.size+1,by simp only[Trace.act?,e2];rfl,by simp only[Trace.g?,e2];rfl,hhd,fun m hc hgm=>?_⟩⟩ (fun k' M' b e hb=>by cases e)
  (I.base.off O O O (by simp[World.shut]) fun b hb=>xR b fun e=>by have:=I.low 0 k₀ aH c aW L.m0;omega)
 ·rw[CQ hi (x':=.quit (some c) n 0) O];exact(Y1.drop (g:=i+1)).Eh fun g=>wF hi g
 ·have YB:b≠c:=fun e=>iK (e▸rfl);exact⟨fun op aY a ha hl=>YB ((ht1 op aY a ha).2.2 b hl),by rw[xR b YB];exact hb⟩
 ·cases e;exact .of h2 y7 rfl
 obtain⟨op,aY,asy⟩:=jR.1 hgm
 have hj:m<=t.size+1:=by
  have h1:=lt_size_of_getElem? aY;simp at h1;omega
 exact OD (t:=t++ #[o1,o2]) hgm (by simp only[Trace.g?,e2];rfl) hj
end
end Go.jc
