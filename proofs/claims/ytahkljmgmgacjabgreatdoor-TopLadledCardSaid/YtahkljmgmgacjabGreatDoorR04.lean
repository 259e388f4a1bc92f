/- Goroutine 0 and the senders that it starts: on every tape the run ends well. Conditions: none; over any program. (And 9 texts more.) -/
import Derived.Test.YtahkljmgmgacjabGreatDoorR03
import Derived.Test.YtahkljmgmgacjabGreatDoorProg
import Derived.Test.YtahkljmgmgacjabGreatDoorR02
import Derived.KernelRfl
set_option linter.unusedVariables false
set_option linter.unusedSimpArgs false
set_option linter.unusedSectionVars false

/- Goroutine 0 and the senders that it starts: on every tape the run ends well. Conditions: none; over any program. -/
namespace Go.aS
open Go.Conc (crowd parked rcase scase QuitsIn Before Knows knows_own touchAt touchAt_of touchAt_old getElem?_append_old getElem?_append_cases lt_size_of_getElem? touch_of hb_po hb_app ofEvents_eq woken)
variable{P:Program}{gs:Array Goroutine}{w w':World}{t u:Trace}{k₀:Hp}{aO:Nat→Prop}{ks:List (Nat×KC)}
theorem aMS(t:Trace)(j:Nat)(fn:FuncId)(pos:String):t++MemOp.ofEvents j fn pos #[]=t:=by rw[ofEvents_eq];simp

abbrev PK[Base](Post:Value→World→Prop):Value→World→Prop:=fun v w'=>Post v w'∧Kept Base.ref w'
theorem MInv.over[Base]{Post:Value→World→Prop}{es:Array Event}{fn:FuncId}{pos:String}{v:Value}{sl:Option (Nat×Nat)}(I:MInv P gs w t k₀ aO ks)(ho:∀c o,aO c→k₀ c=some o→opn o=false)(gu:dX k₀ aO w w' es)(hp:Post v w')(d:Nat):
  Conc.Good P (PK Post) (crowd gs (w.at d) sl) (.done v) w' (t++MemOp.ofEvents 0 fn pos es):=by
 have hT:=I.tok.step (j:=0) (fn:=fn) (pos:=pos) (by omega) I.uG gu (fun b hb hc=>I.own b hb (.inl hc)) I.rd
 have I':=I.aGp (fn:=fn) (pos:=pos) (gs':=gs) gu rfl fun _ _=>rfl
 
 have left:∀i g,gs[i+1]? =some g→∃n,QuitsIn P n g∧∀j a,touchAt t j=some a→t.g? j=some (i+1)→Knows t 0 j:=by
  intro i g hg
  obtain⟨c,x,hx,hk⟩:=I.get hg
  cases x with
  | run _ _ _=>
   obtain⟨l,_,h2⟩:=hk.2.2.2.ghost
   have:=ho c _ hk.2.2.2.m0 h2
   cases this
  | acV _ _=>
   obtain⟨_,_,_,_,_,_,_,L⟩:=hk
   obtain⟨l,_,h2⟩:=L.ghost
   have:=ho c _ L.m0 h2
   cases this
  | quit n=>
   rcases hk.2 with⟨_,h⟩ | ⟨h1,h2,_⟩
   ·exact⟨n,hk.1,h⟩
   ·have:=ho c _ h2 h1
    cases this
 have hsz:=I.size
 refine⟨v,rfl,⟨hp,I.base.guar gu I.low⟩,hT.clean,fun i g hg hne hcount=>?_,⟨fun g hg=>?_,rfl⟩,fun i g hg hne=>?_⟩
 ·
  obtain⟨a,ha,_,_⟩:=hcount
  obtain⟨op,hop,aeH⟩:=Option.map_eq_some_iff.1 hg
  rcases fP (t:=t) ha with⟨hi,h1⟩ | ⟨op',hop',hm,_⟩
  ·have hlt:op.g<ks.length+1:=hT.who op (Conc.mem_of_getElem? hop)
   obtain⟨j,rfl⟩:∃j,g=j+1:=⟨g-1,by omega⟩
   have hj:j+1<gs.size:=by omega
   obtain⟨n,_,hkn⟩:=left j gs[j+1] (Array.getElem?_eq_getElem hj)
   have hgt:t.g? i=some (j+1):=by rw[g?_old hi]at hg;exact hg
   obtain⟨q,z,h2,h3,h4⟩:=hkn i a h1 hgt
   rcases h4 with rfl | h4
   ·simp[Trace.g?,h2]at hgt
    rw[h3]at hgt;omega
   ·exact⟨q,by rw[g?_old (lt_size_of_getElem? h2)];simp[Trace.g?,h2,h3],hb_app _ h4⟩
  ·rw[hop]at hop'
   cases hop'
   obtain⟨e,_,rfl⟩:=mem_ofEvents hm
   exact absurd aeH.symm hne
 ·obtain⟨m,hm⟩:=List.getElem?_of_mem hg
  rw[List.getElem?_drop]at hm
  have:gs[m+1]? =some g:=by rw[Nat.add_comm];simpa[crowd]using hm
  obtain⟨n,h1,_⟩:=left m g this
  exact⟨n,h1.leaves⟩
 ·obtain⟨j,rfl⟩:∃j,i=j+1:=⟨i-1,by omega⟩
  obtain⟨n,h1,_⟩:=left j g hg
  rw[hT.deaf]
  exact⟨n,h1.hears _ 0⟩

theorem MInv.zero[Base](I:MInv P gs w t k₀ aO ks){gs':Array Goroutine}(hs:gs'.size=gs.size)(hgo:∀m,0<m→gs'[m]? =gs[m]?):MInv P gs' w t k₀ aO ks:=
 ⟨by rw[hs,I.size],I.uG,I.dom,I.tok,I.own,I.rd,fun i c x hi=>let⟨g,h1,h2⟩:=I.kid i c x hi;⟨g,by rw[hgo (i+1) (by omega)];exact h1,h2⟩,I.apart,I.fresh,I.has,I.base,I.low,I.aFP⟩

theorem MInv.aFQ[Base]{i c:Nat}{x:KC}(I:MInv P gs w t k₀ aO ks)(hx:ks[i]? =some (c,x)):∀(m:Nat) (y:Goroutine),m≠i+1→(gs.setIfInBounds 0 Conc.ph)[m]? =some y→Conc.offersAt y c true=[]:=by
 intro m y hm hy
 rcases Conc.getElem?_stand gs 0 m y hy with⟨_,rfl⟩ | ⟨h0,hy⟩
 ·exact Conc.offersAt_ph _ _
 ·obtain⟨j,rfl⟩:∃j,m=j+1:=⟨m-1,by omega⟩
  obtain⟨c',x',hx',h2⟩:=I.get hy
  exact h2.offers.2 (I.apart j i c' c x' x (by omega) hx' hx).1

theorem MInv.waits[Base]{Q:Machine→Outcome→World→Trace→Prop}{i c:Nat}{z:Value}{g g' gm gi:Goroutine}{k:Hp}{M:Nat→Prop}{sl:Option (Nat×Nat)}(I:MInv P gs w t k₀ aO ks)(h0:gs[0]? =some gm)(hsame:Same g gm)(hx:ks[i]? =some (c,KC.run gi k M))
  (e:∀w,stepG P true g w= .comm g' #[rcase c z] true (.recv true) w #[]) (hg':Same g g'):aGq P Q g k₀ aO ks gs w t sl:=by
 have hlt:0<gs.size:=by have:=I.size;omega
 obtain⟨ga,hga,hk⟩:=I.kid i c _ hx
 obtain⟨s,r,ho⟩:=hk.2.2.2.opened
 have hp:partners (gs.setIfInBounds 0 Conc.ph) c true=[]:=Conc.partners_nil fun m y hy=>by
  by_cases hm:m=i+1
  ·subst hm
   rw[Array.getElem?_setIfInBounds_ne (by omega),hga]at hy
   cases hy
   exact Conc.offersAt_of_not_blocked (by rw[hk.2.1];simp) _ _
  ·exact I.aFQ hx m y hm hy
 refine .waits (gs':=gs.setIfInBounds 0 (parked g' #[rcase c z] (.recv true))) (gm':=parked g' #[rcase c z] (.recv true)) (Conc.crowd_waits h0 (show stepG P (0==0) gm w=_ by rw[show((0:Nat)==0)=true from rfl,hsame.step];exact e w) fun cc hcc=>?_) (aMS _ _ _ _) (I.zero (by simp) fun m hm=>by rw[Array.getElem?_setIfInBounds_ne (by omega)]) (by rw[Array.getElem?_setIfInBounds_self_of_lt hlt]) ⟨c,z,g',i,gi,k,M,rfl,hg',e,hx⟩
 obtain rfl:cc=rcase c z:=by simpa using hcc
 exact Conc.ways_recv_none ho hp

theorem Mn.ends[Base]{Fin:Goroutine→Hp→(Nat→Prop)→Prop}{Post:Value→World→Prop}(hfin:∀g k M,Fin g k M→tZ P Post g k M){g:Goroutine}{k:Hp}{M:Nat→Prop}(H:Mn P Fin g k M):
  g.status= .running∧∀ks,(∀p∈ks,Acc (KR P p.1) p.2)→∀gs gm w t sl,MInv P gs w t k M ks→gs[0]? =some gm→azr P ks gm g→Ends P (Conc.Good P (PK Post)) (crowd gs w sl) t:=by
 have hb:((0:Nat)==0)=true:=rfl
 induction H with
 | @fin g k M h=>
  obtain⟨hs,ho,he⟩:=hfin g k M h
  refine⟨hs,node (fun ks hacc gs gm w t sl I h0 hsame hr=>?_) fun w₀ a d c z v g₁ l e=>?_⟩
  ·obtain⟨v,w',es,e,gu,hp⟩:=he w I.uG I.dom
   exact .over (runT_crowd_ended h0 (by rw[hb,hsame.step];exact e)) fun sl' d=>I.over ho gu hp d
  ·obtain⟨v',w',es,e',_⟩:=he w₀ a d
   rw[e]at e';cases e'
 | @step g k M hs ok h ih=>
  refine⟨hs,node (fun ks hacc gs gm w t sl I h0 hsame hr=>?_) fun w₀ a d c z v g₁ l e=>?_⟩
  ·obtain⟨g',w',es,e,gu⟩:=ok w I.uG I.dom
   obtain⟨hs',hE⟩:=ih w g' w' es I.uG I.dom e
   have hlt:0<gs.size:=by have:=I.size;omega
   refine .on (Conc.runT_crowd_go h0 (by rw[hb,hsame.step];exact e)) (hE ks hacc _ g' _ _ _ (I.aGp gu (by simp) fun m hm=>?_) (by rw[agt hlt,if_pos rfl]) (.inl ⟨⟨rfl,rfl,rfl⟩,hs'⟩))
   rw[agt hlt,if_neg (by omega)]
   cases hg:gs[m]? with
   | none=>rfl
   | some y=>
    obtain⟨j,rfl⟩:∃j,m=j+1:=⟨m-1,by omega⟩
    obtain⟨_,_,_,h2⟩:=I.get hg
    simp[aAW (h2.again fun b o x y=>gu.chans b o x y)]
  ·obtain⟨g',w',es,e',_⟩:=ok w₀ a d
   rw[e]at e';cases e'
 | @spawn g g' child k kc M M' c l hs hs' hsc e hk hM hkc hsub hc hM' aH5 hsep h ih=>
  refine⟨hs,node (fun ks hacc gs gm w t sl I h0 hsame hr=>?_) fun w₀ a d c z v g₁ l e'=>?_⟩
  ·have hlt:0<gs.size:=by have:=I.size;omega
   have hrun:=Conc.runT_crowd_spawn (sl:=sl) h0 (show stepG P (0==0) gm w= .spawn g' child w #[] by rw[hb,hsame.step];exact e w)
   refine .on hrun ?_
   have en:((MemOp.ofEvents 0 gm.frame.fn gm.frame.place #[]).push {g:=0,fn:=gm.frame.fn,pos:=gm.frame.place,act:=.go gs.size}).push {g:=gs.size,fn:=child.frame.fn,pos:=gm.frame.place,act:=.start}= #[{g:=0,fn:=gm.frame.fn,pos:=gm.frame.place,act:=.go gs.size},{g:=gs.size,fn:=child.frame.fn,pos:=gm.frame.place,act:=.start}]:=by
    rw[ofEvents_eq];simp
   rw[en]
   refine ih.2 (ks++[(c,.run child kc (· =c))]) (fun p hp=>?_) _ g' _ _ _ (I.spawn (g':=g') hk hM hkc hsub hsc hc hM' aH5 hsep (by simp) (by rw[Array.getElem?_push,if_pos (by simp)]) fun m hm h0'=>?_) (by rw[Array.getElem?_push,if_neg (by simp;omega),Array.getElem?_setIfInBounds_self_of_lt hlt]) (.inl ⟨⟨rfl,rfl,rfl⟩,hs'⟩)
   ·rcases List.mem_append.1 hp with hp | hp
    ·exact hacc p hp
    ·obtain rfl:p=_:=by simpa using hp
     exact hc.acc
   ·rw[Array.getElem?_push,if_neg (by simp;omega),Array.getElem?_setIfInBounds_ne (by omega)]
  ·intro _;have:=e w₀;rw[e']at this;cases this
 | @recv g g' k M c v z l hs hk hM hg' e h ih=>
  refine⟨hs,node (fun ks hacc gs gm w t sl I h0 hsame hr=>?_) fun w₀ a d c' z' v' g₁ l' e' hk' ks' hacc' gs w t sl I h0=>?_⟩
  ·obtain⟨i,x,hx⟩:=I.has c _ hk
   obtain⟨gi,hgi,aH7⟩:=I.kid i c x hx
   have hlt:0<gs.size:=by have:=I.size;omega
   cases x with
   | run _ _ _=>exact I.waits h0 hsame hx e hg'
   | quit n=>
    rcases aH7.2 with⟨h1,_⟩ | ⟨h1,_⟩
    ·rw[hk]at h1;exact absurd (Option.some.inj h1) aBx
    ·rw[hk]at h1;cases azS h1
   | acV kc Mc=>
    obtain⟨g₂,v',l',z',rfl,h1,h2,L⟩:=aH7
    obtain⟨l₀,e1,e2⟩:=L.ghost
    rw[h1]at e1
    rw[hk]at e2
    have e3:=azS e1
    have e4:=azS e2
    rw[←e3]at e4
    obtain⟨rfl,rfl⟩:=List.cons.inj e4
    obtain⟨s,r,ho⟩:=L.opened
    have hp:partners (gs.setIfInBounds 0 Conc.ph) c true=[(i+1,0)]:=by
     rw[Conc.partners_one (j:=i+1) (g:=parked g₂ #[scase c v z'] .send) (by rw[Array.getElem?_setIfInBounds_ne (by omega)];exact hgi) fun m y hm hy=>I.aFQ hx m y hm hy,Conc.offersAt_parked_send,if_pos rfl];rfl
    refine .on (Conc.crowd_recv_meets h0 (show stepG P (0==0) gm w=_ by rw[hb,hsame.step];exact e w) ho (by omega) hgi hp) ?_
    have hil:=ayx hx
    have hi1:i+1<gs.size:=by have:=I.size;omega
    refine ih.2 _ (fun p hp'=>?_) _ _ _ _ _ (I.meet (w':=w.setChan c 0 #[] false (s+1) (r+1) false) (s:=s+1) (r:=r+1) hx rfl L h1 (g':=g₂.finishComm P #[scase c v z'] .send 0 undef false) rfl h2 (by simp[World.setChan]) (fun b hb=>by simp[World.setChan,Ne.symm hb]) (by simp[World.setChan,m_ ho])
     (
      u:=MemOp.ofEvents 0 gm.frame.fn gm.frame.place #[]++ #[{g:=i+1,fn:=g₂.frame.fn,pos:=g₂.frame.place,act:=.send c s},{g:=0,fn:=g'.frame.fn,pos:=g'.frame.place,act:=.recv c r 0},
      {g:=i+1,fn:=g₂.frame.fn,pos:=g₂.frame.place,act:=.sendDone c s},{g:=0,fn:=g'.frame.fn,pos:=g'.frame.place,act:=.recvDone c r}])
     (
      fun op hop=>by
      have:op={g:=i+1,fn:=g₂.frame.fn,pos:=g₂.frame.place,act:=.send c s}∨op={g:=0,fn:=g'.frame.fn,pos:=g'.frame.place,act:=.recv c r 0}∨op={g:=i+1,fn:=g₂.frame.fn,pos:=g₂.frame.place,act:=.sendDone c s}∨op={g:=0,fn:=g'.frame.fn,pos:=g'.frame.place,act:=.recvDone c r}:=by
       rw[ofEvents_eq]at hop;simpa using hop
      rcases this with rfl | rfl | rfl | rfl <;>exact⟨rfl,by simp,by simp;try omega⟩) rfl rfl rfl
     (gs':=(gs.setIfInBounds (i+1) (g₂.finishComm P #[scase c v z'] .send 0 undef false)).setIfInBounds 0 (g'.finishComm P #[rcase c z] (.recv true) 0 v true))
     (by simp) (by rw[Array.getElem?_setIfInBounds_ne (by omega),Array.getElem?_setIfInBounds_self_of_lt hi1]) (fun m hm hm0=>by rw[Array.getElem?_setIfInBounds_ne (by omega),Array.getElem?_setIfInBounds_ne (by omega)])) (by rw[Array.getElem?_setIfInBounds_self_of_lt (by simpa using hlt)]) (.inl ⟨⟨rfl,rfl,rfl⟩,rfl⟩)
    rcases List.mem_or_eq_of_mem_set hp' with h' | rfl
    ·exact hacc p h'
    ·exact h2.acc
  ·have e2:=e w₀
   rw[e']at e2
   simp only[GStep.comm.injEq]at e2
   obtain⟨rfl,e3,_⟩:=e2
   obtain⟨rfl,rfl⟩:c'=c∧z'=z:=by simpa[rcase]using e3
   rw[hk]at hk'
   have:=azS hk'
   obtain⟨rfl,rfl⟩:=List.cons.inj this
   exact ih.2 ks' hacc' gs _ w t sl I h0 (.inl ⟨⟨rfl,rfl,rfl⟩,rfl⟩)
 | @done g g' k M c z hs hk hM hg' e h ih=>
  refine⟨hs,node (fun ks hacc gs gm w t sl I h0 hsame hr=>?_) fun w₀ a d c' z' v' g₁ l' e' hk' ks' hacc' gs w t sl I h0=>?_⟩
  ·obtain⟨i,x,hx⟩:=I.has c _ hk
   obtain⟨gi,hgi,aH7⟩:=I.kid i c x hx
   have hlt:0<gs.size:=by have:=I.size;omega
   cases x with
   | run _ _ _=>exact I.waits h0 hsame hx e hg'
   | acV kc Mc=>
    obtain⟨g₂,v',l',z',rfl,h1,h2,L⟩:=aH7
    obtain⟨l₀,e1,e2⟩:=L.ghost
    rw[h1]at e1
    rw[hk]at e2
    rw[←azS e1]at e2
    cases azS e2
   | quit n=>
    rcases aH7.2 with⟨h1,_⟩ | ⟨h1,_,⟨s,r,ho⟩,_⟩
    ·rw[hk]at h1;exact absurd (Option.some.inj h1) aBx
    have hp:partners (gs.setIfInBounds 0 Conc.ph) c true=[]:=Conc.partners_nil fun m y hy=>by
     by_cases hm:m=i+1
     ·subst hm
      rw[Array.getElem?_setIfInBounds_ne (by omega),hgi]at hy
      cases hy
      exact Conc.offersAt_of_not_blocked (by rcases aH7.1.status with h | h <;>(rw[h];simp)) _ _
     ·exact I.aFQ hx m y hm hy
    refine .on (Conc.crowd_recv_closed h0 (show stepG P (0==0) gm w=_ by rw[hb,hsame.step];exact e w) ho hp) ?_
    rw[show MemOp.ofEvents 0 gm.frame.fn gm.frame.place #[]= #[] by rw[ofEvents_eq];simp,Array.empty_append]
    exact ih.2 ks hacc _ _ _ _ _ (I.done (g:=g) hx hk rfl rfl (by simp) fun m hm=>by rw[Array.getElem?_setIfInBounds_ne (by omega)]) (by rw[Array.getElem?_setIfInBounds_self_of_lt hlt]) (.inl ⟨⟨rfl,rfl,rfl⟩,rfl⟩)
  ·have e2:=e w₀
   rw[e']at e2
   simp only[GStep.comm.injEq]at e2
   obtain⟨rfl,e3,_⟩:=e2
   obtain⟨rfl,rfl⟩:c'=c∧z'=z:=by simpa[rcase]using e3
   rw[hk]at hk'
   cases azS hk'
end Go.aS

/- Communication, as the judgement on code sees it. Conditions: none; over any program. -/
namespace Go.aS
open Go.Conc (rcase scase QuitsIn)
variable{P:Program}
/-! ### Less may be written -/
theorem Less.dom{k:Hp}{M' M:Nat→Prop}(h:Less k M' M)(d:Dom k M):Dom k M':=fun b hb=>d b (h.1 b hb)
theorem Less.trans{k:Hp}{ML jr Zc:Nat→Prop}(h:Less k ML jr)(h':Less k jr Zc):Less k ML Zc:=by
 refine⟨fun b hb=>h'.1 b (h.1 b hb),fun b o h3 h1 hk=>?_⟩
 rcases Classical.em (jr b)with h2 | h2
 ·exact h.2 b o h2 h1 hk
 ·exact h'.2 b o h3 h2 hk
theorem Less.guar{k:Hp}{M' M:Nat→Prop}{w w':World}{es:Array Event}(h:Less k M' M)(g:dX k M' w w' es):dX k M w w' es:=by
 refine⟨g.size,fun b hb hm=>g.keep b hb fun h'=>hm (h.1 b h'),g.chans,g.news,g.stay,g.os,g.output,g.tape,fun e he=>?_⟩
 have:=g.evs e he
 unfold Bd at this⊢
 split at this
 ·exact⟨this.1,this.2.imp (fun x=>⟨x.1,x.2.1,fun y=>h.1 _ (x.2.2 y)⟩) id⟩
 ·exact⟨this.1,this.2.imp (fun x=>⟨x.1,x.2.1,fun y=>h.1 _ (x.2.2 y)⟩) id⟩
 ·exact this
 ·exact this.elim
theorem Less.grown{k:Hp}{M' M:Nat→Prop}{w w':World}{es:Array Event}(h:Less k M' M)(ha:yF k w)(hd:Dom k M)(g:dX k M' w w' es):Less (snap k w w') (aS.grown M' w w') (aS.grown M w w'):=by
 refine⟨fun b hb=>hb.imp (h.1 b) id,fun b o hb hn hk=>?_⟩
 rcases hb with hb | hb
 ·have hn':¬M' b:=fun x=>hn (.inl x)
  cases hc:isC (k b)with
  | true=>
   have:snap k w w' b=k b:=by simp[snap,hc]
   exact h.2 b o hb hn' (by rw[←this];exact hk)
  | false=>
   obtain⟨x,hx⟩:=Option.isSome_iff_exists.1 (hd b hb)
   have hxc:x.isChan=false:=by rw[hx]at hc;exact hc
   have hw:=ha.get hx hxc
   have e:w'.heap[b]? =some x:=by rw[g.keep b (m_ hw) hn'];exact hw
   have:snap k w w' b=some x:=by simp[snap,hc,hx,e]
   rw[this]at hk
   cases hk
   exact Fh hxc
 ·exact absurd (.inr hb) hn

theorem CJ.x9{main:Bool}{Stop:Goroutine→Hp→(Nat→Prop)→Prop}(hS:BJ Stop):BJ (CJ P main Stop):=by
 intro g k M M' hl H
 induction H generalizing M with
 | stop h=>exact .stop (hS _ _ _ _ hl h)
 | step hs ok h ih=>
  refine .step hs (fun w ha hd=>?_) fun w g' w' es ha hd e=>?_
  ·obtain⟨g',w',es,e,gu⟩:=ok w ha (hl.dom hd)
   exact⟨g',w',es,e,hl.guar gu⟩
  ·obtain⟨g₂,w₂,es₂,e₂,gu⟩:=ok w ha (hl.dom hd)
   rw[e]at e₂;cases e₂
   exact ih w _ _ _ ha (hl.dom hd) e _ (hl.grown ha hd gu)

theorem Less.hset{k:Hp}{M' M:Nat→Prop}{c:Nat}{o o':Obj}(h:Less k M' M)(hk:k c=some o)(ho:opn o=true):Less (aS.hset k c o') M' M:=by
 refine⟨h.1,fun b x hb hn hx=>?_⟩
 by_cases hbc:b=c
 ·subst hbc
  rw[h.2 b o hb hn hk]at ho;cases ho
 ·rw[bY _ _ hbc]at hx
  exact h.2 b x hb hn hx

theorem Ch.x9{c:Nat}:BJ (Ch P c):=by
 intro g k M M' hl H
 induction H generalizing M with
 | step hs ok h ih=>
  refine .step hs (fun w ha hd=>?_) fun w g' w' es ha hd e=>?_
  ·obtain⟨g',w',es,e,gu⟩:=ok w ha (hl.dom hd)
   exact⟨g',w',es,e,hl.guar gu⟩
  ·obtain⟨g₂,w₂,es₂,e₂,gu⟩:=ok w ha (hl.dom hd)
   rw[e]at e₂;cases e₂
   exact ih w _ _ _ ha (hl.dom hd) e _ (hl.grown ha hd gu)
 | send hs hk e h ih=>exact .send hs hk e (ih _ (hl.hset hk rfl))
 | close hs hk hw hs' e h=>exact .close hs hk hw hs' e h

theorem Mn.x9{Fin:Goroutine→Hp→(Nat→Prop)→Prop}(hF:BJ Fin):BJ (Mn P Fin):=by
 intro g k M M' hl H
 induction H generalizing M with
 | fin h=>exact .fin (hF _ _ _ _ hl h)
 | step hs ok h ih=>
  refine .step hs (fun w ha hd=>?_) fun w g' w' es ha hd e=>?_
  ·obtain⟨g',w',es,e,gu⟩:=ok w ha (hl.dom hd)
   exact⟨g',w',es,e,hl.guar gu⟩
  ·obtain⟨g₂,w₂,es₂,e₂,gu⟩:=ok w ha (hl.dom hd)
   rw[e]at e₂;cases e₂
   exact ih w _ _ _ ha (hl.dom hd) e _ (hl.grown ha hd gu)
 | spawn hs hs' hsc e hk hM hkc hsub hc hM' aH5 hsep h ih=>exact .spawn hs hs' hsc e hk (hl.1 _ hM) hkc hsub hc (hM'.trans hl) aH5 hsep h
 | recv hs hk hM hg' e h ih=>exact .recv hs hk (hl.1 _ hM) hg' e (ih _ (hl.hset hk rfl))
 | done hs hk hM hg' e h ih=>exact .done hs hk (hl.1 _ hM) hg' e (ih _ (hl.hset hk rfl))

/-! ### Nothing is lost by going on -/
theorem Mn.rQ{Fin:Goroutine→Hp→(Nat→Prop)→Prop}{g:Goroutine}{k:Hp}{M:Nat→Prop}(H:CJ P true (Mn P Fin) g k M):Mn P Fin g k M:=by
 induction H with
 | stop h=>exact h
 | step hs ok h ih=>exact .step hs ok ih
theorem Ch.rQ{c:Nat}{g:Goroutine}{k:Hp}{M:Nat→Prop}(H:CJ P false (Ch P c) g k M):Ch P c g k M:=by
 induction H with
 | stop h=>exact h
 | step hs ok h ih=>exact .step hs ok ih

def GI(P:Program)(Fin:Goroutine→Hp→(Nat→Prop)→Prop):Side:=⟨true,fun S=>S=Mn P Fin⟩
def aH8(P:Program)(c:Nat):Side:=⟨false,fun S=>S=Ch P c⟩

/-! ### A block that nobody will write again -/
def freeze(h:Hp)(b:Nat)(o:Obj):Hp:=⟨fun b'=>if b'=b then some o else h b',fun b'=>b'=b∨h.z b'⟩
theorem AY(h:Hp)(b:Nat)(o:Obj):freeze h b o b=some o:=by simp[freeze]

theorem Sat.freeze{h k:Hp}{F:eG}{M:Nat→Prop}{b:Nat}{o:Obj}(S:Sat h ((b,o)::F) k M)(ho:opn o=false):Sat (freeze h b o) F k (fun c=>M c∧c≠b)∧Ext h (aS.freeze h b o)∧Less k (fun c=>M c∧c≠b) M:=by
 have hb:=S.own b o (List.mem_cons_self ..)
 have hnd:=S.nodup
 simp only[List.map_cons,List.nodup_cons]at hnd
 have hnb:∀c x,(c,x)∈F→c≠b:=by
  rintro c x hx rfl
  exact hnd.1 (List.mem_map.2 ⟨_,hx,rfl⟩)
 refine⟨⟨fun c x hc=>?_,fun c x hc=>?_,hnd.2,fun c x hm hx hox=>?_,fun c hc=>?_⟩,⟨fun c x hc=>?_,fun c hc=>.inr hc⟩,⟨fun c hc=>hc.1,fun c x hm hn hx=>?_⟩⟩
 ·by_cases e:c=b
  ·subst e;rw[AY]at hc;cases hc;exact hb.1
  ·simp only[aS.freeze,if_neg e]at hc;exact S.sub c x hc
 ·have e:=hnb c x hc
  have:=S.own c x (List.mem_cons_of_mem _ hc)
  exact⟨this.1,⟨this.2.1,e⟩,by simp[aS.freeze,e,this.2.2]⟩
 ·rcases S.all c x hm.1 hx hox with h1 | h1
  ·rcases List.mem_cons.1 h1 with e | h1
   ·cases e;exact absurd rfl hm.2
   ·exact .inl h1
  ·exact .inr (by simp[aS.freeze,hm.2,h1])
 ·rcases hc with rfl | hc
  ·exact⟨fun h=>h.2 rfl,by rw[hb.1];rfl⟩
  ·exact⟨fun h=>(S.CO c hc).1 h.1,(S.CO c hc).2⟩
 ·have e:c≠b:=by rintro rfl;rw[hb.2.2]at hc;cases hc
  simp[aS.freeze,e,hc]
 ·have e:c=b:=by
   rcases Classical.em (c=b)with e | e
   ·exact e
   ·exact absurd ⟨hm,e⟩ hn
  subst e
  rw[hb.1]at hx;cases hx;exact ho

theorem Sat.thaw{h k:Hp}{F:eG}{M:Nat→Prop}{b:Nat}{o:Obj}(S:Sat (aS.freeze h b o) F k M)(hb:h b=none)(ho:opn o=false):Sat h F k M:=by
 have ext:∀c x,h c=some x→aS.freeze h b o c=some x:=fun c x hc=>by
  have e:c≠b:=by rintro rfl;rw[hb]at hc;cases hc
  simp[aS.freeze,e,hc]
 refine⟨fun c x hc=>S.sub c x (ext c x hc),fun c x hc=>?_,S.nodup,fun c x hm hx hox=>?_,fun c hc=>S.CO c (.inr hc)⟩
 ·have:=S.own c x hc
  refine⟨this.1,this.2.1,?_⟩
  cases hh:h c with
  | none=>rfl
  | some y=>rw[ext c y hh]at this;cases this.2.2
 ·rcases S.all c x hm hx hox with h1 | h1
  ·exact .inl h1
  ·by_cases e:c=b
   ·subst e;rw[AY]at h1;cases h1;rw[ho]at hox;cases hox
   ·simp only[aS.freeze,if_neg e]at h1;exact .inr h1

theorem W.freeze{x:Cx}{c:Code}{Q:Post}{ρ:Env}{ds:List Deferred}{F:eG}{b:Nat}{o:Obj}(ho:opn o=false)(H:∀h',Ext x.h h'→h' b=some o→h'.z b→W {x with h:=h'} c Q ρ ds F):W x c Q ρ ds ((b,o)::F):=by
 intro fr k cs Stop tmps hk M h1 h0 h2 h3 h4 h5 hc
 obtain⟨S,e,hl⟩:=h5.freeze ho
 have hb:=(h5.own b o (List.mem_cons_self ..)).2.2
 refine CJ.x9 Stop.2.2 _ _ _ _ hl (H _ e (AY _ _ _) (.inl rfl) fr k cs Stop tmps hk _ h1 h0 h2 h3 h4 S fun ex ρ' ds' F' aZ hk' M' q a1 a2 a3 a4=>hc ex ρ' ds' F' aZ hk' M' q a1 a2 (a3.thaw hb ho) fun c' hm hF=>?_)
 have hne:c'≠b:=by rintro rfl;exact hF o (List.mem_cons_self ..)
 exact a4 c' ⟨hm,hne⟩ fun o' ho'=>hF o' (List.mem_cons_of_mem _ ho')
end Go.aS

/- go, send, receive, close. Conditions: none; over any program. -/
namespace Go.aS
open Go.Conc (rcase scase QuitsIn)
section
variable{P:Program}
theorem Sat.ghost{h k:Hp}{F:eG}{U:Obj→eG}{M:Nat→Prop}{c:Nat}{o o':Obj}(S:Sat h F k M)(hl:At c o F U)(ho':o.isChan=true∧o'.isChan=true):k c=some o∧M c∧Sat h (U o') (hset k c o') M∧Fr M F M (U o'):=by
 obtain⟨F1,F2,rfl,e2⟩:=hl.split
 have hc:=S.own c o (by simp)
 have hnd:=S.nodup
 rw[e2]
 have hne:∀b x,(b,x)∈F1∨(b,x)∈F2→b≠c:=by
  rintro b x hx rfl
  simp only[List.map_append,List.map_cons,List.nodup_append,List.nodup_cons]at hnd
  rcases hx with hx | hx
  ·exact hnd.2.2 b (List.mem_map.2 ⟨_,hx,rfl⟩) b (by simp) rfl
  ·exact hnd.2.1.1 (List.mem_map.2 ⟨_,hx,rfl⟩)
 refine⟨hc.1,hc.2.1,⟨fun b x hb=>?_,fun b x hb=>?_,by simpa using hnd,fun b x hm hx hox=>?_,fun b hb=>?_⟩,Fr.turn _ _ _ _ _ fun _ h=>h⟩
 ·have e:b≠c:=by rintro rfl;rw[hc.2.2]at hb;cases hb
  rw[bY _ _ e];exact S.sub b x hb
 ·have old:(b,x)∈F1∨(b,x)∈F2→hset k c o' b=some x∧M b∧h b=none:=fun hx=>by
   have:=S.own b x (by rcases hx with hx | hx <;>simp[hx])
   rw[bY _ _ (hne b x hx)];exact this
  rcases List.mem_append.1 hb with hb | hb
  ·exact old (.inl hb)
  ·rcases List.mem_cons.1 hb with e | hb
   ·cases e;exact⟨bH _ _ _,hc.2⟩
   ·exact old (.inr hb)
 ·by_cases e:b=c
  ·subst e;rw[bH]at hx;cases hx;exact .inl (by simp)
  ·rw[bY _ _ e]at hx
   rcases S.all b x hm hx hox with h1 | h1
   ·left
    rcases List.mem_append.1 h1 with h1 | h1
    ·exact List.mem_append_left _ h1
    ·rcases List.mem_cons.1 h1 with e' | h1
     ·cases e';exact absurd rfl e
     ·exact List.mem_append_right _ (List.mem_cons_of_mem _ h1)
   ·exact .inr h1
 ·have:=S.CO b hb
  have e:b≠c:=by rintro rfl;exact this.1 hc.2.1
  rw[bY _ _ e];exact this

theorem Jh(fn:FuncId):seen P fn #[]= #[]:=rfl

theorem aEn{fr:Frame}{cs:List Frame}{s:Sem Next}{w:World}{cases':Array CommCase}{bl:Bool}{sh:CommShape}(r:s.runT P w #[]=(.ok (.comm cases' bl sh) w, #[]))(hk:(fr.kind==CallKind.early)=false):
  stepG.apply P true fr cs none s w= .comm (G fr cs) cases' bl sh w #[]:=by
 unfold stepG.apply
 simp only[r,hk,if_true,Bool.false_eq_true,if_false]
 rw[Jh]
 rfl

def wV(P:Program)(d:Deferred):Goroutine:={frame:={(default:Frame)with fn:=P.funcs.size,defers:=[d],mode:=.panicking [goexitEntry]},callers:=[],status:=.running,dying:=none}

theorem Px{fr:Frame}{cs:List Frame}{s:Sem Next}{w:World}{f:Fn}{cap args:Array Value}(r:s.runT P w #[]=(.ok (.spawn {target:=.fn f cap,args}) w, #[]))(hk:(fr.kind==CallKind.early)=false):
  stepG.apply P true fr cs none s w= .spawn (G (fr.finish undef) cs) (wV P {target:=.fn f cap,args}) w #[]:=by
 unfold stepG.apply
 simp only[r,hk,if_true,Bool.false_eq_true,if_false]
 rw[Jh]
 simp[GStep.after,wV,Conc.G]
end
section rules
variable{x:Cx}{Q:Post}{ρ:Env}{ds:List Deferred}{F:eG}{ops:Array Oper}{i:Nat}{rest:List Nat}{o:Oper}
theorem aI2{P:Program}{t s b:Nat}{z:Value}{zc:Array Value}[j:TI P t s b z zc]{β:Type}{f:Value→Sem β}{w:World}{es:Array Event}:((zeroValue t).bind f).runT P w es=(f z).runT P w es:=by
 obtain⟨j,h1,_,_,h2,_⟩:=j.out
 simp only[zeroValue,typeInfo,program,bind_eq,gq,Sem.bind,Sem.runT,h1,h2]
theorem aH9{P:Program}{t:TypeId}{d:TypeDesc}[j:TD P t d]{β:Type}{f:TypeDesc→Sem β}{w:World}{es:Array Event}:((underlying t).bind f).runT P w es=(f d).runT P w es:=by
 simp only[underlying,program,bind_eq,gq,Sem.bind,Sem.runT,j.out]

theorem aHF{b:Frame}{t:Array Value}{k:List Item}{cs:List Frame}{ct el s' b' c:Nat}{dir:ChanDir}{z:Value}{zc:Array Value}{ch:Operand}[TD x.P ct (.chan dir el)][TI x.P el s' b' z zc](ho:ops[i]? =some o)(hop:o.op= .recv ct ch true)(hw:Region.wanted o (yielded ops t)=true)(hk:(b.kind==CallKind.early)=false)
  (hc:(bW b t ds (.inRegion ops (i::rest)::k)).eval ch= .chan (some c)) (w:World):
  stepG x.P true (G (bW b t ds (.inRegion ops (i::rest)::k)) cs) w= .comm (G (bW b t ds (.inRegion ops (i::rest)::k)) cs) #[rcase c z] true (.recv true) w #[]:=by
 have e:=AL (P:=x.P) (main:=GI x.P fun _ _ _=>False) (cs:=cs) (w:=w) (ds:=ds) (k:=k) (b:=b) (rest:=rest) ho hw (fun c=>by rw[hop];simp)
 rw[show(GI x.P fun _ _ _=>False).b=true from rfl]at e
 rw[e]
 refine aEn ?_ hk
 simp only[execOp,hop,hc,bind_eq,gq]
 rw[aH9,aI2]
 rfl

theorem Ops.recv{ct el s' b' c:Nat}{dir:ChanDir}{z v:Value}{zc:Array Value}{ch:Operand}{l:List Value}{U:Obj→eG}(hS:∀S,x.main.ok S→∃Fin,S=Mn x.P Fin)(hb:x.main.b=true)[TD x.P ct (.chan dir el)][TI x.P el s' b' z zc](ho:ops[i]? =some o)(hop:o.op= .recv ct ch true)(hw:want ops ρ o)(hd:d_ o.dst x.n=true)
  (hch:ev ρ ch=some (.chan (some c))) (hl:At c (gch (v::l)) F U) (H:Ops x ops rest Q (put ρ o.dst (.tuple #[v,.bool true])) ds (U (gch l))):Ops x ops (i::rest) Q ρ ds F:=by
 intro b k cs Stop tmps hk M h1 h0 h2 h3 h4 h5 hc
 have hk':(b.kind==CallKind.early)=false:=by simpa using h2.1
 obtain⟨e1,e2,S',f'⟩:=h5.ghost (o':=gch l) hl ⟨rfl,rfl⟩
 obtain⟨Fin,eS⟩:=hS _ Stop.2.1
 obtain⟨p1,p2⟩:=h3.put' h4 hd (.tuple #[v,.bool true])
 have:=H b k cs Stop _ _ _ h1 h0 h2 p1 p2 S' fun e ρ' ds' G aZ hk' M' q a1 a2 a3 a4=>hc e ρ' ds' G aZ hk' M' q a1 a2 a3 (f'.trans a4)
 refine .stop ?_
 unfold Gs at this
 rw[eS,hb]at this
 rw[eS]
 refine .recv rfl e1 e2 ⟨rfl,rfl,rfl⟩ (aHF ho hop (hw.wanted h3) hk' (h3.ev hch)) ?_
 have hf:=eY (b:=b) (t:=tmps) (ds:=ds) (k:=k) (cs:=cs) (rest:=rest) ho (.tuple #[v,.bool true])
 have:=Mn.rQ this
 rw[←hf]at this
 exact this

theorem Ops.recvDone{ct el s' b' c:Nat}{dir:ChanDir}{z:Value}{zc:Array Value}{ch:Operand}{U:Obj→eG}(hS:∀S,x.main.ok S→∃Fin,S=Mn x.P Fin)(hb:x.main.b=true)[TD x.P ct (.chan dir el)][TI x.P el s' b' z zc](ho:ops[i]? =some o)(hop:o.op= .recv ct ch true)(hw:want ops ρ o)(hd:d_ o.dst x.n=true)
  (hch:ev ρ ch=some (.chan (some c))) (hl:At c (gch []) F U) (H:Ops x ops rest Q (put ρ o.dst (.tuple #[z,.bool false])) ds (U aBw)):Ops x ops (i::rest) Q ρ ds F:=by
 intro b k cs Stop tmps hk M h1 h0 h2 h3 h4 h5 hc
 have hk':(b.kind==CallKind.early)=false:=by simpa using h2.1
 obtain⟨e1,e2,S',f'⟩:=h5.ghost (o':=aBw) hl ⟨rfl,rfl⟩
 obtain⟨Fin,eS⟩:=hS _ Stop.2.1
 obtain⟨p1,p2⟩:=h3.put' h4 hd (.tuple #[z,.bool false])
 have:=H b k cs Stop _ _ _ h1 h0 h2 p1 p2 S' fun e ρ' ds' G aZ hk' M' q a1 a2 a3 a4=>hc e ρ' ds' G aZ hk' M' q a1 a2 a3 (f'.trans a4)
 refine .stop ?_
 unfold Gs at this
 rw[eS,hb]at this
 rw[eS]
 refine .done rfl e1 e2 ⟨rfl,rfl,rfl⟩ (aHF ho hop (hw.wanted h3) hk' (h3.ev hch)) ?_
 have hf:=eY (b:=b) (t:=tmps) (ds:=ds) (k:=k) (cs:=cs) (rest:=rest) ho (.tuple #[z,.bool false])
 have:=Mn.rQ this
 rw[←hf]at this
 exact this
end rules
end Go.aS

/- A sender, from its body; starting one; sending. Conditions: none; over any program. -/
namespace Go.aS
open Go.Conc (rcase scase QuitsIn)
section
variable{P:Program}{ds:List Deferred}{ops:Array Oper}{i:Nat}{rest:List Nat}{o:Oper}
theorem aJV{b:Frame}{t:Array Value}{k:List Item}{cs:List Frame}{c:Nat}{v:Value}{ch y:Operand}(ho:ops[i]? =some o)(hop:o.op= .send ch y)(hw:Region.wanted o (yielded ops t)=true)(hk:(b.kind==CallKind.early)=false)
  (hc:(bW b t ds (.inRegion ops (i::rest)::k)).eval ch= .chan (some c)) (hv:(bW b t ds (.inRegion ops (i::rest)::k)).eval y=v) (w:World):
  stepG P false (G (bW b t ds (.inRegion ops (i::rest)::k)) cs) w= .comm (G (bW b t ds (.inRegion ops (i::rest)::k)) cs) #[scase c v (.tuple #[])] true .send w #[]:=by
 have e:=AL (P:=P) (main:=aH8 P c) (cs:=cs) (w:=w) (ds:=ds) (k:=k) (b:=b) (rest:=rest) ho hw (fun c=>by rw[hop];simp)
 rw[show(aH8 P c).b=false from rfl]at e
 rw[e]
 refine aEn ?_ hk
 simp only[execOp,hop,hc,hv,bind_eq,gq]
 rfl

theorem ada{b:Frame}{t:Array Value}{k:List Item}{cs:List Frame}{f:Fn}{fi ca vs:Array Value}{y:Operand}{args:Array Operand}{ts:Array TypeId}(ho:ops[i]? =some o)(hop:o.op= .go ⟨.value y,args,ts⟩)(hw:Region.wanted o (yielded ops t)=true)(hk:(b.kind==CallKind.early)=false)
  (hc:(bW b t ds (.inRegion ops (i::rest)::k)).eval y= .func f fi ca) (hv:args.map (bW b t ds (.inRegion ops (i::rest)::k)).eval=vs) (w:World):
  stepG P true (G (bW b t ds (.inRegion ops (i::rest)::k)) cs) w= .spawn (G ((bW b t ds (.inRegion ops (i::rest)::k)).finish undef) cs) (wV P {target:=.fn f ca,args:=fi++vs}) w #[]:=by
 have e:=AL (P:=P) (main:=GI P fun _ _ _=>False) (cs:=cs) (w:=w) (ds:=ds) (k:=k) (b:=b) (rest:=rest) ho hw (fun c=>by rw[hop];simp)
 rw[show(GI P fun _ _ _=>False).b=true from rfl]at e
 rw[e]
 refine Px ?_ hk
 simp only[execOp,hop,resolve,Deferred.ofValue,hc,hv,bind_eq,gq]
 rfl

def kW(P:Program):Frame:={(default:Frame)with fn:=P.funcs.size,defers:=[],mode:=.panicking [goexitEntry]}

theorem Xt{f:FuncId}[FB P f]{ca args:Array Value}(w:World):stepG P false (wV P {target:=.fn (.func f) ca,args}) w= .go (G (Frame.enter P f (args++ca) .deferred) [kW P]) w #[]:=by
 obtain⟨fn,h1,h2,h3⟩:=FB.out (inferInstance:FB P f)
 have r:(invoke (.fn (.func f) ca) args).runT P w #[]=(.ok (.enter f (args++ca)) w, #[]):=by
  show(callFunc f (args++ca)).runT P w #[]=_
  simp only[callFunc,program,bind_eq,gq,Sem.bind,Sem.runT,h1,h2,h3,Bool.false_eq_true,if_false]
 have e:stepG P false (wV P {target:=.fn (.func f) ca,args}) w=callDeferred P (kW P) [] none {target:=.fn (.func f) ca,args} w:=rfl
 rw[e]
 unfold callDeferred
 simp only[r,Jh]
 rfl

theorem RH:QuitsIn P 1 (G (kW P) []):=by
 refine .inr ⟨rfl,{frame:=kW P,callers:=[],status:=.finished,dying:=none},fun w=>?_,rfl⟩
 have ht:(kW P).todo=[]:=rfl
 have hc:(kW P).catches P=false:=by
  unfold Frame.catches
  rw[ht]
  split <;>first | rfl | (rename_i h;cases h)
 have e:stepG P false (G (kW P) []) w=unwind P false (kW P) [] none w:=rfl
 rw[e]
 unfold unwind
 have h1:(kW P).defers=[]:=rfl
 have h2:(kW P).mode= .panicking [goexitEntry]:=rfl
 simp only[h1,h2,hc,Bool.false_eq_true,if_false]
 rfl

theorem aI3{b:Frame}{t:Array Value}{cs:List Frame}{c s r:Nat}{tys:Array TypeId}{ty:TypeId}{cons:Array Bool}{ds:List Deferred}{todo:List Item}{w:World}(ho:w.heap[c]? =some (.chan 0 #[] false s r false)):
  stepG P false (G (iC b t ({target:=.builtin .close tys ty cons,args:= #[.chan (some c)]}::ds) todo) cs) w= .go (G (iC b t ds todo) cs) (w.shut c s r false) (avn c):=by
 have run:(invoke (.builtin .close tys ty cons) #[.chan (some c)]).runT P w #[]=(.ok (.value (.tuple #[])) (w.shut c s r false),avn c):=by
  have hlt:=m_ ho
  have e1:(invoke (.builtin .close tys ty cons) #[.chan (some c)])=Sem.getObj c fun o=>(match o with
    | .chan room buf closed sent received timer=>(do
     if closed then runtimePanic (.plain "close of closed channel")
     setObj c (.chan room buf true sent received timer)
     pure (.tuple #[]):Sem Value)
    | _=>stuck "close: no channel in this block").bind fun v=>.pure (Next.value v):=rfl
  rw[e1]
  simp only[Sem.runT,ho,Bool.false_eq_true,if_false,setObj,bind_eq,gq,Sem.bind]
  rfl
 have e:stepG P false (G (iC b t ({target:=.builtin .close tys ty cons,args:= #[.chan (some c)]}::ds) todo) cs) w=callDeferred P (iC b t ds todo) cs none {target:=.builtin .close tys ty cons,args:= #[.chan (some c)]} w:=rfl
 rw[e]
 unfold callDeferred
 have hs:seen P b.fn (avn c)=avn c:=by simp[seen,avn]
 have hf:(iC b t ds todo).fn=b.fn:=rfl
 simp only[run,hf,hs]
 rfl

theorem Xu{b:Frame}{fn:Func}{t:Array Value}{todo:List Item}{w:World}(hf:P.funcs[b.fn]? =some fn)(hr:fn.results= #[])(hk:b.kind= .deferred):stepG P false (G (iC b t [] todo) [kW P]) w= .go (G (kW P) []) w #[]:=by
 have e:stepG P false (G (iC b t [] todo) [kW P]) w=unwind P false (iC b t [] todo) [kW P] none w:=rfl
 have r:(results fn t).runT P w #[]=(.ok (.tuple #[]) w, #[]):=by
  unfold results
  rw[hr,show(#[]:Array ResultVar)=([]:List ResultVar).toArray from rfl,List.mapM_toArray]
  rfl
 rw[e]
 unfold unwind
 have h1:(iC b t [] todo).defers=[]:=rfl
 have h2:(iC b t [] todo).mode= .returning:=rfl
 have h3:(iC b t [] todo).fn=b.fn:=rfl
 have h4:(iC b t [] todo).tmps=t:=rfl
 have h5:(iC b t [] todo).kind= .deferred:=hk
 simp only[h1,h2,h3,h4,hf,r,doReturn,h5]
 rfl

def aFR(P:Program)(c:Nat)(h:Hp):List Deferred→eG→Prop
 | [],_=>False
 | d::ds,F=>
  match d.target with
  | .collected r=>tr P h (Instr.takeDeferred r) F fun l F'=>l=[]∧aFR P c h ds F'
  | .builtin .close _ _ _=>ds=[]∧d.args= #[.chan (some c)]∧(c,gch [])∈F
  | _=>False

theorem aH_{b:Frame}{fn:Func}{t:Array Value}{c:Nat}{h:Hp}(hf:P.funcs[b.fn]? =some fn)(hr:fn.results= #[])(hkd:b.kind= .deferred):∀{ds:List Deferred} {F:eG} {hk:Hp} {M:Nat→Prop} (todo:List Item),Sat h F hk M→aFR P c h ds F→
  CJ P false (Ch P c) (G (iC b t ds todo) [kW P]) hk M:=by
 intro ds
 induction ds with
 | nil=>exact fun _ _ hu=>hu.elim
 | cons d ds ih=>
  intro F hk M todo S hu
  obtain⟨target,dargs⟩:=d
  unfold aFR at hu
  split at hu
  ·rename_i r heq
   simp only at heq
   subst heq
   refine .oN ⟨rfl,fun w hw hM=>?_⟩
   obtain⟨l,F',w',es,r1,r2,r3,r4,rfl,r5⟩:=jR _ #[] hu S hw hM
   rw[Array.empty_append]at r1
   exact⟨G (iC b t ds todo) [kW P],w',seen P b.fn es,Dy (main:=aH8 P c) r1,r2.mem fun _=>mem_seen,ih todo r3 r5⟩
  ·rename_i tys ty cons heq
   simp only at heq
   obtain⟨rfl,hargs,hm⟩:=hu
   simp only at hargs
   subst heq hargs
   refine .stop (.close rfl (S.own _ _ hm).1 rfl rfl (fun w s r ho=>aI3 ho) (n:=2) ?_)
   exact .inr ⟨rfl,_,fun w=>Xu hf hr hkd,RH⟩
  ·exact hu.elim

theorem Ch.start{f:FuncId}{fn:Func}{body:Code}[FB P f](hf:P.funcs[f]? =some fn)(hb:fn.body=some body)(hr:fn.results= #[]){ca args:Array Value}(ha:(args++ca).size≤fn.ntmps)(ρ:Env)(hρ:G9 ρ (args++ca)){c:Nat}{l:List Value}{h kc:Hp}{M:Nat→Prop}(S:Sat h [(c,gch l)] kc M)
  (H:W ⟨P,aH8 P c,f,fn.ntmps,none,h⟩ body (fun e _ ds F=>(e= .ret∨e= .normal)∧aFR P c h ds F) ρ [] [(c,gch l)]):Ch P c (wV P {target:=.fn (.func f) ca,args}) kc M:=by
 refine Ch.rQ (.idle rfl Xt ?_)
 have e:Frame.enter P f (args++ca) .deferred=bW {(default:Frame)with fn:=f,kind:=.deferred} (args++ca++Array.replicate (fn.ntmps- (args++ca).size) undef) [] [.code body]:=by
  simp[Frame.enter,bW,hf,hb];rfl
 rw[e]
 refine H _ [] [kW P] ⟨Ch P c,rfl,Ch.x9⟩ _ kc M rfl rfl (.deferred rfl (.inr rfl)) hρ.ok (by simp at ha⊢;omega) S fun ex ρ' ds' F' aZ hk' M' q a1 a2 a3 a4=>?_
 obtain⟨hex,hu⟩:=q
 have go:∀todo,CJ P false (Ch P c) (G (iC {(default:Frame)with fn:=f,kind:=.deferred} aZ ds' todo) [kW P]) hk' M':=fun todo=>aH_ (fn:=fn) hf hr rfl todo a3 hu
 rcases hex with rfl | rfl
 ·exact fun k'=>.idle rfl (fun _=>Fj (main:=aH8 P c) rfl) (go _)
 ·exact .idle rfl (fun _=>Fp (main:=aH8 P c) rfl) (go _)
end
section rules
variable{x:Cx}{Q:Post}{ρ:Env}{ds:List Deferred}{F:eG}{ops:Array Oper}{i:Nat}{rest:List Nat}{o:Oper}
theorem Ops.send{c:Nat}{v:Value}{ch y:Operand}{l:List Value}{U:Obj→eG}(hS:∀S,x.main.ok S→S=Ch x.P c)(hb:x.main.b=false)(ho:ops[i]? =some o)(hop:o.op= .send ch y)(hw:want ops ρ o)(hd:o.dst=none)
  (hch:ev ρ ch=some (.chan (some c))) (hy:ev ρ y=some v) (hl:At c (gch (v::l)) F U) (H:Ops x ops rest Q ρ ds (U (gch l))):Ops x ops (i::rest) Q ρ ds F:=by
 intro b k cs Stop tmps hk M h1 h0 h2 h3 h4 h5 hc
 have hk':(b.kind==CallKind.early)=false:=by simpa using h2.1
 obtain⟨e1,e2,S',f'⟩:=h5.ghost (o':=gch l) hl ⟨rfl,rfl⟩
 have eS:=hS _ Stop.2.1
 have:=H b k cs Stop _ _ _ h1 h0 h2 h3 h4 S' fun e ρ' ds' G aZ hk' M' q a1 a2 a3 a4=>hc e ρ' ds' G aZ hk' M' q a1 a2 a3 (f'.trans a4)
 refine .stop ?_
 unfold Gs at this
 rw[eS,hb]at this
 rw[eS]
 refine .send rfl e1 (aJV ho hop (hw.wanted h3) hk' (h3.ev hch) (h3.ev hy)) ?_
 have hf:=eY (b:=b) (t:=tmps) (ds:=ds) (k:=k) (cs:=cs) (rest:=rest) ho undef
 have:=Ch.rQ this
 rw[hd]at hf
 simp only at hf
 rw[←hf]at this
 exact this

noncomputable def told(h:Hp)(c:Nat)(l:List Value):Hp:=by
 classical exact⟨fun b=>if b=c then some (gch l)else if h.z b∧isC (h b)=false then h b else none,fun _=>False⟩
noncomputable def aDL(h:Hp)(c:Nat):Hp:=by
 classical exact⟨fun b=>if b=c then none else if h.z b∧isC (h b)=false then h b else none,fun _=>False⟩

theorem aBy{h:Hp}{c b:Nat}{o:Obj}(hn:h c=none)(hz:h.z b)(hb:h b=some o)(ho:o.isChan=false):aDL h c b=some o:=by
 have e:b≠c:=by rintro rfl;rw[hn]at hb;cases hb
 simp[aDL,e,hz,hb,isC,ho]
theorem Ops.spawn{c:Nat}{l:List Value}{y:Operand}{args:List Operand}{ts:Array TypeId}{f:FuncId}{fi ca:Array Value}{vs:List Value}{U:Obj→eG}(hS:∀S,x.main.ok S→∃Fin,S=Mn x.P Fin)(hb:x.main.b=true)(ho:ops[i]? =some o)(hop:o.op= .go ⟨.value y,args.toArray,ts⟩)(hw:want ops ρ o)(hd:d_ o.dst x.n=true)
  (hy:ev ρ y=some (.func (.func f) fi ca)) (hv:evs ρ args=some vs) (hl:At c acF F U)
  (hc:x.h c=none→∀kc,Sat (aDL x.h c) [(c,gch l)] kc (· =c)→Ch x.P c (wV x.P {target:=.fn (.func f) ca,args:=fi++vs.toArray}) kc (· =c))
  (H:Ops x ops rest Q (put ρ o.dst undef) ds (U (gch l))):Ops x ops (i::rest) Q ρ ds F:=by
 classical
 intro b k cs Stop tmps hk M h1 h0 h2 h3 h4 h5 hcont
 have hk':(b.kind==CallKind.early)=false:=by simpa using h2.1
 obtain⟨e1,e2,S',f'⟩:=h5.ghost (o':=gch l) hl ⟨rfl,rfl⟩
 have hnone:x.h c=none:=by
  obtain⟨F1,F2,hF,_⟩:=hl.split
  exact(h5.own c acF (by rw[hF];simp)).2.2
 obtain⟨Fin,eS⟩:=hS _ Stop.2.1
 obtain⟨p1,p2⟩:=h3.put' h4 hd undef
 have:=H b k cs Stop _ _ _ h1 h0 h2 p1 p2 S' fun e ρ' ds' G aZ hk' M' q a1 a2 a3 a4=>hcont e ρ' ds' G aZ hk' M' q a1 a2 a3 (f'.trans a4)
 refine .stop ?_
 unfold Gs at this
 rw[eS,hb]at this
 rw[eS]
 have hne:∀b,b≠c→told x.h c l b=if x.h.z b∧isC (x.h b)=false then x.h b else none:=fun b hb=>by simp[told,hb]
 have hsub:∀b o,b≠c→told x.h c l b=some o→x.h.z b∧x.h b=some o∧o.isChan=false:=by
  intro b o hb ho
  rw[hne b hb]at ho
  split at ho
  ·rename_i h
   refine⟨h.1,ho,?_⟩
   rw[ho]at h
   exact h.2
  ·cases ho
 refine Mn.spawn (c:=c) (l:=l) (kc:=told x.h c l) (M':=M) rfl rfl rfl (ada ho hop (hw.wanted h3) hk' (h3.ev hy) (by rw[List.map_toArray,lN (fun _ _ h=>h3.ev h) hv])) e1 e2 (by simp[told]) (fun b o hb ho=>⟨h5.sub b o (hsub b o hb ho).2.1,(hsub b o hb ho).2.2⟩) (hc hnone _ ⟨fun b o hb=>?_,fun b o hb=>?_,by simp,fun b o hm hko hop=>?_,fun b hb=>hb.elim⟩) ⟨fun _ h=>h,fun b o hm hn=>absurd hm hn⟩ e2 (fun b hb hs hm=>?_) ?_
 ·by_cases e:b=c
  ·subst e;simp[aDL]at hb
  ·rw[hne b e]
   simpa[aDL,e]using hb
 ·obtain⟨rfl,rfl⟩:=Prod.mk.inj (List.mem_singleton.1 hb)
  exact⟨by simp[told],rfl,by simp[aDL]⟩
 ·left
  subst hm
  have:told x.h b l b=some (gch l):=by simp[told]
  rw[this]at hko
  cases hko
  exact List.mem_cons_self ..
 ·obtain⟨o,ho⟩:=Option.isSome_iff_exists.1 hs
  exact(h5.CO b (hsub b o hb ho).1).1 hm
 ·have hf:=eY (b:=b) (t:=tmps) (ds:=ds) (k:=k) (cs:=cs) (rest:=rest) ho undef
  have:=Mn.rQ this
  rw[←hf]at this
  exact this
end rules
end Go.aS

/- New channels, deferred calls, and the outermost function: from a law's body to the run of the machine. Conditions: none; over any program. -/
namespace Go.aS
open Go.Conc (solo solo_eq_crowd)
section rules
variable{x:Cx}{Q:Post}{ρ:Env}{ds:List Deferred}{F:eG}{ops:Array Oper}{i:Nat}{rest:List Nat}{o:Oper}{R:Value→eG→Prop}
theorem aHg{t el s b:Nat}{dir:ChanDir}{z:Value}{zc:Array Value}{y:Operand}(ho:o.op= .makeChan t y)[TD x.P t (.chan dir el)][TI x.P el s b z zc](hy:ev ρ y=some (.int .i64 0))
  (H:∀β,x.h β=none→(∀o,(β,o)∉F)→R (.chan (some β)) ((β,acF)::F)):Ef x ρ o F R:=
 Ef.xW fun e he h' hE=>by
  obtain⟨j,h1,h2,h3,h4,hz⟩:=TI.out (inferInstance:TI x.P el s b z zc)
  have hd:=(inferInstance:TD x.P t (.chan dir el)).out
  have hb:¬((0:Int)<0∨(0:Int)>IntKind.i64.max∨(j.bytes:Int)*0>2 ^ 48-112):=by rintro(h | h | h) <;>revert h <;>simp <;>decide
  simp only[execOp,ho,he y _ hy,Instr.makeChan,asInt,asIntOf,underlying,typeInfo,program,bind_eq,gq,Sem.bind,tr,hd,h1,hb,if_false,newObj]
  exact⟨fun _=>rfl,fun r h5 h6=>⟨_,.inl rfl,H r (hE.none h5) h6⟩⟩

theorem Py{P:Program}{fr:Frame}{cs:List Frame}{s:Sem Next}{w:World}{d:Deferred}(r:s.runT P w #[]=(.ok (.defer d) w, #[]))(hk:(fr.kind==CallKind.early)=false):
  stepG.apply P true fr cs none s w= .go (G ({fr with defers:=d::fr.defers}.finish undef) cs) w #[]:=by
 unfold stepG.apply
 simp only[r,hk,if_true,Bool.false_eq_true,if_false]
 rw[Jh]
 rfl

theorem Pz{b:Frame}{t:Array Value}{k:List Item}{cs:List Frame}{w:World}{c:Call}{d:Deferred}(ho:ops[i]? =some o)(hop:o.op= .defer c)(hw:Region.wanted o (yielded ops t)=true)(hr:b.roundOf=none)(hk:(b.kind==CallKind.early)=false)
  (hd:resolve (bW b t ds (.inRegion ops (i::rest)::k)).eval c o.type= .pure d):
  stepG x.P x.main.b (G (bW b t ds (.inRegion ops (i::rest)::k)) cs) w= .go (G ((bW b t (d::ds) (.inRegion ops (i::rest)::k)).finish undef) cs) w #[]:=by
 obtain⟨dst,op,type,pos,bK,guard⟩:=o
 simp only at hop hd
 subst hop
 have e:stepG x.P x.main.b (G (bW b t ds (.inRegion ops (i::rest)::k)) cs) w=stepG.apply x.P true (bW b t ds (.inRegion ops (i::rest)::k)) cs none (execOp (bW b t ds (.inRegion ops (i::rest)::k)).eval ⟨dst,.defer c,type,pos,bK,guard⟩) w:=by
  simp only[Conc.G,stepG,stepG.exec,stepG.oper,Frame.oper?,bW,ho,hw,hr,Option.map_some,Option.getD_some,if_true]
 rw[e]
 refine Py (fr:=bW b t ds (.inRegion ops (i::rest)::k)) ?_ hk
 simp only[execOp,hd,bind_eq,gq,Sem.bind,Sem.runT]

theorem Ops.defer{c:Call}{d:Deferred}(hro:x.ro=none)(ho:ops[i]? =some o)(hop:o.op= .defer c)(hw:want ops ρ o)(hd:o.dst=none)
  (hr:∀e:Operand→Value,(∀y v,ev ρ y=some v→e y=v)→resolve e c o.type= .pure d) (H:Ops x ops rest Q ρ (d::ds) F):Ops x ops (i::rest) Q ρ ds F:=by
 intro b k cs Stop tmps hk M h1 h0 h2 h3 h4 h5 hc
 have hk':(b.kind==CallKind.early)=false:=by simpa using h2.1
 refine .idle rfl (fun w=>Pz ho hop (hw.wanted h3) (h0.trans hro) hk' (hr _ fun _ _ hx=>h3.ev hx)) ?_
 have hf:=eY (b:=b) (t:=tmps) (ds:=d::ds) (k:=k) (cs:=cs) (rest:=rest) ho undef
 rw[hf,hd]
 exact H b k cs Stop tmps hk M h1 h0 h2 h3 h4 h5 hc
end rules
section top
variable{P:Program}{Post:Value→World→Prop}
theorem tZ.x9:BJ (tZ P Post):=by
 intro g k M M' hl ⟨h1,h2,h3⟩
 refine⟨h1,fun c o hm hk=>?_,fun w ha hd=>?_⟩
 ·rcases Classical.em (M' c)with h | h
  ·exact h2 c o h hk
  ·exact hl.2 c o hm h hk
 ·obtain⟨v,w',es,e,gu,hp⟩:=h3 w ha (hl.dom hd)
  exact⟨v,w',es,e,hl.guar gu,hp⟩

theorem abD{b:Frame}{fn:Func}{t:Array Value}{todo:List Item}{w w':World}{v:Value}{es:Array Event}(hf:P.funcs[b.fn]? =some fn)(hi:P.inits.idxOf? b.fn=none)(r:(results fn t).runT P w #[]=(.ok v w',es))(hk:b.kind= .normal):
  stepG P true (G (iC b t [] todo) []) w= .ended (.done v) w' (seen P b.fn es):=by
 have e:stepG P true (G (iC b t [] todo) []) w=unwind P true (iC b t [] todo) [] none w:=rfl
 rw[e]
 unfold unwind
 have h1:(iC b t [] todo).defers=[]:=rfl
 have h2:(iC b t [] todo).mode= .returning:=rfl
 have h3:(iC b t [] todo).fn=b.fn:=rfl
 have h4:(iC b t [] todo).tmps=t:=rfl
 have h5:(iC b t [] todo).kind= .normal:=hk
 simp only[h1,h2,h3,h4,hf,r,doReturn,h5,hi,Bool.not_true,Bool.false_eq_true,if_false]
 rfl

theorem Mn.top{f:FuncId}{fn:Func}{body:Code}(hf:P.funcs[f]? =some fn)(hb:fn.body=some body)(hi:P.inits.idxOf? f=none){args:Array Value}(ha:args.size≤fn.ntmps)(ρ:Env)(hρ:G9 ρ args){h k:Hp}{M:Nat→Prop}(S:Sat h [] k M)(hno:∀b o,h b=some o→o.isChan=false)
  {R:Value→Prop} (hpost:∀v w,R v→(∀b o,h b=some o→w.heap[b]? =some o)→Post v w)
  (H:W ⟨P,GI P (tZ P Post),f,fn.ntmps,none,h⟩ body (fun e ρ ds F=>ds=[]∧Shut F∧leave P (GI P (tZ P Post)) fn h (fun v _=>R v) e ρ [] F) ρ [] []):Mn P (tZ P Post) (G (Frame.enter P f args .normal) []) k M:=by
 refine Mn.rQ ?_
 have e:Frame.enter P f args .normal=bW {(default:Frame)with fn:=f,kind:=.normal} (args++Array.replicate (fn.ntmps-args.size) undef) [] [.code body]:=by
  simp[Frame.enter,bW,hf,hb];rfl
 rw[e]
 refine H _ [] [] ⟨Mn P (tZ P Post),rfl,Mn.x9 tZ.x9⟩ _ k M rfl rfl (.normal rfl) hρ.ok (by simp;omega) S fun ex ρ' ds' F' aZ hk' M' q a1 a2 a3 a4=>?_
 obtain⟨rfl,hsh,hex,hu⟩:=q
 have hu':tr P h (results fn aZ) F' (fun v _=>R v):=hu aZ a1
 have go:∀todo,CJ P true (Mn P (tZ P Post)) (G (iC {(default:Frame)with fn:=f,kind:=.normal} aZ [] todo) []) hk' M':=fun todo=>by
  refine .stop (.fin ⟨rfl,fun c o hm hk=>?_,fun w hw hM=>?_⟩)
  ·cases ho:opn o with
   | false=>rfl
   | true=>
    rcases a3.all c o hm hk ho with h1 | h1
    ·rw[hsh _ h1]at ho;cases ho
    ·rw[Fh (hno c o h1)]at ho;cases ho
  ·obtain⟨v,Lp,w',es,r1,r2,r3,r4,r5⟩:=jR _ #[] hu' a3 hw hM
   rw[Array.empty_append]at r1
   refine⟨v,w',_,abD hf hi r1 rfl,r2.mem fun _=>mem_seen,hpost v w' r5 fun b o hb=>?_⟩
   exact(qZ hw r2).get (r3.sub b o hb) (hno b o hb)
 rcases hex with rfl | rfl
 ·exact fun k'=>.idle rfl (fun _=>Fj (main:=GI P (tZ P Post)) rfl) (go _)
 ·exact .idle rfl (fun _=>Fp (main:=GI P (tZ P Post)) rfl) (go _)

noncomputable def atStart(W:World):Hp:=⟨fun b=>match W.heap[b]? with | some o=>if o.isChan then none else some o | none=>none,fun b=>∃o,W.heap[b]? =some o∧o.isChan=false⟩
theorem ku{W:World}{b:Nat}{o:Obj}:atStart W b=some o↔W.heap[b]? =some o∧o.isChan=false:=by
 simp only[atStart]
 cases e:W.heap[b]? with
 | none=>simp
 | some o'=>
  cases hc:o'.isChan with
  | true=>
   simp only[hc,if_true]
   constructor
   ·intro h;cases h
   ·rintro⟨h,h'⟩;cases h;rw[hc]at h';cases h'
  | false=>
   simp only[hc,Bool.false_eq_true,if_false]
   constructor
   ·intro h;cases h;exact⟨rfl,hc⟩
   ·rintro⟨h,_⟩;exact h
theorem PD{W:World}:Sat (atStart W) [] (atStart W) fun _=>False:=
 ⟨(fun _ _ h=>h),(fun _ _ h=>by cases h),(by simp),(fun _ _ h=>h.elim),(fun b ⟨o,h1,h2⟩=>⟨fun h=>h,by rw[ku.2 ⟨h1,h2⟩];rfl⟩)⟩

theorem Mn.run{W:World}{g:Goroutine}(H:Mn P (tZ P Post) g (atStart W) fun _=>False):
  ∃M last o w' t',runNT P (M+1) (solo g W) #[]=(.ended o w',t')∧runN P M (solo g W)= .next last∧Go.step P last= .ended o w'∧Conc.Good P (fun v w'=>Post v w'∧Kept W w') last o w' t':=by
 letI:Base:=⟨W⟩
 obtain⟨hs,h⟩:=H.ends (fun _ _ _ h=>h)
 have I:MInv P #[g] W #[] (atStart W) (fun _=>False) []:=
  ⟨rfl,(fun b o hb=>⟨o,(ku.1 hb).1,.inl rfl⟩),(fun b hb=>hb.elim),Zj.empty,(fun b hb=>hb.elim),(fun b _ _ i a hi=>by rw[show Conc.touchAt #[] i=none by simp[Conc.touchAt,Trace.act?]]at hi;cases hi),(fun i c x hi=>by simp at hi),(fun i j c c' x x' _ hi=>by simp at hi),(fun c hc=>absurd (ku.1 hc).2 (by simp[acF,Obj.isChan])),(fun c l hc=>absurd (ku.1 hc).2 (by simp[gch,Obj.isChan])),Kept.refl W,fun _ h=>h.elim,fun i c x k M hi=>by simp at hi⟩
 have:=h [] (fun p hp=>by cases hp) #[g] g W #[] none I rfl (.inl ⟨⟨rfl,rfl,rfl⟩,hs⟩)
 rw[solo_eq_crowd]
 exact this
end top
end Go.aS

/- Moves, in short. Conditions: none; over any program. -/
namespace Go.aS
section
variable{x:Cx}{Q:Post}{K:Env→List Deferred→eG→Prop}{ρ:Env}{ds:List Deferred}{F:eG}{ops:Array Oper}{i:Nat}{rest:List Nat}{v:Value}{d:Tmp}{ty:TypeId}{pos:String}{bK:Array Edge}{y:Operand}
theorem qm(ho:cO ops.toList i=some ⟨some d,.move y,ty,pos,bK,none⟩)(hy:ev ρ y=some v)(hd:Nat.blt d x.n=true)(H:Ops x ops rest Q ((d,v)::ρ) ds F):Ops x ops (i::rest) Q ρ ds F:=oq (aN rfl hy) ho wn hd rfl H
theorem agb(ho:cO ops.toList i=some ⟨some d,.assign y,ty,pos,bK,none⟩)(hy:ev ρ y=some v)(hd:Nat.blt d x.n=true)(H:Ops x ops rest Q ((d,v)::ρ) ds F):Ops x ops (i::rest) Q ρ ds F:=oq (jS rfl hy) ho wn hd rfl H
theorem agW{op:Op}(hy:Yv x (· =F) ρ ⟨some d,op,ty,pos,bK,none⟩ v)(ho:cO ops.toList i=some ⟨some d,op,ty,pos,bK,none⟩)(H:Ops x ops rest Q ((d,v)::ρ) ds F)(hd:Nat.blt d x.n=true:=by exact rfl)(hn:QS op=true:=by exact rfl):Ops x ops (i::rest) Q ρ ds F:=oq hy ho wn hd hn H
theorem dn{op:Op}{L:eG}{fuel listed:Nat}(i:Nat)(hy:Yv x (Keeps L) ρ ⟨some d,op,ty,pos,bK,none⟩ v)(ho:cO ops.toList i=some ⟨some d,op,ty,pos,bK,none⟩)(H:Any x ops L fuel (listed||| 2 ^ i) Q ((d,v)::ρ) ds F)(hd:Nat.blt d x.n=true:=by exact rfl)(hn:QS op=true:=by exact rfl)(hr:(Fq ops listed i&&xR ops listed i&&DJ ops)=true:=by kernel_rfl)(hS:Keeps L F:=by first | exact fun _ h=>h | exact fun _ h=>absurd h List.not_mem_nil | ((repeat(first | exact fun _ h=>h | apply Keeps.cons | apply Keeps.app)) <;>fail) | (repeat(first | exact Keeps.nil | refine Keeps.one (by repeat(first | exact List.Mem.head _ | apply List.Mem.tail)) ?_))):Any x ops L (fuel+1) listed Q ρ ds F:=aq hy ho an hd hn H hr hS
theorem agY{op:Op}(ho:cO ops.toList i=some ⟨some d,op,ty,pos,bK,none⟩)(H:Ops x ops rest Q ((d,v)::ρ) ds F)(hy:Yv x (· =F) ρ ⟨some d,op,ty,pos,bK,none⟩ v:=by exact ay rfl rfl)(hd:Nat.blt d x.n=true:=by exact rfl)(hn:QS op=true:=by exact rfl):Ops x ops (i::rest) Q ρ ds F:=oq hy ho wn hd hn H
theorem agX{op:Op}(ho:cO ops.toList i=some ⟨some d,op,ty,pos,bK,none⟩)(H:Ops x ops rest Q ((d,v)::ρ) ds F)(hy:Yv x (· =F) ρ ⟨some d,op,ty,pos,bK,none⟩ v:=by exact iQ rfl rfl)(hd:Nat.blt d x.n=true:=by exact rfl)(hn:QS op=true:=by exact rfl):Ops x ops (i::rest) Q ρ ds F:=oq hy ho wn hd hn H
theorem ag2{op:Op}(ho:cO ops.toList i=some ⟨some d,op,ty,pos,bK,none⟩)(H:Ops x ops rest Q ((d,v)::ρ) ds F)(hy:Yv x (· =F) ρ ⟨some d,op,ty,pos,bK,none⟩ v:=by first | exact Bf rfl rfl | exact zi rfl rfl)(hd:Nat.blt d x.n=true:=by exact rfl)(hn:QS op=true:=by exact rfl):Ops x ops (i::rest) Q ρ ds F:=oq hy ho wn hd hn H
theorem ag1{op:Op}(ho:cO ops.toList i=some ⟨some d,op,ty,pos,bK,none⟩)(H:Ops x ops rest Q ((d,v)::ρ) ds F)(hy:Yv x (· =F) ρ ⟨some d,op,ty,pos,bK,none⟩ v:=by first | exact Zi rfl rfl rfl | exact MZ rfl rfl rfl)(hd:Nat.blt d x.n=true:=by exact rfl)(hn:QS op=true:=by exact rfl):Ops x ops (i::rest) Q ρ ds F:=oq hy ho wn hd hn H
theorem ag5{op:Op}(ho:cO ops.toList i=some ⟨some d,op,ty,pos,bK,none⟩)(H:Ops x ops rest Q ((d,v)::ρ) ds F)(hy:Yv x (· =F) ρ ⟨some d,op,ty,pos,bK,none⟩ v:=by first | exact acL rfl rfl rfl | exact M_ rfl rfl rfl)(hd:Nat.blt d x.n=true:=by exact rfl)(hn:QS op=true:=by exact rfl):Ops x ops (i::rest) Q ρ ds F:=oq hy ho wn hd hn H
theorem ag3{op:Op}(ho:cO ops.toList i=some ⟨some d,op,ty,pos,bK,none⟩)(H:Ops x ops rest Q ((d,v)::ρ) ds F)(hy:Yv x (· =F) ρ ⟨some d,op,ty,pos,bK,none⟩ v:=by first | exact G_ rfl rfl rfl | exact o_ rfl rfl rfl)(hd:Nat.blt d x.n=true:=by exact rfl)(hn:QS op=true:=by exact rfl):Ops x ops (i::rest) Q ρ ds F:=oq hy ho wn hd hn H
theorem ag4{op:Op}(ho:cO ops.toList i=some ⟨some d,op,ty,pos,bK,none⟩)(H:Ops x ops rest Q ((d,v)::ρ) ds F)(hy:Yv x (· =F) ρ ⟨some d,op,ty,pos,bK,none⟩ v:=by first | exact bg rfl rfl | exact aT rfl rfl)(hd:Nat.blt d x.n=true:=by exact rfl)(hn:QS op=true:=by exact rfl):Ops x ops (i::rest) Q ρ ds F:=oq hy ho wn hd hn H
theorem pq(H:K ρ ds F):Ops x ops [] (thn K Q) ρ ds F:=Ops.nil (aA H)
end
end Go.aS

/- Short forms for walks: results, calls of functions that only answer. Conditions: none; over any program. -/
namespace Go.aS
def RI(ρ:Env):List ResultVar→Option (List Value)
 | []=>some []
 | .tmp t::r=>match look ρ t,RI ρ r with
  | some v,some vs=>some (v::vs)
  | _,_=>none
 | .cell _ _::_=>none
theorem TV{P:Program}{h:Hp}{F:eG}{ρ:Env}:∀{rs:List ResultVar} {vs:List Value},RI ρ rs=some vs→rD P h F rs ρ vs
 | [],vs,e=>by simp only[RI,Option.some.injEq]at e;exact e.symm
 | .tmp t::r,vs,e=>by
  simp only[RI]at e
  split at e
  ·rename_i v vs' h1 h2
   cases e
   exact⟨v,vs',rfl,h1,TV h2⟩
  ·cases e
 | .cell _ _::_,vs,e=>by cases e

abbrev Pu(P:Program)(main:Side)(f:FuncId)(args:Array Value)(h:Hp)(u:Value):Prop:=dV P main f args h [] (fun v A=>v=u∧Shut A)

section
variable{P:Program}{main:Side}{fn:Func}{h:Hp}{R:Value→eG→Prop}{e:Exit}{ρ:Env}{F:eG}{ds:List Deferred}
theorem mg{vs:List Value}(hR:R (pack vs) F)(he:e= .ret∨e= .normal:=by first | exact .inl rfl | exact .inr rfl)(hv:RI ρ fn.results.toList=some vs:=by rfl):leave P main fn h R e ρ [] F:=
 OV he (by simp) (TV hv) hR
theorem uZ{u:Value}{vs:List Value}(hu:pack vs=u)(he:e= .ret∨e= .normal:=by first | exact .inl rfl | exact .inr rfl)(hv:RI ρ fn.results.toList=some vs:=by rfl)(hs:Shut F:=by repeat(first | exact Shut.nil | assumption | refine Shut.cons rfl ?_ | refine Shut.app ?_ ?_)):leave P main fn h (fun v A=>v=u∧Shut A) e ρ [] F:=
 mg ⟨hu,hs⟩ he hv

theorem Tc.marked{d:Nat}{K:eG→Prop}{U:Obj→eG}(hl:At d (.deferred (some [])) F U)(H:Tc P main h ds (U (.deferred none)) K):Tc P main h (mark d::ds) F K:=by
 obtain⟨F1,F2,e1,e2⟩:=hl.split
 show tr P h (Instr.takeDeferred d) F fun l F'=>l=[]∧Tc P main h ds F' K
 simp only[Instr.takeDeferred,bind_eq,gq]
 refine⟨.deferred (some []),.inr (e1▸by simp),(fun _ _ _=>by simp),rfl,?_⟩
 refine⟨.deferred (some []),F1,F2,e1,(fun _ _ _=>by simp),rfl,rfl,?_⟩
 rw[e2]at H
 exact H
theorem lvm{d:Nat}{U:Obj→eG}(H:leave P main fn h R e ρ ds (U (.deferred none)))(hl:At d (.deferred (some [])) F U:=by repeat(first | exact At.head | apply At.tail | apply At.app)):leave P main fn h R e ρ (mark d::ds) F:=
 ⟨H.1,Tc.marked hl H.2⟩
end
section
variable{x:Cx}{Q:Post}{ρ:Env}{ds:List Deferred}{F:eG}{ops:Array Oper}{i:Nat}{rest:List Nat}{d:Tmp}{ty:TypeId}{pos:String}{bK:Array Edge}{g:Option (Nat×Bool)}{L:eG}
variable{f:FuncId}{args:List Operand}{ts:Array TypeId}{vs:List Value}
theorem cp{u:Value}(H:∀h',Ext x.h h'→fF F h'→Pu x.P x.main f vs.toArray h' u)(K:Ops x ops rest Q ((d,u)::ρ) ds F)(ho:cO ops.toList i=some ⟨some d,.call ⟨.value (.func f),args.toArray,ts⟩,ty,pos,bK,g⟩:=by rfl)[FB x.P f](hv:evs ρ args=some vs:=by rfl)
  (hw:want ops ρ ⟨some d,.call ⟨.value (.func f),args.toArray,ts⟩,ty,pos,bK,g⟩:=by first | exact wn | exact ak rfl rfl rfl) (hd:Nat.blt d x.n=true:=by rfl):Ops x ops (i::rest) Q ρ ds F:=
 Ops.eff (o:=⟨some d,.call ⟨.value (.func f),args.toArray,ts⟩,ty,pos,bK,g⟩) (lQ rfl hv H fun v A' hv=>by
  obtain⟨rfl,hs⟩:=hv
  exact Ops.sb (Sb.left .refl hs) K) (aU ho) hw hd rfl
theorem c0{R':Value→eG→Prop}(H:∀h',Ext x.h h'→fF F h'→dV x.P x.main f vs.toArray h' [] R')(K:∀v A',R' v A'→Ops x ops rest Q ((d,v)::ρ) ds (A'++F))(ho:cO ops.toList i=some ⟨some d,.call ⟨.value (.func f),args.toArray,ts⟩,ty,pos,bK,g⟩:=by rfl)[FB x.P f](hv:evs ρ args=some vs:=by rfl)
  (hw:want ops ρ ⟨some d,.call ⟨.value (.func f),args.toArray,ts⟩,ty,pos,bK,g⟩:=by first | exact wn | exact ak rfl rfl rfl) (hd:Nat.blt d x.n=true:=by rfl):Ops x ops (i::rest) Q ρ ds F:=
 Ops.eff (o:=⟨some d,.call ⟨.value (.func f),args.toArray,ts⟩,ty,pos,bK,g⟩) (lQ rfl hv H fun v A' hv=>K v A' hv) (aU ho) hw hd rfl
theorem cg{A:eG}{U:eG→eG}{R':Value→eG→Prop}(hs:Seg A F U)(H:∀h',Ext x.h h'→fF (U []) h'→dV x.P x.main f vs.toArray h' A R')(K:∀v A',R' v A'→Ops x ops rest Q ((d,v)::ρ) ds (U A'))(ho:cO ops.toList i=some ⟨some d,.call ⟨.value (.func f),args.toArray,ts⟩,ty,pos,bK,g⟩:=by rfl)[FB x.P f](hv:evs ρ args=some vs:=by rfl)
  (hw:want ops ρ ⟨some d,.call ⟨.value (.func f),args.toArray,ts⟩,ty,pos,bK,g⟩:=by first | exact wn | exact ak rfl rfl rfl) (hd:Nat.blt d x.n=true:=by rfl):Ops x ops (i::rest) Q ρ ds F:=
 Ops.eff (o:=⟨some d,.call ⟨.value (.func f),args.toArray,ts⟩,ty,pos,bK,g⟩) (QZ rfl hv hs H fun v A' hv=>K v A' hv) (aU ho) hw hd rfl
end
section
variable{x:Cx}{Q:Post}{ρ:Env}{ds:List Deferred}{F:eG}{ops:Array Oper}{i:Nat}{rest:List Nat}{d:Tmp}{op:Op}{ty:TypeId}{pos:String}{bK:Array Edge}{g:Option (Nat×Bool)}{L:eG}
theorem Jr{d:Nat}{v:Value}(h:look ρ d=some v):look ((d,v)::ρ)=look ρ:=by
 funext t
 show(bif Nat.beq t d then some v else look ρ t)=look ρ t
 cases e:Nat.beq t d with
 | true=>rw[Nat.eq_of_beq_eq_true e,h];rfl
 | false=>rfl
theorem Any.ask{fuel listed d':Nat}{p:Prop}[Decidable p](ht:p→Any x ops L fuel listed Q ((d',.bool true)::ρ) ds F)(hf:¬p→Any x ops L fuel listed Q ((d',.bool false)::ρ) ds F)(hv:look ρ d'=some (.bool (decide p)):=by rfl):Any x ops L fuel listed Q ρ ds F:=by
 by_cases hp:p
 ·have:=ht hp
  have e:look ρ d'=some (.bool true):=by rw[hv];simp[hp]
  unfold Any at this⊢
  rwa[Jr e]at this
 ·have:=hf hp
  have e:look ρ d'=some (.bool false):=by rw[hv];simp[hp]
  unfold Any at this⊢
  rwa[Jr e]at this
theorem Ops.RV{j d':Nat}{w b:Bool}{D:Option Tmp}(ht:b=true→Ops x ops (i::rest) Q ((d',.bool true)::ρ) ds F)(hf:b=false→Ops x ops (i::rest) Q ((d',.bool false)::ρ) ds F)(ho:cO ops.toList i=some ⟨D,op,ty,pos,bK,some (j,w)⟩:=by rfl)(hj:(cO ops.toList j).bind (·.dst)=some d':=by rfl)(hv:look ρ d'=some (.bool b):=by rfl):Ops x ops (i::rest) Q ρ ds F:=by
 have key:∀u:Bool,b=u→Ops x ops (i::rest) Q ((d',.bool u)::ρ) ds F→Ops x ops (i::rest) Q ρ ds F:=by
  intro u hu H b' k cs Stop tmps hk M h1 h0 h2 h3 h4 h5 hc
  refine H b' k cs Stop tmps hk M h1 h0 h2 (fun t y hy=>?_) h4 h5 hc
  rw[Jr (hu▸hv)]at hy
  exact h3 t y hy
 cases b with
 | true=>exact key true rfl (ht rfl)
 | false=>exact key false rfl (hf rfl)
variable{f:FuncId}{args:List Operand}{ts:Array TypeId}{vs:List Value}
theorem Va{fuel listed:Nat}{u:Value}(H:∀h',Ext x.h h'→fF F h'→Pu x.P x.main f vs.toArray h' u)(K:Any x ops L fuel (listed||| 2 ^ i) Q ((d,u)::ρ) ds F)(hS:lastT ops i=true∨Keeps L F:=by first | exact .inr (by repeat(first | exact fun _ h=>h | apply Keeps.cons | apply Keeps.app)) | exact .inl (by kernel_rfl))
  (ho:cO ops.toList i=some ⟨some d,.call ⟨.value (.func f),args.toArray,ts⟩,ty,pos,bK,g⟩:=by rfl) [FB x.P f] (hv:evs ρ args=some vs:=by rfl)
  (hw:dR ops (look ρ) ⟨some d,.call ⟨.value (.func f),args.toArray,ts⟩,ty,pos,bK,g⟩ true:=by first | exact an | exact b_ rfl rfl rfl rfl) (hd:Nat.blt d x.n=true:=by rfl) (hr:qx ops listed=[i]:=by kernel_rfl):Any x ops L (fuel+1) listed Q ρ ds F:=
 Any.eff (o:=⟨some d,.call ⟨.value (.func f),args.toArray,ts⟩,ty,pos,bK,g⟩) (lQ rfl hv H fun v A' hv=>by
  obtain⟨rfl,hs⟩:=hv
  exact⟨hS.imp id fun k p hp=>List.mem_append_right _ (k p hp),Any.sb (Sb.left .refl hs) K⟩) hr (aU ho) hw hd rfl
end
section
variable{x:Cx}{Q Q':Post}{ρ:Env}{ds:List Deferred}{F:eG}
theorem PG{K K':Env→List Deferred→eG→Prop}{e:Exit}{ρ:Env}{ds:List Deferred}{F:eG}(h:thn K Q e ρ ds F)(hk:∀ρ ds F,K ρ ds F→K' ρ ds F):thn K' Q e ρ ds F:=by
 cases e <;>first | exact hk _ _ _ h | exact h
theorem W.aa1{σ τ:Type}{c:Code}(C:σ→τ→Prop)(E:σ→τ→Env)(D:σ→τ→eG)(μ:σ→τ→Nat)(s₀:σ)(t₀:τ)(h₀:C s₀ t₀)(he:Sub (E s₀ t₀) ρ)(hF:Sb (D s₀ t₀) F)
  (round:∀s t,C s t→W x c (thn (fun ρ' ds' F'=>ds'=ds∧∃s' t',C s' t'∧μ s' t'<μ s t∧Sub (E s' t') ρ'∧Sb (D s' t') F') Q) (E s t) ds (D s t)):W x (.loop c) Q ρ ds F:=
 W.loop (σ:=σ×τ) (fun p=>C p.1 p.2) (fun p=>E p.1 p.2) (fun p=>D p.1 p.2) (fun p=>μ p.1 p.2) (s₀,t₀) h₀ he hF fun p h=>(round p.1 p.2 h).mono fun _ _ _ _ q=>PG q fun _ _ _ ⟨e,s',t',h1⟩=>⟨e,(s',t'),h1⟩
theorem W.Js{σ τ υ:Type}{c:Code}(C:σ→τ→υ→Prop)(E:σ→τ→υ→Env)(D:σ→τ→υ→eG)(μ:σ→τ→υ→Nat)(s₀:σ)(t₀:τ)(u₀:υ)(h₀:C s₀ t₀ u₀)(he:Sub (E s₀ t₀ u₀) ρ)(hF:Sb (D s₀ t₀ u₀) F)
  (round:∀s t u,C s t u→W x c (thn (fun ρ' ds' F'=>ds'=ds∧∃s' t' u',C s' t' u'∧μ s' t' u'<μ s t u∧Sub (E s' t' u') ρ'∧Sb (D s' t' u') F') Q) (E s t u) ds (D s t u)):W x (.loop c) Q ρ ds F:=
 W.loop (σ:=σ×τ×υ) (fun p=>C p.1 p.2.1 p.2.2) (fun p=>E p.1 p.2.1 p.2.2) (fun p=>D p.1 p.2.1 p.2.2) (fun p=>μ p.1 p.2.1 p.2.2) (s₀,t₀,u₀) h₀ he hF fun p h=>(round p.1 p.2.1 p.2.2 h).mono fun _ _ _ _ q=>PG q fun _ _ _ ⟨e,s',t',u',h1⟩=>⟨e,(s',t',u'),h1⟩
end
theorem Part.Bo{α:Type}{row:α→List Value}{w:Nat}[Rw row w]{c:Array Value}{off i:Nat}{l:List α}{p:α}(h:Part c off (flat row l))(hi:l[i]? =some p)(k:Nat)(hk:k<w):c[off+i*w+k]? =(row p)[k]? :=
 (h.rowP hi).get (by rw[Rw.len];exact hk)

theorem Sl.at{α:Type}{row:α→List Value}{w:Nat}[Rw row w]{h:Hp}{a:Option Addr}{n cap:Nat}{l:List α}{i:Nat}{p:α}(H:Sl h row (.slice a n cap) l)(hi:l[i]? =some p):
  ∃b off c E fz,a=some ⟨b,off,none⟩∧h b=some (.cells c E fz)∧c.extract (off+i*w) (off+i*w+w)=(row p).toArray∧off+i*w+w≤c.size∧∀k,k<w→c[off+i*w+k]? =(row p)[k]? :=by
 have hne:l≠[]:=by rintro rfl;simp at hi
 obtain⟨a',cap',e,hx⟩:=H
 cases e
 obtain⟨b,off,c,E,fz,rfl,hb,hp⟩:=hx hne
 obtain⟨h1,h2⟩:=hp.abd hi
 exact⟨b,off,c,E,fz,rfl,hb,h1,h2,fun k hk=>hp.Bo hi k hk⟩
theorem has{α:Type}{l:List α}{i:Nat}(h:i<l.length):∃p,l[i]? =some p∧l.drop i=p::l.drop (i+1):=⟨l[i],List.getElem?_eq_getElem h,(List.getElem_cons_drop ..).symm⟩
theorem Sl.dA{α:Type}{row:α→List Value}{w:Nat}[Rw row w]{h:Hp}{v:Value}{l:List α}(H:Sl h row v l):∃a cap,v= .slice a l.length cap:=by
 obtain⟨a,cap,e,_⟩:=H
 exact⟨a,cap,e⟩

theorem TW{A B:eG}(h:Sb A B:=by repeat(first | exact Sb.refl | apply Sb.cons | refine Sb.skip rfl ?_ | exact Sb.nil (by assumption))):Sb A B:=h
end Go.aS

/- More laws: slices of arrays, copy, arrays of zeros, results in cells. Conditions: none; over any program. -/
namespace Go.aS
section rules
variable{x:Cx}{Q:Post}{ρ:Env}{ds:List Deferred}{F:eG}{ops:Array Oper}{S:eG→Prop}{i:Nat}{rest:List Nat}{o:Oper}{v:Value}{R:Value→eG→Prop}
theorem aCE{t n E s by':Nat}{z:Value}{zc:Array Value}{y:Operand}{b off:Nat}(ho:o.op= .slice t y none none none)[TD x.P t (.array n E)][TI x.P E s by' z zc](hy:ev ρ y=some (.pointer (some ⟨b,off,none⟩))):Yv x S ρ o (.slice (some ⟨b,off,none⟩) n n):=fun e he F hF h' hE=>by
 simp only[execOp,ho,he y _ hy,Instr.sliceAt,Instr.sureAddr,Instr.sliceBounds,bind_eq,gq,bind_assoc,bind_pure,Option.map_none,aC,dH,Nat.zero_mul,jE,Nat.add_zero,ite_self,Nat.sub_zero]
 exact⟨rfl,rfl⟩
theorem NJ{t n E s by':Nat}{z:Value}{zc:Array Value}{y hi:Operand}{b off:Nat}{k:IntKind}{m:Nat}(ho:o.op= .slice t y none (some hi) none)[TD x.P t (.array n E)][TI x.P E s by' z zc](hy:ev ρ y=some (.pointer (some ⟨b,off,none⟩)))(hh:ev ρ hi=some (.int k (m:Int)))(hm:m≤n:=by omega):Yv x S ρ o (.slice (some ⟨b,off,none⟩) m n):=fun e he F hF h' hE=>by
 have e1:(0:Int)≤m∧(m:Int)≤n:=by omega
 simp only[execOp,ho,he y _ hy,he hi _ hh,Instr.sliceAt,Instr.sureAddr,Instr.sliceBounds,Instr.sliceBound,asIntOf,bind_eq,gq,bind_assoc,bind_pure,Option.map_none,Option.map_some,aC,dH,if_pos e1,Int.toNat_natCast,Nat.zero_mul,jE,Nat.add_zero,ite_self,Nat.sub_zero]
 exact⟨rfl,rfl⟩
theorem avI{α:Type}{row:α→List Value}{w:Nat}[Rw row w]{t t' E by':Nat}{z:Value}{zc:Array Value}{y yx:Operand}{xv:Value}{b off n cap:Nat}{c:Array Value}{C:TypeId}{l:List α}{U:Obj→eG}(ho:o.op= .call ⟨.builtin .copy, #[y,yx], #[t,t']⟩)[TD x.P t (.slice E)][TI x.P E w by' z zc]
  (hy:ev ρ y=some (.slice (some ⟨b,off,none⟩) n cap)) (hx:ev ρ yx=some xv) (hs:Sl x.h row xv l) (hle:l.length≤n) (hl:At b (.cells c C (0,0)) F U) (hc:off+l.length*w≤c.size)
  (H:R (.int .i64 l.length) (U (.cells (jv c off (flat row l)) C (0,0)))):Ef x ρ o F R:=
 Ef.xW fun e he h' hE=>by
  have hs':=Sl.ext hE hs
  obtain⟨a,cp,rfl⟩:=hs.dA
  have hmin:Nat.min l.length n=l.length:=Nat.min_eq_left hle
  simp only[execOp,ho,resolve,invoke,builtin,Builtin.copy_,List.map_toArray,List.map_cons,List.map_nil,he y _ hy,he yx _ hx,List.getElem?_toArray,List.getElem?_cons_zero,List.getElem?_cons_succ,bind_eq,gq,bind_assoc,bind_pure,aC,Builtin.lenOf,dH,hmin]
  refine bJ (DU hs' ?_)
  refine bJ (kV (flat row l) 0 c (Lu l) hl (by rw[jT];omega) ?_)
  exact⟨_,.inl rfl,by simpa[goInt]using H⟩
end rules
theorem Ef.ZJ{x:Cx}{ρ:Env}{F:eG}{o:Oper}{v:Value}{R:Value→eG→Prop}(hy:Yv x (· =F) ρ o v)(H:R v F):Ef x ρ o F R:=fun e he=>
 ⟨F,[],by simp,fun h' e1 e2=>lM (hy e he F rfl h' e1) fun nx F' ⟨h1,h2⟩=>by
  subst h1 h2
  exact⟨F',by simp,H⟩⟩

section
variable{x:Cx}{Q:Post}{ρ:Env}{ds:List Deferred}{F:eG}{ops:Array Oper}{i:Nat}{rest:List Nat}{d:Tmp}{ty:TypeId}{pos:String}{bK:Array Edge}{g:Option (Nat×Bool)}{L:eG}
variable{args:List Operand}{ts:Array TypeId}{vs:List Value}{y:Operand}{fv u:Value}
abbrev PuV(P:Program)(main:Side)(fv:Value)(vs:List Value)(h:Hp)(u:Value):Prop:=gZ P main fv vs h [] (fun v A=>v=u∧Shut A)
theorem Xy{o:Oper}{R:Value→eG→Prop}(ho:o.op= .call ⟨.value y,args.toArray,ts⟩)(hy:ev ρ y=some fv)(hv:evs ρ args=some vs)(H:∀h',Ext x.h h'→fF F h'→PuV x.P x.main fv vs h' u)(K:∀A,Shut A→R u (A++F)):Ef x ρ o F R:=
 tJ ho hy hv (Seg.head (A:=[]) (G:=F)) H fun v A' hv=>by
  obtain⟨rfl,hs⟩:=hv
  exact K A' hs
theorem cv(H:∀h',Ext x.h h'→fF F h'→PuV x.P x.main fv vs h' u)(K:Ops x ops rest Q ((d,u)::ρ) ds F)(ho:cO ops.toList i=some ⟨some d,.call ⟨.value y,args.toArray,ts⟩,ty,pos,bK,g⟩:=by rfl)(hy:ev ρ y=some fv:=by rfl)(hv:evs ρ args=some vs:=by rfl)
  (hw:want ops ρ ⟨some d,.call ⟨.value y,args.toArray,ts⟩,ty,pos,bK,g⟩:=by first | exact wn | exact ak rfl rfl rfl) (hd:Nat.blt d x.n=true:=by rfl):Ops x ops (i::rest) Q ρ ds F:=
 Ops.eff (o:=⟨some d,.call ⟨.value y,args.toArray,ts⟩,ty,pos,bK,g⟩) (Xy rfl hy hv H fun A hs=>Ops.sb (Sb.left .refl hs) K) (aU ho) hw hd rfl
theorem acv{fuel listed:Nat}(H:∀h',Ext x.h h'→fF F h'→PuV x.P x.main fv vs h' u)(K:Any x ops L fuel (listed||| 2 ^ i) Q ((d,u)::ρ) ds F)(hS:lastT ops i=true∨Keeps L F:=by first | exact .inr (by repeat(first | exact fun _ h=>h | apply Keeps.cons | apply Keeps.app)) | exact .inl (by kernel_rfl))
  (ho:cO ops.toList i=some ⟨some d,.call ⟨.value y,args.toArray,ts⟩,ty,pos,bK,g⟩:=by rfl) (hy:ev ρ y=some fv:=by rfl) (hv:evs ρ args=some vs:=by rfl)
  (hw:dR ops (look ρ) ⟨some d,.call ⟨.value y,args.toArray,ts⟩,ty,pos,bK,g⟩ true:=by first | exact an | exact b_ rfl rfl rfl rfl) (hd:Nat.blt d x.n=true:=by rfl) (hr:qx ops listed=[i]:=by kernel_rfl):Any x ops L (fuel+1) listed Q ρ ds F:=
 Any.eff (o:=⟨some d,.call ⟨.value y,args.toArray,ts⟩,ty,pos,bK,g⟩) (Xy rfl hy hv H fun A hs=>⟨hS.imp id fun k p hp=>List.mem_append_right _ (k p hp),Any.sb (Sb.left .refl hs) K⟩) hr (aU ho) hw hd rfl
theorem Ops.noU{op:Op}{j d':Nat}{w:Bool}(H:Ops x ops rest Q ((d,undef)::ρ) ds F)(ho:cO ops.toList i=some ⟨some d,op,ty,pos,bK,some (j,w)⟩:=by rfl)(hj:(cO ops.toList j).bind (·.dst)=some d':=by rfl)(hv:look ρ d'=some undef:=by rfl)(hd:Nat.blt d x.n=true:=by rfl):Ops x ops (i::rest) Q ρ ds F:=by
 intro b k cs Stop tmps hk M h1 h0 h2 h3 h4 h5 hc
 have hj':(ops[j]?).bind (·.dst)=some d':=by rw[AO]at hj;simpa using hj
 have hw:Region.wanted ⟨some d,op,ty,pos,bK,some (j,w)⟩ (yielded ops tmps)=false:=by
  simp only[Region.wanted,yielded,hj',Option.bind_some,h3 d' _ hv]
  rfl
 obtain⟨p1,p2⟩:=h3.put' (o:=⟨some d,op,ty,pos,bK,some (j,w)⟩) h4 hd undef
 refine .idle rfl (fun _=>yZ (aU ho) hw) ?_
 rw[eY (cs:=cs) (aU ho) undef]
 exact H b k cs Stop _ _ _ h1 h0 h2 p1 p2 h5 hc
theorem Ops.NK{t E s b len:Nat}{z:Value}{zc:Array Value}{parts:List (Nat×Operand)}{cs:Array Value}(H:∀β,Ops x ops rest Q ((d,.slice (some ⟨β,0,none⟩) len len)::ρ) ds ((β,.cells cs E (0,0))::F))(ho:cO ops.toList i=some ⟨some d,.buildSlice t len parts.toArray,ty,pos,bK,g⟩:=by rfl)[TD x.P t (.slice E)][TI x.P E s b z zc](hv:evs ρ (parts.map (·.2))=some vs:=by rfl)(hls:0<len*s:=by decide)(hl:len*s≤2 ^ 24:=by decide)
  (hf:Instr.fill (fun i=>some (i*s,s)) ((List.range (len*s)).map (fun i=>zc[i % zc.size]!)).toArray ((parts.map (·.1)).zip vs)=some cs:=by rfl)
  (hw:want ops ρ ⟨some d,.buildSlice t len parts.toArray,ty,pos,bK,g⟩:=by first | exact wn | exact ak rfl rfl rfl) (hd:Nat.blt d x.n=true:=by rfl):Ops x ops (i::rest) Q ρ ds F:=
 Ops.eff (o:=⟨some d,.buildSlice t len parts.toArray,ty,pos,bK,g⟩) (DN rfl hv hls hl (by rw[show(Array.range (len*s)).map (zc[· % zc.size]!)=((List.range (len*s)).map (fun i=>zc[i % zc.size]!)).toArray by apply Array.ext';simp];exact hf) fun β _ _=>H β) (aU ho) hw hd rfl
theorem Ops.aeO{t E s b:Nat}{z:Value}{zc:Array Value}(H:∀β,Ops x ops rest Q ((d,.slice (some ⟨β,0,none⟩) 0 0)::ρ) ds ((β,.cells #[] E (0,0))::F))(ho:cO ops.toList i=some ⟨some d,.buildSlice t 0 #[],ty,pos,bK,g⟩:=by rfl)[TD x.P t (.slice E)][TI x.P E s b z zc]
  (hw:want ops ρ ⟨some d,.buildSlice t 0 #[],ty,pos,bK,g⟩:=by first | exact wn | exact ak rfl rfl rfl) (hd:Nat.blt d x.n=true:=by rfl):Ops x ops (i::rest) Q ρ ds F:=
 Ops.eff (o:=⟨some d,.buildSlice t 0 #[],ty,pos,bK,g⟩) (Kq rfl fun β _ _=>H β) (aU ho) hw hd rfl
theorem cgv{A:eG}{U:eG→eG}{R':Value→eG→Prop}(hs:Seg A F U)(H:∀h',Ext x.h h'→fF (U []) h'→gZ x.P x.main fv vs h' A R')(K:∀v A',R' v A'→Ops x ops rest Q ((d,v)::ρ) ds (U A'))(ho:cO ops.toList i=some ⟨some d,.call ⟨.value y,args.toArray,ts⟩,ty,pos,bK,g⟩:=by rfl)(hy:ev ρ y=some fv:=by rfl)(hv:evs ρ args=some vs:=by rfl)
  (hw:want ops ρ ⟨some d,.call ⟨.value y,args.toArray,ts⟩,ty,pos,bK,g⟩:=by first | exact wn | exact ak rfl rfl rfl) (hd:Nat.blt d x.n=true:=by rfl):Ops x ops (i::rest) Q ρ ds F:=
 Ops.eff (o:=⟨some d,.call ⟨.value y,args.toArray,ts⟩,ty,pos,bK,g⟩) (tJ rfl hy hv hs H fun v A' r=>K v A' r) (aU ho) hw hd rfl
theorem aKY{A:eG}:Seg A (A++[]) (· ++[]):=Seg.head
theorem cga{f:FuncId}{R':Value→eG→Prop}(H:∀h',Ext x.h h'→dV x.P x.main f vs.toArray h' F R')(K:∀v A',R' v A'→Ops x ops rest Q ((d,v)::ρ) ds A')(ho:cO ops.toList i=some ⟨some d,.call ⟨.value (.func f),args.toArray,ts⟩,ty,pos,bK,g⟩:=by rfl)[FB x.P f](hv:evs ρ args=some vs:=by rfl)
  (hw:want ops ρ ⟨some d,.call ⟨.value (.func f),args.toArray,ts⟩,ty,pos,bK,g⟩:=by first | exact wn | exact ak rfl rfl rfl) (hd:Nat.blt d x.n=true:=by rfl):Ops x ops (i::rest) Q ρ ds F:=
 Ops.perm (F':=F++[]) (by simp) (cg aKY (fun h' e _=>H h' e) (fun v A' r=>Ops.perm (F':=A') (by simp) (K v A' r)) ho hv hw hd)
theorem a2{fuel listed i j d d':Nat}{op op':Op}{ty':TypeId}{pos':String}{RJ:Array Edge}{g':Option (Nat×Bool)}{v w:Value}(ho:cO ops.toList i=some ⟨some d,op,ty,pos,bK,g⟩)(ho':cO ops.toList j=some ⟨some d',op',ty',pos',RJ,g'⟩)
  (hy:Yv x (· =F) ρ ⟨some d,op,ty,pos,bK,g⟩ v) (hy2:Yv x (· =F) ((d',w)::ρ) ⟨some d,op,ty,pos,bK,g⟩ v) (hy':Yv x (· =F) ρ ⟨some d',op',ty',pos',RJ,g'⟩ w) (aeP:Yv x (· =F) ((d,v)::ρ) ⟨some d',op',ty',pos',RJ,g'⟩ w)
  (hw:dR ops (look ρ) ⟨some d,op,ty,pos,bK,g⟩ true) (hw2:dR ops (look ((d',w)::ρ)) ⟨some d,op,ty,pos,bK,g⟩ true) (hw':dR ops (look ρ) ⟨some d',op',ty',pos',RJ,g'⟩ true) (aeQ:dR ops (look ((d,v)::ρ)) ⟨some d',op',ty',pos',RJ,g'⟩ true)
  (hd:Nat.blt d x.n=true) (hd':Nat.blt d' x.n=true) (hn:QS op=true) (hn':QS op'=true)
  (H:Any x ops [] fuel ((listed||| 2 ^ i)||| 2 ^ j) Q ((d',w)::(d,v)::ρ) ds F) (hne:Nat.beq d d'=false:=by rfl)
  (hr:qx ops listed=[i,j]:=by kernel_rfl) (hr1:qx ops (listed||| 2 ^ i)=[j]:=by kernel_rfl) (hr2:qx ops (listed||| 2 ^ j)=[i]:=by kernel_rfl):Any x ops [] (fuel+2) listed Q ρ ds F:=by
 have hk:∀F:eG,Keeps [] F:=fun _ p hp=>by cases hp
 refine Any.WB (o:=⟨some d,op,ty,pos,bK,g⟩) (o':=⟨some d',op',ty',pos',RJ,g'⟩) hr (aU ho) (aU ho') hw hw' hd hd' hn hn' (Ef.ZJ hy ⟨.inr (hk _),?_⟩) (Ef.ZJ hy' ⟨.inr (hk _),?_⟩)
 ·exact Any.eff (o:=⟨some d',op',ty',pos',RJ,g'⟩) (Ef.ZJ aeP ⟨.inr (hk _),H⟩) hr1 (aU ho') aeQ hd' hn'
 ·refine Any.eff (o:=⟨some d,op,ty,pos,bK,g⟩) (Ef.ZJ hy2 ⟨.inr (hk _),?_⟩) hr2 (aU ho) hw2 hd hn
  have e1:(listed||| 2 ^ j)||| 2 ^ i=(listed||| 2 ^ i)||| 2 ^ j:=by rw[Nat.or_assoc,Nat.or_comm (2 ^ j),←Nat.or_assoc]
  have e2:look ((d,v)::(d',w)::ρ)=look ((d',w)::(d,v)::ρ):=by
   funext t
   show(bif Nat.beq t d then some v else bif Nat.beq t d' then some w else look ρ t)=(bif Nat.beq t d' then some w else bif Nat.beq t d then some v else look ρ t)
   cases h1:Nat.beq t d with
   | false=>rfl
   | true=>
    have:t=d:=Nat.eq_of_beq_eq_true h1
    subst this
    rw[hne];rfl
  rw[e1]
  unfold Any at H⊢
  show DI _ _ _ _ _ _ (look ((d,v)::(d',w)::ρ)) _
  rw[e2]
  exact H
end
/-! ### Results that lie in cells -/
section
variable{P:Program}{h:Hp}{F:eG}{ρ:Env}{r:List ResultVar}{vs:List Value}
theorem zJ:rD P h F [] ρ []:=rfl
theorem RN{t:Tmp}{v:Value}(H:rD P h F r ρ vs)(hv:look ρ t=some v:=by rfl):rD P h F (.tmp t::r) ρ (v::vs):=⟨v,vs,rfl,hv,H⟩
theorem D_{a:Tmp}{t n b:Nat}{c:Array Value}{E:TypeId}{fz:Nat×Nat}(H:rD P h F r ρ vs)[i:AG P t n](ha:look ρ a=some (.pointer (some ⟨b,0,none⟩)):=by rfl)(hl:(b,Obj.cells c E fz)∈F:=by repeat(first | exact List.Mem.head _ | apply List.Mem.tail))(hn:c.size=n:=by first | rfl | assumption):rD P h F (.cell a t::r) ρ (.agg c::vs):=
 ⟨_,vs,b,0,c,E,fz,rfl,ha,.inr hl,.inr ⟨n,i,by omega,by congr 1;apply Array.ext';simp[←hn]⟩,H⟩
theorem rSc{a:Tmp}{t b:Nat}{v:Value}{c:Array Value}{E:TypeId}{fz:Nat×Nat}(H:rD P h F r ρ vs)[i:SC P t](ha:look ρ a=some (.pointer (some ⟨b,0,none⟩)):=by rfl)(hl:(b,Obj.cells c E fz)∈F:=by repeat(first | exact List.Mem.head _ | apply List.Mem.tail))(hv:c[0]? =some v:=by first | rfl | assumption):rD P h F (.cell a t::r) ρ (v::vs):=
 ⟨v,vs,b,0,c,E,fz,rfl,ha,.inr hl,.inl ⟨i,hv⟩,H⟩
variable{main:Side}{fn:Func}{R:Value→eG→Prop}{e:Exit}
theorem QJ(hR:R (pack vs) F)(he:e= .ret∨e= .normal:=by first | exact .inl rfl | exact .inr rfl)(hv:rD P h F fn.results.toList ρ vs:=by(repeat(first | exact zJ | refine RN ?_ | refine D_ ?_ | refine rSc ?_))):leave P main fn h R e ρ [] F:=
 OV he (by simp) hv hR
end
end Go.aS

/- What plants, plans and floors are, in numbers; what the checks answer. Conditions: none. -/
namespace Go.aS
abbrev I(n:Int):Value:=.int .i64 n
structure Fl where
 (pl lo hi co:Int)
 deriving DecidableEq
structure St where
 (day co wa:Int)
 deriving DecidableEq
structure Be where
 (fl day:Int)
 deriving DecidableEq
def Fl.row(f:Fl):List Value:=[I f.pl,I f.lo,I f.hi,I f.co]
def St.row(f:St):List Value:=[I f.day,I f.co,I f.wa]
def Be.row(f:Be):List Value:=[I f.fl,I f.day]
abbrev Fl.val(f:Fl):Value:=.agg #[I f.pl,I f.lo,I f.hi,I f.co]
abbrev St.val(f:St):Value:=.agg #[I f.day,I f.co,I f.wa]
abbrev Be.val(f:Be):Value:=.agg #[I f.fl,I f.day]
instance:Rw Fl.row 4:=⟨fun _=>rfl,fun _=>rfl⟩
instance:Rw St.row 3:=⟨fun _=>rfl,fun _=>rfl⟩
instance:Rw Be.row 2:=⟨fun _=>rfl,fun _=>rfl⟩

def outs(n lo hi:Int):Prop:=n<lo∨hi<n
instance{n lo hi:Int}:Decidable (outs n lo hi):=inferInstanceAs (Decidable (_∨_))

def awO(f:Fl):Int:=
 if outs f.pl 1 9∨outs f.lo 1 6∨outs f.hi 1 6 then 1 else if f.hi<f.lo then 5 else if outs f.co 0 9 then 1 else 0
def aw6:List Fl→Int
 | []=>0
 | f::r=>if awO f=0 then aw6 r else awO f
def asc(before:Int)(s:St):Int:=if outs s.day 0 12∨outs s.co 1 6∨outs s.wa 0 3 then 1 else if s.day<before then 5 else 0
def U8:Int→List St→Int
 | _,[]=>0
 | b,s::r=>if asc b s=0 then U8 s.day r else asc b s
def Y2(fs:List Fl)(ss:List St):Int:=
 if fs.length=0 then 7 else if 2<fs.length then 6 else if aw6 fs≠0 then aw6 fs else if 4<ss.length then 6 else U8 0 ss

/-! ### Plans -/
abbrev adu(p:List Be):Value:=.agg (flat Be.row p).toArray
def TL:Be:=⟨-1,0⟩
def aw5(l:List Be):List Be:=l++List.replicate (4-l.length) TL
theorem aC5{l:List Be}(h:l.length≤4):(aw5 l).length=4:=by simp[aw5];omega
def aBz(k:Nat):Array Value:=(flat Be.row (List.replicate k ⟨-1,0⟩++List.replicate (4-k) ⟨0,0⟩)).toArray
theorem aIa{l:List Be}(h:l.length≤4):jv (aBz 4) 0 (flat Be.row l)=(flat Be.row (aw5 l)).toArray:=by
 match l,h with
 | [],_=>simp[aBz,aw5,flat,jv,Be.row,List.replicate,TL]
 | [a],_=>simp[aBz,aw5,flat,jv,Be.row,List.replicate,TL]
 | [a,b],_=>simp[aBz,aw5,flat,jv,Be.row,List.replicate,TL]
 | [a,b,c],_=>simp[aBz,aw5,flat,jv,Be.row,List.replicate,TL]
 | [a,b,c,d],_=>simp[aBz,aw5,flat,jv,Be.row,List.replicate,TL]
 | a::b::c::d::e::r,h=>simp at h

abbrev afZ:Value:=adu [⟨0,0⟩,⟨0,0⟩,⟨0,0⟩,⟨0,0⟩]
end Go.aS

/- The types and functions of the program, as facts. Conditions: none. -/
namespace Go.Proofs.YtahkljmgmgacjabGreatDoor
open Go Go.aS
set_option maxRecDepth 100000
instance:TD Tryz.prog 3 (.int .i64):=⟨Tryz.underlying3⟩
instance:SC Tryz.prog 3:=⟨by kernel_rfl⟩
instance:TI Tryz.prog 3 1 8 (.int .i64 0) #[(.int .i64 0)]:=⟨by kernel_rfl,rfl⟩
instance:SC Tryz.prog 4:=⟨by kernel_rfl⟩
instance:TI Tryz.prog 4 1 1 (.bool false) #[(.bool false)]:=⟨by kernel_rfl,rfl⟩
instance:TD Tryz.prog 20 (.interface #[]):=⟨Tryz.underlying20⟩
instance:TD Tryz.prog 22 (.slice 3):=⟨Tryz.underlying22⟩
instance:SC Tryz.prog 22:=⟨by kernel_rfl⟩
instance:TI Tryz.prog 22 1 24 (.slice none 0 0) #[(.slice none 0 0)]:=⟨by kernel_rfl,rfl⟩
instance:TD Tryz.prog 25 (.slice 32):=⟨Tryz.underlying25⟩
instance:SC Tryz.prog 25:=⟨by kernel_rfl⟩
instance:TI Tryz.prog 25 1 24 (.slice none 0 0) #[(.slice none 0 0)]:=⟨by kernel_rfl,rfl⟩
instance:TD Tryz.prog 26 (.slice 64):=⟨Tryz.underlying26⟩
instance:SC Tryz.prog 26:=⟨by kernel_rfl⟩
instance:TI Tryz.prog 26 1 24 (.slice none 0 0) #[(.slice none 0 0)]:=⟨by kernel_rfl,rfl⟩
instance:AG Tryz.prog 28 5:=⟨by kernel_rfl,by kernel_rfl⟩
instance:TI Tryz.prog 28 5 120 (.agg #[(.slice none 0 0),(.slice none 0 0),(.slice none 0 0),(.slice none 0 0),(.slice none 0 0)]) #[(.slice none 0 0),(.slice none 0 0),(.slice none 0 0),(.slice none 0 0),(.slice none 0 0)]:=⟨by kernel_rfl,rfl⟩
instance:FA Tryz.prog 28 0 0 25:=⟨0,by kernel_rfl⟩
instance:FA Tryz.prog 28 1 1 22:=⟨0,by kernel_rfl⟩
instance:FA Tryz.prog 28 2 2 22:=⟨0,by kernel_rfl⟩
instance:FA Tryz.prog 28 3 3 25:=⟨0,by kernel_rfl⟩
instance:FA Tryz.prog 28 4 4 26:=⟨0,by kernel_rfl⟩
instance:BP Tryz.prog 28 [(0,1),(1,1),(2,1),(3,1),(4,1)]:=⟨by kernel_rfl⟩
instance:AG Tryz.prog 32 2:=⟨by kernel_rfl,by kernel_rfl⟩
instance:TI Tryz.prog 32 2 16 (.agg #[(.int .i64 0),(.int .i64 0)]) #[(.int .i64 0),(.int .i64 0)]:=⟨by kernel_rfl,rfl⟩
instance:FA Tryz.prog 32 0 0 3:=⟨0,by kernel_rfl⟩
instance:FA Tryz.prog 32 1 1 3:=⟨0,by kernel_rfl⟩
instance:BP Tryz.prog 32 [(0,1),(1,1)]:=⟨by kernel_rfl⟩
instance:AG Tryz.prog 34 4:=⟨by kernel_rfl,by kernel_rfl⟩
instance:TI Tryz.prog 34 4 32 (.agg #[(.int .i64 0),(.int .i64 0),(.int .i64 0),(.int .i64 0)]) #[(.int .i64 0),(.int .i64 0),(.int .i64 0),(.int .i64 0)]:=⟨by kernel_rfl,rfl⟩
instance:FA Tryz.prog 34 0 0 3:=⟨0,by kernel_rfl⟩
instance:FA Tryz.prog 34 1 1 32:=⟨1,by kernel_rfl⟩
instance:FA Tryz.prog 34 2 3 3:=⟨0,by kernel_rfl⟩
instance:BP Tryz.prog 34 [(0,1),(1,2),(3,1)]:=⟨by kernel_rfl⟩
instance:TD Tryz.prog 36 (.slice 34):=⟨Tryz.underlying36⟩
instance:SC Tryz.prog 36:=⟨by kernel_rfl⟩
instance:TD Tryz.prog 37 (.slice 46):=⟨Tryz.underlying37⟩
instance:SC Tryz.prog 37:=⟨by kernel_rfl⟩
instance:TI Tryz.prog 37 1 24 (.slice none 0 0) #[(.slice none 0 0)]:=⟨by kernel_rfl,rfl⟩
instance:AG Tryz.prog 39 2:=⟨by kernel_rfl,by kernel_rfl⟩
instance:TI Tryz.prog 39 2 48 (.agg #[(.slice none 0 0),(.slice none 0 0)]) #[(.slice none 0 0),(.slice none 0 0)]:=⟨by kernel_rfl,rfl⟩
instance:FA Tryz.prog 39 0 0 36:=⟨0,by kernel_rfl⟩
instance:FA Tryz.prog 39 1 1 37:=⟨0,by kernel_rfl⟩
instance:BP Tryz.prog 39 [(0,1),(1,1)]:=⟨by kernel_rfl⟩
instance:TD Tryz.prog 41 (.slice 22):=⟨Tryz.underlying41⟩
instance:AG Tryz.prog 46 3:=⟨by kernel_rfl,by kernel_rfl⟩
instance:TI Tryz.prog 46 3 24 (.agg #[(.int .i64 0),(.int .i64 0),(.int .i64 0)]) #[(.int .i64 0),(.int .i64 0),(.int .i64 0)]:=⟨by kernel_rfl,rfl⟩
instance:FA Tryz.prog 46 0 0 3:=⟨0,by kernel_rfl⟩
instance:FA Tryz.prog 46 1 1 3:=⟨0,by kernel_rfl⟩
instance:FA Tryz.prog 46 2 2 3:=⟨0,by kernel_rfl⟩
instance:BP Tryz.prog 46 [(0,1),(1,1),(2,1)]:=⟨by kernel_rfl⟩
instance:TD Tryz.prog 47 (.slice 51):=⟨Tryz.underlying47⟩
instance:SC Tryz.prog 47:=⟨by kernel_rfl⟩
instance:AG Tryz.prog 51 2:=⟨by kernel_rfl,by kernel_rfl⟩
instance:TI Tryz.prog 51 2 16 (.agg #[(.int .i64 0),(.int .i64 0)]) #[(.int .i64 0),(.int .i64 0)]:=⟨by kernel_rfl,rfl⟩
instance:FA Tryz.prog 51 0 0 3:=⟨0,by kernel_rfl⟩
instance:FA Tryz.prog 51 1 1 3:=⟨0,by kernel_rfl⟩
instance:BP Tryz.prog 51 [(0,1),(1,1)]:=⟨by kernel_rfl⟩
instance:TD Tryz.prog 56 (.int .u64):=⟨Tryz.underlying56⟩
instance:SC Tryz.prog 56:=⟨by kernel_rfl⟩
instance:TI Tryz.prog 56 1 8 (.int .u64 0) #[(.int .u64 0)]:=⟨by kernel_rfl,rfl⟩
instance:TI Tryz.prog 58 3 40 (.agg #[(.slice none 0 0),(.int .i64 0),(.int .u64 0)]) #[(.slice none 0 0),(.int .i64 0),(.int .u64 0)]:=⟨by kernel_rfl,rfl⟩
instance:FA Tryz.prog 58 0 0 22:=⟨0,by kernel_rfl⟩
instance:FA Tryz.prog 58 1 1 3:=⟨0,by kernel_rfl⟩
instance:FA Tryz.prog 58 2 2 56:=⟨0,by kernel_rfl⟩
instance:BP Tryz.prog 58 [(0,1),(1,1),(2,1)]:=⟨by kernel_rfl⟩
instance:AG Tryz.prog 64 3:=⟨by kernel_rfl,by kernel_rfl⟩
instance:TI Tryz.prog 64 3 24 (.agg #[(.int .i64 0),(.int .i64 0),(.int .i64 0)]) #[(.int .i64 0),(.int .i64 0),(.int .i64 0)]:=⟨by kernel_rfl,rfl⟩
instance:FA Tryz.prog 64 0 0 3:=⟨0,by kernel_rfl⟩
instance:FA Tryz.prog 64 1 1 3:=⟨0,by kernel_rfl⟩
instance:FA Tryz.prog 64 2 2 3:=⟨0,by kernel_rfl⟩
instance:BP Tryz.prog 64 [(0,1),(1,1),(2,1)]:=⟨by kernel_rfl⟩
instance:SC Tryz.prog 67:=⟨by kernel_rfl⟩
instance:TI Tryz.prog 67 1 8 (.pointer none) #[(.pointer none)]:=⟨by kernel_rfl,rfl⟩
instance:SC Tryz.prog 70:=⟨by kernel_rfl⟩
instance:TI Tryz.prog 70 1 1 (.int .u8 0) #[(.int .u8 0)]:=⟨by kernel_rfl,rfl⟩
instance:TD Tryz.prog 75 (.slice 83):=⟨Tryz.underlying75⟩
instance:SC Tryz.prog 75:=⟨by kernel_rfl⟩
instance:TI Tryz.prog 75 1 24 (.slice none 0 0) #[(.slice none 0 0)]:=⟨by kernel_rfl,rfl⟩
instance:AG Tryz.prog 77 2:=⟨by kernel_rfl,by kernel_rfl⟩
instance:TI Tryz.prog 77 2 32 (.agg #[(.int .i64 0),(.slice none 0 0)]) #[(.int .i64 0),(.slice none 0 0)]:=⟨by kernel_rfl,rfl⟩
instance:FA Tryz.prog 77 0 0 3:=⟨0,by kernel_rfl⟩
instance:FA Tryz.prog 77 1 1 75:=⟨0,by kernel_rfl⟩
instance:AG Tryz.prog 79 2:=⟨by kernel_rfl,by kernel_rfl⟩
instance:TI Tryz.prog 79 2 48 (.agg #[(.slice none 0 0),(.slice none 0 0)]) #[(.slice none 0 0),(.slice none 0 0)]:=⟨by kernel_rfl,rfl⟩
instance:FA Tryz.prog 79 0 0 39:=⟨1,by kernel_rfl⟩
instance:BP Tryz.prog 79 [(0,2)]:=⟨by kernel_rfl⟩
instance:TD Tryz.prog 83 (.array 4 51):=⟨Tryz.underlying83⟩
instance:AG Tryz.prog 83 8:=⟨by kernel_rfl,by kernel_rfl⟩
instance:TI Tryz.prog 83 8 64 (.agg #[(.int .i64 0),(.int .i64 0),(.int .i64 0),(.int .i64 0),(.int .i64 0),(.int .i64 0),(.int .i64 0),(.int .i64 0)]) #[(.int .i64 0),(.int .i64 0),(.int .i64 0),(.int .i64 0),(.int .i64 0),(.int .i64 0),(.int .i64 0),(.int .i64 0)]:=⟨by kernel_rfl,rfl⟩
instance:TD Tryz.prog 92 (.map 96 99):=⟨Tryz.underlying92⟩
instance:SC Tryz.prog 92:=⟨by kernel_rfl⟩
instance:TI Tryz.prog 94 6 128 (.agg #[(.slice none 0 0),(.slice none 0 0),(.slice none 0 0),(.slice none 0 0),(.slice none 0 0),(.map none)]) #[(.slice none 0 0),(.slice none 0 0),(.slice none 0 0),(.slice none 0 0),(.slice none 0 0),(.map none)]:=⟨by kernel_rfl,rfl⟩
instance:FA Tryz.prog 94 0 0 28:=⟨4,by kernel_rfl⟩
instance:FA Tryz.prog 94 1 5 92:=⟨0,by kernel_rfl⟩
instance:BP Tryz.prog 94 [(0,5),(5,1)]:=⟨by kernel_rfl⟩
instance:TD Tryz.prog 96 (.array 5 3):=⟨Tryz.underlying96⟩
instance:AG Tryz.prog 96 5:=⟨by kernel_rfl,by kernel_rfl⟩
instance:TI Tryz.prog 96 5 40 (.agg #[(.int .i64 0),(.int .i64 0),(.int .i64 0),(.int .i64 0),(.int .i64 0)]) #[(.int .i64 0),(.int .i64 0),(.int .i64 0),(.int .i64 0),(.int .i64 0)]:=⟨by kernel_rfl,rfl⟩
instance:TD Tryz.prog 97 (.array 3 32):=⟨Tryz.underlying97⟩
instance:AG Tryz.prog 99 12:=⟨by kernel_rfl,by kernel_rfl⟩
instance:TI Tryz.prog 99 12 96 (.agg #[(.int .i64 0),(.int .i64 0),(.int .i64 0),(.int .i64 0),(.int .i64 0),(.int .i64 0),(.int .i64 0),(.int .i64 0),(.int .i64 0),(.int .i64 0),(.int .i64 0),(.int .i64 0)]) #[(.int .i64 0),(.int .i64 0),(.int .i64 0),(.int .i64 0),(.int .i64 0),(.int .i64 0),(.int .i64 0),(.int .i64 0),(.int .i64 0),(.int .i64 0),(.int .i64 0),(.int .i64 0)]:=⟨by kernel_rfl,rfl⟩
instance:FA Tryz.prog 99 0 0 96:=⟨4,by kernel_rfl⟩
instance:FA Tryz.prog 99 1 5 97:=⟨5,by kernel_rfl⟩
instance:FA Tryz.prog 99 2 11 3:=⟨0,by kernel_rfl⟩
instance:BP Tryz.prog 99 [(0,5),(5,6),(11,1)]:=⟨by kernel_rfl⟩
instance:TD Tryz.prog 104 (.map 83 4):=⟨Tryz.underlying104⟩
instance:AG Tryz.prog 107 3:=⟨by kernel_rfl,by kernel_rfl⟩
instance:TI Tryz.prog 107 3 56 (.agg #[(.slice none 0 0),(.slice none 0 0),.nilFunc]) #[(.slice none 0 0),(.slice none 0 0),.nilFunc]:=⟨by kernel_rfl,rfl⟩
instance:FA Tryz.prog 107 0 0 79:=⟨1,by kernel_rfl⟩
instance:FA Tryz.prog 107 1 2 105:=⟨0,by kernel_rfl⟩
instance:BP Tryz.prog 107 [(0,2),(2,1)]:=⟨by kernel_rfl⟩
instance:TD Tryz.prog 115 (.array 3 3):=⟨Tryz.underlying115⟩
instance:TI Tryz.prog 115 3 24 (.agg #[(.int .i64 0),(.int .i64 0),(.int .i64 0)]) #[(.int .i64 0),(.int .i64 0),(.int .i64 0)]:=⟨by kernel_rfl,rfl⟩
instance:TD Tryz.prog 123 (.slice 127):=⟨Tryz.underlying123⟩
instance:SC Tryz.prog 123:=⟨by kernel_rfl⟩
instance:TI Tryz.prog 123 1 24 (.slice none 0 0) #[(.slice none 0 0)]:=⟨by kernel_rfl,rfl⟩
instance:TD Tryz.prog 127 (.chan .both 83):=⟨Tryz.underlying127⟩
instance:SC Tryz.prog 127:=⟨by kernel_rfl⟩
instance:TI Tryz.prog 127 1 8 (.chan none) #[(.chan none)]:=⟨by kernel_rfl,rfl⟩
instance:TD Tryz.prog 139 (.interface #[("Error",198)]):=⟨Tryz.underlying139⟩
instance:SC Tryz.prog 142:=⟨by kernel_rfl⟩
instance:TD Tryz.prog 149 (.interface #[("muscovado/floor.day",155)]):=⟨Tryz.underlying149⟩
instance:SC Tryz.prog 149:=⟨by kernel_rfl⟩
instance:TI Tryz.prog 149 1 16 .nilIface #[.nilIface]:=⟨by kernel_rfl,rfl⟩
instance:AG Tryz.prog 152 2:=⟨by kernel_rfl,by kernel_rfl⟩
instance:TI Tryz.prog 152 2 24 (.agg #[.nilIface,(.int .i64 0)]) #[.nilIface,(.int .i64 0)]:=⟨by kernel_rfl,rfl⟩
instance:FA Tryz.prog 152 0 0 149:=⟨0,by kernel_rfl⟩
instance:BP Tryz.prog 152 [(0,1),(1,1)]:=⟨by kernel_rfl⟩
instance:SC Tryz.prog 154:=⟨by kernel_rfl⟩
instance:TD Tryz.prog 157 (.array 22 32):=⟨Tryz.underlying157⟩
instance:AG Tryz.prog 157 44:=⟨by kernel_rfl,by kernel_rfl⟩
instance:TI Tryz.prog 163 1 8 (.agg #[(.int .i64 0)]) #[(.int .i64 0)]:=⟨by kernel_rfl,rfl⟩
instance:FA Tryz.prog 163 0 0 3:=⟨0,by kernel_rfl⟩
instance:BP Tryz.prog 163 [(0,1)]:=⟨by kernel_rfl⟩
instance:TI Tryz.prog 167 1 8 (.agg #[(.int .i64 0)]) #[(.int .i64 0)]:=⟨by kernel_rfl,rfl⟩
instance:FA Tryz.prog 167 0 0 3:=⟨0,by kernel_rfl⟩
instance:BP Tryz.prog 167 [(0,1)]:=⟨by kernel_rfl⟩
instance:AG Tryz.prog 171 3:=⟨by kernel_rfl,by kernel_rfl⟩
instance:TI Tryz.prog 171 3 24 (.agg #[(.pointer none),(.pointer none),(.int .u64 0)]) #[(.pointer none),(.pointer none),(.int .u64 0)]:=⟨by kernel_rfl,rfl⟩
instance:SC Tryz.prog 174:=⟨by kernel_rfl⟩
instance:FB Tryz.prog 4:=⟨by kernel_rfl⟩
instance:FB Tryz.prog 5:=⟨by kernel_rfl⟩
instance:FB Tryz.prog 6:=⟨by kernel_rfl⟩
instance:FB Tryz.prog 7:=⟨by kernel_rfl⟩
instance:FB Tryz.prog 8:=⟨by kernel_rfl⟩
instance:FB Tryz.prog 9:=⟨by kernel_rfl⟩
instance:FB Tryz.prog 10:=⟨by kernel_rfl⟩
instance:FB Tryz.prog 11:=⟨by kernel_rfl⟩
instance:FB Tryz.prog 12:=⟨by kernel_rfl⟩
instance:FB Tryz.prog 13:=⟨by kernel_rfl⟩
instance:FB Tryz.prog 14:=⟨by kernel_rfl⟩
instance:FB Tryz.prog 15:=⟨by kernel_rfl⟩
instance:FB Tryz.prog 16:=⟨by kernel_rfl⟩
instance:FB Tryz.prog 17:=⟨by kernel_rfl⟩
instance:FB Tryz.prog 18:=⟨by kernel_rfl⟩
instance:FB Tryz.prog 19:=⟨by kernel_rfl⟩
instance:FB Tryz.prog 20:=⟨by kernel_rfl⟩
instance:FB Tryz.prog 21:=⟨by kernel_rfl⟩
instance:FB Tryz.prog 22:=⟨by kernel_rfl⟩
instance:FB Tryz.prog 23:=⟨by kernel_rfl⟩
instance:FB Tryz.prog 24:=⟨by kernel_rfl⟩
instance:FB Tryz.prog 25:=⟨by kernel_rfl⟩
instance:FB Tryz.prog 26:=⟨by kernel_rfl⟩
instance:FB Tryz.prog 27:=⟨by kernel_rfl⟩
instance:FB Tryz.prog 28:=⟨by kernel_rfl⟩
instance:FB Tryz.prog 29:=⟨by kernel_rfl⟩
instance:FB Tryz.prog 30:=⟨by kernel_rfl⟩
instance:FB Tryz.prog 31:=⟨by kernel_rfl⟩
instance:FB Tryz.prog 32:=⟨by kernel_rfl⟩
instance:FB Tryz.prog 33:=⟨by kernel_rfl⟩
instance:FB Tryz.prog 34:=⟨by kernel_rfl⟩
instance:FB Tryz.prog 35:=⟨by kernel_rfl⟩
instance:FB Tryz.prog 36:=⟨by kernel_rfl⟩
instance:FB Tryz.prog 37:=⟨by kernel_rfl⟩
instance:FB Tryz.prog 38:=⟨by kernel_rfl⟩
instance:FB Tryz.prog 39:=⟨by kernel_rfl⟩
instance:FB Tryz.prog 40:=⟨by kernel_rfl⟩
instance:FB Tryz.prog 41:=⟨by kernel_rfl⟩
instance:FB Tryz.prog 42:=⟨by kernel_rfl⟩
instance:FB Tryz.prog 43:=⟨by kernel_rfl⟩
instance:FB Tryz.prog 44:=⟨by kernel_rfl⟩
instance:FB Tryz.prog 45:=⟨by kernel_rfl⟩
instance:FB Tryz.prog 46:=⟨by kernel_rfl⟩
instance:FB Tryz.prog 47:=⟨by kernel_rfl⟩
instance:FB Tryz.prog 48:=⟨by kernel_rfl⟩
instance:FB Tryz.prog 49:=⟨by kernel_rfl⟩
instance:FB Tryz.prog 50:=⟨by kernel_rfl⟩
instance:FB Tryz.prog 51:=⟨by kernel_rfl⟩
instance:FB Tryz.prog 52:=⟨by kernel_rfl⟩
instance:FB Tryz.prog 53:=⟨by kernel_rfl⟩
instance:FB Tryz.prog 54:=⟨by kernel_rfl⟩
instance:FB Tryz.prog 55:=⟨by kernel_rfl⟩
instance:FB Tryz.prog 56:=⟨by kernel_rfl⟩
instance:FB Tryz.prog 57:=⟨by kernel_rfl⟩
instance:FB Tryz.prog 58:=⟨by kernel_rfl⟩
instance:FB Tryz.prog 59:=⟨by kernel_rfl⟩
instance:FB Tryz.prog 60:=⟨by kernel_rfl⟩
instance:FB Tryz.prog 61:=⟨by kernel_rfl⟩
instance:FB Tryz.prog 62:=⟨by kernel_rfl⟩
instance:FB Tryz.prog 63:=⟨by kernel_rfl⟩
instance:FB Tryz.prog 64:=⟨by kernel_rfl⟩
instance:FB Tryz.prog 65:=⟨by kernel_rfl⟩
instance:FB Tryz.prog 66:=⟨by kernel_rfl⟩
instance:FB Tryz.prog 67:=⟨by kernel_rfl⟩
instance:FB Tryz.prog 68:=⟨by kernel_rfl⟩
instance:FB Tryz.prog 69:=⟨by kernel_rfl⟩
instance:FB Tryz.prog 70:=⟨by kernel_rfl⟩
instance:FB Tryz.prog 71:=⟨by kernel_rfl⟩
instance:FB Tryz.prog 72:=⟨by kernel_rfl⟩
instance:FB Tryz.prog 73:=⟨by kernel_rfl⟩
instance:FB Tryz.prog 74:=⟨by kernel_rfl⟩
instance:FB Tryz.prog 75:=⟨by kernel_rfl⟩
instance:FB Tryz.prog 76:=⟨by kernel_rfl⟩
instance:FB Tryz.prog 77:=⟨by kernel_rfl⟩
instance:FB Tryz.prog 81:=⟨by kernel_rfl⟩
instance:FB Tryz.prog 82:=⟨by kernel_rfl⟩
instance:FB Tryz.prog 83:=⟨by kernel_rfl⟩
instance:FB Tryz.prog 84:=⟨by kernel_rfl⟩
instance:FB Tryz.prog 88:=⟨by kernel_rfl⟩
instance:FB Tryz.prog 89:=⟨by kernel_rfl⟩
instance:FB Tryz.prog 114:=⟨by kernel_rfl⟩
instance:FB Tryz.prog 115:=⟨by kernel_rfl⟩
end Go.Proofs.YtahkljmgmgacjabGreatDoor
