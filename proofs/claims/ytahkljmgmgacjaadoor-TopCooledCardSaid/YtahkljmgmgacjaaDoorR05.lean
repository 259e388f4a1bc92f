/- The machine, inside a group: a worker goes over from one place of its tree to another, and nothing turns. Conditions: none; over any program. (And 9 texts more.) -/
import Derived.Test.YtahkljmgmgacjaaDoorR04
set_option linter.unusedVariables false
set_option linter.unusedSimpArgs false
set_option linter.unusedSectionVars false

/- The machine, inside a group: a worker goes over from one place of its tree to another, and nothing turns. Conditions: none; over any program. -/
namespace Go.aS
open Go.Conc (crowd parked rcase scase QuitsIn QuitsD Before Knows knows_own touchAt touchAt_of touchAt_old getElem?_append_old getElem?_append_cases lt_size_of_getElem? touch_of hb_po hb_app ofEvents_eq woken Deaf deaf_old g?_old act?_old heard_old lt_of_act? Deaf_own Deaf_other counts_old)
open Go.ConcM (OsLater)
open Go.ConcN (RelBy)
section
variable{P:Program}{γ:GP}{gs:Array Goroutine}{w w':World}{t u:Trace}{k₀:Hp}{aO:Nat→Prop}{d₀:Nat}{qs:List (Nat×Nat)}{left:Nat}{p p':MP}{x x':XS}{ws:List (Σ j,WM P γ j)}{tl tl':TL}{esc pJ:List ah}
theorem dZ.ghost[Base](I:dZ P γ gs w t k₀ aO d₀ qs left p x ws tl esc){i:Nat}{m m':Σ j,WM P γ j}(hi:ws[i]? =some m)(h1:m'.1=i)(hok:m'.2.ok)(hg:∃g,gs[qs.length+1+i]? =some g∧g=m'.2.g)
  (hY:LY w t (qs.length+ws.length+1) (uY d₀ qs (ws.set i m')) (AU k₀ aO qs.length (ws.set i m')) (OE γ) (mX γ (ws.set i m') esc))
  (hN:N1 left p x ((ws.map fun m=>m.2.wa).set i m'.2.wa))
  (ht:γ.mu≠none→zx γ w t qs.length (ws.set i m') tl') (hwr:m'.2.wa.wr=m.2.wa.wr)
  (hlow:∀k M b,m'.2.act=some (k,M)→M b→Base.ref.heap.size≤b) (W_:∀b,mX γ (ws.set i m') esc b→Base.ref.heap.size≤b):
  dZ P γ gs w t k₀ aO d₀ qs left p x (ws.set i m') tl' esc:=by
 have hil:=lt_of_some hi
 have hlen:(ws.set i m').length=ws.length:=List.length_set
 refine⟨by rw[hlen];exact I.size,by rw[hlen];exact hY,I.quit,fun j b hj=>?_,by rw[W9];exact hN,I.at_,fun g hg b hb=>?_,ht,?_,I.base,fun g k M b hp hb=>?_,fun b hb=>?_,I.geo,I.pF,I.jc,I.mm⟩
 ·rcases fJ hj with⟨rfl,rfl,_⟩ | ⟨hne,hj⟩
  ·obtain⟨g,h2,h3⟩:=hg
   exact⟨h1,hok,g,h2,.inl h3⟩
  ·exact I.wG j b hj
 ·rw[hlen]at hg
  exact I.Ri g hg b hb
 ·have:=I.U2 (w':=w) (u:= #[]) hi (m':=m') (by rw[hwr]) (fun b o _=>⟨rfl,fun op h=>by simp at h⟩) (fun op h=>by simp at h) fun _=>⟨fun n hn hg=>?_,fun op h=>by simp at h⟩
  ·simpa using this
  ·exfalso
   rw[Array.append_empty]at hg
   obtain⟨op,ho,_⟩:=Option.map_eq_some_iff.1 hg
   have:=lt_size_of_getElem? ho
   omega
 ·rcases qQ hp with⟨rfl,rfl,rfl⟩ | ⟨j,n,rfl,hj,hn⟩
  ·exact I.low 0 _ _ b jU hb
  ·rcases fJ hj with⟨rfl,rfl,_⟩ | ⟨hne,hj⟩
   ·exact hlow k M b hn hb
   ·exact I.low _ k M b (by rw[iL hj];exact hn) hb
 ·rcases hb with hb | hb
  ·exact I.rM b (.inl hb)
  ·exact W_ b hb

theorem dZ.ND[Base](I:dZ P γ gs w t k₀ aO d₀ qs left p x ws tl esc){i:Nat}{m m':Σ j,WM P γ j}(hi:ws[i]? =some m)(h1:m'.1=i)(hok:m'.2.ok)(hg:∃g,gs[qs.length+1+i]? =some g∧g=m'.2.g)
  (hd:m'.2.deaf=m.2.deaf) (hact:m'.2.act=m.2.act) (hru:γ.mu≠none→(m'.2.runs↔m.2.runs)) (hN:N1 left p x ((ws.map fun m=>m.2.wa).set i m'.2.wa)) (hwr:m'.2.wa.wr=m.2.wa.wr) (hhas:γ.mu≠none→(m'.2.has↔m.2.has)) (I8:γ.mu≠none→γ.tag m.1≠none→(m'.2.been↔m.2.been))
  (hown:m.2.has→m.2.holds w t (qs.length+1+i) (fU ws)→m'.2.holds w t (qs.length+1+i) (fU ws)):dZ P γ gs w t k₀ aO d₀ qs left p x (ws.set i m') tl esc:=by
 have hj:=(I.wG i m hi).1
 have hh:=wQ (esc:=esc) hi hru
 refine I.ghost hi h1 hok hg ?_ hN (fun hmu=>?_) hwr (fun k M b e hb=>?_) fun b hb=>?_
 ·rw[zA hi hd,hh]
  refine I.Y.O7 fun g=>?_
  rw[tX hi,hact]
  by_cases hg:g=qs.length+1+i
  ·subst hg;rw[fA,iL hi]
  ·rw[jy hg]
 ·have:=I.Ru (w':=w) (u:= #[]) hmu hi (m':=m') (h1.trans hj.symm) (hhas hmu) (I8 hmu) (fun _=>⟨rfl,fun op h=>by simp at h⟩) (by simpa using hown)
  simpa using this
 ·rw[hact]at e
  exact I.low _ k M b ((iL hi).trans e) hb
 ·rw[hh]at hb;exact I.rM b (.inr hb)

theorem dZ.acZ[Base](I:dZ P γ gs w t k₀ aO d₀ qs left p x ws tl esc){i j:Nat}{g:Goroutine}{k:Hp}{M:Nat→Prop}{hm:γ.mu≠none}{hk:k γ.Mu=some (gK .out)}{hM:M γ.Mu}{E:LS→Goroutine→Prop}{T:∀B,dB P false (aJ γ.toGrp) E (.mu .out none B 0 0) g}{hE:∀s g',E s g'→∃o B,s= .mu .hold o B 0 1}
  {h:∀s g' l c,E s g'→γ.J l c→k γ.C=none→¬M γ.C→yU P γ j g' (hset (hset k γ.Mu (gK (.hold l))) γ.C c) (fun b=>M b∨b=γ.C)} (hi:ws[i]? =some ⟨j,.run (.lock hm hk hM E T hE h)⟩) (hg:gs[qs.length+1+i]? =some g):
  dZ P γ gs w t k₀ aO d₀ qs left p x (ws.set i ⟨j,.vF E k M hm hk hM hE h none (T (x.E+1))⟩) tl esc:=by
 obtain⟨hj,hok,_⟩:=I.wG i _ hi
 simp only at hj
 subst hj
 have hmap:(ws.map fun m=>m.2.wa)[j]? =some ⟨vG γ k,.live,false,none,0⟩:=by simp[hi,WM.wa]
 refine I.ND hi rfl ⟨fun ht=>?_,_,_,_,_,_,rfl,by simp,fun h=>by cases h⟩ ⟨g,hg,rfl⟩ rfl rfl (fun _=>?_) (I.N.mind hmap (by rw[LJ hm hk];rfl) rfl fun _=>⟨fun o ho=>(by cases ho),fun _=>Nat.lt_succ_self _,fun _ o ho=>(by cases ho)⟩) rfl (fun _=>?_) (fun _ _=>?_) fun hh=>?_
 ·have:=((hok.2 hm).1 ht);rw[hk]at this;cases this
 ·refine⟨fun h=>h.elim,fun⟨l,h⟩=>?_⟩
  rw[hk]at h;injection h with h;cases nH h
 ·refine⟨fun h=>absurd rfl h,fun⟨l,h⟩=>?_⟩
  rw[hk]at h;injection h with h;cases nH h
 ·refine⟨fun h=>h.elim,fun h=>?_⟩
  have h:k γ.Mu=some (gK .fin):=h
  rw[hk]at h;injection h with h;cases nH h
 ·intro _ l c e;cases e
theorem dZ.ac0[Base](I:dZ P γ gs w t k₀ aO d₀ qs left p x ws tl esc){i j:Nat}{g:Goroutine}{k:Hp}{M:Nat→Prop}{hk:γ.tag j=none∨(γ.mu≠none∧k γ.Mu=some (gK .fin))}{A:ah}{hA:∀b o,(b,o)∈A→k b=some o∧M b∧o.isChan=false}{hn:(A.map (·.1)).Nodup}{hR:γ.R j A}{T:dB P false (aJ γ.toGrp) (Gone P) (.dn .live 0) g}
  (hi:ws[i]? =some ⟨j,.run (.done hk A hA hn hR T)⟩) (hg:gs[qs.length+1+i]? =some g):dZ P γ gs w t k₀ aO d₀ qs left p x (ws.set i ⟨j,.fin (some (k,M,A)) T⟩) tl esc:=by
 obtain⟨hj,hok,_⟩:=I.wG i _ hi
 simp only at hj
 subst hj
 have hro:vG γ k= .fin:=by
  by_cases hm:γ.mu=none
  ·exact qV (.inl hm)
  ·rcases hk with hk | hk
   ·exact qV (.inr (.inr ((hok.2 hm).1 hk)))
   ·exact qV (.inr (.inl hk.2))
 have hnh:γ.mu≠none→∀l,k γ.Mu≠some (gK (.hold l)):=fun hm l h=>by
  have:=rP hm h
  rw[hro]at this;cases this
 have hmap:(ws.map fun m=>m.2.wa)[j]? =some ⟨.fin,.live,false,none,0⟩:=by simp[hi,WM.wa,hro]
 refine I.ND hi rfl ⟨hok.1,_,_,rfl,fun h=>absurd rfl h,fun _=>⟨k,M,A,rfl,hA,hn,hR⟩⟩ ⟨g,hg,rfl⟩ rfl rfl (fun hm=>⟨fun h=>h.elim,fun⟨l,h⟩=>(hnh hm l h).elim⟩) (by rw[jG (show _=some (WM.wa _)from hmap)];exact I.N) rfl (fun hm=>⟨fun h=>h.elim,fun⟨l,h⟩=>(hnh hm l h).elim⟩) (fun hm ht=>⟨fun _=>?_,fun _=>trivial⟩) fun _ _=>trivial
 rcases hk with hk | hk
 ·exact absurd hk ht
 ·exact hk.2
theorem dZ.U4[Base](I:dZ P γ gs w t k₀ aO d₀ qs left p x ws tl esc){i j:Nat}{E:LS→Goroutine→Prop}{k:Hp}{M:Nat→Prop}{hm:γ.mu≠none}{hk:k γ.Mu=some (gK .fin)}{hM:M γ.Mu}{tg:Nat}{ht:γ.tag j=some tg}{hE:∀s g',E s g'→∃o B,s= .mu .fin o B 0 2}
  {h:∀s g',E s g'→yU P γ j g' k M} {tk:Option (List Nat×Obj)} {s:LS} {g:Goroutine} {hs:g.status= .running} {he:E s g} (hi:ws[i]? =some ⟨j,.xY E k M hm hk hM tg ht hE h tk (.exit hs he)⟩) (hg:gs[qs.length+1+i]? =some g):
  dZ P γ gs w t k₀ aO d₀ qs left p x (ws.set i ⟨j,.run (h s g he)⟩) tl esc:=by
 obtain⟨hj,hok,_⟩:=I.wG i _ hi
 simp only at hj
 subst hj
 obtain⟨r,o,B,d,b,rfl,htk,hbr,hb0⟩:=hok
 obtain⟨o',B',e⟩:=hE _ _ he
 cases e
 have abo:tk=none:=by
  cases tk with
  | none=>rfl
  | some q=>have:=htk.2 (by simp);cases this
 subst abo
 have hro:vG γ k= .fin:=qV (.inr (.inl hk))
 have hnh:∀l,k γ.Mu≠some (gK (.hold l)):=fun l h=>by
  have:=rP hm h
  rw[hro]at this;cases this
 have hmap:(ws.map fun m=>m.2.wa)[j]? =some ⟨.fin,.live,true,o,B⟩:=by simp[hi,WM.wa]
 refine I.ND hi rfl ⟨fun _=>hm,fun _=>⟨fun h=>(by rw[ht]at h;cases h),fun _=>⟨hM,.fin,hk⟩,fun l h=>absurd h (hnh l)⟩⟩ ⟨g,hg,rfl⟩ rfl rfl (fun hm=>⟨fun⟨l,h⟩=>(hnh l h).elim,fun h=>h.elim⟩) (I.N.mind hmap hro rfl fun h=>by cases h) rfl (fun hm=>⟨fun⟨l,h⟩=>(hnh l h).elim,fun h=>absurd rfl h⟩) (fun _ _=>⟨fun _=>rfl,fun _=>hk⟩) fun h=>absurd rfl h
theorem dZ.ac1[Base](I:dZ P γ gs w t k₀ aO d₀ qs left p x ws tl esc){i j:Nat}{pre:Option (Hp×(Nat→Prop)×ah)}{s:LS}{g:Goroutine}{hs:g.status= .running}{he:Gone P s g}(hi:ws[i]? =some ⟨j,.fin pre (.exit hs he)⟩)(hg:gs[qs.length+1+i]? =some g):
  ∃(n:Nat) (hn:QuitsIn P n g),dZ P γ gs w t k₀ aO d₀ qs left p x (ws.set i ⟨j,.I4 n hn⟩) tl esc:=by
 obtain⟨hj,hok,_⟩:=I.wG i _ hi
 simp only at hj
 subst hj
 obtain⟨ht,r,d,rfl,hpre,_⟩:=hok
 obtain⟨hee,n,hn⟩:=id he
 cases hee
 obtain rfl:=hpre (by simp)
 have hmap:(ws.map fun m=>m.2.wa)[j]? =some ⟨.fin,.gone,false,none,0⟩:=by simp[hi,WM.wa]
 exact⟨n,hn,I.ND hi rfl ht ⟨g,hg,rfl⟩ rfl rfl (fun _=>.rfl) (by rw[jG (show _=some (WM.wa _)from hmap)];exact I.N) rfl (fun _=>.rfl) (fun _ _=>.rfl) fun h=>h.elim⟩
end
end Go.aS

/- The machine, inside a group: the guarded block is given up, is given out. Conditions: none; over any program. -/
namespace Go.aS
open Go.Conc (crowd parked rcase scase QuitsIn QuitsD Before Knows knows_own touchAt touchAt_of touchAt_old getElem?_append_old getElem?_append_cases lt_size_of_getElem? touch_of hb_po hb_app ofEvents_eq woken Deaf deaf_old g?_old act?_old heard_old lt_of_act? Deaf_own Deaf_other counts_old)
open Go.ConcM (OsLater)
open Go.ConcN (RelBy)
theorem qW(k:Hp)(b:Nat):hdel k b b=none:=by simp[hdel]
theorem iR(k:Hp){b b':Nat}(h:b'≠b):hdel k b b'=k b':=by simp[hdel,h]
theorem bV{k:Hp}{b b':Nat}{o o':Obj}(h:hset k b o b'=some o'):(b'=b∧o'=o)∨(b'≠b∧k b'=some o'):=by
 by_cases e:b'=b
 ·subst e;rw[bH]at h;cases h;exact .inl ⟨rfl,rfl⟩
 ·rw[bY _ _ e]at h;exact .inr ⟨e,h⟩
theorem iM{k:Hp}{b b':Nat}{o:Obj}(h:hdel k b b'=some o):b'≠b∧k b'=some o:=by
 by_cases e:b'=b
 ·subst e;rw[qW]at h;cases h
 ·rw[iR _ e]at h;exact⟨e,h⟩
theorem Xf{o:Obj}:isC (some o)=o.isChan:=rfl

section
variable{P:Program}{γ:GP}{gs:Array Goroutine}{w w':World}{t u:Trace}{k₀:Hp}{aO:Nat→Prop}{d₀:Nat}{qs:List (Nat×Nat)}{left:Nat}{p p':MP}{x x':XS}{ws:List (Σ j,WM P γ j)}{tl tl':TL}{esc pJ:List ah}
theorem LY.alone{n:Nat}{dv:Nat→Nat}{pr:Rk}{sh hid:Nat→Prop}(Y:LY w t n dv pr sh hid){g g':Nat}{k k':Hp}{M M':Nat→Prop}(hne:g≠g')(h:pr g=some (k,M))(h':pr g'=some (k',M')){b:Nat}{c:Obj}(hb:M b)(hk:k b=some c)(hc:c.isChan=false)(hs:¬sh b):k' b=none:=by
 cases e:k' b with
 | none=>rfl
 | some o=>
  exfalso
  have h1:=Y.apart g g' k M k' M' hne h h' b hb (by rw[e];rfl)
  rw[e,Xf]at h1
  have h2:=(Y.DZ g k M h).uG.get hk hc
  obtain⟨o',h3,h4⟩:=(Y.DZ g' k' M' h').uG b o e
  rw[h2]at h3;cases h3
  rcases h4 with h4 | ⟨_,h4 | h4⟩
  ·rw[h4,h1]at hc;cases hc
  ·rw[hc]at h4;cases h4
  ·exact hs (Y.fk b g' k' M' o h' e h4)

theorem dZ.Zy[Base](I:dZ P γ gs w t k₀ aO d₀ qs left p x ws tl esc){i j:Nat}{g:Goroutine}{k:Hp}{M:Nat→Prop}{l:List Nat}{c:Obj}{tg:Nat}{hm:γ.mu≠none}{hk:k γ.Mu=some (gK (.hold l))}{hM:M γ.Mu}{hC:k γ.C=some c}{Ho:M γ.C}{ht:γ.tag j=some tg}{hJ:γ.J (tg::l) c}{E:LS→Goroutine→Prop}
  {T:∀B,dB P false (aJ γ.toGrp) E (.mu .hold none B 0 1) g} {hE:∀s g',E s g'→∃o B,s= .mu .fin o B 0 2} {h:∀s g',E s g'→yU P γ j g' (hdel (hset k γ.Mu (gK .fin)) γ.C) (fun b=>M b∧b≠γ.C)} (hi:ws[i]? =some ⟨j,.run (.unlock hm hk hM hC Ho ht hJ E T hE h)⟩) (hg:gs[qs.length+1+i]? =some g):
  ∃(hk':hdel (hset k γ.Mu (gK .fin)) γ.C γ.Mu=some (gK .fin)) (hM':M γ.Mu∧γ.Mu≠γ.C),dZ P γ gs w t k₀ aO d₀ qs left p x (ws.set i ⟨j,.xY E (hdel (hset k γ.Mu (gK .fin)) γ.C) (fun b=>M b∧b≠γ.C) hm hk' hM' tg ht hE h (some (tg::l,c)) (T (x.E+1))⟩) tl esc:=by
 obtain⟨hj,hok,_⟩:=I.wG i _ hi
 simp only at hj
 subst hj
 have hCM:=(I.pF hm).2
 have hCW:=(I.pF hm).1
 have hk':hdel (hset k γ.Mu (gK .fin)) γ.C γ.Mu=some (gK .fin):=by rw[iR _ (Ne.symm hCM),bH]
 have hpr:AU k₀ aO qs.length ws (qs.length+1+j)=some (k,M):=iL hi
 have K:=I.Y.DZ _ k M hpr
 have hcc:=I.jc _ _ hJ
 have hw:=K.uG.get hC hcc
 have hil:=lt_of_some hi
 have aeB:¬OE γ γ.C:=by
  rintro(h | ⟨_,h⟩)
  ·exact hCW h
  ·exact hCM h
 have hro:=rP hm hk
 have hmap:(ws.map fun m=>m.2.wa)[j]? =some ⟨.hold,.live,false,none,0⟩:=by simp[hi,WM.wa,hro]
 have ac2:(WM.run (.unlock hm hk hM hC Ho ht hJ E T hE h):WM P γ j).runs:=⟨l,hk⟩
 obtain⟨htl,hho⟩:=I.TR hm hi (m:=⟨j,_⟩) ac2
 have hperm:=hho l hk
 refine⟨hk',⟨hM,Ne.symm hCM⟩,I.ghost hi rfl ⟨_,_,_,_,_,rfl,by simp,fun _=>rfl,by simp⟩ ⟨g,hg,rfl⟩ ?_ (I.N.mind hmap rfl rfl fun _=>⟨fun o ho=>(by cases ho),fun _=>Nat.lt_succ_self _,fun _ o ho=>(by cases ho)⟩) (fun _=>?_) rfl (fun k' M' b e hb=>?_) fun b hb=>?_⟩
 ·have hdv:∀m':Σ j,WM P γ j,m'.2.deaf=0→uY d₀ qs (ws.set j m')=uY d₀ qs ws:=fun m' e=>zA hi e
  rw[hdv,tX hi]
  rotate_left
  ·rfl
  have Y1:=I.Y.set (g:=qs.length+1+j) (k':=hdel (hset k γ.Mu (gK .fin)) γ.C) (M':=fun b=>M b∧b≠γ.C) ⟨fun b o ho=>?_,fun b hb=>?_,fun b hb hc=>?_,fun b hb hc=>?_⟩ (fun y k2 M2 hy h2=>⟨fun b hb hs=>?_,fun b hb hs=>?_⟩) (fun b o ho=>?_) (fun b hb=>?_)
  ·refine Y1.re (fun b g' k2 M2 o h2 ho=>⟨fun hb=>Y1.Ij b g' k2 M2 o hb h2 ho,fun hf=>Y1.fk b g' k2 M2 o h2 ho hf⟩) (fun b g' k2 M2 hb h2=>?_) fun b hb=>?_
   ·rcases hb with⟨_,rfl,_⟩ | hb
    ·by_cases hgg:g'=qs.length+1+j
     ·subst hgg;rw[fA]at h2;cases h2;exact qW _ _
     ·rw[jy hgg]at h2
      exact I.Y.alone (Ne.symm hgg) hpr h2 Ho hC hcc aeB
    ·exact Y1.uH b g' k2 M2 (.inr hb) h2
   ·rcases hb with hb | ⟨_,rfl,_⟩ | hb
    ·exact I.Y.lt b (.inl hb)
    ·exact m_ hw
    ·exact I.Y.lt b (.inr (.inr hb))
  ·obtain⟨h1,h2⟩:=iM ho
   rcases bV h2 with⟨rfl,rfl⟩ | ⟨h3,h4⟩
   ·obtain⟨o',h5,_⟩:=K.uG _ _ hk
    exact⟨o',h5,.inr ⟨rfl,.inr rfl⟩⟩
   ·exact K.uG b o h4
  ·rw[iR _ hb.2]
   by_cases hbm:b=γ.Mu
   ·subst hbm;rw[bH];rfl
   ·rw[bY _ _ hbm];exact K.dom b hb.1
  ·rw[iR _ hb.2]at hc
   by_cases hbm:b=γ.Mu
   ·subst hbm;rw[bH]at hc;cases hc
   ·rw[bY _ _ hbm]at hc;exact K.own b hb.1 hc
  ·obtain⟨o,ho⟩:=Option.isSome_iff_exists.1 hb
   obtain⟨h1,h2⟩:=iM ho
   rw[ho]at hc
   rcases bV h2 with⟨rfl,rfl⟩ | ⟨h3,h4⟩
   ·cases hc
   ·exact K.rd b (by rw[h4];rfl) (by rw[h4];exact hc)
  ·exact I.Y.apart _ y k M k2 M2 (Ne.symm hy) hpr h2 b hb.1 hs
  ·obtain⟨o,ho⟩:=Option.isSome_iff_exists.1 hs
   obtain⟨h1,h2'⟩:=iM ho
   rw[ho]
   rcases bV h2' with⟨rfl,rfl⟩ | ⟨h3,h4⟩
   ·rfl
   ·have:=I.Y.apart y _ k2 M2 k M hy h2 hpr b hb (by rw[h4];rfl)
    rw[h4]at this;exact this
  ·obtain⟨h1,h2⟩:=iM ho
   rcases bV h2 with⟨rfl,rfl⟩ | ⟨h3,h4⟩
   ·exact⟨fun _=>rfl,fun _=>.inr ⟨hm,rfl⟩⟩
   ·exact⟨fun hb=>I.Y.Ij b _ k M o hb hpr h4,fun hf=>I.Y.fk b _ k M o hpr h4 hf⟩
  ·have hkb:=I.Y.uH b _ k M hb hpr
   by_cases hbC:b=γ.C
   ·subst hbC;exact qW _ _
   ·rw[iR _ hbC]
    have hbm:b≠γ.Mu:=fun e=>by rw[e,hk]at hkb;cases hkb
    rw[bY _ _ hbm];exact hkb
 ·have T':=I.wP hm
  refine⟨fun l' c' e=>(by rw[htl]at e;cases e),fun i' e=>?_⟩
  rw[htl]at e
  cases e
  have hb:fU (ws.set j ⟨j,.xY E (hdel (hset k γ.Mu (gK .fin)) γ.C) (fun b=>M b∧b≠γ.C) hm hk' ⟨hM,Ne.symm hCM⟩ tg ht hE h (some (tg::l,c)) (T (x.E+1))⟩)=fU ws:=vH hi rfl fun _=>⟨fun h=>(by cases h),fun h=>by
   have h:k γ.Mu=some (gK .fin):=h
   rw[hk]at h;injection h with h;cases nH h⟩
  refine⟨⟨_,by rw[List.getElem?_set,if_pos rfl,if_pos hil],by simp[WM.has],?_⟩,fun i' y hy hs=>?_⟩
  ·rw[hb]
   intro l' c' e
   cases e
   exact⟨hw,hJ,hperm.cons _,K.own _ Ho (by rw[hC];exact hcc)⟩
  ·rcases fJ hy with⟨rfl,_,_⟩ | ⟨_,hy⟩
   ·rfl
   ·exact(T'.held j htl).2 i' y hy hs
 ·cases e
  exact I.low _ k M b hpr hb.1
 ·rcases hb with⟨_,rfl,_⟩ | hb
  ·exact I.low _ k M _ hpr Ho
  ·exact I.rM b (.inr (.inr hb))

theorem dZ.Zz[Base](I:dZ P γ gs w t k₀ aO d₀ qs left p x ws tl esc){i j:Nat}{E:LS→Goroutine→Prop}{k:Hp}{M:Nat→Prop}{hm:γ.mu≠none}{hk:k γ.Mu=some (gK .out)}{hM:M γ.Mu}{hE:∀s g',E s g'→∃o B,s= .mu .hold o B 0 1}
  {h:∀s g' l c,E s g'→γ.J l c→k γ.C=none→¬M γ.C→yU P γ j g' (hset (hset k γ.Mu (gK (.hold l))) γ.C c) (fun b=>M b∨b=γ.C)} {tk:Option (List Nat×Obj)} {s:LS} {g:Goroutine} {hs:g.status= .running} {he:E s g} (hi:ws[i]? =some ⟨j,.vF E k M hm hk hM hE h tk (.exit hs he)⟩) (hg:gs[qs.length+1+i]? =some g):
  ∃(l:List Nat) (c:Obj) (h1:γ.J l c) (h2:k γ.C=none) (h3:¬M γ.C),dZ P γ gs w t k₀ aO d₀ qs left p x (ws.set i ⟨j,.run (h s g l c he h1 h2 h3)⟩) tl esc:=by
 obtain⟨hj,hok,_⟩:=I.wG i _ hi
 simp only at hj
 subst hj
 obtain⟨htag,r,o,B,d,b,rfl,htk,hbr⟩:=hok
 obtain⟨o',B',e⟩:=hE _ _ he
 cases e
 obtain⟨⟨l,c⟩,rfl⟩:=Option.ne_none_iff_exists'.1 (htk.1 rfl)
 have hCM:=(I.pF hm).2
 have hCW:=(I.pF hm).1
 have hil:=lt_of_some hi
 have hpr:AU k₀ aO qs.length ws (qs.length+1+j)=some (k,M):=iL hi
 have K:=I.Y.DZ _ k M hpr
 obtain⟨htl,hho⟩:=I.TR hm hi (m:=⟨j,_⟩) (by simp[WM.has])
 obtain⟨hw,hJ,hperm,hown⟩:=hho l c rfl
 have T':=I.wP hm
 have nor:∀(i':Nat) (m:Σ j,WM P γ j),ws[i']? =some m→¬m.2.runs:=fun i' m h1 h2=>by
  have:=(T'.held j htl).2 i' m h1 (pG h2)
  subst this
  rw[hi]at h1;cases h1
  exact h2.elim
 have hhC:=Rt (esc:=esc) hm nor
 have V6:k γ.C=none:=I.Y.uH _ _ k M hhC hpr
 have Ho:¬M γ.C:=fun h=>by have:=K.dom _ h;rw[V6]at this;cases this
 have hcc:=I.jc _ _ hJ
 have hkM:hset (hset k γ.Mu (gK (.hold l))) γ.C c γ.Mu=some (gK (.hold l)):=by rw[bY _ _ (Ne.symm hCM),bH]
 have hmap:(ws.map fun m=>m.2.wa)[j]? =some ⟨.hold,.live,true,o,B⟩:=by simp[hi,WM.wa]
 refine⟨l,c,hJ,V6,Ho,I.ghost hi rfl ⟨fun _=>hm,fun _=>⟨fun h=>absurd h htag,fun _=>⟨.inl hM,_,hkM⟩,fun l' _=>⟨c,bH _ _ _,.inr rfl,hcc⟩⟩⟩ ⟨g,hg,rfl⟩ ?_ (I.N.mind hmap (rP hm hkM) rfl fun h=>by cases h) (fun _=>?_) rfl (fun k' M' b e hb=>?_) fun b hb=>?_⟩
 ·have hdv:∀m':Σ j,WM P γ j,m'.2.deaf=0→uY d₀ qs (ws.set j m')=uY d₀ qs ws:=fun m' e=>zA hi e
  rw[hdv,tX hi]
  rotate_left
  ·rfl
  have wS:∀b,mX γ (ws.set j ⟨j,.run (h _ g l c he hJ V6 Ho)⟩) esc b→mX γ ws esc b∧b≠γ.C:=by
   rintro b (⟨_,rfl,hn⟩ | ⟨o,hb⟩)
   ·exact absurd (show(WM.run (h _ g l c he hJ V6 Ho):WM P γ j).runs from⟨l,hkM⟩) (hn ⟨j,.run (h _ g l c he hJ V6 Ho)⟩ (List.mem_of_getElem? (i:=j) (by rw[List.getElem?_set,if_pos rfl,if_pos hil])))
   ·refine⟨.inr ⟨o,hb⟩,?_⟩
    obtain⟨A,hA,hb⟩:=List.mem_flatten.1 hb
    obtain⟨j',hj'⟩:=List.getElem?_of_mem hA
    have hjl:j'<ws.length:=by rw[←I.lU.len];exact lt_of_some hj'
    by_cases hl:(ws[j']).2.wa.wr= .live
    ·have:=I.lU.live j' ws[j'] A (List.getElem?_eq_getElem hjl) hj' hl
     rw[this]at hb;cases hb
    ·exact((I.lU.done j' ws[j'] A (List.getElem?_eq_getElem hjl) hj' hl).2.1 b o hb).2.2.2.2 hm
  have Y0:LY w t (qs.length+ws.length+1) (uY d₀ qs ws) (AU k₀ aO qs.length ws) (OE γ) (mX γ (ws.set j ⟨j,.run (h _ g l c he hJ V6 Ho)⟩) esc):=
   I.Y.re (fun b g' k2 M2 o h2 ho=>⟨fun hb=>I.Y.Ij b g' k2 M2 o hb h2 ho,fun hf=>I.Y.fk b g' k2 M2 o h2 ho hf⟩) (fun b g' k2 M2 hb h2=>I.Y.uH b g' k2 M2 (wS b hb).1 h2) fun b hb=>I.Y.lt b (hb.imp id fun h=>(wS b h).1)
  refine Y0.set ⟨fun b o ho=>?_,fun b hb=>?_,fun b hb hc=>?_,fun b hb hc=>?_⟩ (fun y k2 M2 hy h2=>⟨fun b hb hs=>?_,fun b hb hs=>?_⟩) (fun b o ho=>?_) (fun b hb=>?_)
  ·rcases bV ho with⟨rfl,rfl⟩ | ⟨h1,h2⟩
   ·exact⟨_,hw,.inl rfl⟩
   ·rcases bV h2 with⟨rfl,rfl⟩ | ⟨h3,h4⟩
    ·obtain⟨o',h5,_⟩:=K.uG _ _ hk
     exact⟨o',h5,.inr ⟨rfl,.inr rfl⟩⟩
    ·exact K.uG b o h4
  ·by_cases hbC:b=γ.C
   ·subst hbC;rw[bH];rfl
   ·rw[bY _ _ hbC]
    by_cases hbm:b=γ.Mu
    ·subst hbm;rw[bH];rfl
    ·rw[bY _ _ hbm];exact K.dom b (hb.resolve_right hbC)
  ·by_cases hbC:b=γ.C
   ·subst hbC;exact hown
   ·rw[bY _ _ hbC]at hc
    by_cases hbm:b=γ.Mu
    ·subst hbm;rw[bH]at hc;cases hc
    ·rw[bY _ _ hbm]at hc;exact K.own b (hb.resolve_right hbC) hc
  ·by_cases hbC:b=γ.C
   ·subst hbC;exact hown.rd
   ·rw[bY _ _ hbC]at hc hb
    by_cases hbm:b=γ.Mu
    ·subst hbm;rw[bH]at hc;cases hc
    ·rw[bY _ _ hbm]at hc hb;exact K.rd b hb hc
  ·rcases hb with hb | rfl
   ·exact I.Y.apart _ y k M k2 M2 (Ne.symm hy) hpr h2 b hb hs
   ·rw[I.Y.uH _ y k2 M2 hhC h2]at hs;cases hs
  ·by_cases hbC:b=γ.C
   ·subst hbC
    have:=(I.Y.DZ y k2 M2 h2).dom _ hb
    rw[I.Y.uH _ y k2 M2 hhC h2]at this;cases this
   ·rw[bY _ _ hbC]at hs⊢
    by_cases hbm:b=γ.Mu
    ·subst hbm;rw[bH];rfl
    ·rw[bY _ _ hbm]at hs⊢
     exact I.Y.apart y _ k2 M2 k M hy h2 hpr b hb hs
  ·rcases bV ho with⟨rfl,rfl⟩ | ⟨h1,h2⟩
   ·refine⟨fun hb=>?_,fun hf=>?_⟩
    ·rcases hb with hb | ⟨_,hb⟩
     ·exact absurd hb hCW
     ·exact absurd hb hCM
    ·have:=dU hf
     rw[hcc]at this;cases this
   ·rcases bV h2 with⟨rfl,rfl⟩ | ⟨h3,h4⟩
    ·exact⟨fun _=>rfl,fun _=>.inr ⟨hm,rfl⟩⟩
    ·exact⟨fun hb=>I.Y.Ij b _ k M o hb hpr h4,fun hf=>I.Y.fk b _ k M o hpr h4 hf⟩
  ·obtain⟨h1,h2⟩:=wS b hb
   have hkb:=I.Y.uH b _ k M h1 hpr
   rw[bY _ _ h2]
   have hbm:b≠γ.Mu:=fun e=>by rw[e,hk]at hkb;cases hkb
   rw[bY _ _ hbm];exact hkb
 ·refine⟨fun l' c' e=>(by rw[htl]at e;cases e),fun i' e=>?_⟩
  rw[htl]at e
  cases e
  have hnf:hset (hset k γ.Mu (gK (.hold l))) γ.C c γ.Mu≠some (gK .fin):=fun h=>by
   rw[hkM]at h;injection h with h;cases nH h
  have hb:fU (ws.set j ⟨j,.run (h _ g l c he hJ V6 Ho)⟩)=fU ws:=vH hi rfl fun _=>⟨fun h=>absurd h hnf,fun h=>False.elim h⟩
  refine⟨⟨⟨j,.run (h _ g l c he hJ V6 Ho)⟩,by rw[List.getElem?_set,if_pos rfl,if_pos hil],⟨l,hkM⟩,?_⟩,fun i' y hy hs=>?_⟩
  ·rw[hb]
   intro l' e
   have e:hset (hset k γ.Mu (gK (.hold l))) γ.C c γ.Mu=some (gK (.hold l')):=e
   rw[hkM]at e;injection e with e
   cases nH e
   exact hperm
  ·rcases fJ hy with⟨rfl,_,_⟩ | ⟨_,hy⟩
   ·rfl
   ·exact(T'.held j htl).2 i' y hy hs
 ·cases e
  rcases hb with hb | rfl
  ·exact I.low _ k M b hpr hb
  ·exact I.rM _ (.inr hhC)
 ·rcases hb with⟨h1,rfl,_⟩ | hb
  ·exact I.rM _ (.inr hhC)
  ·exact I.rM b (.inr (.inr hb))
end
end Go.aS

/- The machine, inside a group: steps that turn nothing; one waits. Conditions: none; over any program. -/
namespace Go.aS
open Go.Conc (crowd parked rcase scase QuitsIn QuitsD Before Knows knows_own touchAt touchAt_of touchAt_old getElem?_append_old getElem?_append_cases lt_size_of_getElem? touch_of hb_po hb_app ofEvents_eq woken Deaf deaf_old g?_old act?_old heard_old lt_of_act? Deaf_own Deaf_other counts_old)
open Go.ConcM (OsLater)
open Go.ConcN (RelBy)
section
variable{P:Program}{γ:GP}{gs:Array Goroutine}{w w':World}{t u:Trace}{k₀:Hp}{aO:Nat→Prop}{d₀:Nat}{qs:List (Nat×Nat)}{left:Nat}{p p':MP}{x x':XS}{ws:List (Σ j,WM P γ j)}{tl tl':TL}{esc pJ:List ah}
theorem dZ.idle[Base](I:dZ P γ gs w t k₀ aO d₀ qs left p x ws tl esc){i:Nat}{m m':Σ j,WM P γ j}(hi:ws[i]? =some m)(h1:m'.1=i)(hok:m'.2.ok){ga ga':Goroutine}(hg':ga'=m'.2.g∨m'.2.Zr x ga')
  (hd:m'.2.deaf=m.2.deaf) (hact:m'.2.act=m.2.act) (hru:γ.mu≠none→(m'.2.runs↔m.2.runs)) (hwa:m'.2.wa=m.2.wa) (hhas:γ.mu≠none→(m'.2.has↔m.2.has)) (I8:γ.mu≠none→γ.tag m.1≠none→(m'.2.been↔m.2.been))
  (hown:m.2.has→m.2.holds w t (qs.length+1+i) (fU ws)→m'.2.holds w t (qs.length+1+i) (fU ws)) {fn:FuncId} {pos:String}:
  dZ P γ ((gs.map (woken P ga ga' w)).setIfInBounds (qs.length+1+i) ga') w (t++MemOp.ofEvents (qs.length+1+i) fn pos #[]) k₀ aO d₀ qs left p x (ws.set i m') tl esc:=by
 have hj:=(I.wG i m hi).1
 have hh:=wQ (esc:=esc) hi hru
 have hu:MemOp.ofEvents (qs.length+1+i) fn pos #[]= #[]:=by rw[ofEvents_eq];simp
 rw[hu]
 have hmap:(ws.map fun m=>m.2.wa)[i]? =some m.2.wa:=by simp[hi]
 refine I.turn (u:= #[]) hi h1 hok hg' ?_ (by rw[hwa,jG hmap];exact I.N) I.at_ (fun op h=>by simp at h) (fun op h=>by simp at h) (fun hmu=>?_) ?_ I.base (fun k M b e hb=>?_) (fun b hb=>?_) fun h=>.inl h
 ·rw[zA hi hd,hh,Array.append_empty]
  refine I.Y.O7 fun g=>?_
  rw[tX hi,hact]
  by_cases hg:g=qs.length+1+i
  ·subst hg;rw[fA,iL hi]
  ·rw[jy hg]
 ·exact I.Ru (w':=w) (u:= #[]) hmu hi (m':=m') (h1.trans hj.symm) (hhas hmu) (I8 hmu) (fun _=>⟨rfl,fun op h=>by simp at h⟩) (by simpa using hown)
 ·refine I.U2 (w':=w) (u:= #[]) hi (m':=m') (by rw[hwa]) (fun b o _=>⟨rfl,fun op h=>by simp at h⟩) (fun op h=>by simp at h) fun _=>⟨fun n hn hg=>?_,fun op h=>by simp at h⟩
  exfalso
  rw[Array.append_empty]at hg
  obtain⟨op,ho,_⟩:=Option.map_eq_some_iff.1 hg
  have:=lt_size_of_getElem? ho
  omega
 ·rw[hact]at e
  exact I.low _ k M b ((iL hi).trans e) hb
 ·rw[hh]at hb;exact I.rM b (.inr hb)

theorem dZ.Nr[Base](I:dZ P γ gs w t k₀ aO d₀ qs left p x ws tl esc){i j:Nat}{E:LS→Goroutine→Prop}{k:Hp}{M:Nat→Prop}{hm:γ.mu≠none}{hk:k γ.Mu=some (gK .out)}{hM:M γ.Mu}{hE:∀s g',E s g'→∃o B,s= .mu .hold o B 0 1}
  {h:∀s g' l c,E s g'→γ.J l c→k γ.C=none→¬M γ.C→yU P γ j g' (hset (hset k γ.Mu (gK (.hold l))) γ.C c) (fun b=>M b∨b=γ.C)} {tk:Option (List Nat×Obj)} {s:LS} {g g':Goroutine} {T:dB P false (aJ γ.toGrp) E s g} (T':dB P false (aJ γ.toGrp) E s g') (hi:ws[i]? =some ⟨j,.vF E k M hm hk hM hE h tk T⟩) {fn:FuncId} {pos:String}:
  dZ P γ ((gs.map (woken P g g' w)).setIfInBounds (qs.length+1+i) g') w (t++MemOp.ofEvents (qs.length+1+i) fn pos #[]) k₀ aO d₀ qs left p x (ws.set i ⟨j,.vF E k M hm hk hM hE h tk T'⟩) tl esc:=by
 obtain⟨hj,hok,_⟩:=I.wG i _ hi
 exact I.idle (m':=⟨j,.vF E k M hm hk hM hE h tk T'⟩) hi hj hok (.inl rfl) rfl rfl (fun _=>.rfl) (by first | rfl | (cases s <;>rfl)) (fun _=>.rfl) (fun _ _=>.rfl) fun _ h=>h
theorem dZ.Ns[Base](I:dZ P γ gs w t k₀ aO d₀ qs left p x ws tl esc){i j:Nat}{E:LS→Goroutine→Prop}{k:Hp}{M:Nat→Prop}{hm:γ.mu≠none}{hk:k γ.Mu=some (gK .fin)}{hM:M γ.Mu}{tg:Nat}{ht:γ.tag j=some tg}{hE:∀s g',E s g'→∃o B,s= .mu .fin o B 0 2}
  {h:∀s g',E s g'→yU P γ j g' k M} {tk:Option (List Nat×Obj)} {s:LS} {g g':Goroutine} {T:dB P false (aJ γ.toGrp) E s g} (T':dB P false (aJ γ.toGrp) E s g') (hi:ws[i]? =some ⟨j,.xY E k M hm hk hM tg ht hE h tk T⟩) {fn:FuncId} {pos:String}:
  dZ P γ ((gs.map (woken P g g' w)).setIfInBounds (qs.length+1+i) g') w (t++MemOp.ofEvents (qs.length+1+i) fn pos #[]) k₀ aO d₀ qs left p x (ws.set i ⟨j,.xY E k M hm hk hM tg ht hE h tk T'⟩) tl esc:=by
 obtain⟨hj,hok,_⟩:=I.wG i _ hi
 exact I.idle (m':=⟨j,.xY E k M hm hk hM tg ht hE h tk T'⟩) hi hj hok (.inl rfl) rfl rfl (fun _=>.rfl) (by first | rfl | (cases s <;>rfl)) (fun _=>.rfl) (fun _ _=>.rfl) fun _ h=>h
theorem dZ.Nu[Base](I:dZ P γ gs w t k₀ aO d₀ qs left p x ws tl esc){i j:Nat}{pre:Option (Hp×(Nat→Prop)×ah)}{s:LS}{g g':Goroutine}{T:dB P false (aJ γ.toGrp) (Gone P) s g}(T':dB P false (aJ γ.toGrp) (Gone P) s g')(hi:ws[i]? =some ⟨j,.fin pre T⟩){fn:FuncId}{pos:String}:
  dZ P γ ((gs.map (woken P g g' w)).setIfInBounds (qs.length+1+i) g') w (t++MemOp.ofEvents (qs.length+1+i) fn pos #[]) k₀ aO d₀ qs left p x (ws.set i ⟨j,.fin pre T'⟩) tl esc:=by
 obtain⟨hj,hok,_⟩:=I.wG i _ hi
 exact I.idle (m':=⟨j,.fin pre T'⟩) hi hj hok (.inl rfl) rfl rfl (fun _=>.rfl) (by first | rfl | (cases s <;>rfl)) (fun _=>.rfl) (fun _ _=>.rfl) fun _ h=>h
theorem dZ.ZA[Base](I:dZ P γ gs w t k₀ aO d₀ qs left p x ws tl esc){i j n n':Nat}{g g':Goroutine}{h:QuitsIn P n g}(h':QuitsIn P n' g')(hi:ws[i]? =some ⟨j,.I4 n h⟩){fn:FuncId}{pos:String}:
  dZ P γ ((gs.map (woken P g g' w)).setIfInBounds (qs.length+1+i) g') w (t++MemOp.ofEvents (qs.length+1+i) fn pos #[]) k₀ aO d₀ qs left p x (ws.set i ⟨j,.I4 n' h'⟩) tl esc:=by
 obtain⟨hj,hok,_⟩:=I.wG i _ hi
 exact I.idle (m':=⟨j,.I4 n' h'⟩) hi hj hok (.inl rfl) rfl rfl (fun _=>.rfl) (by first | rfl | (cases s <;>rfl)) (fun _=>.rfl) (fun _ _=>.rfl) fun _ h=>h
theorem dZ.waits[Base](I:dZ P γ gs w t k₀ aO d₀ qs left p x ws tl esc){i:Nat}{m:Σ j,WM P γ j}(hi:ws[i]? =some m){g:Goroutine}(hr:m.2.wa.r= .AP)(hms:x.m.ms=0)(hg:g=m.2.g)(hs:g.status= .running)(ho:g.offers=none){fn:FuncId}{pos:String}:
  dZ P γ ((gs.map (woken P g {g with status:=.blocked} w)).setIfInBounds (qs.length+1+i) {g with status:=.blocked}) w (t++MemOp.ofEvents (qs.length+1+i) fn pos #[]) k₀ aO d₀ qs left p x ws tl esc:=by
 subst hg
 obtain⟨hj,hok,_⟩:=I.wG i _ hi
 have:=I.idle (m':=m) (ga:=m.2.g) (ga':={m.2.g with status:=.blocked}) (fn:=fn) (pos:=pos) hi hj hok (.inr ⟨hr,hms,hs,ho,rfl⟩) rfl rfl (fun _=>.rfl) rfl (fun _=>.rfl) (fun _ _=>.rfl) fun _ h=>h
 rw[jG hi]at this
 exact this
end
end Go.aS

/- Acts of a worker that is done: numbers, world, words. Conditions: none; over any program. -/
namespace Go.aS
open Go.Conc (deafBehind_nil)
theorem fQ.ac4{x:DV}{p:MP}{c:Wn}(H:fQ x p c)(h:0<c .s4):x.ws=0:=by
 cases p with
 | wt old B=>cases old <;>simp only[fQ]at H <;>omega
 | reg=>simp only[fQ]at H;rcases H with H | H | H | H <;>omega
 | _=>simp only[fQ]at H;omega

section
variable{left:Nat}{p:MP}{x:XS}{as:List WA}{i:Nat}{a:WA}
theorem N1.aaW(H:N1 left p x as)(hi:as[i]? =some a):DF a.wr x:=by
 have hn:=H.WJ
 have hp:=Rl hi
 refine⟨hn.2.2.1,hn.2.2.2.1,hn.2.2.2.2,?_⟩
 cases hr:a.wr <;>rw[hr]at hp
 ·trivial
 ·exact(H.Ik.WL hp).1
 ·exact H.Ik.look hp
 ·trivial
 ·exact H.Ik.ac4 hp
 ·trivial
end
section
variable{G:Grp}{w:World}{x:XS}
theorem Jb(h:uF G w x)(hne:G.Wg≠G.Mu∨G.mu=none){n:Nat}{x':XS}(h1:x'.g.st=n)(h2:x'.g.ws=x.g.ws)(h3:x'.m=x.m):uF G (w.setCell (cell0 G.Wg) (.int .u64 (n:Int))) x':=by
 refine⟨fun q hq=>?_,?_⟩
 ·have hne':q.1≠G.Wg:=by
   rcases hne with h | h
   ·rw[Grp.I5 hq]at h;exact Ne.symm h
   ·rw[h]at hq;cases hq
  rw[show cell0 G.Wg=⟨G.Wg,0,none⟩from rfl,tY hne',h3]
  exact h.1 q hq
 ·have:=setCell_at (off:=0) (v:=.int .u64 (n:Int)) h.2
  rw[show cell0 G.Wg=⟨G.Wg,0,none⟩from rfl,this]
  simp[zo,h1,h2]
theorem Xg(h:uF G w x)(hne:G.Wg≠G.Mu∨G.mu=none){n:Nat}{x':XS}(h1:x'.g.st=x.g.st)(h2:x'.g.ws=n)(h3:x'.m=x.m):uF G (w.setCell (cell1 G.Wg) (.int .u32 (n:Int))) x':=by
 refine⟨fun q hq=>?_,?_⟩
 ·have hne':q.1≠G.Wg:=by
   rcases hne with h | h
   ·rw[Grp.I5 hq]at h;exact Ne.symm h
   ·rw[h]at hq;cases hq
  rw[show cell1 G.Wg=⟨G.Wg,1,none⟩from rfl,tY hne',h3]
  exact h.1 q hq
 ·have:=setCell_at (off:=1) (v:=.int .u32 (n:Int)) h.2
  rw[show cell1 G.Wg=⟨G.Wg,1,none⟩from rfl,this]
  simp[zo,h1,h2]
end
def oQ(d:Nat)(es:Array Event):Prop:=∀j e,es[j]? =some e→(MemAct.ofEvent e).touch? =none∨((∃ad wr,e=⟨.cell ad,wr,true⟩)∧0<deafBehind d (es.extract 0 j))

theorem Pj{d:Nat}{m:Mark}(h:(MemAct.ofEvent (qo m)).touch? =none):oQ d #[qo m]:=by
 intro j e he
 cases j with
 | zero=>simp at he;subst he;exact .inl h
 | succ j=>simp at he
theorem Xh{d:Nat}{a:Addr}(hd:0<d):oQ d #[uD a]:=by
 intro j e he
 cases j with
 | zero=>simp at he;subst he;exact .inr ⟨⟨a,false,rfl⟩,by simpa[deafBehind]using hd⟩
 | succ j=>simp at he
theorem Xi{d:Nat}{a:Addr}(hd:0<d):oQ d #[yT a]:=by
 intro j e he
 cases j with
 | zero=>simp at he;subst he;exact .inr ⟨⟨a,true,rfl⟩,by simpa[deafBehind]using hd⟩
 | succ j=>simp at he
theorem Pm{d:Nat}{a:Addr}(hd:0<d):oQ d #[uD a,yT a]:=by
 intro j e he
 cases j with
 | zero=>simp at he;subst he;exact .inr ⟨⟨a,false,rfl⟩,by simpa[deafBehind]using hd⟩
 | succ j=>
  cases j with
  | zero=>simp at he;subst he;exact .inr ⟨⟨a,true,rfl⟩,by simpa[deafBehind,uD]using hd⟩
  | succ j=>simp at he
theorem U5{d:Nat}{a:Addr}:oQ d (qy a):=by
 intro j e he
 match j with
 | 0=>simp[qy]at he;subst he;exact .inl rfl
 | 1=>simp[qy]at he;subst he;exact .inr ⟨⟨a,false,rfl⟩,by simp[deafBehind,qy,qo]⟩
 | 2=>simp[qy]at he;subst he;exact .inr ⟨⟨a,true,rfl⟩,by simp[deafBehind,qy,qo,uD]⟩
 | 3=>simp[qy]at he;subst he;exact .inl rfl
 | n+4=>simp[qy]at he

structure ac5(G:Grp)(left:Nat)(p:MP)(as:List WA)(i:Nat)(w:World)(x:XS)(a:LA)(r:WR)(d:Nat)(s':LS):Prop where
 out:∃r' d' x',s'= .dn r' d'∧N1 left p x' (as.set i ⟨.fin,r',false,none,0⟩)∧uF G (gJ G a x w) x'∧x'.m=x.m∧deafBehind d (bT G a x)=d'∧(r≠ .live→r'≠ .live)∧(a= .Nl→r= .live∧d=0∧r'= .s1)∧(a≠ .Nl→r= .live→r'= .live)∧(a≠ .Nl→oQ d (bT G a x))

theorem abp{G:Grp}{left:Nat}{p:MP}{as:List WA}{i:Nat}{w:World}{x:XS}{a:LA}{r:WR}{d:Nat}{s':LS}(hne:G.Wg≠G.Mu∨G.mu=none)(H:N1 left p x as)(hi:as[i]? =some ⟨.fin,r,false,none,0⟩)(hat:uF G w x)
  (hcan:eX G a (.dn r d)) (hn:oP a (.dn r d) x s'):ac5 G left p as i w x a r d s':=by
 have go:∀(r':WR) (g':DV),fQ g' p (cW (as.set i ⟨.fin,r',false,none,0⟩))→N1 left p {x with g:=g'} (as.set i ⟨.fin,r',false,none,0⟩):=fun r' g' h=>H.wg (a':=⟨.fin,r',false,none,0⟩) hi rfl rfl (fun _=>rfl) h H.tok
 cases a with
 | Fa=>exact⟨⟨r,d+1,x,hn,by rw[jG hi];exact H,hat,rfl,rfl,fun h=>h,fun h=>(by cases h),fun _ h=>h,fun _=>Pj rfl⟩⟩
 | en=>exact⟨⟨r,d-1,x,hn,by rw[jG hi];exact H,hat,rfl,rfl,fun h=>h,fun h=>(by cases h),fun _ h=>h,fun _=>Pj rfl⟩⟩
 | non=>
  have hr:r= .live:=hcan
  subst hr
  exact⟨⟨.live,d,x,hn,by rw[jG hi];exact H,hat,rfl,rfl,fun h=>h,fun h=>(by cases h),fun _ h=>h,fun _ j e he=>by simp[bT]at he⟩⟩
 | Nl=>
  obtain⟨rfl,rfl⟩:=hcan
  refine⟨⟨.s1,0,{x with g:=x.g},hn,go .s1 x.g ?_,hat,rfl,rfl,fun h=>absurd rfl h,fun _=>⟨rfl,rfl,rfl⟩,fun h=>absurd rfl h,fun h=>absurd rfl h⟩⟩
  exact H.Ik.told (zq hi)
 | wsub=>
  obtain⟨hd,rfl⟩:=hcan
  have hp:=(H.Ik.WL (Rl hi)).1
  have hst:({x.g with v:=x.g.v-1}:DV).st=x.g.st-4294967296:=by simp only[DV.st];omega
  by_cases he:x.g.v=1∧x.g.w=1
  ·refine⟨⟨.s2,d,{x with g:={x.g with v:=x.g.v-1}},by rw[show s'=_ from hn,if_pos he],go .s2 _ (H.Ik.aey (zq hi) he),Jb hat hne hst rfl rfl,rfl,rfl,fun _=>by simp,fun h=>(by cases h),fun _ h=>(by cases h),fun _=>Pm hd⟩⟩
  ·refine⟨⟨.gone,d,{x with g:={x.g with v:=x.g.v-1}},by rw[show s'=_ from hn,if_neg he],go .gone _ (H.Ik.sub (zq hi) he).1,Jb hat hne hst rfl rfl,rfl,rfl,fun _=>by simp,fun h=>(by cases h),fun _ h=>(by cases h),fun _=>Pm hd⟩⟩
 | BR=>
  obtain⟨hd,rfl⟩:=hcan
  exact⟨⟨.s3,d,{x with g:=x.g},hn,go .s3 x.g (H.Ik.looked (zq hi)),hat,rfl,rfl,fun _=>by simp,fun h=>(by cases h),fun _ h=>(by cases h),fun _=>Xh hd⟩⟩
 | rF=>
  obtain⟨hd,rfl⟩:=hcan
  have hst:({x.g with v:=0,w:=0}:DV).st=0:=by simp[DV.st]
  exact⟨⟨.s4,d,{x with g:={x.g with v:=0,w:=0}},hn,go .s4 _ (H.Ik.store (zq hi)),Jb hat hne hst rfl rfl,rfl,rfl,fun _=>by simp,fun h=>(by cases h),fun _ h=>(by cases h),fun _=>Xi hd⟩⟩
 | tN=>
  obtain⟨hd,rfl⟩:=hcan
  refine⟨⟨.gone,d,{x with g:={x.g with ws:=x.g.ws+1}},hn,go .gone _ (H.Ik.post (zq hi)).1,Xg hat hne rfl rfl rfl,rfl,?_,fun _=>by simp,fun h=>(by cases h),fun _ h=>(by cases h),fun _=>U5⟩⟩
  simp[deafBehind,bT,qy,qo,uD,yT]
 | _=>exact hcan.elim

theorem abq{G:Grp}{a:LA}{x:XS}{r:WR}{d:Nat}(hcan:eX G a (.dn r d)):∀e∈bT G a x,D6 G.Wg e:=by
 have hm:∀m,(∀a,m≠ .release a)→(∀a,m≠ .read a)→(∀a,m≠ .write a)→D6 G.Wg (qo m):=fun m h1 h2 h3=>.inl ⟨m,rfl,h1,h2,h3⟩
 have h0:D6 G.Wg (uD (cell0 G.Wg)):=.inr ⟨_,rfl,.inl rfl⟩
 have h1:D6 G.Wg (yT (cell0 G.Wg)):=.inr ⟨_,rfl,.inr rfl⟩
 have h2:D6 G.Wg (uD (cell1 G.Wg)):=.inr ⟨_,rfl,.inl rfl⟩
 have h3:D6 G.Wg (yT (cell1 G.Wg)):=.inr ⟨_,rfl,.inr rfl⟩
 have hd:=hm .disable (by simp) (by simp) (by simp)
 have hn:=hm .enable (by simp) (by simp) (by simp)
 intro e he
 cases a with
 | Fa=>simp only[bT,Array.mem_singleton,List.mem_toArray,List.mem_singleton]at he;subst he;exact hd
 | en=>simp only[bT,Array.mem_singleton,List.mem_toArray,List.mem_singleton]at he;subst he;exact hn
 | non=>simp[bT]at he
 | Nl=>simp[bT]at he;subst he;exact hm _ (by simp) (by simp) (by simp)
 | wsub=>simp[bT]at he;rcases he with rfl | rfl;exact h0;exact h1
 | BR=>simp[bT]at he;subst he;exact h0
 | rF=>simp[bT]at he;subst he;exact h1
 | tN=>simp[bT,qy]at he;rcases he with rfl | rfl | rfl | rfl;exact hd;exact h2;exact h3;exact hn
 | _=>exact hcan.elim
theorem abr{G:Grp}{a:LA}{x:XS}{w:World}{r:WR}{d:Nat}(hcan:eX G a (.dn r d)):wR G.Wg w (gJ G a x w):=by
 cases a with
 | non=>exact .refl _ _
 | Fa=>exact .refl _ _
 | en=>exact .refl _ _
 | Nl=>exact .refl _ _
 | wsub=>exact wR.set _ (cell0 G.Wg) _
 | BR=>exact .refl _ _
 | rF=>exact wR.set _ (cell0 G.Wg) _
 | tN=>exact wR.set _ (cell1 G.Wg) _
 | _=>exact hcan.elim
end Go.aS

/- The machine, inside a group: a worker that is done acts. Conditions: none; over any program. -/
namespace Go.aS
open Go.Conc (crowd parked rcase scase QuitsIn QuitsD Before Knows knows_own touchAt touchAt_of touchAt_old getElem?_append_old getElem?_append_cases lt_size_of_getElem? touch_of hb_po hb_app ofEvents_eq woken Deaf deaf_old g?_old act?_old heard_old lt_of_act? Deaf_own Deaf_other counts_old deaf_inside)
open Go.ConcM (OsLater)
open Go.ConcN (RelBy)
section
variable{P:Program}{γ:GP}{gs:Array Goroutine}{w w':World}{t u:Trace}{k₀:Hp}{aO:Nat→Prop}{d₀:Nat}{qs:List (Nat×Nat)}{left:Nat}{p p':MP}{x x':XS}{ws:List (Σ j,WM P γ j)}{tl tl':TL}{esc pJ:List ah}
theorem NG{k d:Nat}{es:Array Event}(h:oQ d es)(hd:Deaf t k=d){fn:FuncId}{pos:String}:∀n,t.size≤n→(t++MemOp.ofEvents k fn pos es).g? n=some k→¬(t++MemOp.ofEvents k fn pos es).counts n:=by
 intro i hi _ hc
 obtain⟨x,hx,_,hk⟩:=hc
 obtain⟨act,hact,hxt⟩:=Option.bind_eq_some_iff.1 hx
 obtain⟨op,ho,rfl⟩:=Option.map_eq_some_iff.1 hact
 have hj:(MemOp.ofEvents k fn pos es)[i-t.size]? =some op:=by
  rw[Array.getElem?_append]at ho
  simpa[Nat.not_lt.2 hi]using ho
 rw[ofEvents_eq,Array.getElem?_map]at hj
 obtain⟨e,he,rfl⟩:=Option.map_eq_some_iff.1 hj
 have hjs:i-t.size≤es.size:=by
  rcases Nat.lt_or_ge (i-t.size) es.size with h' | h'
  ·omega
  ·rw[Array.getElem?_eq_none h']at he;cases he
 rcases h _ e he with h0 | ⟨⟨ad,wr,rfl⟩,hdd⟩
 ·simp only at hxt;rw[h0]at hxt;cases hxt
 ·have hxk:x.kind= .atomic:=by
   cases wr <;>simp[MemAct.ofEvent,MemAct.touch?]at hxt <;>subst hxt <;>rfl
  rcases hk with hk | ⟨g,hg,hdf⟩
  ·exact hk hxk
  ·have hg1:g=k:=by simp[Trace.g?,ho]at hg;exact hg.symm
   subst hg1
   have:=deaf_inside t g fn pos es (i-t.size) hjs
   rw[show t.size+(i-t.size)=i by omega,hdf,hd]at this
   omega
theorem U6{G:Grp}{a:LA}{x:XS}{r:WR}{d:Nat}(hcan:eX G a (.dn r d))(hne:a≠ .Nl)(c:Addr):∀e∈bT G a x,MemAct.ofEvent e≠ .mark (.releaseMerge c):=by
 intro e he
 cases a with
 | Fa=>simp[bT]at he;subst he;simp[MemAct.ofEvent,qo]
 | en=>simp[bT]at he;subst he;simp[MemAct.ofEvent,qo]
 | non=>simp[bT]at he
 | Nl=>exact absurd rfl hne
 | wsub=>simp[bT]at he;rcases he with rfl | rfl <;>simp[MemAct.ofEvent,uD,yT]
 | BR=>simp[bT]at he;subst he;simp[MemAct.ofEvent,uD]
 | rF=>simp[bT]at he;subst he;simp[MemAct.ofEvent,yT]
 | tN=>simp[bT,qy]at he;rcases he with rfl | rfl | rfl | rfl <;>simp[MemAct.ofEvent,uD,yT,qo]
 | _=>exact hcan.elim

theorem dZ.zC[Base](I:dZ P γ gs w t k₀ aO d₀ qs left p x ws tl esc){b:Nat}{o:Obj}(h:(b,o)∈esc.flatten):b≠γ.Wg∧(γ.mu≠none→b≠γ.Mu)∧(γ.mu≠none→b≠γ.C):=by
 obtain⟨A,hA,hb⟩:=List.mem_flatten.1 h
 obtain⟨j,hj⟩:=List.getElem?_of_mem hA
 have hjl:j<ws.length:=by rw[←I.lU.len];exact lt_of_some hj
 by_cases hl:(ws[j]).2.wa.wr= .live
 ·have:=I.lU.live j ws[j] A (List.getElem?_eq_getElem hjl) hj hl
  rw[this]at hb;cases hb
 ·have:=((I.lU.done j ws[j] A (List.getElem?_eq_getElem hjl) hj hl).2.1 b o hb).2.2
  exact⟨this.1,this.2.1,this.2.2⟩

theorem xZ{α:Type}{l:List (List α)}{i:Nat}{A:List α}(h:l[i]? =some []):(l.set i A).flatten.Perm (A++l.flatten):=by
 induction l generalizing i with
 | nil=>simp at h
 | cons y l ih=>
  cases i with
  | zero=>
   simp only[List.getElem?_cons_zero,Option.some.injEq]at h
   subst h
   simp
  | succ i=>
   simp only[List.getElem?_cons_succ]at h
   simp only[List.set_cons_succ,List.flatten_cons]
   exact((ih h).append_left y).trans (by rw[←List.append_assoc,←List.append_assoc];exact(List.perm_append_comm).append_right _)

theorem CQ.put{nq:Nat}(h:CQ γ w t nq ws esc){i:Nat}{m m':Σ j,WM P γ j}(hi:ws[i]? =some m)(hl:m.2.wa.wr= .live)(hl':m'.2.wa.wr≠ .live){A:ah}(hn:(A.map (·.1)).Nodup)(hd:∀b o,(b,o)∈A→∀o',(b,o')∉esc.flatten)(hR:γ.R i A)
  (hA:∀b o,(b,o)∈A→w.heap[b]? =some o∧o.isChan=false∧b≠γ.Wg∧(γ.mu≠none→b≠γ.Mu)∧(γ.mu≠none→b≠γ.C))
  (hp:∃p,RelBy (cell0 γ.Wg) t (nq+1+i) p∧(∀p',t.g? p'=some (nq+1+i)→t.act? p'=some (.mark (.releaseMerge (cell0 γ.Mu)))→p'≤p)∧∀b o,(b,o)∈A→∀n a,touchAt t n=some a→In a.loc b→Before t n p):CQ γ w t nq (ws.set i m') (esc.set i A):=by
 have hil:=lt_of_some hi
 have hel:i<esc.length:=by rw[h.len];exact hil
 have he:esc[i]? =some []:=by
  have:=List.getElem?_eq_getElem hel
  rw[this,h.live i m _ hi this hl]
 have Xj:=xZ (A:=A) he
 refine⟨by simp[h.len],?_,fun j y B hj hB hw=>?_,fun j y B hj hB hw=>?_⟩
 ·refine(Xj.map (·.1)).nodup_iff.2 ?_
  rw[List.map_append,List.nodup_append]
  refine⟨hn,h.nodup,fun b hb b' hb' e=>?_⟩
  subst e
  obtain⟨⟨b1,o1⟩,h1,rfl⟩:=List.mem_map.1 hb
  obtain⟨⟨b2,o2⟩,h2,e⟩:=List.mem_map.1 hb'
  simp only at e
  subst e
  exact hd _ _ h1 _ h2
 ·rcases fJ hj with⟨rfl,rfl,_⟩ | ⟨hne,hj⟩
  ·exact absurd hw hl'
  ·rw[List.getElem?_set,if_neg (Ne.symm hne)]at hB
   exact h.live j y B hj hB hw
 ·rcases fJ hj with⟨rfl,rfl,_⟩ | ⟨hne,hj⟩
  ·rw[List.getElem?_set,if_pos rfl,if_pos hel]at hB
   cases hB
   exact⟨hR,hA,hp⟩
  ·rw[List.getElem?_set,if_neg (Ne.symm hne)]at hB
   exact h.done j y B hj hB hw

theorem dZ.Rq[Base](I:dZ P γ gs w t k₀ aO d₀ qs left p x ws tl esc){i j:Nat}{pre:Option (Hp×(Nat→Prop)×ah)}{s:LS}{g:Goroutine}{a:LA}{hs:g.status= .running}{hc:eX γ.toGrp a s}{ho wait}{ok:∀w x,uF γ.toGrp w x→rG a s x→¬jk a x→∃g',stepG P false g w= .go g' (gJ γ.toGrp a x w) (bT γ.toGrp a x)∧g'.status= .running}{wk:rH a→mayWake P g=true}{fr}
  {hh:∀w x g' w' es s',uF γ.toGrp w x→rG a s x→¬jk a x→stepG P false g w= .go g' w' es→oP a s x s'→dB P false (aJ γ.toGrp) (Gone P) s' g'}
  (hi:ws[i]? =some ⟨j,.fin pre (.act (π:=aJ γ.toGrp) a hs hc ho wait ok wk fr hh)⟩) (fn:FuncId) (pos:String):
  ∃(g':Goroutine) (s':LS) (hr:rG a s x) (hnb:¬jk a x) (hst:stepG P false g w= .go g' (gJ γ.toGrp a x w) (bT γ.toGrp a x)) (hn:oP a s x s') (pre':Option (Hp×(Nat→Prop)×ah)) (x':XS) (pJ:List ah),
   dZ P γ ((gs.map (woken P g g' (gJ γ.toGrp a x w))).setIfInBounds (qs.length+1+i) g') (gJ γ.toGrp a x w) (t++MemOp.ofEvents (qs.length+1+i) fn pos (bT γ.toGrp a x)) k₀ aO d₀ qs left p x'
    (ws.set i ⟨j,.fin pre' (hh w x g' _ _ s' I.at_ hr hnb hst hn)⟩) tl pJ:=by
 obtain⟨hj,hok,_⟩:=I.wG i _ hi
 simp only at hj
 subst hj
 obtain⟨htag,r,d,rfl,hpre,hpre'⟩:=hok
 have hmap:(ws.map fun m=>m.2.wa)[j]? =some ⟨.fin,r,false,none,0⟩:=by simp[hi,WM.wa]
 have hrel:rG a (.dn r d) x:=I.N.aaW hmap
 have hnb:¬jk a x:=fun h=>by cases a <;>first | exact h.elim | exact hc.elim
 obtain⟨g',hst,hrun⟩:=ok w x I.at_ hrel hnb
 obtain⟨s',hn⟩:=D7 (x:=x) hc
 obtain⟨r',d',x',rfl,hN,hat,hm,hdf,hlv,aeC,aaX,hq⟩:=(abp I.geo I.N hmap I.at_ hc hn).out
 have hil:=lt_of_some hi
 have Xe:mem qs.length ws.length (qs.length+1+j):=.inr ⟨by omega,by omega⟩
 have Hr:OE γ γ.Wg:=.inl rfl
 have hlt:=I.Y.lt _ (.inl Hr)
 obtain⟨S,St⟩:=Xc (fn:=fn) (pos:=pos) (abq (x:=x) hc) (I.Ri _ Xe _ Hr) hlt
 have We:=abr (x:=x) (w:=w) hc
 have hms:x.m.ms=0→x'.m.ms=0∨wakes P g g'=true:=fun h=>.inl (by rw[hm];exact h)
 have Y1:=I.Y.UW (n':=qs.length+ws.length+1) (WX:=fun b=>b=γ.Wg) (w':=gJ γ.toGrp a x w) (Y_:=fun g=>if g=qs.length+1+j then d' else uY d₀ qs ws g) (by omega) (Nat.le_refl _) We.size (fun b hb=>We.off b hb) S (fun op hop a' ha b hl=>(St op hop a' ha).2 b hl)
   (
    fun b y k M o hb hy ho=>by subst hb;have:=I.Y.Ij _ y k M o Hr hy ho;exact⟨dU this,.inl this⟩) fun g=>by
    by_cases hg:g=qs.length+1+j
    ·subst hg
     rw[if_pos rfl,Deaf_own,I.Y.tk.deaf,zy hi]
     exact hdf
    ·rw[if_neg hg,Deaf_other t (Ne.symm hg) _ S.g]
     exact I.Y.tk.deaf g
 by_cases ha:a= .Nl
 ·
  subst ha
  obtain⟨rfl,rfl,rfl⟩:=aeC rfl
  obtain⟨k,M,A,rfl,hA,hAn,hR⟩:=hpre' rfl
  have hpr:AU k₀ aO qs.length ws (qs.length+1+j)=some (k,M):=iL hi
  have K:=I.Y.DZ _ k M hpr
  have hAw:∀b o,(b,o)∈A→w.heap[b]? =some o:=fun b o hb=>K.uG.get (hA b o hb).1 (hA b o hb).2.2
  have hAs:∀b o,(b,o)∈A→¬OE γ b:=fun b o hb hsb=>by
   have:=dU (I.Y.Ij b _ k M o hsb hpr (hA b o hb).1)
   rw[(hA b o hb).2.2]at this;cases this
  have hAC:∀b o,(b,o)∈A→γ.mu≠none→b≠γ.C:=fun b o hb hmu e=>by
   subst e
   by_cases hno:∀(i':Nat) (m:Σ j,WM P γ j),ws[i']? =some m→¬m.2.runs
   ·have:=I.Y.uH _ _ k M (Rt (esc:=esc) hmu hno) hpr
    rw[(hA _ o hb).1]at this;cases this
   ·simp only[Classical.not_forall,Classical.not_not]at hno
    obtain⟨i',m,h1,h2⟩:=hno
    obtain⟨j',m⟩:=m
    cases m with
    | run T=>
     rename_i g2 k2 M2
     obtain⟨l,hl⟩:=h2
     obtain⟨hj',hok',_⟩:=I.wG i' _ h1
     obtain⟨c,h3,h4,h5⟩:=(hok'.2 hmu).2.2 l hl
     have hne:qs.length+1+i'≠qs.length+1+j:=fun e=>by
      have:i'=j:=by omega
      subst this
      rw[hi]at h1;cases h1
     have:=I.Y.alone hne (iL h1) hpr h4 h3 h5 (hAs _ o hb)
     rw[(hA _ o hb).1]at this;cases this
    | _=>exact h2.elim
  obtain⟨z,hz1,hz2,hz3⟩:=D8 (g:=qs.length+1+j) (fn:=fn) (pos:=pos) (m:=.releaseMerge (cell0 γ.Wg))
  have hopz:MemOp.ofEvents (qs.length+1+j) fn pos (bT γ.toGrp .Nl x)= #[z]:=hz1
  have hz':(t++ #[z])[t.size]? =some z:=by simp
  have hes:esc[j]? =some []:=by
   have hel:j<esc.length:=by rw[I.lU.len];exact hil
   have:=List.getElem?_eq_getElem hel
   rw[this,I.lU.live j _ _ hi this rfl]
  have Xj:=xZ (A:=A) hes
  have wS:∀b,mX γ (ws.set j ⟨j,.fin none (hh w x g' _ _ _ I.at_ hrel hnb hst hn)⟩) (esc.set j A) b↔mX γ ws esc b∨∃o,(b,o)∈A:=fun b=>by
   have e:mX γ (ws.set j ⟨j,.fin none (hh w x g' _ _ _ I.at_ hrel hnb hst hn)⟩) esc=mX γ ws esc:=wQ hi fun _=>.rfl
   rw[←e]
   unfold mX
   constructor
   ·rintro(h | ⟨o,h⟩)
    ·exact .inl (.inl h)
    ·rcases List.mem_append.1 (Xj.mem_iff.1 h)with h | h
     ·exact .inr ⟨o,h⟩
     ·exact .inl (.inr ⟨o,h⟩)
   ·rintro((h | ⟨o,h⟩) | ⟨o,h⟩)
    ·exact .inl h
    ·exact .inr ⟨o,Xj.mem_iff.2 (List.mem_append.2 (.inr h))⟩
    ·exact .inr ⟨o,Xj.mem_iff.2 (List.mem_append.2 (.inl h))⟩
  refine⟨g',_,hrel,hnb,hst,hn,none,x',esc.set j A,?_⟩
  refine I.turn (m':=⟨j,.fin none (hh w x g' _ _ _ I.at_ hrel hnb hst hn)⟩) hi rfl ⟨htag,_,_,rfl,fun _=>rfl,fun h=>by cases h⟩ (.inl rfl) ?_ hN hat S.g (fun op hop a' ha hp=>absurd hp (St op hop a' ha).1) (fun hmu=>?_) ?_ (I.base.Zv We (I.rM _ (.inl Hr))) (fun k' M' b e hb=>by cases e) (fun b hb=>?_) hms
  ·rw[Il hi,tX hi]
   refine(Y1.drop (g:=qs.length+1+j)).re (fun b g2 k2 M2 o h2 ho=>⟨fun hb=>(Y1.drop (g:=qs.length+1+j)).Ij b g2 k2 M2 o hb h2 ho,fun hf=>(Y1.drop (g:=qs.length+1+j)).fk b g2 k2 M2 o h2 ho hf⟩) (fun b g2 k2 M2 hb h2=>?_) fun b hb=>?_
   ·rcases(wS b).1 hb with hb | ⟨o,hb⟩
    ·exact(Y1.drop (g:=qs.length+1+j)).uH b g2 k2 M2 hb h2
    ·by_cases hg:g2=qs.length+1+j
     ·subst hg;rw[fA]at h2;cases h2
     ·rw[jy hg]at h2
      exact I.Y.alone (Ne.symm hg) hpr h2 (hA b o hb).2.1 (hA b o hb).1 (hA b o hb).2.2 (hAs b o hb)
   ·rcases hb with hb | hb
    ·exact Y1.lt b (.inl hb)
    ·rcases(wS b).1 hb with hb | ⟨o,hb⟩
     ·exact Y1.lt b (.inr hb)
     ·rw[We.size];exact m_ (hAw b o hb)
  ·refine I.Ru hmu hi rfl .rfl (fun _=>.rfl) (fun _=>⟨We.off _ (I.pF hmu).1,fun op hop a' ha hl=>(I.pF hmu).1 ((St op hop a' ha).2 _ hl)⟩) fun h=>h.elim
  ·have E1:CQ γ (gJ γ.toGrp .Nl x w) (t++MemOp.ofEvents (qs.length+1+j) fn pos (bT γ.toGrp .Nl x)) qs.length ws esc:=by
    obtain⟨m₀,hi₀,hw₀⟩:∃m:Σ j,WM P γ j,ws[j]? =some m∧m.2.wa.wr= .live:=⟨_,hi,rfl⟩
    have:=I.U2 (w':=gJ γ.toGrp .Nl x w) (u:=MemOp.ofEvents (qs.length+1+j) fn pos (bT γ.toGrp .Nl x)) hi₀ (m':=m₀) .rfl (fun b o hb=>⟨We.off b (I.zC hb).1,fun op hop a' ha hl=>(I.zC hb).1 ((St op hop a' ha).2 b hl)⟩) S.g fun h=>absurd hw₀ h
    rw[jG hi₀]at this
    exact this
   refine E1.put hi rfl (by simp[WM.wa]) hAn (fun b o hb o' hb'=>?_) hR (fun b o hb=>⟨hAw b o hb,(hA b o hb).2.2,fun e=>hAs b o hb (.inl e),fun h e=>hAs b o hb (.inr ⟨h,e⟩),hAC b o hb⟩) ⟨t.size,?_,fun p' hg hac=>?_,fun b o hb n a' ha hl=>?_⟩
   ·have:=I.Y.uH b _ k M (.inr ⟨o',hb'⟩) hpr
    rw[(hA b o hb).1]at this;cases this
   ·exact RelBy.new (by rw[I.Y.tk.deaf,zy hi];rfl) fn pos
   ·obtain⟨op,ho,_⟩:=Option.map_eq_some_iff.1 hg
    rw[hopz]at ho
    have:=lt_size_of_getElem? ho
    simp at this
    omega
   ·rw[hopz]at ha⊢
    rcases fP ha with⟨_,h2⟩ | ⟨op,_,hmm,h2⟩
    ·exact(K.own b (hA b o hb).2.1 (by rw[(hA b o hb).1];exact(hA b o hb).2.2)).before hz3 h2 hl
    ·obtain rfl:op=z:=by simpa using hmm
     rw[hz2]at h2;cases h2
  ·rcases(wS b).1 hb with hb | ⟨o,hb⟩
   ·exact I.rM b (.inr hb)
   ·exact I.low _ k M b hpr (hA b o hb).2.1
 ·refine⟨g',_,hrel,hnb,hst,hn,pre,x',esc,?_⟩
  have wS:mX γ (ws.set j ⟨j,.fin pre (hh w x g' _ _ _ I.at_ hrel hnb hst hn)⟩) esc=mX γ ws esc:=wQ hi fun _=>.rfl
  refine I.turn (m':=⟨j,.fin pre (hh w x g' _ _ _ I.at_ hrel hnb hst hn)⟩) hi rfl ⟨htag,_,_,rfl,fun h=>hpre fun e=>h (aaX ha e),fun h=>?_⟩ (.inl rfl) ?_ hN hat S.g (fun op hop a' ha hp=>absurd hp (St op hop a' ha).1) (fun hmu=>?_) ?_ (I.base.Zv We (I.rM _ (.inl Hr))) (fun k' M' b e hb=>?_) (fun b hb=>?_) hms
  ·by_cases hr:r= .live
   ·exact hpre' hr
   ·exact absurd h (hlv hr)
  ·rw[wS,Il hi,tX hi]
   have hpr:AU k₀ aO qs.length ws (qs.length+1+j)=pre.map fun q=>(q.1,q.2.1):=iL hi
   refine Y1.O7 fun g=>?_
   by_cases hg:g=qs.length+1+j
   ·subst hg;rw[fA,hpr];rfl
   ·rw[jy hg]
  ·refine I.Ru hmu hi rfl .rfl (fun _=>.rfl) (fun _=>⟨We.off _ (I.pF hmu).1,fun op hop a' ha hl=>(I.pF hmu).1 ((St op hop a' ha).2 _ hl)⟩) fun h=>h.elim
  ·refine I.U2 (m':=⟨j,.fin pre (hh w x g' _ _ _ I.at_ hrel hnb hst hn)⟩) hi ⟨fun h=>?_,fun h=>aaX ha h⟩ (fun b o hb=>⟨We.off b (I.zC hb).1,fun op hop a' ha hl=>(I.zC hb).1 ((St op hop a' ha).2 b hl)⟩) S.g fun _=>⟨NG (hq ha) (by rw[I.Y.tk.deaf,zy hi];rfl),fun op hop=>?_⟩
   ·by_cases hr:r= .live
    ·exact hr
    ·exact absurd h (hlv hr)
   ·obtain⟨e,he,rfl⟩:=mem_ofEvents hop
    exact U6 hc ha _ e he
  ·exact I.low _ k' M' b ((iL hi).trans e) hb
  ·rw[wS]at hb;exact I.rM b (.inr hb)
end
end Go.aS

/- The machine, outside a group: goroutine 0, and goroutines that only leave. Conditions: none; over any program. -/
namespace Go.aS
open Go.Conc (crowd parked rcase scase QuitsIn QuitsD Before Knows knows_own touchAt touchAt_of touchAt_old getElem?_append_old getElem?_append_cases lt_size_of_getElem? touch_of hb_po hb_app ofEvents_eq woken Deaf deaf_old g?_old act?_old heard_old lt_of_act? Deaf_own Deaf_other counts_old deaf_inside)
open Go.ConcM (OsLater)
open Go.ConcN (RelBy)
theorem Xk{G:Grp}{a:LA}{d:Nat}(h:eX G a (.dn .gone d)):a= .Fa∨a= .en:=by
 cases a <;>simp_all[eX]
theorem Rz{P:Program}{G:Grp}{s:(aJ G).S}{g:Goroutine}(T:dB P false (aJ G) (Gone P) s g):∀{w:World} {x:XS} {d:Nat},uF G w x→DF .gone x→s= .dn .gone d→∃n,QuitsD P n d g:=by
 induction T with
 | exit hs h=>
  intro w x d _ _ e
  subst e
  obtain⟨h1,n,h2⟩:=h
  cases h1
  exact⟨n,.of_quitsIn h2⟩
 | idle hs e T ih=>
  intro w x d hat hx hd
  obtain⟨n,hq⟩:=ih hat hx hd
  exact⟨n+1,.inr ⟨hs,_, #[],by simp,e,hq⟩⟩
 | act a hs hc ho wait ok wk fr h ih=>
  intro w x d hat hx hd
  subst hd
  have key:(a:LA)= .Fa∨a= .en:=Xk hc
  obtain⟨g',es,hm,hst⟩:=fr key
  have hnb:¬jk a x:=fun h=>by rcases key with rfl | rfl <;>exact h
  obtain⟨s',hn⟩:=D7 (x:=x) hc
  obtain⟨g₂,h1,_⟩:=ok w x hat hx hnb
  have hst':=hst w
  rw[h1]at hst'
  injection hst' with e1 e2 e3
  subst e1
  have e3:bT G a x=es:=e3
  subst e3
  have hdn:∃d',s'= .dn .gone d'∧deafBehind d (bT G a x)=d':=by
   rcases key with rfl | rfl
   ·exact⟨_,hn,rfl⟩
   ·exact⟨_,hn,rfl⟩
  obtain⟨d',rfl,hd'⟩:=hdn
  have hw:gJ G a x w=w:=by rcases key with rfl | rfl <;>rfl
  obtain⟨n,hq⟩:=ih w x g₂ _ _ _ hat hx hnb h1 hn hat hx rfl
  exact⟨n+1,.inr ⟨hs,g₂,_,hm,hst,hd'.symm▸hq⟩⟩

def ZB(k:Hp)(M:Nat→Prop):Rk:=fun x=>if x=0 then some (k,M)else none
def TS(qs:List (Nat×Nat)):Nat→Nat:=fun x=>if x=0 then 0 else((qs[x-1]?).map (·.2)).getD 0

structure sO[Base](P:Program)(D:Nat→Prop)(gs:Array Goroutine)(w:World)(t:Trace)(k:Hp)(M:Nat→Prop)(qs:List (Nat×Nat)):Prop where
 size:gs.size=qs.length+1
 Y:LY w t (qs.length+1) (TS qs) (ZB k M) D (fun _=>False)
 quit:∀(i:Nat) (q:Nat×Nat),qs[i]? =some q→∃g,gs[i+1]? =some g∧QuitsD P q.1 q.2 g∧∀n,t.counts n→t.g? n=some (i+1)→Knows t 0 n
 base:Kept Base.ref w
 low:∀b,M b→Base.ref.heap.size≤b

section
variable{P:Program}{D:Nat→Prop}{gs:Array Goroutine}{w w':World}{t u:Trace}{k:Hp}{M:Nat→Prop}{qs:List (Nat×Nat)}
theorem nJ:ZB k M 0=some (k,M):=by simp[ZB]
theorem fV{g:Nat}{k':Hp}{M':Nat→Prop}(h:ZB k M g=some (k',M')):g=0∧k'=k∧M'=M:=by
 unfold ZB at h
 split at h
 ·rename_i e;cases h;exact⟨e,rfl,rfl⟩
 ·cases h
theorem ZC{k':Hp}{M':Nat→Prop}(g:Nat):ZB k' M' g=Bl (ZB k M) 0 (some (k',M')) g:=by
 unfold ZB Bl
 by_cases h:g=0
 ·rw[if_pos h,if_pos h]
 ·rw[if_neg h,if_neg h];simp[h]
theorem sO.at[Base](I:sO P D gs w t k M qs)(d:Nat):sO P D gs (w.at d) t k M qs:=⟨I.size,I.Y.at d,I.quit,I.base.at d,I.low⟩

theorem sO.step[Base](I:sO P D gs w t k M qs){g g':Goroutine}{es:Array Event}(gu:dX k M w w' es){fn:FuncId}{pos:String}:sO P D ((gs.map (woken P g g' w')).setIfInBounds 0 g') w' (t++MemOp.ofEvents 0 fn pos es) (snap k w w') (grown M w w') qs:=by
 have hlt:0<gs.size:=by have:=I.size;omega
 refine⟨by simp[I.size],(I.Y.step nJ (by omega) gu).O7 fun g=>ZC g,fun i q hi=>?_,I.base.guar gu fun b hb=>I.low b hb,fun b hb=>?_⟩
 ·obtain⟨g,h1,h2,h3⟩:=I.quit i q hi
  refine⟨g,by rw[jF hlt,if_neg (by omega),h1,Option.map_some,pI h2.status],h2,qU h3 (gQ fun op hop=>?_)⟩
  obtain⟨e,_,rfl⟩:=mem_ofEvents hop
  show 0≠i+1
  omega
 ·rcases hb with hb | hb
  ·exact I.low b hb
  ·exact Nat.le_trans I.base.size hb.1
theorem sO.set[Base]{D':Nat→Prop}{k':Hp}{M':Nat→Prop}(I:sO P D gs w t k M qs)(hK:WW w t 0 k' M')(h:∀b o,k' b=some o→(D' b→kN o=true)∧(kN o=true→D' b))(hD:∀b,D' b→b<w.heap.size)(hl:∀b,M' b→Base.ref.heap.size≤b):sO P D' gs w t k' M' qs:=by
 refine⟨I.size,⟨I.Y.tk,fun g k1 M1 e=>?_,fun g g' k1 M1 k2 M2 hne e1 e2=>?_,fun b g k1 M1 o hb e ho=>?_,fun b g k1 M1 o e ho hf=>?_,fun b g k1 M1 hb=>hb.elim,fun b hb=>hD b (hb.resolve_right fun h=>h)⟩,I.quit,I.base,hl⟩
 ·obtain⟨rfl,rfl,rfl⟩:=fV e;exact hK
 ·obtain⟨rfl,_,_⟩:=fV e1
  obtain⟨rfl,_,_⟩:=fV e2
  exact absurd rfl hne
 ·obtain⟨rfl,rfl,rfl⟩:=fV e;exact(h b o ho).1 hb
 ·obtain⟨rfl,rfl,rfl⟩:=fV e;exact(h b o ho).2 hf

/-! ### those that leave -/
def QR(a b:Nat×Nat):Prop:=a.1<b.1
theorem Xl:∀p:Nat×Nat,Acc QR p:=fun p=>(InvImage.wf Prod.fst (Nat.lt_wfRel.wf)).apply p

end
end Go.aS

/- Goroutines that leave, a step further. Conditions: none; over any program. -/
namespace Go.aS
open Go.Conc (crowd parked rcase scase QuitsIn QuitsD Before Knows knows_own touchAt touchAt_of touchAt_old getElem?_append_old getElem?_append_cases lt_size_of_getElem? touch_of hb_po hb_app ofEvents_eq woken Deaf deaf_old g?_old act?_old heard_old lt_of_act? Deaf_own Deaf_other counts_old deaf_inside)
open Go.ConcM (OsLater)
open Go.ConcN (RelBy)
section
variable{P:Program}{γ:GP}{D:Nat→Prop}{gs:Array Goroutine}{w w':World}{t u:Trace}{k:Hp}{M:Nat→Prop}{k₀:Hp}{aO:Nat→Prop}{d₀:Nat}{qs:List (Nat×Nat)}{left:Nat}{p p':MP}{x x':XS}{ws:List (Σ j,WM P γ j)}{tl tl':TL}{esc pJ:List ah}
theorem D9{g:Nat}{fn:FuncId}{pos:String}{es:Array Event}(hm:∀e∈es,Event.mute e=true):∀op∈MemOp.ofEvents g fn pos es,op.g=g∧op.act.touch? =none∧(∀a,op.act≠ .mark (.release a))∧∀a,op.act≠ .mark (.releaseMerge a):=by
 intro op hop
 obtain⟨e,he,rfl⟩:=mem_ofEvents hop
 have h:=hm e he
 unfold Event.mute at h
 split at h
 ·exact⟨rfl,rfl,fun a e=>(by cases e),fun a e=>by cases e⟩
 ·exact⟨rfl,rfl,fun a e=>(by cases e),fun a e=>by cases e⟩
 ·cases h
theorem GH{g:Nat}{fn:FuncId}{pos:String}{es:Array Event}(hm:∀e∈es,Event.mute e=true):∀n,t.size≤n→¬(t++MemOp.ofEvents g fn pos es).counts n:=by
 intro n hn ⟨x,hx,_⟩
 obtain⟨act,hact,hxt⟩:=Option.bind_eq_some_iff.1 hx
 obtain⟨op,ho,rfl⟩:=Option.map_eq_some_iff.1 hact
 rcases getElem?_append_cases ho with⟨h1,_⟩ | ⟨_,h1⟩
 ·omega
 ·rw[(D9 hm op h1).2.1]at hxt;cases hxt
theorem LY.mute{n g:Nat}{dv Y_:Nat→Nat}{pr:Rk}{sh hid:Nat→Prop}{fn:FuncId}{pos:String}{es:Array Event}(Y:LY w t n dv pr sh hid)(hg:g<n)(hm:∀e∈es,Event.mute e=true)(hd:∀x,Y_ x=if x=g then deafBehind (dv g) es else dv x):LY w (t++MemOp.ofEvents g fn pos es) n Y_ pr sh hid:=by
 have hu:=D9 (g:=g) (fn:=fn) (pos:=pos) hm
 refine Y.UW (WX:=fun _=>False) hg (Nat.le_refl _) rfl (fun _ _=>rfl) ⟨fun op h=>(hu op h).1,fun op h a ha=>(by rw[(hu op h).2.1]at ha;cases ha),fun op h=>(hu op h).2.2.1⟩ (fun op h a ha=>by rw[(hu op h).2.1]at ha;cases ha) (fun b x k M o hb=>hb.elim) fun x=>?_
 rw[hd]
 by_cases hx:x=g
 ·subst hx;rw[if_pos rfl,Deaf_own,Y.tk.deaf]
 ·rw[if_neg hx,Deaf_other t (Ne.symm hx) _ fun op h=>(hu op h).1];exact Y.tk.deaf x

theorem Jc{n d:Nat}{g:Goroutine}(h:QuitsD P n d g)(hs:g.status= .running):∃n' g' es,n=n'+1∧(∀e∈es,Event.mute e=true)∧(∀w,stepG P false g w= .go g' w es)∧QuitsD P n' (deafBehind d es) g':=by
 cases n with
 | zero=>have:=h.1;rw[hs]at this;cases this
 | succ n=>
  rcases h with⟨h1,_⟩ | ⟨_,g',es,h1,h2,h3⟩
  ·rw[hs]at h1;cases h1
  ·exact⟨n,g',es,rfl,h1,h2,h3⟩

theorem ZE{i:Nat}{q q':Nat×Nat}(hi:qs[i]? =some q)(x:Nat):TS (qs.set i q') x=if x=i+1 then q'.2 else TS qs x:=by
 unfold TS
 by_cases h0:x=0
 ·subst h0;rw[if_pos rfl,if_pos rfl,if_neg (by omega)]
 ·rw[if_neg h0,if_neg h0]
  by_cases hx:x=i+1
  ·subst hx
   rw[if_pos rfl,show i+1-1=i by omega,List.getElem?_set,if_pos rfl,if_pos (lt_of_some hi)];rfl
  ·rw[if_neg hx,List.getElem?_set,if_neg (by omega)]
theorem Xm{i:Nat}{q:Nat×Nat}(hi:qs[i]? =some q):TS qs (i+1)=q.2:=by
 unfold TS
 rw[if_neg (by omega),show i+1-1=i by omega,hi];rfl

theorem sO.Jd[Base](I:sO P D gs w t k M qs){i n':Nat}{q:Nat×Nat}{g g':Goroutine}{es:Array Event}(hi:qs[i]? =some q)(hm:∀e∈es,Event.mute e=true)(hq:QuitsD P n' (deafBehind q.2 es) g'){fn:FuncId}{pos:String}:
  sO P D ((gs.map (woken P g g' w)).setIfInBounds (i+1) g') w (t++MemOp.ofEvents (i+1) fn pos es) k M (qs.set i (n',deafBehind q.2 es)):=by
 have hil:=lt_of_some hi
 have hsz:=I.size
 have hlt:i+1<gs.size:=by omega
 have hu:=D9 (g:=i+1) (fn:=fn) (pos:=pos) hm
 refine⟨by simp;omega,?_,fun j r hj=>?_,I.base,I.low⟩
 ·rw[List.length_set]
  exact I.Y.mute (by omega) hm fun x=>by rw[ZE hi,Xm hi]
 ·rcases fJ hj with⟨rfl,rfl,_⟩ | ⟨hne,hj⟩
  ·obtain⟨g₁,h1,h2,h3⟩:=I.quit _ q hi
   exact⟨g',by rw[jF hlt,if_pos rfl],hq,qU h3 fun n hn _=>GH hm n hn⟩
  ·obtain⟨g₁,h1,h2,h3⟩:=I.quit j r hj
   refine⟨g₁,by rw[jF hlt,if_neg (by omega),h1,Option.map_some,pI h2.status],h2,qU h3 (gQ fun op hop=>?_)⟩
   rw[(hu op hop).1];omega

theorem ac6{i:Nat}{q q':Nat×Nat}(hi:qs[i]? =some q)(x:Nat):uY d₀ (qs.set i q') ws x=if x=i+1 then q'.2 else uY d₀ qs ws x:=by
 have hil:=lt_of_some hi
 unfold uY
 by_cases h0:x=0
 ·subst h0;rw[if_pos rfl,if_pos rfl,if_neg (by omega)]
 ·rw[if_neg h0,if_neg h0,List.length_set]
  by_cases hx:x=i+1
  ·subst hx
   rw[if_pos rfl,if_pos (by omega),show i+1-1=i by omega,List.getElem?_set,if_pos rfl,if_pos hil];rfl
  ·rw[if_neg hx]
   by_cases hl:x≤qs.length
   ·rw[if_pos hl,if_pos hl,List.getElem?_set,if_neg (by omega)]
   ·rw[if_neg hl,if_neg hl]
theorem ZF{i:Nat}{q:Nat×Nat}(hi:qs[i]? =some q):uY d₀ qs ws (i+1)=q.2:=by
 have hil:=lt_of_some hi
 unfold uY
 rw[if_neg (by omega),if_pos (by omega),show i+1-1=i by omega,hi];rfl

theorem zx.app'{nq:Nat}(h:zx γ w t nq ws tl)(hu:∀op∈u,op.act.touch? =none):zx γ w (t++u) nq ws tl:=by
 refine h.app rfl rfl (fun i m hi=>⟨m,hi,.rfl⟩) (fun i m e hi hh hd=>⟨m,hi,hh,WM.AV hd rfl fun op hop a ha=>by rw[hu op hop]at ha;cases ha⟩) (.inr rfl) (.inr fun op hop a ha=>by rw[hu op hop]at ha;cases ha)
theorem CQ.app'{nq g:Nat}(h:CQ γ w t nq ws esc)(hu:∀op∈u,op.act.touch? =none∧op.g=g)(hg:g≤nq):CQ γ w (t++u) nq ws esc:=by
 refine h.app rfl (fun i m hi=>⟨m,hi,.rfl⟩) (fun _ _ _=>rfl) (fun op hop a ha=>by rw[(hu op hop).1]at ha;cases ha) fun i m hi _=>⟨gQ fun op hop=>by rw[(hu op hop).2];omega,fun op hop e=>by rw[(hu op hop).2]at e;omega⟩

theorem dZ.Jd[Base](I:dZ P γ gs w t k₀ aO d₀ qs left p x ws tl esc){i n':Nat}{q:Nat×Nat}{g g':Goroutine}{es:Array Event}(hi:qs[i]? =some q)(hm:∀e∈es,Event.mute e=true)(hq:QuitsD P n' (deafBehind q.2 es) g'){fn:FuncId}{pos:String}:
  dZ P γ ((gs.map (woken P g g' w)).setIfInBounds (i+1) g') w (t++MemOp.ofEvents (i+1) fn pos es) k₀ aO d₀ (qs.set i (n',deafBehind q.2 es)) left p x ws tl esc:=by
 have hil:=lt_of_some hi
 have hsz:=I.size
 have hlt:i+1<gs.size:=by omega
 have hu:=D9 (g:=i+1) (fn:=fn) (pos:=pos) hm
 have hlen:(qs.set i (n',deafBehind q.2 es)).length=qs.length:=List.length_set
 refine⟨by simp;omega,?_,fun j r hj=>?_,fun j m hj=>?_,I.N,I.at_,fun g₁ hg b hb=>?_,fun hmu=>?_,?_,I.base,fun g₁ k M b hp hb=>?_,I.rM,I.geo,I.pF,I.jc,I.mm⟩
 ·rw[hlen]
  exact I.Y.mute (by omega) hm fun x=>by rw[ac6 hi,ZF hi]
 ·rcases fJ hj with⟨rfl,rfl,_⟩ | ⟨hne,hj⟩
  ·obtain⟨g₁,h1,h2,h3⟩:=I.quit _ q hi
   exact⟨g',by rw[jF hlt,if_pos rfl],hq,qU h3 fun n hn _=>GH hm n hn⟩
  ·exact I.quit' hlt hj (by omega) fun op hop=>by rw[(hu op hop).1];omega
 ·rw[hlen]
  obtain⟨h1,h2,_⟩:=I.wG j m hj
  exact⟨h1,h2,I.abk hlt (fun h=>.inl h) hj (by have:=lt_of_some hj;omega)⟩
 ·rw[hlen]at hg
  exact(I.Ri g₁ hg b hb).app fun op hop a ha=>by rw[(hu op hop).2.1]at ha;cases ha
 ·rw[hlen];exact(I.wP hmu).app' fun op hop=>(hu op hop).2.1
 ·rw[hlen];exact I.lU.app' (g:=i+1) (fun op hop=>⟨(hu op hop).2.1,(hu op hop).1⟩) (by omega)
 ·rw[hlen]at hp;exact I.low g₁ k M b hp hb
end
end Go.aS

/- The machine, inside a group: the starter's moves. Conditions: none; over any program. -/
namespace Go.aS
open Go.Conc (crowd parked rcase scase QuitsIn QuitsD Before Knows knows_own touchAt touchAt_of touchAt_old getElem?_append_old getElem?_append_cases lt_size_of_getElem? touch_of hb_po hb_app ofEvents_eq woken Deaf deaf_old g?_old act?_old heard_old lt_of_act? Deaf_own Deaf_other counts_old deaf_inside)
open Go.ConcM (OsLater)
open Go.ConcN (RelBy)
section
variable{P:Program}{γ:GP}{D:Nat→Prop}{gs:Array Goroutine}{w w':World}{t u:Trace}{k:Hp}{M:Nat→Prop}{k₀ vI:Hp}{aO vJ:Nat→Prop}{d₀ BU:Nat}{qs:List (Nat×Nat)}{left:Nat}{p p':MP}{x x':XS}{ws:List (Σ j,WM P γ j)}{tl tl':TL}{esc pJ:List ah}
theorem dZ.Xn[Base](I:dZ P γ gs w t k₀ aO d₀ qs left p x ws tl esc){ga ga':Goroutine}
  (hY:LY w' (t++u) (qs.length+ws.length+1) (uY BU qs ws) (AU vI vJ qs.length ws) (OE γ) (mX γ ws esc)) (hN:N1 left p' x' (ws.map fun m=>m.2.wa)) (hat:uF γ.toGrp w' x') (hu:∀op∈u,op.g=0)
  (hpl:∀op∈u,∀a,op.act.touch? =some a→a.kind= .plain→∀b,OE γ b→¬In a.loc b) (ht:γ.mu≠none→zx γ w' (t++u) qs.length ws tl) (he:CQ γ w' (t++u) qs.length ws esc) (hk:Kept Base.ref w') (hlow:∀b,vJ b→Base.ref.heap.size≤b) (hms:x.m.ms=0→x'.m.ms=0∨wakes P ga ga'=true) (hmm:γ.mu≠none→vI γ.Mu=none):
  dZ P γ ((gs.map (woken P ga ga' w')).setIfInBounds 0 ga') w' (t++u) vI vJ BU qs left p' x' ws tl esc:=by
 have hsz:=I.size
 have hlt:0<gs.size:=by omega
 refine⟨by simp;omega,hY,fun j q hj=>?_,fun j m hj=>?_,hN,hat,fun g hg b hb=>?_,ht,he,hk,fun g k M b hp hb=>?_,I.rM,I.geo,I.pF,I.jc,hmm⟩
 ·exact I.quit' hlt hj (by omega) fun op hop=>by rw[hu op hop];omega
 ·obtain⟨h1,h2,_⟩:=I.wG j m hj
  exact⟨h1,h2,I.abk hlt hms hj (by omega)⟩
 ·exact(I.Ri g hg b hb).app fun op hop a ha hl hp=>absurd hl (hpl op hop a ha hp b hb)
 ·rcases qQ hp with⟨rfl,rfl,rfl⟩ | ⟨j,n,rfl,hj,hn⟩
  ·exact hlow b hb
  ·exact I.low _ k M b (by rw[iL hj];exact hn) hb

theorem Po(g:Nat){nq:Nat}:AU vI vJ nq ws g=Bl (AU k₀ aO nq ws) 0 (some (vI,vJ)) g:=by
 by_cases hg:g=0
 ·subst hg;rw[fA];exact jU
 ·rw[jy hg];simp[AU,hg]
theorem Xo(g:Nat):uY BU qs ws g=if g=0 then BU else uY d₀ qs ws g:=by
 by_cases hg:g=0
 ·subst hg;rw[if_pos rfl];simp[uY]
 ·rw[if_neg hg];simp[uY,hg]
theorem Je:uY d₀ qs ws 0=d₀:=by simp[uY]

theorem dZ.ac7[Base](I:dZ P γ gs w t k₀ aO d₀ qs left p x ws tl esc){g g':Goroutine}{es:Array Event}(gu:dX k₀ aO w w' es){fn:FuncId}{pos:String}:
  dZ P γ ((gs.map (woken P g g' w')).setIfInBounds 0 g') w' (t++MemOp.ofEvents 0 fn pos es) (snap k₀ w w') (grown aO w w') d₀ qs left p x ws tl esc:=by
 have hpr:AU k₀ aO qs.length ws 0=some (k₀,aO):=jU
 have Hq:∀op∈MemOp.ofEvents 0 fn pos es,op.g=0:=fun op hop=>by obtain⟨e,_,rfl⟩:=mem_ofEvents hop;rfl
 refine I.Xn ((I.Y.step hpr (by omega) gu).O7 fun g=>Po g) I.N (Xa I.at_ (AX (fn:=fn) (pos:=pos) I.Y hpr gu (.inl rfl)).1 fun q hq=>by rw[←Grp.I5 hq];exact(AX (fn:=fn) (pos:=pos) I.Y hpr gu (.inr ⟨by rw[hq];simp,rfl⟩)).1)
  Hq (fun op hop a ha _ b hb=>(AX I.Y hpr gu hb).2 op hop a ha) (fun hmu=>?_) ?_ (I.base.guar gu fun b hb=>I.low _ k₀ aO b hpr hb) (fun b hb=>?_) (fun h=>.inl h) fun hm=>vC (I.mm hm) (I.Y.lt _ (.inl (.inr ⟨hm,rfl⟩)))
 ·
  refine(I.wP hmu).app rfl rfl (fun i m hi=>⟨m,hi,.rfl⟩) (fun i m e hi hh hd=>⟨m,hi,hh,?_⟩) ?_ ?_
  ·refine I7 hd ?_
   by_cases hr:m.2.runs
   ·exact .inl hr
   ·refine .inr ?_
    have:=rO (fn:=fn) (pos:=pos) I.Y hpr gu (Rt (esc:=esc) hmu fun i' m' hi' hr'=>?_)
    ·exact⟨this.1,fun op hop a ha hl=>absurd hl (this.2 op hop a ha)⟩
    ·have:=((I.wP hmu).held i e).2 i' m' hi' (pG hr')
     subst this
     rw[hi]at hi';cases hi'
     exact hr hr'
  ·cases tl with
   | free l c=>exact .inr (rO (fn:=fn) (pos:=pos) I.Y hpr gu (Rt (esc:=esc) hmu fun i' m' hi' hr'=>((I.wP hmu).free l c rfl).1 i' m' hi' (pG hr'))).1
   | «at» i=>exact .inl fun l c e=>by cases e
  ·cases tl with
   | free l c=>exact .inr (rO (fn:=fn) (pos:=pos) I.Y hpr gu (Rt (esc:=esc) hmu fun i' m' hi' hr'=>((I.wP hmu).free l c rfl).1 i' m' hi' (pG hr'))).2
   | «at» i=>exact .inl fun l c e=>by cases e
 ·refine I.lU.app rfl (fun i m hi=>⟨m,hi,.rfl⟩) (fun b o hb=>(rO (fn:=fn) (pos:=pos) I.Y hpr gu (.inr ⟨o,hb⟩)).1) (fun op hop a ha b o hb=>(rO I.Y hpr gu (.inr ⟨o,hb⟩)).2 op hop a ha) fun i m hi _=>⟨gQ fun op hop=>by rw[Hq op hop];omega,fun op hop e=>by rw[Hq op hop]at e;omega⟩
 ·rcases hb with hb | hb
  ·exact I.low _ k₀ aO b hpr hb
  ·exact Nat.le_trans I.base.size hb.1
theorem dZ.aaY[Base](I:dZ P γ gs w t k₀ aO d₀ qs left p x ws tl esc){g g':Goroutine}{fn:FuncId}{pos:String}:dZ P γ ((gs.map (woken P g g' w)).setIfInBounds 0 g') w (t++MemOp.ofEvents 0 fn pos #[]) k₀ aO d₀ qs left p x ws tl esc:=by
 have hu:MemOp.ofEvents 0 fn pos #[]= #[]:=by rw[ofEvents_eq];simp
 rw[hu]
 refine I.Xn (u:= #[]) (by rw[Array.append_empty];exact I.Y) I.N I.at_ (fun op h=>by simp at h) (fun op h=>by simp at h) (fun hmu=>(I.wP hmu).app' fun op h=>by simp at h) (I.lU.app' (g:=0) (fun op h=>by simp at h) (by omega)) I.base (fun b hb=>I.low 0 k₀ aO b jU hb) (fun h=>.inl h) I.mm

/-! ### acts on the group -/
theorem N1.ac8{as:List WA}(H:N1 left p x as):WF p x:=by
 have hn:=H.WJ
 refine⟨hn.2.2.1,hn.2.2.2.1,hn.2.2.2.2,?_⟩
 have hw:=H.Ik
 cases p with
 | add t=>simp only[fQ]at hw⊢;omega
 | wt old B=>
  cases old with
  | none=>simp only[fQ]at hw;exact⟨by omega,by omega,fun _=>by omega,fun o e=>by cases e⟩
  | some o=>simp only[fQ]at hw;exact⟨by omega,by omega,fun e=>(by cases e),fun o' e=>by cases e;omega⟩
 | reg=>simp only[fQ]at hw⊢;intro h;rcases hw with h | h | h | h <;>omega
 | seen=>simp only[fQ]at hw⊢;omega
 | out=>trivial

structure ac9(G:Grp)(left:Nat)(p:MP)(as:List WA)(w:World)(x:XS)(a:LA)(d:Nat)(s':LS):Prop where
 out:∃p' d' x',s'= .wg p' d'∧N1 left p' x' as∧uF G (gJ G a x w) x'∧x'.m=x.m∧deafBehind d (bT G a x)=d'

theorem abt{G:Grp}{as:List WA}{a:LA}{d:Nat}{s':LS}(hne:G.Wg≠G.Mu∨G.mu=none)(H:N1 left p x as)(hat:uF G w x)(hcan:eX G a (.wg p d))(ha:a≠ .Hg)(hnb:¬jk a x)(hn:oP a (.wg p d) x s'):ac9 G left p as w x a d s':=by
 have go:∀(p':MP) (g':DV),fQ g' p' (cW as)→(∀t,p'= .add t→t≤1)→N1 left p' {x with g:=g'} as:=fun p' g' h1 h2=>H.main h1 h2
 have ht0:∀t,MP.add 0= .add t→t≤1:=fun t e=>by cases e;omega
 cases a with
 | Fa=>exact⟨⟨p,d+1,x,hn,H,hat,rfl,rfl⟩⟩
 | en=>exact⟨⟨p,d-1,x,hn,H,hat,rfl,rfl⟩⟩
 | Rh=>
  have hp:p= .add 0:=hcan
  subst hp
  exact⟨⟨_,_,{x with g:=x.g},hn,go _ x.g H.Ik.begin (fun t e=>by cases e),hat,rfl,rfl⟩⟩
 | O0=>
  obtain⟨hd,rfl⟩:=hcan
  have hst:({x.g with v:=x.g.v+1}:DV).st=x.g.st+4294967296:=by simp only[DV.st];omega
  exact⟨⟨_,_,{x with g:={x.g with v:=x.g.v+1}},hn,go _ _ H.Ik.inc.1 (fun t e=>by cases e;omega),Jb hat hne hst rfl rfl,rfl,rfl⟩⟩
 | non=>exact⟨⟨p,d,x,hn,H,hat,rfl,rfl⟩⟩
 | LG=>exact⟨⟨p,d,x,hn,H,hat,rfl,rfl⟩⟩
 | IZ=>
  obtain⟨hd,B,rfl⟩:=hcan
  by_cases h0:x.g.v=0
  ·exact⟨⟨.seen,d,{x with g:=x.g},by rw[show s'=_ from hn,if_pos h0],go _ x.g (H.Ik.acS h0).1 (fun t e=>by cases e),hat,rfl,rfl⟩⟩
  ·exact⟨⟨.wt (some x.g.v) x.g.v,d,{x with g:=x.g},by rw[show s'=_ from hn,if_neg h0],go _ x.g H.Ik.acT.1 (fun t e=>by cases e),hat,rfl,rfl⟩⟩
 | O1 o=>
  obtain⟨hd,h0,B,rfl⟩:=hcan
  by_cases he:x.g.v=o
  ·have hr:=H.Ik.reg he h0
   have hst:({x.g with w:=1}:DV).st=x.g.st+1:=by simp only[DV.st];omega
   refine⟨⟨.reg,d,{x with g:={x.g with w:=1}},by rw[show s'=_ from hn,if_pos he],go _ _ hr.1 (fun t e=>by cases e),?_,rfl,?_⟩⟩
   ·simp only[gJ,if_pos he]
    exact Jb hat hne hst rfl rfl
   ·simp only[bT,if_pos he];rfl
  ·refine⟨⟨.wt none o,d,{x with g:=x.g},by rw[show s'=_ from hn,if_neg he],go _ x.g (H.Ik.miss he).1 (fun t e=>by cases e),?_,rfl,?_⟩⟩
   ·simp only[gJ,if_neg he];exact hat
   ·simp only[bT,if_neg he];rfl
 | FH=>exact⟨⟨p,d,x,hn,H,hat,rfl,rfl⟩⟩
 | DW=>
  obtain⟨hd,rfl⟩:=hcan
  have h0:x.g.ws≠0:=hnb
  refine⟨⟨.seen,d,{x with g:={x.g with ws:=x.g.ws-1}},hn,go _ _ (H.Ik.take (by omega)) (fun t e=>by cases e),Xg hat hne rfl rfl rfl,rfl,?_⟩⟩
  simp[deafBehind,bT,qy,qo,uD,yT]
 | LH=>exact⟨⟨p,d,x,hn,H,hat,rfl,rfl⟩⟩
 | Hg=>exact absurd rfl ha
 | _=>exact hcan.elim

theorem abu{G:Grp}{a:LA}{p:MP}{d:Nat}(hcan:eX G a (.wg p d))(ha:a≠ .Hg):∀e∈bT G a x,(∀c,MemAct.ofEvent e≠ .mark (.release c))∧∀y,(MemAct.ofEvent e).touch? =some y→y.kind≠ .plain∧In y.loc G.Wg∧∀b',In y.loc b'→b'=G.Wg:=by
 have hm:∀m,(∀a,m≠ .release a)→(MemAct.ofEvent (qo m)).touch? =none→(∀c,MemAct.ofEvent (qo m)≠ .mark (.release c))∧∀y,(MemAct.ofEvent (qo m)).touch? =some y→y.kind≠ .plain∧In y.loc G.Wg∧∀b',In y.loc b'→b'=G.Wg:=fun m h1 h2=>⟨fun c e=>by
  have e:MemAct.mark m= .mark (.release c):=e
  injection e with e;exact h1 c e,fun y hy=>by rw[h2]at hy;cases hy⟩
 have hr:∀c:Addr,c.block=G.Wg→(∀c',MemAct.ofEvent (uD c)≠ .mark (.release c'))∧∀y,(MemAct.ofEvent (uD c)).touch? =some y→y.kind≠ .plain∧In y.loc G.Wg∧∀b',In y.loc b'→b'=G.Wg:=fun c hc=>⟨fun c' e=>(by cases e),fun y hy=>by
  simp only[uD,MemAct.ofEvent,MemAct.touch?,Option.some.injEq]at hy
  subst hy
  exact⟨by simp,hc,fun b' e=>e.symm.trans hc⟩⟩
 have hw:∀c:Addr,c.block=G.Wg→(∀c',MemAct.ofEvent (yT c)≠ .mark (.release c'))∧∀y,(MemAct.ofEvent (yT c)).touch? =some y→y.kind≠ .plain∧In y.loc G.Wg∧∀b',In y.loc b'→b'=G.Wg:=fun c hc=>⟨fun c' e=>(by cases e),fun y hy=>by
  simp only[yT,MemAct.ofEvent,MemAct.touch?,Option.some.injEq]at hy
  subst hy
  exact⟨by simp,hc,fun b' e=>e.symm.trans hc⟩⟩
 have hsr:∀c:Addr,c.block=G.Wg→(∀c',MemAct.ofEvent (qo (.read c))≠ .mark (.release c'))∧∀y,(MemAct.ofEvent (qo (.read c))).touch? =some y→y.kind≠ .plain∧In y.loc G.Wg∧∀b',In y.loc b'→b'=G.Wg:=fun c hc=>⟨fun c' e=>(by cases e),fun y hy=>by
  simp only[qo,MemAct.ofEvent,MemAct.touch?,Option.some.injEq]at hy
  subst hy
  exact⟨by simp,hc,fun b' e=>e.symm.trans hc⟩⟩
 have hsw:∀c:Addr,c.block=G.Wg→(∀c',MemAct.ofEvent (qo (.write c))≠ .mark (.release c'))∧∀y,(MemAct.ofEvent (qo (.write c))).touch? =some y→y.kind≠ .plain∧In y.loc G.Wg∧∀b',In y.loc b'→b'=G.Wg:=fun c hc=>⟨fun c' e=>(by cases e),fun y hy=>by
  simp only[qo,MemAct.ofEvent,MemAct.touch?,Option.some.injEq]at hy
  subst hy
  exact⟨by simp,hc,fun b' e=>e.symm.trans hc⟩⟩
 have hd:=hm .disable (by simp) rfl
 have hn:=hm .enable (by simp) rfl
 intro e he
 cases a with
 | Fa=>simp[bT]at he;subst he;exact hd
 | en=>simp[bT]at he;subst he;exact hn
 | Rh=>simp[bT]at he;subst he;exact hd
 | O0=>simp[bT]at he;rcases he with rfl | rfl;exact hr _ rfl;exact hw _ rfl
 | non=>simp[bT]at he
 | LG=>simp[bT]at he;subst he;exact hsr _ rfl
 | IZ=>simp[bT]at he;subst he;exact hr _ rfl
 | O1 o=>
  simp only[bT]at he
  split at he <;>simp at he
  ·rcases he with rfl | rfl;exact hr _ rfl;exact hw _ rfl
  ·subst he;exact hr _ rfl
 | FH=>simp[bT]at he;subst he;exact hsw _ rfl
 | DW=>simp[bT,qy]at he;rcases he with rfl | rfl | rfl | rfl;exact hd;exact hr _ rfl;exact hw _ rfl;exact hn
 | LH=>simp[bT]at he;subst he;exact hr _ rfl
 | Hg=>exact absurd rfl ha
 | _=>exact hcan.elim
theorem abv{G:Grp}{a:LA}{p:MP}{d:Nat}(hcan:eX G a (.wg p d)):wR G.Wg w (gJ G a x w):=by
 cases a with
 | O0=>exact wR.set _ (cell0 G.Wg) _
 | O1 o=>simp only[gJ];split;exact wR.set _ (cell0 G.Wg) _;exact .refl _ _
 | DW=>exact wR.set _ (cell1 G.Wg) _
 | non=>exact .refl _ _
 | Fa=>exact .refl _ _
 | en=>exact .refl _ _
 | Rh=>exact .refl _ _
 | LG=>exact .refl _ _
 | IZ=>exact .refl _ _
 | FH=>exact .refl _ _
 | LH=>exact .refl _ _
 | Hg=>exact .refl _ _
 | _=>exact hcan.elim

theorem dZ.aeD[Base](I:dZ P γ gs w t k₀ aO d₀ qs left p x ws tl esc){a:LA}{s':LS}(hcan:eX γ.toGrp a (.wg p d₀))(ha:a≠ .Hg)(hnb:¬jk a x)(hn:oP a (.wg p d₀) x s'){g g':Goroutine}{fn:FuncId}{pos:String}:
  ∃p' d' x',s'= .wg p' d'∧dZ P γ ((gs.map (woken P g g' (gJ γ.toGrp a x w))).setIfInBounds 0 g') (gJ γ.toGrp a x w) (t++MemOp.ofEvents 0 fn pos (bT γ.toGrp a x)) k₀ aO d' qs left p' x' ws tl esc:=by
 obtain⟨p',d',x',rfl,hN,hat,hm,hdf⟩:=(abt I.geo I.N I.at_ hcan ha hnb hn).out
 refine⟨p',d',x',rfl,?_⟩
 have Hr:OE γ γ.Wg:=.inl rfl
 have hlt:=I.Y.lt _ (.inl Hr)
 have hE:=abu (x:=x) hcan ha
 have We:=abv (x:=x) (w:=w) hcan
 have Hq:∀op∈MemOp.ofEvents 0 fn pos (bT γ.toGrp a x),op.g=0:=fun op hop=>by obtain⟨e,_,rfl⟩:=mem_ofEvents hop;rfl
 have hot:∀op∈MemOp.ofEvents 0 fn pos (bT γ.toGrp a x),∀y,op.act.touch? =some y→y.kind≠ .plain∧In y.loc γ.Wg∧∀b',In y.loc b'→b'=γ.Wg:=fun op hop y hy=>by
  obtain⟨e,he,rfl⟩:=mem_ofEvents hop
  exact(hE e he).2 y hy
 have S:Kt t 0 w.heap.size (MemOp.ofEvents 0 fn pos (bT γ.toGrp a x)):=⟨Hq,fun op hop y hy=>by
  obtain⟨h1,h2,h3⟩:=hot op hop y hy
  exact⟨h1,fun _=>rfl,γ.Wg,h2,h3,hlt,I.Ri 0 (.inl rfl) _ Hr⟩,fun op hop c=>by
  obtain⟨e,he,rfl⟩:=mem_ofEvents hop
  exact(hE e he).1 c⟩
 refine I.Xn ?_ hN hat Hq (fun op hop y hy hp=>absurd hp (hot op hop y hy).1) (fun hmu=>?_) ?_ (I.base.Zv We (I.rM _ (.inl Hr))) (fun b hb=>I.low 0 k₀ aO b jU hb) (fun h=>.inl (by rw[hm];exact h)) I.mm
 ·refine I.Y.UW (WX:=fun b=>b=γ.Wg) (by omega) (Nat.le_refl _) We.size (fun b hb=>We.off b hb) S (fun op hop y hy b hl=>(hot op hop y hy).2.2 b hl) (fun b y k M o hb hy ho=>by subst hb;have:=I.Y.Ij _ y k M o Hr hy ho;exact⟨dU this,.inl this⟩) fun g=>?_
  rw[Xo (d₀:=d₀)]
  by_cases hg:g=0
  ·subst hg
   rw[if_pos rfl,Deaf_own,I.Y.tk.deaf,Je]
   exact hdf
  ·rw[if_neg hg,Deaf_other t (Ne.symm hg) _ Hq]
   exact I.Y.tk.deaf g
 ·have hC:(gJ γ.toGrp a x w).heap[γ.C]? =w.heap[γ.C]? :=We.off _ (I.pF hmu).1
  have hCu:∀op∈MemOp.ofEvents 0 fn pos (bT γ.toGrp a x),∀y,op.act.touch? =some y→¬In y.loc γ.C:=fun op hop y hy hl=>(I.pF hmu).1 ((hot op hop y hy).2.2 _ hl)
  exact(I.wP hmu).app rfl rfl (fun i m hi=>⟨m,hi,.rfl⟩) (fun i m e hi hh hd=>⟨m,hi,hh,WM.AV hd hC fun op hop y hy hl=>absurd hl (hCu op hop y hy)⟩) (.inr hC) (.inr hCu)
 ·exact I.lU.app rfl (fun i m hi=>⟨m,hi,.rfl⟩) (fun b o hb=>We.off b (I.zC hb).1) (fun op hop y hy b o hb hl=>(I.zC hb).1 ((hot op hop y hy).2.2 b hl)) fun i m hi _=>⟨gQ fun op hop=>by rw[Hq op hop];omega,fun op hop e=>by rw[Hq op hop]at e;omega⟩
end
end Go.aS

/- The machine, inside a group: a worker is started. Conditions: none; over any program. -/
namespace Go.aS
open Go.Conc (crowd parked rcase scase QuitsIn QuitsD Before Knows knows_own touchAt touchAt_of touchAt_old getElem?_append_old getElem?_append_cases lt_size_of_getElem? touch_of hb_po hb_app ofEvents_eq woken Deaf deaf_old g?_old act?_old heard_old lt_of_act? Deaf_own Deaf_other counts_old deaf_inside)
open Go.ConcM (OsLater)
open Go.ConcN (RelBy)
theorem jV{A:ah}{b:Nat}{o:Obj}(h:A.lookup b=some o):(b,o)∈A:=by
 induction A with
 | nil=>simp at h
 | cons p A ih=>
  obtain⟨b',o'⟩:=p
  simp only[List.lookup_cons]at h
  split at h
  ·rename_i e
   have:b=b':=by simpa using e
   cases h;subst this;exact List.mem_cons_self ..
  ·exact List.mem_cons_of_mem _ (ih h)
theorem zD{A:ah}{b:Nat}{o:Obj}(h:(b,o)∈A):(A.lookup b).isSome=true:=by
 induction A with
 | nil=>cases h
 | cons p A ih=>
  obtain⟨b',o'⟩:=p
  simp only[List.lookup_cons]
  split
  ·rfl
  ·rcases List.mem_cons.1 h with h | h
   ·cases h
    rename_i e
    simp at e
   ·exact ih h
theorem l9{k:Hp}{A:ah}{b:Nat}{o:Obj}(h:xX k A b=some o):A.lookup b=none∧k b=some o:=by
 simp only[xX]at h
 cases e:A.lookup b with
 | none=>rw[e]at h;exact⟨rfl,h⟩
 | some o'=>rw[e]at h;cases h
theorem CS{k:Hp}{A:ah}{b:Nat}(h:A.lookup b=none):xX k A b=k b:=by simp[xX,h]

section
variable{P:Program}{γ:GP}{gs:Array Goroutine}{w w':World}{t u:Trace}{k:Hp}{M:Nat→Prop}{k₀ vI:Hp}{aO vJ:Nat→Prop}{d₀ BU:Nat}{qs:List (Nat×Nat)}{left:Nat}{p p':MP}{x x':XS}{ws:List (Σ j,WM P γ j)}{tl tl':TL}{esc pJ:List ah}
theorem vK{α:Type}{l:List α}{a y:α}{j:Nat}(h:(l++[a])[j]? =some y):l[j]? =some y∨(j=l.length∧y=a):=by
 rcases Nat.lt_or_ge j l.length with hj | hj
 ·rw[List.getElem?_append_left hj]at h;exact .inl h
 ·rw[List.getElem?_append_right hj]at h
  have:j-l.length=0:=by
   rcases Nat.eq_zero_or_pos (j-l.length)with h' | h'
   ·exact h'
   ·rw[List.getElem?_eq_none (by simp;omega)]at h;cases h
  rw[this]at h
  simp only[List.getElem?_cons_zero,Option.some.injEq]at h
  exact .inr ⟨by omega,h.symm⟩

theorem Xp{m:Σ j,WM P γ j}(hm:m.2.deaf=0):uY d₀ qs (ws++[m])=uY d₀ qs ws:=by
 funext g
 unfold uY
 by_cases h0:g=0
 ·rw[if_pos h0,if_pos h0]
 ·rw[if_neg h0,if_neg h0]
  by_cases h1:g≤qs.length
  ·rw[if_pos h1,if_pos h1]
  ·rw[if_neg h1,if_neg h1]
   rcases Nat.lt_or_ge (g-1-qs.length) ws.length with h2 | h2
   ·rw[List.getElem?_append_left h2]
   ·rw[List.getElem?_append_right h2,List.getElem?_eq_none h2]
    rcases Nat.eq_zero_or_pos (g-1-qs.length-ws.length)with h3 | h3
    ·rw[h3];simp[hm]
    ·rw[List.getElem?_eq_none (by simp;omega)]
theorem Xq{m:Σ j,WM P γ j}{nq:Nat}(g:Nat):AU vI vJ nq (ws++[m]) g=Bl (Bl (AU k₀ aO nq ws) 0 (some (vI,vJ))) (nq+1+ws.length) m.2.act g:=by
 by_cases hg:g=nq+1+ws.length
 ·subst hg
  rw[fA]
  exact iL (by rw[List.getElem?_append_right (Nat.le_refl _)];simp)
 ·rw[jy hg]
  by_cases h0:g=0
  ·subst h0;rw[fA];exact jU
  ·rw[jy h0]
   unfold AU
   rw[if_neg h0,if_neg h0]
   by_cases h1:g≤nq
   ·rw[if_pos h1,if_pos h1]
   ·rw[if_neg h1,if_neg h1]
    rcases Nat.lt_or_ge (g-1-nq) ws.length with h2 | h2
    ·rw[List.getElem?_append_left h2]
    ·rw[List.getElem?_append_right h2,List.getElem?_eq_none h2,List.getElem?_eq_none (by simp;omega)]

def go1(n:Nat)(fn:FuncId)(pos:String):MemOp:={g:=0,fn,pos,act:=.go n}
def go2(n:Nat)(fn:FuncId)(pos:String):MemOp:={g:=n,fn,pos,act:=.start}

section
variable{n:Nat}{dv:Nat→Nat}{pr:Rk}{sh hid:Nat→Prop}{fn fn':FuncId}{pos pos':String}
theorem RD{o1 o2:MemOp}:t++ #[o1,o2]=(t++ #[o1])++ #[o2]:=by rw[Array.append_assoc];rfl
theorem U7{o1 o2:MemOp}{i:Nat}{a:Touch}(ha:touchAt (t++ #[o1,o2]) i=some a)(h1:o1.act.touch? =none)(h2:o2.act.touch? =none):touchAt t i=some a:=by
 rcases fP ha with⟨_,h⟩ | ⟨op,_,hm,h⟩
 ·exact h
 ·have:op=o1∨op=o2:=by simpa using hm
  rcases this with rfl | rfl
  ·rw[h1]at h;cases h
  ·rw[h2]at h;cases h
theorem qK{z op:MemOp}(h:op∈ #[z]):op=z:=by simpa using h
theorem LY.word{g n':Nat}{z:MemOp}(Y:LY w t n dv pr sh hid)(hn:g<n)(hn':n≤n')(hg:z.g=g)(h1:z.act.touch? =none)(h2:∀m,z.act≠ .mark m):LY w (t++ #[z]) n' dv pr sh hid∧∀x,Deaf (t++ #[z]) x=dv x:=by
 have d1:∀x,Deaf (t++ #[z]) x=dv x:=fun x=>by
  rw[Go.ConcN.Deaf_still t x _ fun op h=>(by rw[qK h];exact⟨h2 _,h2 _⟩),Y.tk.deaf]
 refine⟨Y.UW (WX:=fun _=>False) hn hn' rfl (fun _ _=>rfl) ⟨fun op h=>(by rw[qK h];exact hg),fun op h a ha=>(by rw[qK h,h1]at ha;cases ha),fun op h a=>(by rw[qK h];exact h2 _)⟩ (fun op h a ha=>by rw[qK h,h1]at ha;cases ha) (fun b x k M o hb=>hb.elim) d1,d1⟩
theorem LY.start(Y:LY w t n dv pr sh hid)(hn:0<n)(hd:dv 0=0)(hdn:dv n=0):LY w (t++ #[go1 n fn pos,go2 n fn' pos']) (n+1) dv pr sh hid∧∀i,Knows t 0 i→Knows (t++ #[go1 n fn pos,go2 n fn' pos']) n i:=by
 obtain⟨Y1,d1⟩:=Y.word (z:=go1 n fn pos) hn (Nat.le_succ n) rfl rfl (by simp[go1])
 obtain⟨Y2,_⟩:=Y1.word (z:=go2 n fn' pos') (Nat.lt_succ_self n) (Nat.le_refl _) rfl rfl (by simp[go2])
 have e1:(t++ #[go1 n fn pos,go2 n fn' pos'])[t.size]? =some (go1 n fn pos):=by rw[Array.getElem?_append_right (by omega)];simp
 have e2:(t++ #[go1 n fn pos,go2 n fn' pos'])[t.size+1]? =some (go2 n fn' pos'):=by rw[Array.getElem?_append_right (by omega)];simp
 have hh1:(t++ #[go1 n fn pos,go2 n fn' pos']).heard t.size:=Y.tk.heard (r:=0) e1 hd
 have hh2:(t++ #[go1 n fn pos,go2 n fn' pos']).heard (t.size+1):=by
  have hs:(t++ #[go1 n fn pos]).size=t.size+1:=by simp
  have:=Y1.tk.heard (r:=0) (u:= #[go2 n fn' pos']) (z:=go2 n fn' pos') (by rw[hs,←RD];exact e2) hdn
  rw[hs,←RD]at this
  exact this
 have edge:HappensBefore (t++ #[go1 n fn pos,go2 n fn' pos']) t.size (t.size+1):=
  .single (.inr ⟨.spawn (child:=n) (by simp only[Trace.act?,e1];rfl) (by simp only[Trace.act?,e2];rfl) (by simp only[Trace.g?,e2];rfl),hh1,hh2⟩)
 refine⟨by rw[RD];exact Y2,?_⟩
 rintro i ⟨q,z,h1,h2,h3⟩
 have hq:=lt_size_of_getElem? h1
 have h4:HappensBefore (t++ #[go1 n fn pos,go2 n fn' pos']) q t.size:=hb_po hq (by rw[getElem?_append_old hq];exact h1) e1 h2
 exact⟨t.size+1,_,e2,rfl,.inr ((h3.app _).hb (h4.trans edge))⟩
end
end
end Go.aS

/- The machine, inside a group: a worker is started, put together. Conditions: none; over any program. -/
namespace Go.aS
open Go.Conc (crowd parked rcase scase QuitsIn QuitsD Before Knows knows_own touchAt touchAt_of touchAt_old getElem?_append_old getElem?_append_cases lt_size_of_getElem? touch_of hb_po hb_app ofEvents_eq woken Deaf deaf_old g?_old act?_old heard_old lt_of_act? Deaf_own Deaf_other counts_old deaf_inside)
open Go.ConcM (OsLater)
open Go.ConcN (RelBy)
section
variable{P:Program}{γ:GP}{gs:Array Goroutine}{w w':World}{t u:Trace}{k:Hp}{M:Nat→Prop}{k₀ vI:Hp}{aO vJ:Nat→Prop}{d₀ BU:Nat}{qs:List (Nat×Nat)}{left:Nat}{p p':MP}{x x':XS}{ws:List (Σ j,WM P γ j)}{tl tl':TL}{esc pJ:List ah}
theorem dZ.spawn[Base]{child g':Goroutine}{kc:Hp}{M':Nat→Prop}{A:ah}{fn fn':FuncId}{pos pos':String}(I:dZ P γ gs w t k₀ aO 0 qs (left+1) (.add 1) x ws tl esc)(hk:k₀ γ.Wg=some (sK 1 ws.length (left+1)))
  (hsub:∀b o,kc b=some o→(b=γ.Mu∧γ.mu≠none∧γ.tag ws.length≠none∧o=gK .out)∨(k₀ b=some o∧o.isChan=false)) (hmu:γ.tag ws.length≠none→γ.mu≠none∧kc γ.Mu=some (gK .out)) (hmn:γ.mu≠none→γ.tag ws.length=none→kc γ.Mu=none)
  (hA:∀b o,(b,o)∈A→kc b=some o∧k₀ b=some o∧aO b∧o.isChan=false)
  (T:yU P γ ws.length child kc fun b=>(b=γ.Mu∧γ.tag ws.length≠none)∨∃o,(b,o)∈A)
  (hM':∀b,M' b→aO b) (hsep:∀b,(γ.mu≠none→b≠γ.Mu)→(kc b).isSome=true→¬M' b):
  dZ P γ ((gs.setIfInBounds 0 g').push child) w (t++ #[go1 gs.size fn pos,go2 gs.size fn' pos']) (hset (xX k₀ A) γ.Wg (sK 0 (ws.length+1) left)) M' 0 qs left (.add 0)
   {x with E:=en (cR ((ws.map fun m=>m.2.wa)++[(WM.run T:WM P γ ws.length).wa])) x.m.ms left} (ws++[⟨ws.length,.run T⟩]) tl (esc++[[]]):=by
 have hsz:=I.size
 have hn:gs.size=qs.length+1+ws.length:=by omega
 have hpr:AU k₀ aO qs.length ws 0=some (k₀,aO):=jU
 have K:=I.Y.DZ 0 k₀ aO hpr
 have Hr:OE γ γ.Wg:=.inl rfl
 have hdv:uY (γ:=γ) 0 qs ws 0=0:=Je
 have hdn:uY (γ:=γ) 0 qs ws (qs.length+ws.length+1)=0:=by
  unfold uY
  rw[if_neg (by omega),if_neg (by omega),List.getElem?_eq_none (by omega)];rfl
 have hnn:gs.size=qs.length+ws.length+1:=by omega
 obtain⟨Y1,tells⟩:=I.Y.start (fn:=fn) (fn':=fn') (pos:=pos) (pos':=pos') (by omega) hdv hdn
 rw[←hnn]at Y1 tells
 have old:∀{j a},touchAt (t++ #[go1 gs.size fn pos,go2 gs.size fn' pos']) j=some a→touchAt t j=some a:=fun ha=>U7 ha rfl rfl
 have hops:∀op∈ #[go1 gs.size fn pos,go2 gs.size fn' pos'],op.act.touch? =none∧(op.g=0∨op.g=gs.size)∧∀m,op.act≠ .mark m:=fun op h=>by
  have:op=go1 gs.size fn pos∨op=go2 gs.size fn' pos':=by simpa using h
  rcases this with rfl | rfl
  ·exact⟨rfl,.inl rfl,by simp[go1]⟩
  ·exact⟨rfl,.inr rfl,by simp[go2]⟩
 have hAW:∀b o,(b,o)∈A→b≠γ.Wg:=fun b o hb e=>by
  subst e
  have h1:=(hA _ o hb).2.1
  rw[hk]at h1;cases h1
  have:=(hA _ _ hb).2.2.2
  cases this
 have hAM:∀b o,(b,o)∈A→γ.mu≠none→b≠γ.Mu:=fun b o hb hmu e=>by
  subst e
  have:=dU (I.Y.Ij _ 0 k₀ aO o (.inr ⟨hmu,rfl⟩) hpr (hA _ o hb).2.1)
  rw[(hA _ o hb).2.2.2]at this;cases this
 have hAl:∀b,M' b→A.lookup b=none:=fun b hb=>by
  cases e:A.lookup b with
  | none=>rfl
  | some o=>
   have hm:=jV e
   exact absurd hb (hsep b (hAM b o hm) (by rw[(hA b o hm).1];rfl))
 have hnr:∀l,kc γ.Mu≠some (gK (.hold l))∨γ.mu=none:=fun l=>by
  by_cases hmm:γ.mu=none
  ·exact .inr hmm
  ·left
   by_cases htg:γ.tag ws.length=none
   ·rw[hmn hmm htg];simp
   ·rw[(hmu htg).2];intro e;injection e with e;cases nH e
 have hkeep:∀b,b≠γ.Wg→∀o,hset (xX k₀ A) γ.Wg (sK 0 (ws.length+1) left) b=some o→A.lookup b=none∧k₀ b=some o:=fun b hb o h=>by
  rw[bY _ _ hb]at h;exact l9 h
 have Y2:=Y1.set (g:=0) (k':=hset (xX k₀ A) γ.Wg (sK 0 (ws.length+1) left)) (M':=M') ⟨fun b o ho=>?_,fun b hb=>?_,fun b hb hc=>?_,fun b hb hc=>?_⟩ (fun y k2 M2 hy h2=>⟨fun b hb hs=>?_,fun b hb hs=>?_⟩) (fun b o ho=>?_) (fun b hb=>?_)
 rotate_left
 ·rcases bV ho with⟨rfl,rfl⟩ | ⟨h1,h2⟩
  ·obtain⟨o',h3,_⟩:=K.uG _ _ hk
   exact⟨o',h3,.inr ⟨rfl,.inr (vg _ _ _)⟩⟩
  ·exact K.uG b o (l9 h2).2
 ·by_cases hbW:b=γ.Wg
  ·subst hbW;rw[bH];rfl
  ·rw[bY _ _ hbW,CS (hAl b hb)];exact K.dom b (hM' b hb)
 ·by_cases hbW:b=γ.Wg
  ·subst hbW;rw[bH]at hc;cases hc
  ·rw[bY _ _ hbW,CS (hAl b hb)]at hc
   exact(K.own b (hM' b hb) hc).app fun op hop a ha=>by rw[(hops op hop).1]at ha;cases ha
 ·obtain⟨o,ho⟩:=Option.isSome_iff_exists.1 hb
  rcases bV ho with⟨rfl,rfl⟩ | ⟨h1,h2⟩
  ·rw[ho]at hc;cases hc
  ·rw[ho]at hc
   have h3:=(l9 h2).2
   exact(K.rd b (by rw[h3];rfl) (by rw[h3];exact hc)).app fun op hop a ha=>by rw[(hops op hop).1]at ha;cases ha
 ·exact I.Y.apart 0 y k₀ aO k2 M2 (Ne.symm hy) hpr h2 b (hM' b hb) hs
 ·obtain⟨o,ho⟩:=Option.isSome_iff_exists.1 hs
  rw[ho]
  rcases bV ho with⟨rfl,rfl⟩ | ⟨h1,h3⟩
  ·rfl
  ·have h4:=(l9 h3).2
   have:=I.Y.apart y 0 k2 M2 k₀ aO hy h2 hpr b hb (by rw[h4];rfl)
   rw[h4]at this;exact this
 ·rcases bV ho with⟨rfl,rfl⟩ | ⟨h1,h2⟩
  ·exact⟨fun _=>vg _ _ _,fun _=>Hr⟩
  ·have h3:=(l9 h2).2
   exact⟨fun hb=>I.Y.Ij b 0 k₀ aO o hb hpr h3,fun hf=>I.Y.fk b 0 k₀ aO o hpr h3 hf⟩
 ·have hkb:=I.Y.uH b 0 k₀ aO hb hpr
  have hbW:b≠γ.Wg:=fun e=>by rw[e,hk]at hkb;cases hkb
  cases e:hset (xX k₀ A) γ.Wg (sK 0 (ws.length+1) left) b with
  | none=>rfl
  | some o=>have:=(hkeep b hbW o e).2;rw[hkb]at this;cases this
 have Y3:=Y2.set (g:=gs.size) (k':=kc) (M':=fun b=>(b=γ.Mu∧γ.tag ws.length≠none)∨∃o,(b,o)∈A) ⟨fun b o ho=>?_,fun b hb=>?_,fun b hb hc=>?_,fun b hb hc=>?_⟩ (fun y k2 M2 hy h2=>⟨fun b hb hs=>?_,fun b hb hs=>?_⟩) (fun b o ho=>?_) (fun b hb=>?_)
 rotate_left
 ·rcases hsub b o ho with⟨rfl,hmm,_,rfl⟩ | ⟨h1,h2⟩
  ·obtain⟨q,hq⟩:=Option.ne_none_iff_exists'.1 hmm
   have h3:=I.at_.1 q hq
   rw[←Grp.I5 hq]at h3
   exact⟨_,h3,.inr ⟨rfl,.inr rfl⟩⟩
  ·exact K.uG b o h1
 ·rcases hb with⟨rfl,htg⟩ | ⟨o,hb⟩
  ·rw[(hmu htg).2];rfl
  ·rw[(hA b o hb).1];rfl
 ·rcases hb with⟨rfl,htg⟩ | ⟨o,hb⟩
  ·rw[(hmu htg).2]at hc;cases hc
  ·obtain⟨h1,h2,h3,h4⟩:=hA b o hb
   exact fun i a ha hl=>tells i (K.own b h3 (by rw[h2];exact h4) i a (old ha) hl)
 ·obtain⟨o,ho⟩:=Option.isSome_iff_exists.1 hb
  rcases hsub b o ho with⟨rfl,_,_,rfl⟩ | ⟨h1,h2⟩
  ·rw[ho]at hc;cases hc
  ·exact fun i a ha hl hwr=>tells i (K.rd b (by rw[h1];rfl) (by rw[h1];exact h2) i a (old ha) hl hwr)
 ·by_cases hy0:y=0
  ·subst hy0
   rw[fA]at h2
   cases h2
   obtain⟨o₂,LK⟩:=Option.isSome_iff_exists.1 hs
   rw[LK]
   rcases hb with⟨rfl,htg⟩ | ⟨o,hb⟩
   ·have hne:γ.Mu≠γ.Wg:=(I.geo.resolve_right (hmu htg).1).symm
    exact dU (I.Y.Ij _ 0 k₀ aO o₂ (.inr ⟨(hmu htg).1,rfl⟩) hpr (hkeep _ hne _ LK).2)
   ·have:=(hkeep b (hAW b o hb) o₂ LK).1
    have h3:=zD hb
    rw[this]at h3;cases h3
  ·rw[jy hy0]at h2
   rcases hb with⟨rfl,htg⟩ | ⟨o,hb⟩
   ·obtain⟨o₂,LK⟩:=Option.isSome_iff_exists.1 hs
    rw[LK]
    exact dU (I.Y.Ij _ y k2 M2 o₂ (.inr ⟨(hmu htg).1,rfl⟩) h2 LK)
   ·exact I.Y.apart 0 y k₀ aO k2 M2 (Ne.symm hy0) hpr h2 b (hA b o hb).2.2.1 hs
 ·obtain⟨o,ho⟩:=Option.isSome_iff_exists.1 hs
  rw[ho]
  by_cases hy0:y=0
  ·subst hy0
   rw[fA]at h2
   cases h2
   by_cases hbm:γ.mu≠none∧b=γ.Mu
   ·rcases hsub b o ho with⟨_,_,_,rfl⟩ | ⟨h1,_⟩
    ·rfl
    ·exact dU (I.Y.Ij b 0 k₀ aO o (.inr hbm) hpr h1)
   ·exact absurd hb (hsep b (fun h e=>hbm ⟨h,e⟩) (by rw[ho];rfl))
  ·rw[jy hy0]at h2
   rcases hsub b o ho with⟨_,_,_,rfl⟩ | ⟨h1,_⟩
   ·rfl
   ·have:=I.Y.apart y 0 k2 M2 k₀ aO hy0 h2 hpr b hb (by rw[h1];rfl)
    rw[h1]at this;exact this
 ·rcases hsub b o ho with⟨rfl,hmm,_,rfl⟩ | ⟨h1,h2⟩
  ·exact⟨fun _=>rfl,fun _=>.inr ⟨hmm,rfl⟩⟩
  ·exact⟨fun hb=>I.Y.Ij b 0 k₀ aO o hb hpr h1,fun hf=>I.Y.fk b 0 k₀ aO o hpr h1 hf⟩
 ·cases e:kc b with
  | none=>rfl
  | some o=>
   rcases hsub b o e with⟨rfl,hmm,_,rfl⟩ | ⟨h1,h2⟩
   ·rcases hb with⟨h3,h4,_⟩ | ⟨o,h3⟩
    ·exact absurd h4.symm (I.pF h3).2
    ·exact absurd rfl ((I.zC h3).2.1 hmm)
   ·rw[I.Y.uH b 0 k₀ aO hb hpr]at h1;cases h1
 have hrun0:γ.mu≠none→¬(WM.run T:WM P γ ws.length).has:=fun hm ⟨l,h⟩=>(hnr l).elim (fun h'=>h' h) hm
 have wS:mX γ (ws++[⟨ws.length,.run T⟩]) (esc++[[]])=mX γ ws esc:=by
  funext b
  apply propext
  unfold mX
  rw[List.flatten_append]
  simp only[List.flatten_cons,List.flatten_nil,List.append_nil]
  constructor
  ·rintro(⟨h1,h2,h3⟩ | h)
   ·exact .inl ⟨h1,h2,fun m hm=>h3 m (List.mem_append_left _ hm)⟩
   ·exact .inr h
  ·rintro(⟨h1,h2,h3⟩ | h)
   ·refine .inl ⟨h1,h2,fun m hm hr=>?_⟩
    rcases List.mem_append.1 hm with hm | hm
    ·exact h3 m hm hr
    ·obtain rfl:=List.mem_singleton.1 hm
     exact hrun0 h1 (pG hr)
   ·exact .inr h
 have hbe:fU (ws++[⟨ws.length,.run T⟩])=fU ws:=by
  unfold fU
  rw[List.filterMap_append]
  have:¬(WM.run T:WM P γ ws.length).been∨γ.tag ws.length=none:=by
   by_cases htg:γ.tag ws.length=none
   ·exact .inr htg
   ·left
    intro h
    have h:kc γ.Mu=some (gK .fin):=h
    rw[(hmu htg).2]at h;injection h with h;cases nH h
  rcases this with h | h
  ·simp[h]
  ·simp[h]
 have hlen:(ws++[(⟨ws.length,.run T⟩:Σ j,WM P γ j)]).length=ws.length+1:=by simp
 have hgs:∀i,0<i→i<gs.size→((gs.setIfInBounds 0 g').push child)[i]? =gs[i]? :=fun i h1 h2=>by
  rw[Array.getElem?_push,if_neg (by simp;omega),Array.getElem?_setIfInBounds_ne (by omega)]
 refine⟨by simp;omega,?_,fun i q hi=>?_,fun i m hi=>?_,?_,⟨I.at_.1,I.at_.2⟩,fun g hg b hb=>?_,fun hm=>?_,?_,I.base,fun g k M b hp hb=>?_,fun b hb=>?_,I.geo,I.pF,I.jc,fun hm=>?_⟩
 ·rw[wS,Xp rfl,hlen]
  rw[show qs.length+(ws.length+1)+1=gs.size+1 by omega]
  exact Y3.O7 fun g=>by rw[Xq (k₀:=k₀) (aO:=aO),hn];rfl
 ·have:=lt_of_some hi
  obtain⟨g,h1,h2,h3⟩:=I.quit i q hi
  exact⟨g,by rw[hgs _ (by omega) (by omega)];exact h1,h2,qU h3 (gQ fun op hop=>by rcases(hops op hop).2.1 with h | h <;>omega)⟩
 ·rcases vK hi with hi | ⟨rfl,rfl⟩
  ·have:=lt_of_some hi
   obtain⟨h1,h2,g,h3,h4⟩:=I.wG i m hi
   exact⟨h1,h2,g,by rw[hgs _ (by omega) (by omega)];exact h3,h4⟩
  ·refine⟨rfl,⟨fun h=>(hmu h).1,fun hm=>⟨hmn hm,fun h=>⟨.inl ⟨rfl,h⟩,.out,(hmu h).2⟩,fun l h=>((hnr l).elim (fun h'=>h' h) hm).elim⟩⟩,child,?_,.inl rfl⟩
   rw[Array.getElem?_push,if_pos (by simp;omega)]
 ·rw[List.map_append]
  refine I.N.spawn ?_ rfl rfl fun _=>trivial
  by_cases hm:γ.mu=none
  ·exact .inr (qV (.inl hm))
  ·by_cases htg:γ.tag ws.length=none
   ·exact .inr (qV (.inr (.inr (hmn hm htg))))
   ·exact .inl (LJ hm (hmu htg).2)
 ·rw[hlen]at hg
  by_cases hgn:g=gs.size
  ·subst hgn
   exact fun i a ha hl hp=>tells i (I.Ri 0 (.inl rfl) b hb i a (old ha) hl hp)
  ·exact(I.Ri g (by rcases hg with hg | hg;exact .inl hg;exact .inr ⟨hg.1,by omega⟩) b hb).app fun op hop a ha=>by rw[(hops op hop).1]at ha;cases ha
 ·have T0:=I.wP hm
  refine⟨fun l c e=>?_,fun i e=>?_⟩
  ·obtain⟨h1,h2,h3,h4,h5⟩:=T0.free l c e
   refine⟨fun i m hi hs=>?_,h2,h3,by rw[hbe];exact h4,fun i a ha hl=>?_⟩
   ·rcases vK hi with hi | ⟨rfl,rfl⟩
    ·exact h1 i m hi hs
    ·exact hrun0 hm hs
   ·rcases h5 i a (old ha) hl with h6 | ⟨q,g,h6,h7,h8,h9,h10,h11⟩
    ·refine .inl fun g hg=>?_
     rw[hlen]at hg
     by_cases hgn:g=gs.size
     ·subst hgn;exact tells i (h6 0 (.inl rfl))
     ·exact(h6 g (by rcases hg with hg | hg;exact .inl hg;exact .inr ⟨hg.1,by omega⟩)).app _
    ·have hp:=lt_of_act? h9
     exact .inr ⟨q,g,h6,by rw[hlen];omega,by rw[g?_old hp];exact h8,by rw[act?_old hp];exact h9,(heard_old hp).2 h10,h11.app _⟩
  ·obtain⟨⟨m,h1,h2,h3⟩,h4⟩:=T0.held i e
   refine⟨⟨m,by rw[List.getElem?_append_left (lt_of_some h1)];exact h1,h2,by rw[hbe];exact WM.AV h3 rfl fun op hop a ha=>by rw[(hops op hop).1]at ha;cases ha⟩,fun i' m' hi' hs=>?_⟩
   rcases vK hi' with hi' | ⟨rfl,rfl⟩
   ·exact h4 i' m' hi' hs
   ·exact(hrun0 hm hs).elim
 ·have E0:=I.lU
  have E1:CQ γ w (t++ #[go1 gs.size fn pos,go2 gs.size fn' pos']) qs.length ws esc:=E0.app rfl (fun i m hi=>⟨m,hi,.rfl⟩) (fun _ _ _=>rfl) (fun op hop a ha=>by rw[(hops op hop).1]at ha;cases ha) fun i m hi _=>by
   have:=lt_of_some hi
   exact⟨gQ fun op hop=>by rcases(hops op hop).2.1 with h | h <;>omega,fun op hop _=>(hops op hop).2.2 _⟩
  refine⟨by simp[E1.len],by rw[List.flatten_append];simpa using E1.nodup,fun i m B hi hB hl=>?_,fun i m B hi hB hl=>?_⟩
  ·rcases vK hi with hi | ⟨rfl,rfl⟩
   ·rw[List.getElem?_append_left (by rw[E1.len];exact lt_of_some hi)]at hB
    exact E1.live i m B hi hB hl
   ·rw[←E1.len,List.getElem?_append_right (Nat.le_refl _)]at hB
    simpa using hB.symm
  ·rcases vK hi with hi | ⟨rfl,rfl⟩
   ·rw[List.getElem?_append_left (by rw[E1.len];exact lt_of_some hi)]at hB
    exact E1.done i m B hi hB hl
   ·exact absurd rfl hl
 ·rcases qQ hp with⟨rfl,rfl,rfl⟩ | ⟨j,n,rfl,hj,hn'⟩
  ·exact I.low 0 k₀ aO b hpr (hM' b hb)
  ·rcases vK hj with hj | ⟨rfl,rfl⟩
   ·exact I.low _ k M b (by rw[iL hj];exact hn') hb
   ·cases hn'
    rcases hb with⟨rfl,htg⟩ | ⟨o,hb⟩
    ·exact I.rM _ (.inl (.inr ⟨(hmu htg).1,rfl⟩))
    ·exact I.low 0 k₀ aO b hpr (hA b o hb).2.2.1
 ·rw[wS]at hb;exact I.rM b hb
 ·cases e:hset (xX k₀ A) γ.Wg (sK 0 (ws.length+1) left) γ.Mu with
  | none=>rfl
  | some o=>
   have:=(hkeep _ (fun e=>(I.geo.resolve_right hm) e.symm) o e).2
   rw[I.mm hm]at this;cases this
end
end Go.aS
