/- The machine runs to its end. Conditions: none; over any program. (And 7 texts more.) -/
import Derived.Test.YtnffnndmilpnoaaGreatDoorR03
import Derived.Conc.Pipeline3
set_option linter.unusedVariables false
set_option linter.unusedSimpArgs false
set_option linter.unusedSectionVars false

/- The machine runs to its end. Conditions: none; over any program. -/
namespace Go.Mus
open Go.Conc (crowd parked rcase scase QuitsIn Before Knows knows_own touchAt touchAt_of touchAt_old getElem?_append_old getElem?_append_cases lt_size_of_getElem? touch_of hb_po hb_app ofEvents_eq woken)
def Ends (P : Program) (Q : Machine → Outcome → World → Trace → Prop) (m : Machine) (t : Trace) : Prop :=
 ∃ n last o w t', runNT P (n + 1) m t = (.ended o w, t') ∧ runN P n m = .next last ∧ step P last = .ended o w ∧ Q last o w t'

section
variable {P : Program} {Q : Machine → Outcome → World → Trace → Prop}
theorem Ends.step {m m' : Machine} {t : Trace} {ops : Array MemOp} (hs : stepT P m = (.next m', ops)) (h : Ends P Q m' (t ++ ops)) : Ends P Q m t := by
 obtain ⟨n, last, o, w, t', h1, h2, h3, h4⟩ := h
 exact ⟨n + 1, last, o, w, t', by rw [runNT_succ_next hs]; exact h1, by rw [runN_succ_next hs]; exact h2, h3, h4⟩
theorem Ends.stop {m : Machine} {t : Trace} {ops : Array MemOp} {o : Outcome} {w : World} (hs : stepT P m = (.ended o w, ops)) (hq : Q m o w (t ++ ops)) : Ends P Q m t :=
 ⟨0, m, o, w, t ++ ops, by simp [runNT, hs], rfl, by simp [Go.step, hs], hq⟩
end
/-- Goroutine 0 stands where the run ends. -/
def FinOK (P : Program) (Post : Value → World → Prop) (g : Goroutine) (k : Hp) (M : Nat → Prop) : Prop :=
 g.status = .running ∧ (∀ c o, M c → k c = some o → opn o = false) ∧ ∀ w, Agr k w → Dom k M → ∃ v w' es, stepG P true g w = .ended (.done v) w' es ∧ Guar k M w w' es ∧ Post v w'

/-- Where goroutine 0 is: it runs; or it waits at a sender's channel. -/
def MainAt (P : Program) (ks : List (Nat × KC)) (gm g : Goroutine) : Prop :=
 (Same g gm ∧ gm.status = .running) ∨ ∃ (c : Nat) (z : Value) (g₁ : Goroutine) (i : Nat) (g' : Goroutine) (k : Hp) (M : Nat → Prop), gm = parked g₁ #[rcase c z] (.recv true) ∧ Same g g₁ ∧ (∀ w, stepG P true g w = .comm g₁ #[rcase c z] true (.recv true) w #[]) ∧ ks[i]? = some (c, KC.run g' k M)

variable {P : Program} {gs : Array Goroutine} {w w' : World} {t u : Trace} {k₀ : Hp} {M₀ : Nat → Prop} {ks : List (Nat × KC)}
theorem Live.at {i c : Nat} {k : Hp} {M : Nat → Prop} (L : Live w t k₀ M₀ i c k M) (d : Nat) : Live (w.at d) t k₀ M₀ i c k M := ⟨L.agr, L.dom, L.own, L.rd, L.mc, L.ghost, L.m0, L.opened, L.rdc, L.ap0, L.ap1⟩
theorem MInv.at [Base] (I : MInv P gs w t k₀ M₀ ks) (d : Nat) : MInv P gs (w.at d) t k₀ M₀ ks := by
 refine ⟨I.size, I.agr, I.dom, I.tok, I.own, I.rd, fun i c x hi => ?_, I.apart, I.fresh, I.has, ⟨I.base.os, I.base.output, I.base.tape, I.base.size, I.base.block⟩, I.low, I.lowk⟩
 obtain ⟨g, h1, h2⟩ := I.kid i c x hi
 refine ⟨g, h1, ?_⟩
 cases x with
 | run g' k M => exact ⟨h2.1, h2.2.1, h2.2.2.1, h2.2.2.2.at d⟩
 | park k M =>
  obtain ⟨g', v, l, z, a1, a2, a3, L⟩ := h2
  exact ⟨g', v, l, z, a1, a2, a3, L.at d⟩
 | quit n => exact h2

/-- Sender number i. -/
theorem MInv.get [Base] {i : Nat} {g : Goroutine} (I : MInv P gs w t k₀ M₀ ks) (h : gs[i + 1]? = some g) : ∃ c x, ks[i]? = some (c, x) ∧ Kid P w t k₀ M₀ i c g x := by
 have hlt : i + 1 < gs.size := by
  rcases Nat.lt_or_ge (i + 1) gs.size with h' | h'
  ·exact h'
  ·rw [Array.getElem?_eq_none h'] at h; cases h
 have hi : i < ks.length := by have := I.size; omega
 obtain ⟨⟨c, x⟩, e⟩ : ∃ p, ks[i]? = some p := ⟨ks[i], List.getElem?_eq_getElem hi⟩
 obtain ⟨g₁, h1, h2⟩ := I.kid i c x e
 rw [h] at h1
 cases h1
 exact ⟨c, x, e, h2⟩

/-- All are awake. -/
theorem MInv.awake [Base] {gm g : Goroutine} (I : MInv P gs w t k₀ M₀ ks) (h0 : gs[0]? = some gm) (hm : MainAt P ks gm g) : ∀ g ∈ gs, Conc.awake g := by
 intro x hx
 obtain ⟨m, hlt, e⟩ := Array.mem_iff_getElem.1 hx
 have hm' : gs[m]? = some x := by rw [← e]; exact Array.getElem?_eq_getElem hlt
 intro tm hs
 cases m with
 | zero =>
  rw [h0] at hm'
  cases hm'
  rcases hm with ⟨_, h⟩ | ⟨c, z, g₁, i, g', k, M, rfl, _⟩
  ·rw [h] at hs; cases hs
  ·cases hs
 | succ i =>
  obtain ⟨c, y, _, h2⟩ := I.get hm'
  cases y with
  | run _ _ _ => rw [h2.2.1] at hs; cases hs
  | park _ _ => obtain ⟨_, _, _, _, rfl, _⟩ := h2; cases hs
  | quit n => rcases h2.1.status with h | h <;> (rw [h] at hs; cases hs)

/-- No sender offers to receive; whoever offers to send over a channel is its sender. -/
theorem Kid.offers {i c r : Nat} {g : Goroutine} {x : KC} (h : Kid P w t k₀ M₀ i c g x) : Conc.offersAt g r false = [] ∧ (c ≠ r → Conc.offersAt g r true = []) := by
 cases x with
 | run _ _ _ => exact ⟨Conc.offersAt_of_not_blocked (by rw [h.2.1]; simp) _ _, fun _ => Conc.offersAt_of_not_blocked (by rw [h.2.1]; simp) _ _⟩
 | park _ _ =>
  obtain ⟨g', v, l, z, rfl, _⟩ := h
  exact ⟨Conc.offersAt_parked_send' _ _ _ _ _ _, fun hne => by rw [Conc.offersAt_parked_send, if_neg hne]⟩
 | quit n =>
  have : g.status ≠ .blocked := by rcases h.1.status with h | h <;> (rw [h]; simp)
  exact ⟨Conc.offersAt_of_not_blocked this _ _, fun _ => Conc.offersAt_of_not_blocked this _ _⟩

/-- What becomes of goroutine 0 while another steps: nothing; or, if the channel at which it waits has been closed, it tries again. -/
theorem MainAt.woken {gm g ga ga' : Goroutine} {ks' : List (Nat × KC)} (hm : MainAt P ks gm g) (w' : World)
  (hc : ∀ (c i : Nat) (g' : Goroutine) (k : Hp) (M : Nat → Prop), ks[i]? = some (c, KC.run g' k M) → ((mayWake P ga && ga'.status != .blocked && ga'.status != .waiting) = true ∧ ∃ s r, w'.heap[c]? = some (Obj.chan 0 #[] true s r false)) ∨ ((∃ s r, w'.heap[c]? = some (Obj.chan 0 #[] false s r false)) ∧ ∃ (i' : Nat) (g'' : Goroutine) (k' : Hp) (M' : Nat → Prop), ks'[i']? = some (c, KC.run g'' k' M'))) :
  MainAt P ks' (Conc.woken P ga ga' w' gm) g := by
 rcases hm with ⟨h1, h2⟩ | ⟨c, z, g₁, i, g', k, M, rfl, h1, h2, h3⟩
 ·rw [woken_same (Conc.again_running w' (.inl h2))]
  exact .inl ⟨h1, h2⟩
 ·rcases hc c i g' k M h3 with ⟨hw, s, r, ho⟩ | ⟨⟨s, r, ho⟩, i', g'', k', M', h4⟩
  ·unfold Conc.woken
   rw [if_pos hw, Conc.again_recv_closed ho]
   exact .inl ⟨h1, rfl⟩
  ·rw [woken_same (Conc.again_recv_open ho)]
   exact .inr ⟨c, z, g₁, i', g'', k', M', rfl, h1, h2, h4⟩

theorem getElem?_turn {m j : Nat} {g g' : Goroutine} (hlt : m < gs.size) : ((gs.map (woken P g g' w')).setIfInBounds m g')[j]? = if j = m then some g' else (gs[j]?).map (woken P g g' w') := by
 by_cases hj : j = m
 ·subst hj; simp [hlt]
 ·rw [if_neg hj, Array.getElem?_setIfInBounds_ne (fun e => hj e.symm), Array.getElem?_map]

/-- Behind goroutine number i + 1's own step: the others are as they were. -/
theorem MInv.others [Base] {i : Nat} {ga ga' : Goroutine} (I : MInv P gs w t k₀ M₀ ks) (hlt : i + 1 < gs.size) (hc : ∀ (j c : Nat) (x : KC), j ≠ i → ks[j]? = some (c, x) → ∀ o, w.heap[c]? = some o → o.isChan = true → w'.heap[c]? = some o) :
  ∀ m, m ≠ i + 1 → 0 < m → ((gs.map (woken P ga ga' w')).setIfInBounds (i + 1) ga')[m]? = gs[m]? := by
 intro m hm h0
 rw [getElem?_turn hlt, if_neg hm]
 cases hg : gs[m]? with
 | none => rfl
 | some g =>
  obtain ⟨j, rfl⟩ : ∃ j, m = j + 1 := ⟨m - 1, by omega⟩
  obtain ⟨c, x, hx, h2⟩ := I.get hg
  have : g.again w' = g := by
   cases x with
   | run g' k M => exact Conc.again_running w' (.inl h2.2.1)
   | park k M =>
    obtain ⟨g', v, l, z, rfl, _, _, L⟩ := h2
    obtain ⟨s, r, ho⟩ := L.opened
    exact Conc.again_send_open (hc j c _ (by omega) hx _ ho rfl)
   | quit n => exact Conc.again_running w' (h2.1.status)
  simp [woken_same this]

/-- ████ A sender takes a step: the run ends, if it does behind any step of any sender's, and behind any receipt of goroutine 0's. -/
theorem kid_moves [Base] {Q : Machine → Outcome → World → Trace → Prop} {i : Nat} {g gm ga : Goroutine} {sl : Option (Nat × Nat)} (I : MInv P gs w t k₀ M₀ ks) (h0 : gs[0]? = some gm) (hm : MainAt P ks gm g) (hi : gs[i + 1]? = some ga) (hr : ga.status = .running)
  (ih : ∀ ks', LR P ks' ks → ∀ gs gm w t sl, MInv P gs w t k₀ M₀ ks' → gs[0]? = some gm → MainAt P ks' gm g → Ends P Q (crowd gs w sl) t)
  (meet : ∀ (c : Nat) (z v : Value) (g₁ : Goroutine) (l : List Value), (∀ w, stepG P true g w = .comm g₁ #[rcase c z] true (.recv true) w #[]) → k₀ c = some (gch (v :: l)) → ∀ ks', (∀ p ∈ ks', Acc (KR P p.1) p.2) → ∀ gs w t sl, MInv P gs w t (hset k₀ c (gch l)) M₀ ks' → gs[0]? = some (g₁.finishComm P #[rcase c z] (.recv true) 0 v true) → Ends P Q (crowd gs w sl) t)
  (hacc : ∀ p ∈ ks, Acc (KR P p.1) p.2) :
  ∃ m' ops, runT P (crowd gs w sl) (i + 1) = (.next m', ops) ∧ Ends P Q m' (t ++ ops) := by
 obtain ⟨c, x, hx, hk⟩ := I.get hi
 have hlt : i + 1 < gs.size := by
  rcases Nat.lt_or_ge (i + 1) gs.size with h' | h'
  ·exact h'
  ·rw [Array.getElem?_eq_none h'] at hi; cases hi
 have hb : ((i + 1) == 0) = false := by simp
 cases x with
 | park k M => obtain ⟨_, _, _, _, rfl, _⟩ := hk; cases hr
 | quit n =>
  cases n with
  | zero => rw [show ga.status = .finished from hk.1] at hr; cases hr
  | succ n =>
   rcases hk.1 with h | ⟨_, g', hw, hq⟩
   ·rw [h] at hr; cases hr
   ·refine ⟨_, _, Conc.runT_crowd_go (w' := w) hi (by rw [hb]; exact hw w), ?_⟩
    have hn : t ++ MemOp.ofEvents (i + 1) ga.frame.fn ga.frame.place #[] = t := by rw [ofEvents_eq]; simp
    rw [hn]
    have I' := I.quits hx hi hq (gs' := (gs.map (woken P ga g' w)).setIfInBounds (i + 1) g') (by simp) (by rw [getElem?_turn hlt, if_pos rfl]) (I.others hlt fun _ _ _ _ _ o h _ => h)
    refine ih _ (.at .quits hx) _ _ _ _ _ I' (by rw [getElem?_turn hlt, if_neg (by omega), h0]; rfl) (hm.woken w fun c' i' g'' k' M' h => .inr ⟨?_, ?_⟩)
    ·obtain ⟨_, _, h2⟩ := I.kid i' c' _ h
     exact h2.2.2.2.opened
    ·refine ⟨i', g'', k', M', ?_⟩
     have : i ≠ i' := by rintro rfl; rw [hx] at h; cases h
     rw [List.getElem?_set, if_neg this]; exact h
 | run g' k M =>
  obtain ⟨rfl, _, hch, L⟩ := hk
  obtain ⟨s, r, ho⟩ := L.opened
  obtain ⟨l₀, hl1, hl2⟩ := L.ghost
  have accs : ∀ x', KR P c x' (.run g' k M) → ∀ p ∈ ks.set i (c, x'), Acc (KR P p.1) p.2 := by
   intro x' hx' p hp
   rcases List.mem_or_eq_of_mem_set hp with h | rfl
   ·exact hacc p h
   ·exact (hacc _ (List.mem_of_getElem? hx)).inv hx'
  cases hch with
  | step hs ok h =>
   obtain ⟨g₂, w', es, e, gu⟩ := ok w L.agr L.dom
   have hch' := h w g₂ w' es L.agr L.dom e
   have hrun : g₂.status = .running := by cases hch' <;> assumption
   refine ⟨_, _, Conc.runT_crowd_go hi (by rw [hb]; exact e), ?_⟩
   have I' := I.kidStep (fn := g'.frame.fn) (pos := g'.frame.place) hx L gu hrun hch' (gs' := (gs.map (woken P g' g₂ w')).setIfInBounds (i + 1) g₂) (by simp) (by rw [getElem?_turn hlt, if_pos rfl]) (I.others hlt fun _ _ _ _ _ o h hc => gu.chans _ _ h hc)
   refine ih _ (.at (.step L.agr L.dom ho e gu) hx) _ _ _ _ _ I' (by rw [getElem?_turn hlt, if_neg (by omega), h0]; rfl) (hm.woken w' fun c' i' g'' k' M' h => .inr ⟨?_, ?_⟩)
   ·obtain ⟨_, _, h2⟩ := I.kid i' c' _ h
    obtain ⟨s', r', ho'⟩ := h2.2.2.2.opened
    exact ⟨s', r', gu.chans _ _ ho' rfl⟩
   ·by_cases hii : i = i'
    ·subst hii
     rw [hx] at h
     cases h
     exact ⟨i, _, _, _, by rw [List.getElem?_set, if_pos rfl, if_pos (lt_of_get hx)]⟩
    ·exact ⟨i', g'', k', M', by rw [List.getElem?_set, if_neg hii]; exact h⟩
  | close hs hk hw hs' e hq =>
   refine ⟨_, _, Conc.runT_crowd_go hi (by rw [hb]; exact e w s r ho), ?_⟩
   have hsh : ∀ b, b ≠ c → (w.shut c s r false).heap[b]? = w.heap[b]? := fun b hb => by simp [World.shut, Ne.symm hb]
   have hshc : (w.shut c s r false).heap[c]? = some (.chan 0 #[] true s r false) := by simp [World.shut, some_lt ho]
   have I' := I.close (fn := g'.frame.fn) (pos := g'.frame.place) hx L hk hq ho (gs' := (gs.map (woken P g' _ (w.shut c s r false))).setIfInBounds (i + 1) _) (by simp) (by rw [getElem?_turn hlt, if_pos rfl]) (I.others hlt fun j c' x' hj hjx o h _ => by rw [hsh c' (I.apart j i c' c x' _ hj hjx hx).1]; exact h)
   refine ih _ (.at .quit hx) _ _ _ _ _ I' (by rw [getElem?_turn hlt, if_neg (by omega), h0]; rfl) (hm.woken _ fun c' i' g'' k' M' h => ?_)
   by_cases hii : i = i'
   ·subst hii
    rw [hx] at h
    cases h
    exact .inl ⟨by rw [hw, hs']; rfl, s, r, hshc⟩
   ·obtain ⟨_, _, h2⟩ := I.kid i' c' _ h
    obtain ⟨s', r', ho'⟩ := h2.2.2.2.opened
    exact .inr ⟨⟨s', r', by rw [hsh c' (I.apart i' i c' c _ _ (Ne.symm hii) h hx).1]; exact ho'⟩, i', g'', k', M', by rw [List.getElem?_set, if_neg hii]; exact h⟩
  | @send _ g₂ _ _ v z l hs hk e h =>
   -- who offers to receive: nobody, or goroutine 0
   have kids : ∀ (m : Nat) (y : Goroutine), m ≠ 0 → (gs.setIfInBounds (i + 1) Conc.ph)[m]? = some y → Conc.offersAt y c false = [] := by
    intro m y hm hy
    rcases Conc.getElem?_stand gs (i + 1) m y hy with ⟨_, rfl⟩ | ⟨_, hy⟩
    ·exact Conc.offersAt_ph _ _
    ·obtain ⟨j, rfl⟩ : ∃ j, m = j + 1 := ⟨m - 1, by omega⟩
     obtain ⟨_, _, _, h2⟩ := I.get hy
     exact h2.offers.1
   have h0' : (gs.setIfInBounds (i + 1) Conc.ph)[0]? = some gm := by rw [Array.getElem?_setIfInBounds_ne (by omega)]; exact h0
   have hgo : ∀ (gs₁ : Array Goroutine) (x : Goroutine), gs₁.size = gs.size → (∀ m, m ≠ i + 1 → 0 < m → gs₁[m]? = gs[m]?) → ∀ m, m ≠ i + 1 → 0 < m → (gs₁.setIfInBounds (i + 1) x)[m]? = gs[m]? := fun gs₁ x _ h m hm h' => by
    rw [Array.getElem?_setIfInBounds_ne (fun e => hm e.symm)]; exact h m hm h'
   have waits : Conc.offersAt gm c false = [] → (∀ c' z' g₁, gm = parked g₁ #[rcase c' z'] (.recv true) → c' ≠ c) → ∃ m' ops, runT P (crowd gs w sl) (i + 1) = (.next m', ops) ∧ Ends P Q m' (t ++ ops) := by
    intro hno hne
    have hp : partners (gs.setIfInBounds (i + 1) Conc.ph) c false = [] := Conc.partners_nil fun m y hy => by
     by_cases hm0 : m = 0
     ·subst hm0
      rw [h0'] at hy; cases hy
      exact hno
     ·exact kids m y hm0 hy
    refine ⟨_, _, Conc.crowd_waits hi (by rw [hb]; exact e w) (fun cc hcc => ?_), ?_⟩
    ·obtain rfl : cc = scase c v z := by simpa using hcc
     exact Conc.ways_send_none ho (by simp) hp
    have hn : t ++ MemOp.ofEvents (i + 1) g'.frame.fn g'.frame.place #[] = t := by rw [ofEvents_eq]; simp
    rw [hn]
    have I' := I.park hx L hk h (gs' := gs.setIfInBounds (i + 1) (parked g₂ #[scase c v z] .send)) (by simp) (by rw [Array.getElem?_setIfInBounds_self_of_lt hlt]) (hgo gs _ rfl fun _ _ _ => rfl)
    refine ih _ (.at .park hx) _ gm _ _ _ I' (by rw [Array.getElem?_setIfInBounds_ne (by omega)]; exact h0) ?_
    rcases hm with hm | ⟨c', z', g₁, i', g'', k', M', e1, e2, e3, e4⟩
    ·exact .inl hm
    ·refine .inr ⟨c', z', g₁, i', g'', k', M', e1, e2, e3, ?_⟩
     have : i ≠ i' := by
      rintro rfl
      rw [hx] at e4
      cases e4
      exact hne _ _ _ e1 rfl
     rw [List.getElem?_set, if_neg this]; exact e4
   rcases hm with ⟨_, hm⟩ | ⟨c', z', g₁, i', g'', k', M', rfl, e2, e3, e4⟩
   ·refine waits (Conc.offersAt_of_not_blocked (by rw [hm]; simp) _ _) fun c' z' g₁ e => ?_
    rw [e] at hm; cases hm
   ·by_cases hcc : c' = c
    ·subst hcc
     have hp : partners (gs.setIfInBounds (i + 1) Conc.ph) c' false = [(0, 0)] := by
      rw [Conc.partners_one h0' fun m y hm hy => kids m y hm hy, Conc.offersAt_parked_recv, if_pos rfl]; rfl
     refine ⟨_, _, Conc.crowd_send_meets hi (by rw [hb]; exact e w) ho (by omega) h0 hp, ?_⟩
     have hgk : (hset k c' (gch l)) c' = some (gch l) := hset_same _ _ _
     have hrun : (g₂.finishComm P #[scase c' v z] .send 0 undef false).status = .running := rfl
     have I' := I.meet (w' := w.setChan c' 0 #[] false (s + 1) (r + 1) false) (s := s + 1) (r := r + 1) hx rfl L hk hrun h (by simp [World.setChan]) (fun b hb => by simp [World.setChan, Ne.symm hb]) (by simp [World.setChan, some_lt ho])
      (u := MemOp.ofEvents (i + 1) g'.frame.fn g'.frame.place #[] ++ #[{ g := i + 1, fn := g₂.frame.fn, pos := g₂.frame.place, act := .send c' s }, { g := 0, fn := g₁.frame.fn, pos := g₁.frame.place, act := .recv c' r 0 },
       { g := i + 1, fn := g₂.frame.fn, pos := g₂.frame.place, act := .sendDone c' s }, { g := 0, fn := g₁.frame.fn, pos := g₁.frame.place, act := .recvDone c' r }])
      (fun op hop => by
       have hil := lt_of_get hx
       have : op = { g := i + 1, fn := g₂.frame.fn, pos := g₂.frame.place, act := .send c' s } ∨ op = { g := 0, fn := g₁.frame.fn, pos := g₁.frame.place, act := .recv c' r 0 } ∨ op = { g := i + 1, fn := g₂.frame.fn, pos := g₂.frame.place, act := .sendDone c' s } ∨ op = { g := 0, fn := g₁.frame.fn, pos := g₁.frame.place, act := .recvDone c' r } := by
        rw [ofEvents_eq] at hop; simpa using hop
       rcases this with rfl | rfl | rfl | rfl <;> exact ⟨rfl, by simp, by simp; try omega⟩) rfl rfl rfl
      (gs' := (gs.setIfInBounds 0 (g₁.finishComm P #[rcase c' z'] (.recv true) 0 v true)).setIfInBounds (i + 1) (g₂.finishComm P #[scase c' v z] .send 0 undef false))
      (by simp) (by rw [Array.getElem?_setIfInBounds_self_of_lt (by simpa using hlt)]) (hgo _ _ (by simp) fun m _ hm' => by rw [Array.getElem?_setIfInBounds_ne (by omega)])
     rw [hk] at hl1
     have hl := gch_inj hl1
     subst hl
     refine meet c' z' v g₁ l e3 hl2 _ ?_ _ _ _ _ I' ?_
     ·intro p hp
      rcases List.mem_or_eq_of_mem_set hp with h' | rfl
      ·exact hacc p h'
      ·exact h.acc
     ·rw [Array.getElem?_setIfInBounds_ne (by omega), Array.getElem?_setIfInBounds_self_of_lt (by omega)]
    ·refine waits (by rw [Conc.offersAt_parked_recv, if_neg hcc]) fun c'' z'' g₁' e => ?_
     have : c' = c'' := by
      simp only [parked, rcase, Goroutine.mk.injEq, Option.some.injEq, Prod.mk.injEq] at e
      exact (by simpa using e.2.2.2.2.1 : c' = c'' ∧ z' = z'').1
     rw [← this]; exact hcc
end Go.Mus

/- Goroutine 0 and the senders that it starts: on every tape the run ends well. Conditions: none; over any program. -/
namespace Go.Mus
open Go.Conc (crowd parked rcase scase QuitsIn Before Knows knows_own touchAt touchAt_of touchAt_old getElem?_append_old getElem?_append_cases lt_size_of_getElem? touch_of hb_po hb_app ofEvents_eq woken)
variable {P : Program} {gs : Array Goroutine} {w w' : World} {t u : Trace} {k₀ : Hp} {M₀ : Nat → Prop} {ks : List (Nat × KC)}
theorem runT_crowd_ended {sl : Option (Nat × Nat)} {i : Nat} {g : Goroutine} {o : Outcome} {es : Array Event} (hi : gs[i]? = some g) (h : stepG P (i == 0) g w = .ended o w' es) :
  runT P (crowd gs w sl) i = (.ended o w', MemOp.ofEvents i g.frame.fn g.frame.place es) := by
 obtain ⟨hlt, rfl⟩ := Array.getElem?_eq_some_iff.1 hi
 have hsw := Conc.swapAt_of_lt hlt { (default : Goroutine) with status := .finished }
 show runT P { world := w, gs := gs, rest := { timers := #[], alone := none, slice := sl } } i = _
 unfold runT
 simp only [hsw, h, GStep.es]

theorem LR.accs [Base] : ∀ {l l' : List (Nat × KC)}, LR P l' l → (∀ p ∈ l, Acc (KR P p.1) p.2) → ∀ p ∈ l', Acc (KR P p.1) p.2
 | _, _, .here h, ha, p, hp => by
  rcases List.mem_cons.1 hp with rfl | hp
  ·exact (ha _ (List.mem_cons_self ..)).inv h
  ·exact ha p (List.mem_cons_of_mem _ hp)
 | _, _, .there h, ha, p, hp => by
  rcases List.mem_cons.1 hp with rfl | hp
  ·exact ha _ (List.mem_cons_self ..)
  ·exact h.accs (fun q hq => ha q (List.mem_cons_of_mem _ hq)) p hp

/-- What goroutine 0's own move comes to. -/
inductive MainMove [Base] (P : Program) (Q : Machine → Outcome → World → Trace → Prop) (g : Goroutine) (k₀ : Hp) (M₀ : Nat → Prop) (ks : List (Nat × KC)) (gs : Array Goroutine) (w : World) (t : Trace) (sl : Option (Nat × Nat)) : Prop
 | on {m' : Machine} {ops : Array MemOp} (h : runT P (crowd gs w sl) 0 = (.next m', ops)) (he : Ends P Q m' (t ++ ops))
 | over {o : Outcome} {w' : World} {ops : Array MemOp} (h : runT P (crowd gs w sl) 0 = (.ended o w', ops)) (he : ∀ sl' d, Q (crowd gs (w.at d) sl') o w' (t ++ ops))
 | waits {gs' : Array Goroutine} {gm' : Goroutine} {ops : Array MemOp} (h : runT P (crowd gs w sl) 0 = (.next (crowd gs' w sl), ops)) (ht : t ++ ops = t) (I : MInv P gs' w t k₀ M₀ ks) (h0 : gs'[0]? = some gm')
   (hp : ∃ (c : Nat) (z : Value) (g₁ : Goroutine) (i : Nat) (g' : Goroutine) (k : Hp) (M : Nat → Prop), gm' = parked g₁ #[rcase c z] (.recv true) ∧ Same g g₁ ∧ (∀ w, stepG P true g w = .comm g₁ #[rcase c z] true (.recv true) w #[]) ∧ ks[i]? = some (c, KC.run g' k M))

/-- A place of goroutine 0's: behind each of its moves the run ends; so it does from here. -/
theorem node [Base] {Q : Machine → Outcome → World → Trace → Prop} {g : Goroutine}
  (move : ∀ ks, (∀ p ∈ ks, Acc (KR P p.1) p.2) → ∀ gs gm w t sl, MInv P gs w t k₀ M₀ ks → gs[0]? = some gm → Same g gm → gm.status = .running → MainMove P Q g k₀ M₀ ks gs w t sl)
  (meet : ∀ w₀, Agr k₀ w₀ → Dom k₀ M₀ → ∀ (c : Nat) (z v : Value) (g₁ : Goroutine) (l : List Value), (∀ w, stepG P true g w = .comm g₁ #[rcase c z] true (.recv true) w #[]) → k₀ c = some (gch (v :: l)) → ∀ ks', (∀ p ∈ ks', Acc (KR P p.1) p.2) → ∀ gs w t sl, MInv P gs w t (hset k₀ c (gch l)) M₀ ks' → gs[0]? = some (g₁.finishComm P #[rcase c z] (.recv true) 0 v true) → Ends P Q (crowd gs w sl) t) :
  ∀ ks, (∀ p ∈ ks, Acc (KR P p.1) p.2) → ∀ gs gm w t sl, MInv P gs w t k₀ M₀ ks → gs[0]? = some gm → MainAt P ks gm g → Ends P Q (crowd gs w sl) t := by
 intro ks hacc
 have hL := acc_list hacc
 induction hL with
 | intro ks _ ih =>
  have ih' : ∀ ks', LR P ks' ks → ∀ gs gm w t sl, MInv P gs w t k₀ M₀ ks' → gs[0]? = some gm → MainAt P ks' gm g → Ends P Q (crowd gs w sl) t := fun ks' h => ih ks' h (h.accs hacc)
  have kid : ∀ gs gm w t sl i ga, MInv P gs w t k₀ M₀ ks → gs[0]? = some gm → MainAt P ks gm g → gs[i + 1]? = some ga → ga.status = .running → ∃ m' ops, runT P (crowd gs w sl) (i + 1) = (.next m', ops) ∧ Ends P Q m' (t ++ ops) :=
   fun gs gm w t sl i ga I h0 hm hi hr => kid_moves I h0 hm hi hr ih' (meet w I.agr I.dom) hacc
  -- while it waits
  have parkedC : ∀ gs gm w t sl, MInv P gs w t k₀ M₀ ks → gs[0]? = some gm → (∃ (c : Nat) (z : Value) (g₁ : Goroutine) (i : Nat) (g' : Goroutine) (k : Hp) (M : Nat → Prop), gm = parked g₁ #[rcase c z] (.recv true) ∧ Same g g₁ ∧ (∀ w, stepG P true g w = .comm g₁ #[rcase c z] true (.recv true) w #[]) ∧ ks[i]? = some (c, KC.run g' k M)) → Ends P Q (crowd gs w sl) t := by
   intro gs gm w t sl I h0 hp
   have hm : MainAt P ks gm g := .inr hp
   obtain ⟨c, z, g₁, i, g', k, M, e1, e2, e3, e4⟩ := hp
   obtain ⟨gi, hgi, hk⟩ := I.kid i c _ e4
   obtain ⟨i₀, ga, d, sl', h1, h2, h3⟩ := Conc.crowd_pick (P := P) (w := w) (sl := sl) (I.awake h0 hm) ⟨i + 1, gi, hgi, hk.2.1⟩
   cases i₀ with
   | zero => rw [h0] at h1; cases h1; rw [e1] at h2; cases h2
   | succ j =>
    obtain ⟨m', ops, h4, h5⟩ := kid gs gm (w.at d) t sl' j ga (I.at d) h0 hm h1 h2
    exact Ends.step (h3.trans h4) h5
  intro gs gm w t sl I h0 hm
  rcases hm with ⟨hsame, hr⟩ | hp
  ·have hm : MainAt P ks gm g := .inl ⟨hsame, hr⟩
   obtain ⟨i₀, ga, d, sl', h1, h2, h3⟩ := Conc.crowd_pick (P := P) (w := w) (sl := sl) (I.awake h0 hm) ⟨0, gm, h0, hr⟩
   cases i₀ with
   | zero =>
    rw [h0] at h1; cases h1
    cases move ks hacc gs gm (w.at d) t sl' (I.at d) h0 hsame hr with
    | on h he => exact Ends.step (h3.trans h) he
    | over h he => exact Ends.stop (h3.trans h) (he sl w.drawn)
    | waits h ht I' h0' hp =>
     refine Ends.step (h3.trans h) ?_
     rw [ht]
     exact parkedC _ _ _ _ _ I' h0' hp
   | succ j =>
    obtain ⟨m', ops, h4, h5⟩ := kid gs gm (w.at d) t sl' j ga (I.at d) h0 hm h1 h2
    exact Ends.step (h3.trans h4) h5
  ·exact parkedC _ _ _ _ _ I h0 hp
end Go.Mus

/- Goroutine 0 and the senders that it starts: on every tape the run ends well. Conditions: none; over any program. -/
namespace Go.Mus
open Go.Conc (crowd parked rcase scase QuitsIn Before Knows knows_own touchAt touchAt_of touchAt_old getElem?_append_old getElem?_append_cases lt_size_of_getElem? touch_of hb_po hb_app ofEvents_eq woken)
variable {P : Program} {gs : Array Goroutine} {w w' : World} {t u : Trace} {k₀ : Hp} {M₀ : Nat → Prop} {ks : List (Nat × KC)}
theorem noEs (t : Trace) (j : Nat) (fn : FuncId) (pos : String) : t ++ MemOp.ofEvents j fn pos #[] = t := by rw [ofEvents_eq]; simp

/-- .. and the world's other parts are as they were. -/
abbrev PK [Base] (Post : Value → World → Prop) : Value → World → Prop := fun v w' => Post v w' ∧ Kept Base.ref w'
/-- The run's end. -/
theorem MInv.over [Base] {Post : Value → World → Prop} {es : Array Event} {fn : FuncId} {pos : String} {v : Value} {sl : Option (Nat × Nat)} (I : MInv P gs w t k₀ M₀ ks) (ho : ∀ c o, M₀ c → k₀ c = some o → opn o = false) (gu : Guar k₀ M₀ w w' es) (hp : Post v w') (d : Nat) :
  Conc.Good P (PK Post) (crowd gs (w.at d) sl) (.done v) w' (t ++ MemOp.ofEvents 0 fn pos es) := by
 have hT := I.tok.step (j := 0) (fn := fn) (pos := pos) (by omega) I.agr gu (fun b hb hc => I.own b hb (.inl hc)) I.rd
 have I' := I.mainStep (fn := fn) (pos := pos) (gs' := gs) gu rfl fun _ _ => rfl
 -- all have left
 have left : ∀ i g, gs[i + 1]? = some g → ∃ n, QuitsIn P n g ∧ ∀ j a, touchAt t j = some a → t.g? j = some (i + 1) → Knows t 0 j := by
  intro i g hg
  obtain ⟨c, x, hx, hk⟩ := I.get hg
  cases x with
  | run _ _ _ =>
   obtain ⟨l, _, h2⟩ := hk.2.2.2.ghost
   have := ho c _ hk.2.2.2.m0 h2
   cases this
  | park _ _ =>
   obtain ⟨_, _, _, _, _, _, _, L⟩ := hk
   obtain ⟨l, _, h2⟩ := L.ghost
   have := ho c _ L.m0 h2
   cases this
  | quit n =>
   rcases hk.2 with ⟨_, h⟩ | ⟨h1, h2, _⟩
   ·exact ⟨n, hk.1, h⟩
   ·have := ho c _ h2 h1
    cases this
 have hsz := I.size
 refine ⟨v, rfl, ⟨hp, I.base.guar gu I.low⟩, hT.clean, fun i g hg hne hcount => ?_, ⟨fun g hg => ?_, rfl⟩, fun i g hg hne => ?_⟩
 ·-- handed over
  obtain ⟨a, ha, _, _⟩ := hcount
  obtain ⟨op, hop, hgop⟩ := Option.map_eq_some_iff.1 hg
  rcases touch_app (t := t) ha with ⟨hi, h1⟩ | ⟨op', hop', hm, _⟩
  ·have hlt : op.g < ks.length + 1 := hT.who op (Conc.mem_of_getElem? hop)
   obtain ⟨j, rfl⟩ : ∃ j, g = j + 1 := ⟨g - 1, by omega⟩
   have hj : j + 1 < gs.size := by omega
   obtain ⟨n, _, hkn⟩ := left j gs[j + 1] (Array.getElem?_eq_getElem hj)
   have hgt : t.g? i = some (j + 1) := by rw [g?_old hi] at hg; exact hg
   obtain ⟨q, z, h2, h3, h4⟩ := hkn i a h1 hgt
   rcases h4 with rfl | h4
   ·simp [Trace.g?, h2] at hgt
    rw [h3] at hgt; omega
   ·exact ⟨q, by rw [g?_old (lt_size_of_getElem? h2)]; simp [Trace.g?, h2, h3], hb_app _ h4⟩
  ·rw [hop] at hop'
   cases hop'
   obtain ⟨e, _, rfl⟩ := mem_ofEvents hm
   exact absurd hgop.symm hne
 ·obtain ⟨m, hm⟩ := List.getElem?_of_mem hg
  rw [List.getElem?_drop] at hm
  have : gs[m + 1]? = some g := by rw [Nat.add_comm]; simpa [crowd] using hm
  obtain ⟨n, h1, _⟩ := left m g this
  exact ⟨n, h1.leaves⟩
 ·obtain ⟨j, rfl⟩ : ∃ j, i = j + 1 := ⟨i - 1, by omega⟩
  obtain ⟨n, h1, _⟩ := left j g hg
  rw [hT.deaf]
  exact ⟨n, h1.hears _ 0⟩

theorem MInv.zero [Base] (I : MInv P gs w t k₀ M₀ ks) {gs' : Array Goroutine} (hs : gs'.size = gs.size) (hgo : ∀ m, 0 < m → gs'[m]? = gs[m]?) : MInv P gs' w t k₀ M₀ ks :=
 ⟨by rw [hs, I.size], I.agr, I.dom, I.tok, I.own, I.rd, fun i c x hi => let ⟨g, h1, h2⟩ := I.kid i c x hi; ⟨g, by rw [hgo (i + 1) (by omega)]; exact h1, h2⟩, I.apart, I.fresh, I.has, I.base, I.low, I.lowk⟩

/-- Who offers to send over a channel: its sender alone. -/
theorem MInv.senders [Base] {i c : Nat} {x : KC} (I : MInv P gs w t k₀ M₀ ks) (hx : ks[i]? = some (c, x)) : ∀ (m : Nat) (y : Goroutine), m ≠ i + 1 → (gs.setIfInBounds 0 Conc.ph)[m]? = some y → Conc.offersAt y c true = [] := by
 intro m y hm hy
 rcases Conc.getElem?_stand gs 0 m y hy with ⟨_, rfl⟩ | ⟨h0, hy⟩
 ·exact Conc.offersAt_ph _ _
 ·obtain ⟨j, rfl⟩ : ∃ j, m = j + 1 := ⟨m - 1, by omega⟩
  obtain ⟨c', x', hx', h2⟩ := I.get hy
  exact h2.offers.2 (I.apart j i c' c x' x (by omega) hx' hx).1

/-- Goroutine 0 finds its sender at work: it waits. -/
theorem MInv.waits [Base] {Q : Machine → Outcome → World → Trace → Prop} {i c : Nat} {z : Value} {g g' gm gi : Goroutine} {k : Hp} {M : Nat → Prop} {sl : Option (Nat × Nat)} (I : MInv P gs w t k₀ M₀ ks) (h0 : gs[0]? = some gm) (hsame : Same g gm) (hx : ks[i]? = some (c, KC.run gi k M))
  (e : ∀ w, stepG P true g w = .comm g' #[rcase c z] true (.recv true) w #[]) (hg' : Same g g') : MainMove P Q g k₀ M₀ ks gs w t sl := by
 have hlt : 0 < gs.size := by have := I.size; omega
 obtain ⟨ga, hga, hk⟩ := I.kid i c _ hx
 obtain ⟨s, r, ho⟩ := hk.2.2.2.opened
 have hp : partners (gs.setIfInBounds 0 Conc.ph) c true = [] := Conc.partners_nil fun m y hy => by
  by_cases hm : m = i + 1
  ·subst hm
   rw [Array.getElem?_setIfInBounds_ne (by omega), hga] at hy
   cases hy
   exact Conc.offersAt_of_not_blocked (by rw [hk.2.1]; simp) _ _
  ·exact I.senders hx m y hm hy
 refine .waits (gs' := gs.setIfInBounds 0 (parked g' #[rcase c z] (.recv true))) (gm' := parked g' #[rcase c z] (.recv true)) (Conc.crowd_waits h0 (show stepG P (0 == 0) gm w = _ by rw [show ((0 : Nat) == 0) = true from rfl, hsame.step]; exact e w) fun cc hcc => ?_) (noEs _ _ _ _) (I.zero (by simp) fun m hm => by rw [Array.getElem?_setIfInBounds_ne (by omega)]) (by rw [Array.getElem?_setIfInBounds_self_of_lt hlt]) ⟨c, z, g', i, gi, k, M, rfl, hg', e, hx⟩
 obtain rfl : cc = rcase c z := by simpa using hcc
 exact Conc.ways_recv_none ho hp

/-- ████ ON EVERY TAPE THE RUN ENDS, AND WELL. -/
theorem Mn.ends [Base] {Fin : Goroutine → Hp → (Nat → Prop) → Prop} {Post : Value → World → Prop} (hfin : ∀ g k M, Fin g k M → FinOK P Post g k M) {g : Goroutine} {k : Hp} {M : Nat → Prop} (H : Mn P Fin g k M) :
  g.status = .running ∧ ∀ ks, (∀ p ∈ ks, Acc (KR P p.1) p.2) → ∀ gs gm w t sl, MInv P gs w t k M ks → gs[0]? = some gm → MainAt P ks gm g → Ends P (Conc.Good P (PK Post)) (crowd gs w sl) t := by
 have hb : ((0 : Nat) == 0) = true := rfl
 induction H with
 | @fin g k M h =>
  obtain ⟨hs, ho, he⟩ := hfin g k M h
  refine ⟨hs, node (fun ks hacc gs gm w t sl I h0 hsame hr => ?_) fun w₀ a d c z v g₁ l e => ?_⟩
  ·obtain ⟨v, w', es, e, gu, hp⟩ := he w I.agr I.dom
   exact .over (runT_crowd_ended h0 (by rw [hb, hsame.step]; exact e)) fun sl' d => I.over ho gu hp d
  ·obtain ⟨v', w', es, e', _⟩ := he w₀ a d
   rw [e] at e'; cases e'
 | @step g k M hs ok h ih =>
  refine ⟨hs, node (fun ks hacc gs gm w t sl I h0 hsame hr => ?_) fun w₀ a d c z v g₁ l e => ?_⟩
  ·obtain ⟨g', w', es, e, gu⟩ := ok w I.agr I.dom
   obtain ⟨hs', hE⟩ := ih w g' w' es I.agr I.dom e
   have hlt : 0 < gs.size := by have := I.size; omega
   refine .on (Conc.runT_crowd_go h0 (by rw [hb, hsame.step]; exact e)) (hE ks hacc _ g' _ _ _ (I.mainStep gu (by simp) fun m hm => ?_) (by rw [getElem?_turn hlt, if_pos rfl]) (.inl ⟨⟨rfl, rfl, rfl⟩, hs'⟩))
   rw [getElem?_turn hlt, if_neg (by omega)]
   cases hg : gs[m]? with
   | none => rfl
   | some y =>
    obtain ⟨j, rfl⟩ : ∃ j, m = j + 1 := ⟨m - 1, by omega⟩
    obtain ⟨_, _, _, h2⟩ := I.get hg
    simp [woken_same (h2.again fun b o x y => gu.chans b o x y)]
  ·obtain ⟨g', w', es, e', _⟩ := ok w₀ a d
   rw [e] at e'; cases e'
 | @spawn g g' child k kc M M' c l hs hs' hsc e hk hM hkc hsub hc hM' hM'c hsep h ih =>
  refine ⟨hs, node (fun ks hacc gs gm w t sl I h0 hsame hr => ?_) fun w₀ a d c z v g₁ l e' => ?_⟩
  ·have hlt : 0 < gs.size := by have := I.size; omega
   have hrun := Conc.runT_crowd_spawn (sl := sl) h0 (show stepG P (0 == 0) gm w = .spawn g' child w #[] by rw [hb, hsame.step]; exact e w)
   refine .on hrun ?_
   have en : ((MemOp.ofEvents 0 gm.frame.fn gm.frame.place #[]).push { g := 0, fn := gm.frame.fn, pos := gm.frame.place, act := .go gs.size }).push { g := gs.size, fn := child.frame.fn, pos := gm.frame.place, act := .start } = #[{ g := 0, fn := gm.frame.fn, pos := gm.frame.place, act := .go gs.size }, { g := gs.size, fn := child.frame.fn, pos := gm.frame.place, act := .start }] := by
    rw [ofEvents_eq]; simp
   rw [en]
   refine ih.2 (ks ++ [(c, .run child kc (· = c))]) (fun p hp => ?_) _ g' _ _ _ (I.spawn (g' := g') hk hM hkc hsub hsc hc hM' hM'c hsep (by simp) (by rw [Array.getElem?_push, if_pos (by simp)]) fun m hm h0' => ?_) (by rw [Array.getElem?_push, if_neg (by simp; omega), Array.getElem?_setIfInBounds_self_of_lt hlt]) (.inl ⟨⟨rfl, rfl, rfl⟩, hs'⟩)
   ·rcases List.mem_append.1 hp with hp | hp
    ·exact hacc p hp
    ·obtain rfl : p = _ := by simpa using hp
     exact hc.acc
   ·rw [Array.getElem?_push, if_neg (by simp; omega), Array.getElem?_setIfInBounds_ne (by omega)]
  ·intro _; have := e w₀; rw [e'] at this; cases this
 | @recv g g' k M c v z l hs hk hM hg' e h ih =>
  refine ⟨hs, node (fun ks hacc gs gm w t sl I h0 hsame hr => ?_) fun w₀ a d c' z' v' g₁ l' e' hk' ks' hacc' gs w t sl I h0 => ?_⟩
  ·obtain ⟨i, x, hx⟩ := I.has c _ hk
   obtain ⟨gi, hgi, hkid⟩ := I.kid i c x hx
   have hlt : 0 < gs.size := by have := I.size; omega
   cases x with
   | run _ _ _ => exact I.waits h0 hsame hx e hg'
   | quit n =>
    rcases hkid.2 with ⟨h1, _⟩ | ⟨h1, _⟩
    ·rw [hk] at h1; exact absurd (Option.some.inj h1) gch_ne_shut
    ·rw [hk] at h1; cases gch_inj h1
   | park kc Mc =>
    obtain ⟨g₂, v', l', z', rfl, h1, h2, L⟩ := hkid
    obtain ⟨l₀, e1, e2⟩ := L.ghost
    rw [h1] at e1
    rw [hk] at e2
    have e3 := gch_inj e1
    have e4 := gch_inj e2
    rw [← e3] at e4
    obtain ⟨rfl, rfl⟩ := List.cons.inj e4
    obtain ⟨s, r, ho⟩ := L.opened
    have hp : partners (gs.setIfInBounds 0 Conc.ph) c true = [(i + 1, 0)] := by
     rw [Conc.partners_one (j := i + 1) (g := parked g₂ #[scase c v z'] .send) (by rw [Array.getElem?_setIfInBounds_ne (by omega)]; exact hgi) fun m y hm hy => I.senders hx m y hm hy, Conc.offersAt_parked_send, if_pos rfl]; rfl
    refine .on (Conc.crowd_recv_meets h0 (show stepG P (0 == 0) gm w = _ by rw [hb, hsame.step]; exact e w) ho (by omega) hgi hp) ?_
    have hil := lt_of_get hx
    have hi1 : i + 1 < gs.size := by have := I.size; omega
    refine ih.2 _ (fun p hp' => ?_) _ _ _ _ _ (I.meet (w' := w.setChan c 0 #[] false (s + 1) (r + 1) false) (s := s + 1) (r := r + 1) hx rfl L h1 (g' := g₂.finishComm P #[scase c v z'] .send 0 undef false) rfl h2 (by simp [World.setChan]) (fun b hb => by simp [World.setChan, Ne.symm hb]) (by simp [World.setChan, some_lt ho])
     (u := MemOp.ofEvents 0 gm.frame.fn gm.frame.place #[] ++ #[{ g := i + 1, fn := g₂.frame.fn, pos := g₂.frame.place, act := .send c s }, { g := 0, fn := g'.frame.fn, pos := g'.frame.place, act := .recv c r 0 },
      { g := i + 1, fn := g₂.frame.fn, pos := g₂.frame.place, act := .sendDone c s }, { g := 0, fn := g'.frame.fn, pos := g'.frame.place, act := .recvDone c r }])
     (fun op hop => by
      have : op = { g := i + 1, fn := g₂.frame.fn, pos := g₂.frame.place, act := .send c s } ∨ op = { g := 0, fn := g'.frame.fn, pos := g'.frame.place, act := .recv c r 0 } ∨ op = { g := i + 1, fn := g₂.frame.fn, pos := g₂.frame.place, act := .sendDone c s } ∨ op = { g := 0, fn := g'.frame.fn, pos := g'.frame.place, act := .recvDone c r } := by
       rw [ofEvents_eq] at hop; simpa using hop
      rcases this with rfl | rfl | rfl | rfl <;> exact ⟨rfl, by simp, by simp; try omega⟩) rfl rfl rfl
     (gs' := (gs.setIfInBounds (i + 1) (g₂.finishComm P #[scase c v z'] .send 0 undef false)).setIfInBounds 0 (g'.finishComm P #[rcase c z] (.recv true) 0 v true))
     (by simp) (by rw [Array.getElem?_setIfInBounds_ne (by omega), Array.getElem?_setIfInBounds_self_of_lt hi1]) (fun m hm hm0 => by rw [Array.getElem?_setIfInBounds_ne (by omega), Array.getElem?_setIfInBounds_ne (by omega)])) (by rw [Array.getElem?_setIfInBounds_self_of_lt (by simpa using hlt)]) (.inl ⟨⟨rfl, rfl, rfl⟩, rfl⟩)
    rcases List.mem_or_eq_of_mem_set hp' with h' | rfl
    ·exact hacc p h'
    ·exact h2.acc
  ·have e2 := e w₀
   rw [e'] at e2
   simp only [GStep.comm.injEq] at e2
   obtain ⟨rfl, e3, _⟩ := e2
   obtain ⟨rfl, rfl⟩ : c' = c ∧ z' = z := by simpa [rcase] using e3
   rw [hk] at hk'
   have := gch_inj hk'
   obtain ⟨rfl, rfl⟩ := List.cons.inj this
   exact ih.2 ks' hacc' gs _ w t sl I h0 (.inl ⟨⟨rfl, rfl, rfl⟩, rfl⟩)
 | @done g g' k M c z hs hk hM hg' e h ih =>
  refine ⟨hs, node (fun ks hacc gs gm w t sl I h0 hsame hr => ?_) fun w₀ a d c' z' v' g₁ l' e' hk' ks' hacc' gs w t sl I h0 => ?_⟩
  ·obtain ⟨i, x, hx⟩ := I.has c _ hk
   obtain ⟨gi, hgi, hkid⟩ := I.kid i c x hx
   have hlt : 0 < gs.size := by have := I.size; omega
   cases x with
   | run _ _ _ => exact I.waits h0 hsame hx e hg'
   | park kc Mc =>
    obtain ⟨g₂, v', l', z', rfl, h1, h2, L⟩ := hkid
    obtain ⟨l₀, e1, e2⟩ := L.ghost
    rw [h1] at e1
    rw [hk] at e2
    rw [← gch_inj e1] at e2
    cases gch_inj e2
   | quit n =>
    rcases hkid.2 with ⟨h1, _⟩ | ⟨h1, _, ⟨s, r, ho⟩, _⟩
    ·rw [hk] at h1; exact absurd (Option.some.inj h1) gch_ne_shut
    have hp : partners (gs.setIfInBounds 0 Conc.ph) c true = [] := Conc.partners_nil fun m y hy => by
     by_cases hm : m = i + 1
     ·subst hm
      rw [Array.getElem?_setIfInBounds_ne (by omega), hgi] at hy
      cases hy
      exact Conc.offersAt_of_not_blocked (by rcases hkid.1.status with h | h <;> (rw [h]; simp)) _ _
     ·exact I.senders hx m y hm hy
    refine .on (Conc.crowd_recv_closed h0 (show stepG P (0 == 0) gm w = _ by rw [hb, hsame.step]; exact e w) ho hp) ?_
    rw [show MemOp.ofEvents 0 gm.frame.fn gm.frame.place #[] = #[] by rw [ofEvents_eq]; simp, Array.empty_append]
    exact ih.2 ks hacc _ _ _ _ _ (I.done (g := g) hx hk rfl rfl (by simp) fun m hm => by rw [Array.getElem?_setIfInBounds_ne (by omega)]) (by rw [Array.getElem?_setIfInBounds_self_of_lt hlt]) (.inl ⟨⟨rfl, rfl, rfl⟩, rfl⟩)
  ·have e2 := e w₀
   rw [e'] at e2
   simp only [GStep.comm.injEq] at e2
   obtain ⟨rfl, e3, _⟩ := e2
   obtain ⟨rfl, rfl⟩ : c' = c ∧ z' = z := by simpa [rcase] using e3
   rw [hk] at hk'
   cases gch_inj hk'
end Go.Mus

/- Communication, as the judgement on code sees it. Conditions: none; over any program. -/
namespace Go.Mus
open Go.Conc (rcase scase QuitsIn)
variable {P : Program}
/-! ### Less may be written -/
theorem Less.dom {k : Hp} {M' M : Nat → Prop} (h : Less k M' M) (d : Dom k M) : Dom k M' := fun b hb => d b (h.1 b hb)
theorem Less.trans {k : Hp} {M₁ M₂ M₃ : Nat → Prop} (h : Less k M₁ M₂) (h' : Less k M₂ M₃) : Less k M₁ M₃ := by
 refine ⟨fun b hb => h'.1 b (h.1 b hb), fun b o h3 h1 hk => ?_⟩
 rcases Classical.em (M₂ b) with h2 | h2
 ·exact h.2 b o h2 h1 hk
 ·exact h'.2 b o h3 h2 hk
theorem Less.guar {k : Hp} {M' M : Nat → Prop} {w w' : World} {es : Array Event} (h : Less k M' M) (g : Guar k M' w w' es) : Guar k M w w' es := by
 refine ⟨g.size, fun b hb hm => g.keep b hb fun h' => hm (h.1 b h'), g.chans, g.news, g.stay, g.os, g.output, g.tape, fun e he => ?_⟩
 have := g.evs e he
 unfold EvOK at this ⊢
 split at this
 ·exact ⟨this.1, this.2.imp (fun x => ⟨x.1, x.2.1, fun y => h.1 _ (x.2.2 y)⟩) id⟩
 ·exact ⟨this.1, this.2.imp (fun x => ⟨x.1, x.2.1, fun y => h.1 _ (x.2.2 y)⟩) id⟩
 ·exact this
 ·exact this.elim
theorem Less.grown {k : Hp} {M' M : Nat → Prop} {w w' : World} {es : Array Event} (h : Less k M' M) (ha : Agr k w) (hd : Dom k M) (g : Guar k M' w w' es) : Less (snap k w w') (Mus.grown M' w w') (Mus.grown M w w') := by
 refine ⟨fun b hb => hb.imp (h.1 b) id, fun b o hb hn hk => ?_⟩
 rcases hb with hb | hb
 ·have hn' : ¬ M' b := fun x => hn (.inl x)
  cases hc : isC (k b) with
  | true =>
   have : snap k w w' b = k b := by simp [snap, hc]
   exact h.2 b o hb hn' (by rw [← this]; exact hk)
  | false =>
   obtain ⟨x, hx⟩ := Option.isSome_iff_exists.1 (hd b hb)
   have hxc : x.isChan = false := by rw [hx] at hc; exact hc
   have hw := ha.get hx hxc
   have e : w'.heap[b]? = some x := by rw [g.keep b (some_lt hw) hn']; exact hw
   have : snap k w w' b = some x := by simp [snap, hc, hx, e]
   rw [this] at hk
   cases hk
   exact opn_of hxc
 ·exact absurd (.inr hb) hn

theorem Gos.eased {main : Bool} {Stop : Goroutine → Hp → (Nat → Prop) → Prop} (hS : Eased Stop) : Eased (Gos P main Stop) := by
 intro g k M M' hl H
 induction H generalizing M with
 | stop h => exact .stop (hS _ _ _ _ hl h)
 | step hs ok h ih =>
  refine .step hs (fun w ha hd => ?_) fun w g' w' es ha hd e => ?_
  ·obtain ⟨g', w', es, e, gu⟩ := ok w ha (hl.dom hd)
   exact ⟨g', w', es, e, hl.guar gu⟩
  ·obtain ⟨g₂, w₂, es₂, e₂, gu⟩ := ok w ha (hl.dom hd)
   rw [e] at e₂; cases e₂
   exact ih w _ _ _ ha (hl.dom hd) e _ (hl.grown ha hd gu)

theorem Less.hset {k : Hp} {M' M : Nat → Prop} {c : Nat} {o o' : Obj} (h : Less k M' M) (hk : k c = some o) (ho : opn o = true) : Less (Mus.hset k c o') M' M := by
 refine ⟨h.1, fun b x hb hn hx => ?_⟩
 by_cases hbc : b = c
 ·subst hbc
  rw [h.2 b o hb hn hk] at ho; cases ho
 ·rw [hset_ne _ _ hbc] at hx
  exact h.2 b x hb hn hx

theorem Ch.eased {c : Nat} : Eased (Ch P c) := by
 intro g k M M' hl H
 induction H generalizing M with
 | step hs ok h ih =>
  refine .step hs (fun w ha hd => ?_) fun w g' w' es ha hd e => ?_
  ·obtain ⟨g', w', es, e, gu⟩ := ok w ha (hl.dom hd)
   exact ⟨g', w', es, e, hl.guar gu⟩
  ·obtain ⟨g₂, w₂, es₂, e₂, gu⟩ := ok w ha (hl.dom hd)
   rw [e] at e₂; cases e₂
   exact ih w _ _ _ ha (hl.dom hd) e _ (hl.grown ha hd gu)
 | send hs hk e h ih => exact .send hs hk e (ih _ (hl.hset hk rfl))
 | close hs hk hw hs' e h => exact .close hs hk hw hs' e h

theorem Mn.eased {Fin : Goroutine → Hp → (Nat → Prop) → Prop} (hF : Eased Fin) : Eased (Mn P Fin) := by
 intro g k M M' hl H
 induction H generalizing M with
 | fin h => exact .fin (hF _ _ _ _ hl h)
 | step hs ok h ih =>
  refine .step hs (fun w ha hd => ?_) fun w g' w' es ha hd e => ?_
  ·obtain ⟨g', w', es, e, gu⟩ := ok w ha (hl.dom hd)
   exact ⟨g', w', es, e, hl.guar gu⟩
  ·obtain ⟨g₂, w₂, es₂, e₂, gu⟩ := ok w ha (hl.dom hd)
   rw [e] at e₂; cases e₂
   exact ih w _ _ _ ha (hl.dom hd) e _ (hl.grown ha hd gu)
 | spawn hs hs' hsc e hk hM hkc hsub hc hM' hM'c hsep h ih => exact .spawn hs hs' hsc e hk (hl.1 _ hM) hkc hsub hc (hM'.trans hl) hM'c hsep h
 | recv hs hk hM hg' e h ih => exact .recv hs hk (hl.1 _ hM) hg' e (ih _ (hl.hset hk rfl))
 | done hs hk hM hg' e h ih => exact .done hs hk (hl.1 _ hM) hg' e (ih _ (hl.hset hk rfl))

/-! ### Nothing is lost by going on -/
theorem Mn.absorb {Fin : Goroutine → Hp → (Nat → Prop) → Prop} {g : Goroutine} {k : Hp} {M : Nat → Prop} (H : Gos P true (Mn P Fin) g k M) : Mn P Fin g k M := by
 induction H with
 | stop h => exact h
 | step hs ok h ih => exact .step hs ok ih
theorem Ch.absorb {c : Nat} {g : Goroutine} {k : Hp} {M : Nat → Prop} (H : Gos P false (Ch P c) g k M) : Ch P c g k M := by
 induction H with
 | stop h => exact h
 | step hs ok h ih => exact .step hs ok ih

/-- Goroutine 0's side; a sender's. -/
def mainS (P : Program) (Fin : Goroutine → Hp → (Nat → Prop) → Prop) : Side := ⟨true, fun S => S = Mn P Fin⟩
def kidS (P : Program) (c : Nat) : Side := ⟨false, fun S => S = Ch P c⟩

/-! ### A block that nobody will write again -/
def freeze (h : Hp) (b : Nat) (o : Obj) : Hp := ⟨fun b' => if b' = b then some o else h b', fun b' => b' = b ∨ h.z b'⟩
theorem freeze_at (h : Hp) (b : Nat) (o : Obj) : freeze h b o b = some o := by simp [freeze]

theorem Sat.freeze {h k : Hp} {F : Frag} {M : Nat → Prop} {b : Nat} {o : Obj} (S : Sat h ((b, o) :: F) k M) (ho : opn o = false) : Sat (freeze h b o) F k (fun c => M c ∧ c ≠ b) ∧ Ext h (Mus.freeze h b o) ∧ Less k (fun c => M c ∧ c ≠ b) M := by
 have hb := S.own b o (List.mem_cons_self ..)
 have hnd := S.nodup
 simp only [List.map_cons, List.nodup_cons] at hnd
 have hnb : ∀ c x, (c, x) ∈ F → c ≠ b := by
  rintro c x hx rfl
  exact hnd.1 (List.mem_map.2 ⟨_, hx, rfl⟩)
 refine ⟨⟨fun c x hc => ?_, fun c x hc => ?_, hnd.2, fun c x hm hx hox => ?_, fun c hc => ?_⟩, ⟨fun c x hc => ?_, fun c hc => .inr hc⟩, ⟨fun c hc => hc.1, fun c x hm hn hx => ?_⟩⟩
 ·by_cases e : c = b
  ·subst e; rw [freeze_at] at hc; cases hc; exact hb.1
  ·simp only [Mus.freeze, if_neg e] at hc; exact S.sub c x hc
 ·have e := hnb c x hc
  have := S.own c x (List.mem_cons_of_mem _ hc)
  exact ⟨this.1, ⟨this.2.1, e⟩, by simp [Mus.freeze, e, this.2.2]⟩
 ·rcases S.all c x hm.1 hx hox with h1 | h1
  ·rcases List.mem_cons.1 h1 with e | h1
   ·cases e; exact absurd rfl hm.2
   ·exact .inl h1
  ·exact .inr (by simp [Mus.freeze, hm.2, h1])
 ·rcases hc with rfl | hc
  ·exact ⟨fun h => h.2 rfl, by rw [hb.1]; rfl⟩
  ·exact ⟨fun h => (S.froz c hc).1 h.1, (S.froz c hc).2⟩
 ·have e : c ≠ b := by rintro rfl; rw [hb.2.2] at hc; cases hc
  simp [Mus.freeze, e, hc]
 ·have e : c = b := by
   rcases Classical.em (c = b) with e | e
   ·exact e
   ·exact absurd ⟨hm, e⟩ hn
  subst e
  rw [hb.1] at hx; cases hx; exact ho

theorem Sat.thaw {h k : Hp} {F : Frag} {M : Nat → Prop} {b : Nat} {o : Obj} (S : Sat (Mus.freeze h b o) F k M) (hb : h b = none) (ho : opn o = false) : Sat h F k M := by
 have ext : ∀ c x, h c = some x → Mus.freeze h b o c = some x := fun c x hc => by
  have e : c ≠ b := by rintro rfl; rw [hb] at hc; cases hc
  simp [Mus.freeze, e, hc]
 refine ⟨fun c x hc => S.sub c x (ext c x hc), fun c x hc => ?_, S.nodup, fun c x hm hx hox => ?_, fun c hc => S.froz c (.inr hc)⟩
 ·have := S.own c x hc
  refine ⟨this.1, this.2.1, ?_⟩
  cases hh : h c with
  | none => rfl
  | some y => rw [ext c y hh] at this; cases this.2.2
 ·rcases S.all c x hm hx hox with h1 | h1
  ·exact .inl h1
  ·by_cases e : c = b
   ·subst e; rw [freeze_at] at h1; cases h1; rw [ho] at hox; cases hox
   ·simp only [Mus.freeze, if_neg e] at h1; exact .inr h1

theorem W.freeze {x : Cx} {c : Code} {Q : Post} {ρ : Env} {ds : List Deferred} {F : Frag} {b : Nat} {o : Obj} (ho : opn o = false) (H : ∀ h', Ext x.h h' → h' b = some o → h'.z b → W { x with h := h' } c Q ρ ds F) : W x c Q ρ ds ((b, o) :: F) := by
 intro fr k cs Stop tmps hk M h1 h0 h2 h3 h4 h5 hc
 obtain ⟨S, e, hl⟩ := h5.freeze ho
 have hb := (h5.own b o (List.mem_cons_self ..)).2.2
 refine Gos.eased Stop.2.2 _ _ _ _ hl (H _ e (freeze_at _ _ _) (.inl rfl) fr k cs Stop tmps hk _ h1 h0 h2 h3 h4 S fun ex ρ' ds' F' tmps' hk' M' q a1 a2 a3 a4 => hc ex ρ' ds' F' tmps' hk' M' q a1 a2 (a3.thaw hb ho) fun c' hm hF => ?_)
 have hne : c' ≠ b := by rintro rfl; exact hF o (List.mem_cons_self ..)
 exact a4 c' ⟨hm, hne⟩ fun o' ho' => hF o' (List.mem_cons_of_mem _ ho')
end Go.Mus

/- go, send, receive, close. Conditions: none; over any program. -/
namespace Go.Mus
open Go.Conc (rcase scase QuitsIn)
section
variable {P : Program}
/-- What is said of a channel is turned. -/
theorem Sat.ghost {h k : Hp} {F : Frag} {U : Obj → Frag} {M : Nat → Prop} {c : Nat} {o o' : Obj} (S : Sat h F k M) (hl : At c o F U) (ho' : o.isChan = true ∧ o'.isChan = true) : k c = some o ∧ M c ∧ Sat h (U o') (hset k c o') M ∧ Fr M F M (U o') := by
 obtain ⟨F1, F2, rfl, e2⟩ := hl.split
 have hc := S.own c o (by simp)
 have hnd := S.nodup
 rw [e2]
 have hne : ∀ b x, (b, x) ∈ F1 ∨ (b, x) ∈ F2 → b ≠ c := by
  rintro b x hx rfl
  simp only [List.map_append, List.map_cons, List.nodup_append, List.nodup_cons] at hnd
  rcases hx with hx | hx
  ·exact hnd.2.2 b (List.mem_map.2 ⟨_, hx, rfl⟩) b (by simp) rfl
  ·exact hnd.2.1.1 (List.mem_map.2 ⟨_, hx, rfl⟩)
 refine ⟨hc.1, hc.2.1, ⟨fun b x hb => ?_, fun b x hb => ?_, by simpa using hnd, fun b x hm hx hox => ?_, fun b hb => ?_⟩, Fr.turn _ _ _ _ _ fun _ h => h⟩
 ·have e : b ≠ c := by rintro rfl; rw [hc.2.2] at hb; cases hb
  rw [hset_ne _ _ e]; exact S.sub b x hb
 ·have old : (b, x) ∈ F1 ∨ (b, x) ∈ F2 → hset k c o' b = some x ∧ M b ∧ h b = none := fun hx => by
   have := S.own b x (by rcases hx with hx | hx <;> simp [hx])
   rw [hset_ne _ _ (hne b x hx)]; exact this
  rcases List.mem_append.1 hb with hb | hb
  ·exact old (.inl hb)
  ·rcases List.mem_cons.1 hb with e | hb
   ·cases e; exact ⟨hset_same _ _ _, hc.2⟩
   ·exact old (.inr hb)
 ·by_cases e : b = c
  ·subst e; rw [hset_same] at hx; cases hx; exact .inl (by simp)
  ·rw [hset_ne _ _ e] at hx
   rcases S.all b x hm hx hox with h1 | h1
   ·left
    rcases List.mem_append.1 h1 with h1 | h1
    ·exact List.mem_append_left _ h1
    ·rcases List.mem_cons.1 h1 with e' | h1
     ·cases e'; exact absurd rfl e
     ·exact List.mem_append_right _ (List.mem_cons_of_mem _ h1)
   ·exact .inr h1
 ·have := S.froz b hb
  have e : b ≠ c := by rintro rfl; exact this.1 hc.2.1
  rw [hset_ne _ _ e]; exact this

theorem seen_nil (fn : FuncId) : seen P fn #[] = #[] := rfl

theorem apply_comm {fr : Frame} {cs : List Frame} {s : Sem Next} {w : World} {cases' : Array CommCase} {bl : Bool} {sh : CommShape} (r : s.runT P w #[] = (.ok (.comm cases' bl sh) w, #[])) (hk : (fr.kind == CallKind.early) = false) :
  stepG.apply P true fr cs none s w = .comm (G fr cs) cases' bl sh w #[] := by
 unfold stepG.apply
 simp only [r, hk, if_true, Bool.false_eq_true, if_false]
 rw [seen_nil]
 rfl

/-- What a go statement starts. -/
def childG (P : Program) (d : Deferred) : Goroutine := { frame := { (default : Frame) with fn := P.funcs.size, defers := [d], mode := .panicking [goexitEntry] }, callers := [], status := .running, dying := none }

theorem apply_spawn {fr : Frame} {cs : List Frame} {s : Sem Next} {w : World} {f : Fn} {cap args : Array Value} (r : s.runT P w #[] = (.ok (.spawn { target := .fn f cap, args }) w, #[])) (hk : (fr.kind == CallKind.early) = false) :
  stepG.apply P true fr cs none s w = .spawn (G (fr.finish undef) cs) (childG P { target := .fn f cap, args }) w #[] := by
 unfold stepG.apply
 simp only [r, hk, if_true, Bool.false_eq_true, if_false]
 rw [seen_nil]
 simp [GStep.after, childG, Conc.G]
end
section rules
variable {x : Cx} {Q : Post} {ρ : Env} {ds : List Deferred} {F : Frag} {ops : Array Oper} {i : Nat} {rest : List Nat} {o : Oper}
theorem run_zero {P : Program} {t s b : Nat} {z : Value} {zc : Array Value} [j : TI P t s b z zc] {β : Type} {f : Value → Sem β} {w : World} {es : Array Event} : ((zeroValue t).bind f).runT P w es = (f z).runT P w es := by
 obtain ⟨j, h1, _, _, h2, _⟩ := j.out
 simp only [zeroValue, typeInfo, program, bind_eq, pure_eq, Sem.bind, Sem.runT, h1, h2]
theorem run_under {P : Program} {t : TypeId} {d : TypeDesc} [j : TD P t d] {β : Type} {f : TypeDesc → Sem β} {w : World} {es : Array Event} : ((underlying t).bind f).runT P w es = (f d).runT P w es := by
 simp only [underlying, program, bind_eq, pure_eq, Sem.bind, Sem.runT, j.out]

/-- The step of a receive. -/
theorem st_recv {b : Frame} {t : Array Value} {k : List Item} {cs : List Frame} {ct el s' b' c : Nat} {dir : ChanDir} {z : Value} {zc : Array Value} {ch : Operand} [TD x.P ct (.chan dir el)] [TI x.P el s' b' z zc] (ho : ops[i]? = some o) (hop : o.op = .recv ct ch true) (hw : Region.wanted o (yielded ops t) = true) (hk : (b.kind == CallKind.early) = false)
  (hc : (fat b t ds (.inRegion ops (i :: rest) :: k)).eval ch = .chan (some c)) (w : World) :
  stepG x.P true (G (fat b t ds (.inRegion ops (i :: rest) :: k)) cs) w = .comm (G (fat b t ds (.inRegion ops (i :: rest) :: k)) cs) #[rcase c z] true (.recv true) w #[] := by
 have e := st_oper (P := x.P) (main := mainS x.P fun _ _ _ => False) (cs := cs) (w := w) (ds := ds) (k := k) (b := b) (rest := rest) ho hw (fun c => by rw [hop]; simp)
 rw [show (mainS x.P fun _ _ _ => False).b = true from rfl] at e
 rw [e]
 refine apply_comm ?_ hk
 simp only [execOp, hop, hc, bind_eq, pure_eq]
 rw [run_under, run_zero]
 rfl

/-- ████ A RECEIVE that gets a value. -/
theorem Ops.recv {ct el s' b' c : Nat} {dir : ChanDir} {z v : Value} {zc : Array Value} {ch : Operand} {l : List Value} {U : Obj → Frag} (hS : ∀ S, x.main.ok S → ∃ Fin, S = Mn x.P Fin) (hb : x.main.b = true) [TD x.P ct (.chan dir el)] [TI x.P el s' b' z zc] (ho : ops[i]? = some o) (hop : o.op = .recv ct ch true) (hw : want ops ρ o) (hd : slotOK o.dst x.n = true)
  (hch : ev ρ ch = some (.chan (some c))) (hl : At c (gch (v :: l)) F U) (H : Ops x ops rest Q (put ρ o.dst (.tuple #[v, .bool true])) ds (U (gch l))) : Ops x ops (i :: rest) Q ρ ds F := by
 intro b k cs Stop tmps hk M h1 h0 h2 h3 h4 h5 hc
 have hk' : (b.kind == CallKind.early) = false := by simpa using h2
 obtain ⟨e1, e2, S', f'⟩ := h5.ghost (o' := gch l) hl ⟨rfl, rfl⟩
 obtain ⟨Fin, eS⟩ := hS _ Stop.2.1
 obtain ⟨p1, p2⟩ := h3.put' h4 hd (.tuple #[v, .bool true])
 have := H b k cs Stop _ _ _ h1 h0 h2 p1 p2 S' fun e ρ' ds' G tmps' hk' M' q a1 a2 a3 a4 => hc e ρ' ds' G tmps' hk' M' q a1 a2 a3 (f'.trans a4)
 refine .stop ?_
 unfold Gs at this
 rw [eS, hb] at this
 rw [eS]
 refine .recv rfl e1 e2 ⟨rfl, rfl, rfl⟩ (st_recv ho hop (hw.wanted h3) hk' (h3.ev hch)) ?_
 have hf := finish_fat (b := b) (t := tmps) (ds := ds) (k := k) (cs := cs) (rest := rest) ho (.tuple #[v, .bool true])
 have := Mn.absorb this
 rw [← hf] at this
 exact this

/-- ████ .. that finds the channel closed. -/
theorem Ops.recvDone {ct el s' b' c : Nat} {dir : ChanDir} {z : Value} {zc : Array Value} {ch : Operand} {U : Obj → Frag} (hS : ∀ S, x.main.ok S → ∃ Fin, S = Mn x.P Fin) (hb : x.main.b = true) [TD x.P ct (.chan dir el)] [TI x.P el s' b' z zc] (ho : ops[i]? = some o) (hop : o.op = .recv ct ch true) (hw : want ops ρ o) (hd : slotOK o.dst x.n = true)
  (hch : ev ρ ch = some (.chan (some c))) (hl : At c (gch []) F U) (H : Ops x ops rest Q (put ρ o.dst (.tuple #[z, .bool false])) ds (U gshut)) : Ops x ops (i :: rest) Q ρ ds F := by
 intro b k cs Stop tmps hk M h1 h0 h2 h3 h4 h5 hc
 have hk' : (b.kind == CallKind.early) = false := by simpa using h2
 obtain ⟨e1, e2, S', f'⟩ := h5.ghost (o' := gshut) hl ⟨rfl, rfl⟩
 obtain ⟨Fin, eS⟩ := hS _ Stop.2.1
 obtain ⟨p1, p2⟩ := h3.put' h4 hd (.tuple #[z, .bool false])
 have := H b k cs Stop _ _ _ h1 h0 h2 p1 p2 S' fun e ρ' ds' G tmps' hk' M' q a1 a2 a3 a4 => hc e ρ' ds' G tmps' hk' M' q a1 a2 a3 (f'.trans a4)
 refine .stop ?_
 unfold Gs at this
 rw [eS, hb] at this
 rw [eS]
 refine .done rfl e1 e2 ⟨rfl, rfl, rfl⟩ (st_recv ho hop (hw.wanted h3) hk' (h3.ev hch)) ?_
 have hf := finish_fat (b := b) (t := tmps) (ds := ds) (k := k) (cs := cs) (rest := rest) ho (.tuple #[z, .bool false])
 have := Mn.absorb this
 rw [← hf] at this
 exact this
end rules
end Go.Mus

/- A sender, from its body; starting one; sending. Conditions: none; over any program. -/
namespace Go.Mus
open Go.Conc (rcase scase QuitsIn)
section
variable {P : Program} {ds : List Deferred} {ops : Array Oper} {i : Nat} {rest : List Nat} {o : Oper}
/-- The step of a send. -/
theorem st_send {b : Frame} {t : Array Value} {k : List Item} {cs : List Frame} {c : Nat} {v : Value} {ch y : Operand} (ho : ops[i]? = some o) (hop : o.op = .send ch y) (hw : Region.wanted o (yielded ops t) = true) (hk : (b.kind == CallKind.early) = false)
  (hc : (fat b t ds (.inRegion ops (i :: rest) :: k)).eval ch = .chan (some c)) (hv : (fat b t ds (.inRegion ops (i :: rest) :: k)).eval y = v) (w : World) :
  stepG P false (G (fat b t ds (.inRegion ops (i :: rest) :: k)) cs) w = .comm (G (fat b t ds (.inRegion ops (i :: rest) :: k)) cs) #[scase c v (.tuple #[])] true .send w #[] := by
 have e := st_oper (P := P) (main := kidS P c) (cs := cs) (w := w) (ds := ds) (k := k) (b := b) (rest := rest) ho hw (fun c => by rw [hop]; simp)
 rw [show (kidS P c).b = false from rfl] at e
 rw [e]
 refine apply_comm ?_ hk
 simp only [execOp, hop, hc, hv, bind_eq, pure_eq]
 rfl

/-- The step of a go statement. -/
theorem st_go {b : Frame} {t : Array Value} {k : List Item} {cs : List Frame} {f : Fn} {fi ca vs : Array Value} {y : Operand} {args : Array Operand} {ts : Array TypeId} (ho : ops[i]? = some o) (hop : o.op = .go ⟨.value y, args, ts⟩) (hw : Region.wanted o (yielded ops t) = true) (hk : (b.kind == CallKind.early) = false)
  (hc : (fat b t ds (.inRegion ops (i :: rest) :: k)).eval y = .func f fi ca) (hv : args.map (fat b t ds (.inRegion ops (i :: rest) :: k)).eval = vs) (w : World) :
  stepG P true (G (fat b t ds (.inRegion ops (i :: rest) :: k)) cs) w = .spawn (G ((fat b t ds (.inRegion ops (i :: rest) :: k)).finish undef) cs) (childG P { target := .fn f ca, args := fi ++ vs }) w #[] := by
 have e := st_oper (P := P) (main := mainS P fun _ _ _ => False) (cs := cs) (w := w) (ds := ds) (k := k) (b := b) (rest := rest) ho hw (fun c => by rw [hop]; simp)
 rw [show (mainS P fun _ _ _ => False).b = true from rfl] at e
 rw [e]
 refine apply_spawn ?_ hk
 simp only [execOp, hop, resolve, Deferred.ofValue, hc, hv, bind_eq, pure_eq]
 rfl

/-- Where a sender's outermost frame is. -/
def rootF (P : Program) : Frame := { (default : Frame) with fn := P.funcs.size, defers := [], mode := .panicking [goexitEntry] }

theorem st_child {f : FuncId} [FB P f] {ca args : Array Value} (w : World) : stepG P false (childG P { target := .fn (.func f) ca, args }) w = .go (G (Frame.enter P f (args ++ ca) .deferred) [rootF P]) w #[] := by
 obtain ⟨fn, h1, h2, h3⟩ := FB.out (inferInstance : FB P f)
 have r : (invoke (.fn (.func f) ca) args).runT P w #[] = (.ok (.enter f (args ++ ca)) w, #[]) := by
  show (callFunc f (args ++ ca)).runT P w #[] = _
  simp only [callFunc, program, bind_eq, pure_eq, Sem.bind, Sem.runT, h1, h2, h3, Bool.false_eq_true, if_false]
 have e : stepG P false (childG P { target := .fn (.func f) ca, args }) w = callDeferred P (rootF P) [] none { target := .fn (.func f) ca, args } w := rfl
 rw [e]
 unfold callDeferred
 simp only [r, seen_nil]
 rfl

theorem quits_root : QuitsIn P 1 (G (rootF P) []) := by
 refine .inr ⟨rfl, { frame := rootF P, callers := [], status := .finished, dying := none }, fun w => ?_, rfl⟩
 have ht : (rootF P).todo = [] := rfl
 have hc : (rootF P).catches P = false := by
  unfold Frame.catches
  rw [ht]
  split <;> first | rfl | (rename_i h; cases h)
 have e : stepG P false (G (rootF P) []) w = unwind P false (rootF P) [] none w := rfl
 rw [e]
 unfold unwind
 have h1 : (rootF P).defers = [] := rfl
 have h2 : (rootF P).mode = .panicking [goexitEntry] := rfl
 simp only [h1, h2, hc, Bool.false_eq_true, if_false]
 rfl

/-- The step that closes a channel on the way out. -/
theorem st_close {b : Frame} {t : Array Value} {cs : List Frame} {c s r : Nat} {tys : Array TypeId} {ty : TypeId} {cons : Array Bool} {ds : List Deferred} {todo : List Item} {w : World} (ho : w.heap[c]? = some (.chan 0 #[] false s r false)) :
  stepG P false (G (lvg b t ({ target := .builtin .close tys ty cons, args := #[.chan (some c)] } :: ds) todo) cs) w = .go (G (lvg b t ds todo) cs) (w.shut c s r false) (closeEs c) := by
 have run : (invoke (.builtin .close tys ty cons) #[.chan (some c)]).runT P w #[] = (.ok (.value (.tuple #[])) (w.shut c s r false), closeEs c) := by
  have hlt := some_lt ho
  have e1 : (invoke (.builtin .close tys ty cons) #[.chan (some c)]) = Sem.getObj c fun o => (match o with
    | .chan room buf closed sent received timer => (do
     if closed then runtimePanic (.plain "close of closed channel")
     setObj c (.chan room buf true sent received timer)
     pure (.tuple #[]) : Sem Value)
    | _ => stuck "close: no channel in this block").bind fun v => .pure (Next.value v) := rfl
  rw [e1]
  simp only [Sem.runT, ho, Bool.false_eq_true, if_false, setObj, bind_eq, pure_eq, Sem.bind]
  rfl
 have e : stepG P false (G (lvg b t ({ target := .builtin .close tys ty cons, args := #[.chan (some c)] } :: ds) todo) cs) w = callDeferred P (lvg b t ds todo) cs none { target := .builtin .close tys ty cons, args := #[.chan (some c)] } w := rfl
 rw [e]
 unfold callDeferred
 have hs : seen P b.fn (closeEs c) = closeEs c := by simp [seen, closeEs]
 have hf : (lvg b t ds todo).fn = b.fn := rfl
 simp only [run, hf, hs]
 rfl

theorem st_doneK {b : Frame} {fn : Func} {t : Array Value} {todo : List Item} {w : World} (hf : P.funcs[b.fn]? = some fn) (hr : fn.results = #[]) (hk : b.kind = .deferred) : stepG P false (G (lvg b t [] todo) [rootF P]) w = .go (G (rootF P) []) w #[] := by
 have e : stepG P false (G (lvg b t [] todo) [rootF P]) w = unwind P false (lvg b t [] todo) [rootF P] none w := rfl
 have r : (results fn t).runT P w #[] = (.ok (.tuple #[]) w, #[]) := by
  unfold results
  rw [hr, show (#[] : Array ResultVar) = ([] : List ResultVar).toArray from rfl, List.mapM_toArray]
  rfl
 rw [e]
 unfold unwind
 have h1 : (lvg b t [] todo).defers = [] := rfl
 have h2 : (lvg b t [] todo).mode = .returning := rfl
 have h3 : (lvg b t [] todo).fn = b.fn := rfl
 have h4 : (lvg b t [] todo).tmps = t := rfl
 have h5 : (lvg b t [] todo).kind = .deferred := hk
 simp only [h1, h2, h3, h4, hf, r, doReturn, h5]
 rfl

/-- The way out of a sender's function: marks of loops, then the close. -/
def UnwC (P : Program) (c : Nat) (h : Hp) : List Deferred → Frag → Prop
 | [], _ => False
 | d :: ds, F =>
  match d.target with
  | .collected r => tr P h (Instr.takeDeferred r) F fun l F' => l = [] ∧ UnwC P c h ds F'
  | .builtin .close _ _ _ => ds = [] ∧ d.args = #[.chan (some c)] ∧ (c, gch []) ∈ F
  | _ => False

theorem unwC_goes {b : Frame} {fn : Func} {t : Array Value} {c : Nat} {h : Hp} (hf : P.funcs[b.fn]? = some fn) (hr : fn.results = #[]) (hkd : b.kind = .deferred) : ∀ {ds : List Deferred} {F : Frag} {hk : Hp} {M : Nat → Prop} (todo : List Item), Sat h F hk M → UnwC P c h ds F →
  Gos P false (Ch P c) (G (lvg b t ds todo) [rootF P]) hk M := by
 intro ds
 induction ds with
 | nil => exact fun _ _ hu => hu.elim
 | cons d ds ih =>
  intro F hk M todo S hu
  obtain ⟨target, dargs⟩ := d
  unfold UnwC at hu
  split at hu
  ·rename_i r heq
   simp only at heq
   subst heq
   refine .of_stp ⟨rfl, fun w hw hM => ?_⟩
   obtain ⟨l, F', w', es, r1, r2, r3, r4, rfl, r5⟩ := tr_sound _ #[] hu S hw hM
   rw [Array.empty_append] at r1
   exact ⟨G (lvg b t ds todo) [rootF P], w', seen P b.fn es, st_collected (main := kidS P c) r1, r2.mem fun _ => mem_seen, ih todo r3 r5⟩
  ·rename_i tys ty cons heq
   simp only at heq
   obtain ⟨rfl, hargs, hm⟩ := hu
   simp only at hargs
   subst heq hargs
   refine .stop (.close rfl (S.own _ _ hm).1 rfl rfl (fun w s r ho => st_close ho) (n := 2) ?_)
   exact .inr ⟨rfl, _, fun w => st_doneK hf hr hkd, quits_root⟩
  ·exact hu.elim

/-- ████ A SENDER, BY ITS FUNCTION's BODY. -/
theorem Ch.start {f : FuncId} {fn : Func} {body : Code} [FB P f] (hf : P.funcs[f]? = some fn) (hb : fn.body = some body) (hr : fn.results = #[]) {ca args : Array Value} (ha : (args ++ ca).size ≤ fn.ntmps) (ρ : Env) (hρ : Argu ρ (args ++ ca)) {c : Nat} {l : List Value} {h kc : Hp} {M : Nat → Prop} (S : Sat h [(c, gch l)] kc M)
  (H : W ⟨P, kidS P c, f, fn.ntmps, none, h⟩ body (fun e _ ds F => (e = .ret ∨ e = .normal) ∧ UnwC P c h ds F) ρ [] [(c, gch l)]) : Ch P c (childG P { target := .fn (.func f) ca, args }) kc M := by
 refine Ch.absorb (.idle rfl st_child ?_)
 have e : Frame.enter P f (args ++ ca) .deferred = fat { (default : Frame) with fn := f, kind := .deferred } (args ++ ca ++ Array.replicate (fn.ntmps - (args ++ ca).size) undef) [] [.code body] := by
  simp [Frame.enter, fat, hf, hb]; rfl
 rw [e]
 refine H _ [] [rootF P] ⟨Ch P c, rfl, Ch.eased⟩ _ kc M rfl rfl (by simp) hρ.ok (by simp at ha ⊢; omega) S fun ex ρ' ds' F' tmps' hk' M' q a1 a2 a3 a4 => ?_
 obtain ⟨hex, hu⟩ := q
 have go : ∀ todo, Gos P false (Ch P c) (G (lvg { (default : Frame) with fn := f, kind := .deferred } tmps' ds' todo) [rootF P]) hk' M' := fun todo => unwC_goes (fn := fn) hf hr rfl todo a3 hu
 rcases hex with rfl | rfl
 ·exact fun k' => .idle rfl (fun _ => st_ret (main := kidS P c) rfl) (go _)
 ·exact .idle rfl (fun _ => st_end (main := kidS P c) rfl) (go _)
end
section rules
variable {x : Cx} {Q : Post} {ρ : Env} {ds : List Deferred} {F : Frag} {ops : Array Oper} {i : Nat} {rest : List Nat} {o : Oper}
/-- ████ A SEND. -/
theorem Ops.send {c : Nat} {v : Value} {ch y : Operand} {l : List Value} {U : Obj → Frag} (hS : ∀ S, x.main.ok S → S = Ch x.P c) (hb : x.main.b = false) (ho : ops[i]? = some o) (hop : o.op = .send ch y) (hw : want ops ρ o) (hd : o.dst = none)
  (hch : ev ρ ch = some (.chan (some c))) (hy : ev ρ y = some v) (hl : At c (gch (v :: l)) F U) (H : Ops x ops rest Q ρ ds (U (gch l))) : Ops x ops (i :: rest) Q ρ ds F := by
 intro b k cs Stop tmps hk M h1 h0 h2 h3 h4 h5 hc
 have hk' : (b.kind == CallKind.early) = false := by simpa using h2
 obtain ⟨e1, e2, S', f'⟩ := h5.ghost (o' := gch l) hl ⟨rfl, rfl⟩
 have eS := hS _ Stop.2.1
 have := H b k cs Stop _ _ _ h1 h0 h2 h3 h4 S' fun e ρ' ds' G tmps' hk' M' q a1 a2 a3 a4 => hc e ρ' ds' G tmps' hk' M' q a1 a2 a3 (f'.trans a4)
 refine .stop ?_
 unfold Gs at this
 rw [eS, hb] at this
 rw [eS]
 refine .send rfl e1 (st_send ho hop (hw.wanted h3) hk' (h3.ev hch) (h3.ev hy)) ?_
 have hf := finish_fat (b := b) (t := tmps) (ds := ds) (k := k) (cs := cs) (rest := rest) ho undef
 have := Ch.absorb this
 rw [hd] at hf
 simp only at hf
 rw [← hf] at this
 exact this

/-- What a sender is told: its channel, and what is never written again. -/
noncomputable def told (h : Hp) (c : Nat) (l : List Value) : Hp := by
 classical exact ⟨fun b => if b = c then some (gch l) else if h.z b ∧ isC (h b) = false then h b else none, fun _ => False⟩
noncomputable def toldR (h : Hp) (c : Nat) : Hp := by
 classical exact ⟨fun b => if b = c then none else if h.z b ∧ isC (h b) = false then h b else none, fun _ => False⟩

theorem toldR_at {h : Hp} {c b : Nat} {o : Obj} (hn : h c = none) (hz : h.z b) (hb : h b = some o) (ho : o.isChan = false) : toldR h c b = some o := by
 have e : b ≠ c := by rintro rfl; rw [hn] at hb; cases hb
 simp [toldR, e, hz, hb, isC, ho]
/-- ████ A go STATEMENT that starts a sender. -/
theorem Ops.spawn {c : Nat} {l : List Value} {y : Operand} {args : List Operand} {ts : Array TypeId} {f : FuncId} {fi ca : Array Value} {vs : List Value} {U : Obj → Frag} (hS : ∀ S, x.main.ok S → ∃ Fin, S = Mn x.P Fin) (hb : x.main.b = true) (ho : ops[i]? = some o) (hop : o.op = .go ⟨.value y, args.toArray, ts⟩) (hw : want ops ρ o) (hd : slotOK o.dst x.n = true)
  (hy : ev ρ y = some (.func (.func f) fi ca)) (hv : evs ρ args = some vs) (hl : At c gnew F U)
  (hc : x.h c = none → ∀ kc, Sat (toldR x.h c) [(c, gch l)] kc (· = c) → Ch x.P c (childG x.P { target := .fn (.func f) ca, args := fi ++ vs.toArray }) kc (· = c))
  (H : Ops x ops rest Q (put ρ o.dst undef) ds (U (gch l))) : Ops x ops (i :: rest) Q ρ ds F := by
 classical
 intro b k cs Stop tmps hk M h1 h0 h2 h3 h4 h5 hcont
 have hk' : (b.kind == CallKind.early) = false := by simpa using h2
 obtain ⟨e1, e2, S', f'⟩ := h5.ghost (o' := gch l) hl ⟨rfl, rfl⟩
 have hnone : x.h c = none := by
  obtain ⟨F1, F2, hF, _⟩ := hl.split
  exact (h5.own c gnew (by rw [hF]; simp)).2.2
 obtain ⟨Fin, eS⟩ := hS _ Stop.2.1
 obtain ⟨p1, p2⟩ := h3.put' h4 hd undef
 have := H b k cs Stop _ _ _ h1 h0 h2 p1 p2 S' fun e ρ' ds' G tmps' hk' M' q a1 a2 a3 a4 => hcont e ρ' ds' G tmps' hk' M' q a1 a2 a3 (f'.trans a4)
 refine .stop ?_
 unfold Gs at this
 rw [eS, hb] at this
 rw [eS]
 have hne : ∀ b, b ≠ c → told x.h c l b = if x.h.z b ∧ isC (x.h b) = false then x.h b else none := fun b hb => by simp [told, hb]
 have hsub : ∀ b o, b ≠ c → told x.h c l b = some o → x.h.z b ∧ x.h b = some o ∧ o.isChan = false := by
  intro b o hb ho
  rw [hne b hb] at ho
  split at ho
  ·rename_i h
   refine ⟨h.1, ho, ?_⟩
   rw [ho] at h
   exact h.2
  ·cases ho
 refine Mn.spawn (c := c) (l := l) (kc := told x.h c l) (M' := M) rfl rfl rfl (st_go ho hop (hw.wanted h3) hk' (h3.ev hy) (by rw [List.map_toArray, evs_map (fun _ _ h => h3.ev h) hv])) e1 e2 (by simp [told]) (fun b o hb ho => ⟨h5.sub b o (hsub b o hb ho).2.1, (hsub b o hb ho).2.2⟩) (hc hnone _ ⟨fun b o hb => ?_, fun b o hb => ?_, by simp, fun b o hm hko hop => ?_, fun b hb => hb.elim⟩) ⟨fun _ h => h, fun b o hm hn => absurd hm hn⟩ e2 (fun b hb hs hm => ?_) ?_
 ·by_cases e : b = c
  ·subst e; simp [toldR] at hb
  ·rw [hne b e]
   simpa [toldR, e] using hb
 ·obtain ⟨rfl, rfl⟩ := Prod.mk.inj (List.mem_singleton.1 hb)
  exact ⟨by simp [told], rfl, by simp [toldR]⟩
 ·left
  subst hm
  have : told x.h b l b = some (gch l) := by simp [told]
  rw [this] at hko
  cases hko
  exact List.mem_cons_self ..
 ·obtain ⟨o, ho⟩ := Option.isSome_iff_exists.1 hs
  exact (h5.froz b (hsub b o hb ho).1).1 hm
 ·have hf := finish_fat (b := b) (t := tmps) (ds := ds) (k := k) (cs := cs) (rest := rest) ho undef
  have := Mn.absorb this
  rw [← hf] at this
  exact this
end rules
end Go.Mus

/- New channels, deferred calls, and the outermost function: from a law's body to the run of the machine. Conditions: none; over any program. -/
namespace Go.Mus
open Go.Conc (solo solo_eq_crowd)
section rules
variable {x : Cx} {Q : Post} {ρ : Env} {ds : List Deferred} {F : Frag} {ops : Array Oper} {i : Nat} {rest : List Nat} {o : Oper} {R : Value → Frag → Prop}
/-- A new channel without a buffer. -/
theorem e_makeChan {t el s b : Nat} {dir : ChanDir} {z : Value} {zc : Array Value} {y : Operand} (ho : o.op = .makeChan t y) [TD x.P t (.chan dir el)] [TI x.P el s b z zc] (hy : ev ρ y = some (.int .i64 0))
  (H : ∀ β, x.h β = none → (∀ o, (β, o) ∉ F) → R (.chan (some β)) ((β, gnew) :: F)) : Ef x ρ o F R :=
 Ef.of_tr fun e he h' hE => by
  obtain ⟨j, h1, h2, h3, h4, hz⟩ := TI.out (inferInstance : TI x.P el s b z zc)
  have hd := (inferInstance : TD x.P t (.chan dir el)).out
  have hb : ¬ ((0 : Int) < 0 ∨ (0 : Int) > IntKind.i64.max ∨ (j.bytes : Int) * 0 > 2 ^ 48 - 112) := by rintro (h | h | h) <;> revert h <;> simp <;> decide
  simp only [execOp, ho, he y _ hy, Instr.makeChan, asInt, asIntOf, underlying, typeInfo, program, bind_eq, pure_eq, Sem.bind, tr, hd, h1, hb, if_false, newObj]
  exact ⟨fun _ => rfl, fun r h5 h6 => ⟨_, .inl rfl, H r (hE.none h5) h6⟩⟩

/-- The step of a defer statement. -/
theorem apply_defer {P : Program} {fr : Frame} {cs : List Frame} {s : Sem Next} {w : World} {d : Deferred} (r : s.runT P w #[] = (.ok (.defer d) w, #[])) (hk : (fr.kind == CallKind.early) = false) :
  stepG.apply P true fr cs none s w = .go (G ({ fr with defers := d :: fr.defers }.finish undef) cs) w #[] := by
 unfold stepG.apply
 simp only [r, hk, if_true, Bool.false_eq_true, if_false]
 rw [seen_nil]
 rfl

theorem st_defer {b : Frame} {t : Array Value} {k : List Item} {cs : List Frame} {w : World} {c : Call} {d : Deferred} (ho : ops[i]? = some o) (hop : o.op = .defer c) (hw : Region.wanted o (yielded ops t) = true) (hr : b.roundOf = none) (hk : (b.kind == CallKind.early) = false)
  (hd : resolve (fat b t ds (.inRegion ops (i :: rest) :: k)).eval c o.type = .pure d) :
  stepG x.P x.main.b (G (fat b t ds (.inRegion ops (i :: rest) :: k)) cs) w = .go (G ((fat b t (d :: ds) (.inRegion ops (i :: rest) :: k)).finish undef) cs) w #[] := by
 obtain ⟨dst, op, type, pos, aft, guard⟩ := o
 simp only at hop hd
 subst hop
 have e : stepG x.P x.main.b (G (fat b t ds (.inRegion ops (i :: rest) :: k)) cs) w = stepG.apply x.P true (fat b t ds (.inRegion ops (i :: rest) :: k)) cs none (execOp (fat b t ds (.inRegion ops (i :: rest) :: k)).eval ⟨dst, .defer c, type, pos, aft, guard⟩) w := by
  simp only [Conc.G, stepG, stepG.exec, stepG.oper, Frame.oper?, fat, ho, hw, hr, Option.map_some, Option.getD_some, if_true]
 rw [e]
 refine apply_defer (fr := fat b t ds (.inRegion ops (i :: rest) :: k)) ?_ hk
 simp only [execOp, hd, bind_eq, pure_eq, Sem.bind, Sem.runT]

/-- ████ A defer STATEMENT (in no round). -/
theorem Ops.defer {c : Call} {d : Deferred} (hro : x.ro = none) (ho : ops[i]? = some o) (hop : o.op = .defer c) (hw : want ops ρ o) (hd : o.dst = none)
  (hr : ∀ e : Operand → Value, (∀ y v, ev ρ y = some v → e y = v) → resolve e c o.type = .pure d) (H : Ops x ops rest Q ρ (d :: ds) F) : Ops x ops (i :: rest) Q ρ ds F := by
 intro b k cs Stop tmps hk M h1 h0 h2 h3 h4 h5 hc
 have hk' : (b.kind == CallKind.early) = false := by simpa using h2
 refine .idle rfl (fun w => st_defer ho hop (hw.wanted h3) (h0.trans hro) hk' (hr _ fun _ _ hx => h3.ev hx)) ?_
 have hf := finish_fat (b := b) (t := tmps) (ds := d :: ds) (k := k) (cs := cs) (rest := rest) ho undef
 rw [hf, hd]
 exact H b k cs Stop tmps hk M h1 h0 h2 h3 h4 h5 hc
end rules
section top
variable {P : Program} {Post : Value → World → Prop}
theorem FinOK.eased : Eased (FinOK P Post) := by
 intro g k M M' hl ⟨h1, h2, h3⟩
 refine ⟨h1, fun c o hm hk => ?_, fun w ha hd => ?_⟩
 ·rcases Classical.em (M' c) with h | h
  ·exact h2 c o h hk
  ·exact hl.2 c o hm h hk
 ·obtain ⟨v, w', es, e, gu, hp⟩ := h3 w ha (hl.dom hd)
  exact ⟨v, w', es, e, hl.guar gu, hp⟩

theorem st_top {b : Frame} {fn : Func} {t : Array Value} {todo : List Item} {w w' : World} {v : Value} {es : Array Event} (hf : P.funcs[b.fn]? = some fn) (hi : P.inits.idxOf? b.fn = none) (r : (results fn t).runT P w #[] = (.ok v w', es)) (hk : b.kind = .normal) :
  stepG P true (G (lvg b t [] todo) []) w = .ended (.done v) w' (seen P b.fn es) := by
 have e : stepG P true (G (lvg b t [] todo) []) w = unwind P true (lvg b t [] todo) [] none w := rfl
 rw [e]
 unfold unwind
 have h1 : (lvg b t [] todo).defers = [] := rfl
 have h2 : (lvg b t [] todo).mode = .returning := rfl
 have h3 : (lvg b t [] todo).fn = b.fn := rfl
 have h4 : (lvg b t [] todo).tmps = t := rfl
 have h5 : (lvg b t [] todo).kind = .normal := hk
 simp only [h1, h2, h3, h4, hf, r, doReturn, h5, hi, Bool.not_true, Bool.false_eq_true, if_false]
 rfl

/-- ████ THE OUTERMOST FUNCTION, BY ITS BODY. -/
theorem Mn.top {f : FuncId} {fn : Func} {body : Code} (hf : P.funcs[f]? = some fn) (hb : fn.body = some body) (hi : P.inits.idxOf? f = none) {args : Array Value} (ha : args.size ≤ fn.ntmps) (ρ : Env) (hρ : Argu ρ args) {h k : Hp} {M : Nat → Prop} (S : Sat h [] k M) (hno : ∀ b o, h b = some o → o.isChan = false)
  {R : Value → Prop} (hpost : ∀ v w, R v → (∀ b o, h b = some o → w.heap[b]? = some o) → Post v w)
  (H : W ⟨P, mainS P (FinOK P Post), f, fn.ntmps, none, h⟩ body (fun e ρ ds F => ds = [] ∧ Shut F ∧ leave P (mainS P (FinOK P Post)) fn h (fun v _ => R v) e ρ [] F) ρ [] []) : Mn P (FinOK P Post) (G (Frame.enter P f args .normal) []) k M := by
 refine Mn.absorb ?_
 have e : Frame.enter P f args .normal = fat { (default : Frame) with fn := f, kind := .normal } (args ++ Array.replicate (fn.ntmps - args.size) undef) [] [.code body] := by
  simp [Frame.enter, fat, hf, hb]; rfl
 rw [e]
 refine H _ [] [] ⟨Mn P (FinOK P Post), rfl, Mn.eased FinOK.eased⟩ _ k M rfl rfl (by simp) hρ.ok (by simp; omega) S fun ex ρ' ds' F' tmps' hk' M' q a1 a2 a3 a4 => ?_
 obtain ⟨rfl, hsh, hex, hu⟩ := q
 have hu' : tr P h (results fn tmps') F' (fun v _ => R v) := hu tmps' a1
 have go : ∀ todo, Gos P true (Mn P (FinOK P Post)) (G (lvg { (default : Frame) with fn := f, kind := .normal } tmps' [] todo) []) hk' M' := fun todo => by
  refine .stop (.fin ⟨rfl, fun c o hm hk => ?_, fun w hw hM => ?_⟩)
  ·cases ho : opn o with
   | false => rfl
   | true =>
    rcases a3.all c o hm hk ho with h1 | h1
    ·rw [hsh _ h1] at ho; cases ho
    ·rw [opn_of (hno c o h1)] at ho; cases ho
  ·obtain ⟨v, F'', w', es, r1, r2, r3, r4, r5⟩ := tr_sound _ #[] hu' a3 hw hM
   rw [Array.empty_append] at r1
   refine ⟨v, w', _, st_top hf hi r1 rfl, r2.mem fun _ => mem_seen, hpost v w' r5 fun b o hb => ?_⟩
   exact (agr_snap hw r2).get (r3.sub b o hb) (hno b o hb)
 rcases hex with rfl | rfl
 ·exact fun k' => .idle rfl (fun _ => st_ret (main := mainS P (FinOK P Post)) rfl) (go _)
 ·exact .idle rfl (fun _ => st_end (main := mainS P (FinOK P Post)) rfl) (go _)

/-- What is known at the start: every block that is no channel; none will be written again. -/
noncomputable def atStart (W : World) : Hp := ⟨fun b => match W.heap[b]? with | some o => if o.isChan then none else some o | none => none, fun b => ∃ o, W.heap[b]? = some o ∧ o.isChan = false⟩
theorem atStart_some {W : World} {b : Nat} {o : Obj} : atStart W b = some o ↔ W.heap[b]? = some o ∧ o.isChan = false := by
 simp only [atStart]
 cases e : W.heap[b]? with
 | none => simp
 | some o' =>
  cases hc : o'.isChan with
  | true =>
   simp only [hc, if_true]
   constructor
   ·intro h; cases h
   ·rintro ⟨h, h'⟩; cases h; rw [hc] at h'; cases h'
  | false =>
   simp only [hc, Bool.false_eq_true, if_false]
   constructor
   ·intro h; cases h; exact ⟨rfl, hc⟩
   ·rintro ⟨h, _⟩; exact h
theorem atStart_sat {W : World} : Sat (atStart W) [] (atStart W) fun _ => False :=
 ⟨(fun _ _ h => h), (fun _ _ h => by cases h), (by simp), (fun _ _ h => h.elim), (fun b ⟨o, h1, h2⟩ => ⟨fun h => h, by rw [atStart_some.2 ⟨h1, h2⟩]; rfl⟩)⟩

/-- ████ THE RUN. -/
theorem Mn.run {W : World} {g : Goroutine} (H : Mn P (FinOK P Post) g (atStart W) fun _ => False) :
  ∃ M last o w' t', runNT P (M + 1) (solo g W) #[] = (.ended o w', t') ∧ runN P M (solo g W) = .next last ∧ Go.step P last = .ended o w' ∧ Conc.Good P (fun v w' => Post v w' ∧ Kept W w') last o w' t' := by
 letI : Base := ⟨W⟩
 obtain ⟨hs, h⟩ := H.ends (fun _ _ _ h => h)
 have I : MInv P #[g] W #[] (atStart W) (fun _ => False) [] :=
  ⟨rfl, (fun b o hb => ⟨o, (atStart_some.1 hb).1, .inl rfl⟩), (fun b hb => hb.elim), TOK.empty, (fun b hb => hb.elim), (fun b _ _ i a hi => by rw [show Conc.touchAt #[] i = none by simp [Conc.touchAt, Trace.act?]] at hi; cases hi), (fun i c x hi => by simp at hi), (fun i j c c' x x' _ hi => by simp at hi), (fun c hc => absurd (atStart_some.1 hc).2 (by simp [gnew, Obj.isChan])), (fun c l hc => absurd (atStart_some.1 hc).2 (by simp [gch, Obj.isChan])), Kept.refl W, fun _ h => h.elim, fun i c x k M hi => by simp at hi⟩
 have := h [] (fun p hp => by cases hp) #[g] g W #[] none I rfl (.inl ⟨⟨rfl, rfl, rfl⟩, hs⟩)
 rw [solo_eq_crowd]
 exact this
end top
end Go.Mus

/- Moves, in short. Conditions: none; over any program. -/
namespace Go.Mus
section
variable {x : Cx} {Q : Post} {K : Env → List Deferred → Frag → Prop} {ρ : Env} {ds : List Deferred} {F : Frag} {ops : Array Oper} {i : Nat} {rest : List Nat} {v : Value} {d : Tmp} {ty : TypeId} {pos : String} {aft : Array Edge} {y : Operand}
theorem qm (ho : nthO ops.toList i = some ⟨some d, .move y, ty, pos, aft, none⟩) (hy : ev ρ y = some v) (hd : Nat.blt d x.n = true) (H : Ops x ops rest Q ((d, v) :: ρ) ds F) : Ops x ops (i :: rest) Q ρ ds F := oq (y_move rfl hy) ho wn hd rfl H
theorem qs (ho : nthO ops.toList i = some ⟨some d, .assign y, ty, pos, aft, none⟩) (hy : ev ρ y = some v) (hd : Nat.blt d x.n = true) (H : Ops x ops rest Q ((d, v) :: ρ) ds F) : Ops x ops (i :: rest) Q ρ ds F := oq (y_assign rfl hy) ho wn hd rfl H
theorem o1 {op : Op} (hy : Yv x (· = F) ρ ⟨some d, op, ty, pos, aft, none⟩ v) (ho : nthO ops.toList i = some ⟨some d, op, ty, pos, aft, none⟩) (H : Ops x ops rest Q ((d, v) :: ρ) ds F) (hd : Nat.blt d x.n = true := by exact rfl) (hn : noDefer op = true := by exact rfl) : Ops x ops (i :: rest) Q ρ ds F := oq hy ho wn hd hn H
theorem a1 {op : Op} {L : Frag} {fuel listed : Nat} (i : Nat) (hy : Yv x (Keeps L) ρ ⟨some d, op, ty, pos, aft, none⟩ v) (ho : nthO ops.toList i = some ⟨some d, op, ty, pos, aft, none⟩) (H : Any x ops L fuel (listed ||| 2 ^ i) Q ((d, v) :: ρ) ds F) (hd : Nat.blt d x.n = true := by exact rfl) (hn : noDefer op = true := by exact rfl) (hr : (rdy ops listed i && freeT ops listed i && noSel ops) = true := by kernel_rfl) (hS : Keeps L F := by first | exact fun _ h => h | exact fun _ h => absurd h List.not_mem_nil | ((repeat (first | exact fun _ h => h | apply Keeps.cons | apply Keeps.app)) <;> fail) | (repeat (first | exact Keeps.nil | refine Keeps.one (by repeat (first | exact List.Mem.head _ | apply List.Mem.tail)) ?_))) : Any x ops L (fuel + 1) listed Q ρ ds F := aq hy ho an hd hn H hr hS
theorem fq {op : Op} (ho : nthO ops.toList i = some ⟨some d, op, ty, pos, aft, none⟩) (H : Ops x ops rest Q ((d, v) :: ρ) ds F) (hy : Yv x (· = F) ρ ⟨some d, op, ty, pos, aft, none⟩ v := by exact y_fieldAddr rfl rfl) (hd : Nat.blt d x.n = true := by exact rfl) (hn : noDefer op = true := by exact rfl) : Ops x ops (i :: rest) Q ρ ds F := oq hy ho wn hd hn H
theorem dq {op : Op} (ho : nthO ops.toList i = some ⟨some d, op, ty, pos, aft, none⟩) (H : Ops x ops rest Q ((d, v) :: ρ) ds F) (hy : Yv x (· = F) ρ ⟨some d, op, ty, pos, aft, none⟩ v := by exact yld rfl rfl) (hd : Nat.blt d x.n = true := by exact rfl) (hn : noDefer op = true := by exact rfl) : Ops x ops (i :: rest) Q ρ ds F := oq hy ho wn hd hn H
theorem lq {op : Op} (ho : nthO ops.toList i = some ⟨some d, op, ty, pos, aft, none⟩) (H : Ops x ops rest Q ((d, v) :: ρ) ds F) (hy : Yv x (· = F) ρ ⟨some d, op, ty, pos, aft, none⟩ v := by first | exact yldW rfl rfl | exact yldA rfl rfl) (hd : Nat.blt d x.n = true := by exact rfl) (hn : noDefer op = true := by exact rfl) : Ops x ops (i :: rest) Q ρ ds F := oq hy ho wn hd hn H
theorem pq {op : Op} (ho : nthO ops.toList i = some ⟨some d, op, ty, pos, aft, none⟩) (H : Ops x ops rest Q ((d, v) :: ρ) ds F) (hy : Yv x (· = F) ρ ⟨some d, op, ty, pos, aft, none⟩ v := by first | exact yadd rfl rfl rfl | exact y_addw rfl rfl rfl) (hd : Nat.blt d x.n = true := by exact rfl) (hn : noDefer op = true := by exact rfl) : Ops x ops (i :: rest) Q ρ ds F := oq hy ho wn hd hn H
theorem mq {op : Op} (ho : nthO ops.toList i = some ⟨some d, op, ty, pos, aft, none⟩) (H : Ops x ops rest Q ((d, v) :: ρ) ds F) (hy : Yv x (· = F) ρ ⟨some d, op, ty, pos, aft, none⟩ v := by first | exact ysub rfl rfl rfl | exact y_subw rfl rfl rfl) (hd : Nat.blt d x.n = true := by exact rfl) (hn : noDefer op = true := by exact rfl) : Ops x ops (i :: rest) Q ρ ds F := oq hy ho wn hd hn H
theorem xq {op : Op} (ho : nthO ops.toList i = some ⟨some d, op, ty, pos, aft, none⟩) (H : Ops x ops rest Q ((d, v) :: ρ) ds F) (hy : Yv x (· = F) ρ ⟨some d, op, ty, pos, aft, none⟩ v := by first | exact yix rfl rfl rfl | exact yixI rfl rfl rfl) (hd : Nat.blt d x.n = true := by exact rfl) (hn : noDefer op = true := by exact rfl) : Ops x ops (i :: rest) Q ρ ds F := oq hy ho wn hd hn H
theorem nq {op : Op} (ho : nthO ops.toList i = some ⟨some d, op, ty, pos, aft, none⟩) (H : Ops x ops rest Q ((d, v) :: ρ) ds F) (hy : Yv x (· = F) ρ ⟨some d, op, ty, pos, aft, none⟩ v := by first | exact y_nilCheck rfl rfl | exact y_nilCheckF rfl rfl) (hd : Nat.blt d x.n = true := by exact rfl) (hn : noDefer op = true := by exact rfl) : Ops x ops (i :: rest) Q ρ ds F := oq hy ho wn hd hn H
theorem nn (H : K ρ ds F) : Ops x ops [] (thn K Q) ρ ds F := Ops.nil (thn_n H)
end
end Go.Mus
