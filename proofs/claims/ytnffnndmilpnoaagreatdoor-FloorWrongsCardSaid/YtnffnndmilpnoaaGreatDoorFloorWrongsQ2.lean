/- Which plans are wrong, where, and when; which plans a search finds. Conditions: none. (And 29 texts more.) -/
import Derived.Test.YtnffnndmilpnoaaGreatDoorFloorWrongsQ1
import Derived.Test.YtnffnndmilpnoaaGreatDoorR09
import Derived.Test.YtnffnndmilpnoaaGreatDoorR06
set_option linter.unusedVariables false
set_option linter.unusedSimpArgs false
set_option linter.unusedSectionVars false

/- Which plans are wrong, where, and when; which plans a search finds. Conditions: none. -/
namespace Go.Mus
/-- A strike is set on a floor on a day. -/
def OnDay (p : List Be) (f a : Int) : Prop := ∃ i, i < 4 ∧ (beAt p i).fl = f ∧ (beAt p i).day = a
def Cold (fs : List Fl) (p : List Be) (f n : Int) : Prop := ∃ a, OnDay p f a ∧ n = a + (flAt fs f).lo + (flAt fs f).co ∧ (∃ b, OnDay p f b ∧ n < b) ∧ ∀ b, OnDay p f b → b ≤ a ∨ n < b
def Full (fs : List Fl) (ss : List St) (p : List Be) (f n : Int) : Prop := 0 ≤ n ∧ n < 22 ∧ (flAt fs f).pl < hiAt fs ss p f n
def Bad (fs : List Fl) (ss : List St) (p : List Be) (f n : Int) : Prop := Full fs ss p f n ∨ Cold fs p f n

theorem onFk_iff {p : List Be} {f : Int} : ∀ {k : Nat} {a : Int}, a ∈ onFk p f k ↔ ∃ i, i < k ∧ (beAt p i).fl = f ∧ a = (i : Int)
  | 0, a => by simp [onFk]
  | k + 1, a => by
    rw [onFk]
    split
    · rename_i h
      rw [List.mem_append, onFk_iff (k := k)]
      constructor
      · rintro (⟨i, h1, h2, h3⟩ | h1)
        · exact ⟨i, by omega, h2, h3⟩
        · exact ⟨k, by omega, h, by simpa using h1⟩
      · rintro ⟨i, h1, h2, h3⟩
        by_cases e : i = k
        · subst e; right; simpa using h3
        · left; exact ⟨i, by omega, h2, h3⟩
    · rename_i h
      rw [onFk_iff (k := k)]
      constructor
      · rintro ⟨i, h1, h2, h3⟩; exact ⟨i, by omega, h2, h3⟩
      · rintro ⟨i, h1, h2, h3⟩
        by_cases e : i = k
        · subst e; exact absurd h2 h
        · exact ⟨i, by omega, h2, h3⟩
theorem days_iff {p : List Be} {f a : Int} : a ∈ (setL p f).map (dayOf p) ↔ OnDay p f a := by
  simp only [List.mem_map, setL, (isort_perm _ _).mem_iff, onFk_iff, OnDay]
  constructor
  · rintro ⟨x, ⟨i, h1, h2, rfl⟩, h3⟩; exact ⟨i, h1, h2, by simpa [dayOf] using h3⟩
  · rintro ⟨i, h1, h2, h3⟩; exact ⟨i, ⟨i, h1, h2, rfl⟩, by simpa [dayOf] using h3⟩
theorem onDay_ge {p : List Be} {f a : Int} (hp : PlOK p) (h : OnDay p f a) : 0 ≤ a ∧ a ≤ 17 := by
  obtain ⟨i, _, _, rfl⟩ := h
  exact beAt_day hp i

theorem lookF_eq {fs : List Fl} {ss : List St} {p : List Be} {f : Int} (hall : HallOK fs ss) (hp : PlOK p) (h0 : 0 ≤ f) (h1 : f < fs.length) :
    ∃ c, lookF fs ss p f = merge (fullF (flAt fs f).pl (standsD fs ss p f) 0) c ∧ (∀ n, c = some n → Cold fs p f n ∧ ∀ n', n' < n → ¬ Cold fs p f n') ∧ (c = none → ∀ n, ¬ Cold fs p f n) := by
  have hfl := fl_ok hall h0 h1
  refine ⟨coldL (flAt fs f).co (flAt fs f).lo ((setL p f).map (dayOf p)) (-1), ?_, ?_⟩
  · rw [← lookS_fold ⟨hfl.2.2.1, by omega⟩ ⟨hfl.2.2.2.2.2.1, hfl.2.2.2.2.2.2⟩ _ _ _ (Int.le_refl _) (by decide) (fun d hd => onDay_ge hp (days_iff.1 hd)), lookF, List.foldl_map]
  have hs : ((setL p f).map (dayOf p)).Pairwise (· ≤ ·) := by
    rw [List.pairwise_map]; exact isort_srt
  have hd : ∀ a, a ∈ (setL p f).map (dayOf p) ↔ OnDay p f a := fun a => days_iff
  cases hl : (setL p f).map (dayOf p) with
  | nil =>
    rw [hl] at hd
    refine ⟨fun n h => (by cases h), fun _ n hn => ?_⟩
    obtain ⟨a, ha, _⟩ := hn
    have := (hd a).2 ha
    cases this
  | cons d r =>
    rw [hl] at hs hd
    rw [List.pairwise_cons] at hs
    have hd0 := (onDay_ge hp ((hd d).1 (List.mem_cons_self ..))).1
    have e : coldL (flAt fs f).co (flAt fs f).lo (d :: r) (-1) = coldL (flAt fs f).co (flAt fs f).lo r (d + (flAt fs f).lo) := by
      rw [coldL, if_neg (by omega)]; congr 1; omega
    obtain ⟨i1, i2, i3⟩ := coldL_srt (co := (flAt fs f).co) hfl.2.2.1 (ds := r) (e := d) hd0 hs.1 hs.2
    have hm : ∀ a, (a = d ∨ a ∈ r) ↔ OnDay p f a := fun a => by rw [← hd]; exact List.mem_cons.symm
    have hr : ∀ a b, OnDay p f a → OnDay p f b → a < b → b ∈ r := fun a b ha hb hlt => by
      rcases (hm b).2 hb with rfl | h
      · rcases (hm a).2 ha with rfl | h'
        · omega
        · have := hs.1 a h'; omega
      · exact h
    rw [e]
    refine ⟨fun n h => ⟨?_, fun n' hn' hc => ?_⟩, fun h n hc => ?_⟩
    · obtain ⟨a, ha, hn, ⟨b, hb, hb2⟩, hal⟩ := i1 n h
      refine ⟨a, (hm a).1 ha, hn, ⟨b, (hm b).1 (.inr hb), hb2⟩, fun c hc => ?_⟩
      rcases (hm c).2 hc with rfl | hc
      · left
        rcases ha with rfl | ha
        · exact Int.le_refl _
        · exact hs.1 a ha
      · exact hal c hc
    · obtain ⟨a, ha, rfl, ⟨b, hb, hb2⟩, hal⟩ := hc
      obtain ⟨c, hc1, hc2, hc3⟩ := i3 n h a ((hm a).2 ha) hn' b (hr a b ha hb (by omega)) hb2
      have := hal c ((hm c).1 (.inr hc1)); omega
    · obtain ⟨a, ha, rfl, ⟨b, hb, hb2⟩, hal⟩ := hc
      obtain ⟨c, hc1, hc2, hc3⟩ := i2 h a ((hm a).2 ha) b (hr a b ha hb (by omega)) hb2
      have := hal c ((hm c).1 (.inr hc1)); omega

theorem full_none {fs : List Fl} {ss : List St} {p : List Be} {f : Int} (hall : HallOK fs ss) (hp : PlOK p) (h0 : 0 ≤ f) (h1 : f < fs.length) : fullF (flAt fs f).pl (standsD fs ss p f) 0 = none ↔ ∀ n, ¬ Full fs ss p f n := by
  rw [fullF_none]
  constructor
  · rintro h n ⟨n0, n1, n2⟩
    obtain ⟨j, rfl⟩ : ∃ j : Nat, n = j := ⟨n.toNat, by omega⟩
    have := h j _ (standsD_at hall hp h0 h1 (by omega))
    simp only at this; omega
  · intro h i s hs
    have hi : i < 22 := by
      rcases Nat.lt_or_ge i 22 with h' | h'
      · exact h'
      · rw [List.getElem?_eq_none (by rw [standsD_len]; exact h')] at hs; cases hs
    rw [standsD_at hall hp h0 h1 hi] at hs
    cases hs
    exact Int.not_lt.1 fun hlt => h i ⟨by omega, by omega, hlt⟩
theorem full_some {fs : List Fl} {ss : List St} {p : List Be} {f : Int} {q : Bool × Int} (hall : HallOK fs ss) (hp : PlOK p) (h0 : 0 ≤ f) (h1 : f < fs.length) (h : fullF (flAt fs f).pl (standsD fs ss p f) 0 = some q) : Full fs ss p f q.2 ∧ ∀ n', n' < q.2 → ¬ Full fs ss p f n' := by
  obtain ⟨-, i, s, h2, h3, h4, h5⟩ := fullF_some h
  have hi : i < 22 := by
    rcases Nat.lt_or_ge i 22 with h' | h'
    · exact h'
    · rw [List.getElem?_eq_none (by rw [standsD_len]; exact h')] at h3; cases h3
  rw [standsD_at hall hp h0 h1 hi] at h3
  cases h3
  rw [Nat.zero_add] at h2
  rw [h2]
  refine ⟨⟨by omega, by omega, h4⟩, ?_⟩
  rintro n' hn' ⟨q0, q1, q2⟩
  obtain ⟨j, rfl⟩ : ∃ j : Nat, n' = j := ⟨n'.toNat, by omega⟩
  have := h5 j _ (by omega) (standsD_at hall hp h0 h1 (by omega))
  simp only at this; omega

theorem look_none {fs : List Fl} {ss : List St} {p : List Be} {f : Int} (hall : HallOK fs ss) (hp : PlOK p) (h0 : 0 ≤ f) (h1 : f < fs.length) : lookF fs ss p f = none ↔ ∀ n, ¬ Bad fs ss p f n := by
  obtain ⟨c, hc, hs, hn⟩ := lookF_eq hall hp h0 h1
  rw [hc, merge_none, full_none hall hp h0 h1]
  constructor
  · rintro ⟨h2, h3⟩ n (hb | hb)
    · exact h2 n hb
    · exact hn h3 n hb
  · intro h
    refine ⟨fun n hb => h n (.inl hb), ?_⟩
    cases c with
    | none => rfl
    | some n => exact absurd (.inr (hs n rfl).1) (h n)
theorem look_some {fs : List Fl} {ss : List St} {p : List Be} {f : Int} {q : Bool × Int} (hall : HallOK fs ss) (hp : PlOK p) (h0 : 0 ≤ f) (h1 : f < fs.length) (h : lookF fs ss p f = some q) : Bad fs ss p f q.2 ∧ ∀ n', n' < q.2 → ¬ Bad fs ss p f n' := by
  obtain ⟨c, hc, hs, hn⟩ := lookF_eq hall hp h0 h1
  rw [hc] at h
  cases hf : fullF (flAt fs f).pl (standsD fs ss p f) 0 with
  | none =>
    rw [hf] at h
    have hf' := (full_none hall hp h0 h1).1 hf
    cases c with
    | none => cases h
    | some n =>
      have : q = (true, n) := by simpa [merge, early] using h.symm
      subst this
      obtain ⟨a1, a2⟩ := hs n rfl
      exact ⟨.inr a1, fun n' hn' hb => hb.elim (hf' n') (a2 n' hn')⟩
  | some q' =>
    rw [hf] at h
    obtain ⟨b1, b2⟩ := full_some hall hp h0 h1 hf
    cases c with
    | none =>
      have : q' = q := by simpa [merge] using h
      subst this
      exact ⟨.inl b1, fun n' hn' hb => hb.elim (b2 n' hn') (hn rfl n')⟩
    | some n =>
      obtain ⟨a1, a2⟩ := hs n rfl
      simp only [merge, early, decide_eq_true_eq] at h
      split at h
      · rename_i hlt
        have : q = (true, n) := by simpa using h.symm
        subst this
        exact ⟨.inr a1, fun n' hn' hb => hb.elim (b2 n' (by simp only at hn'; omega)) (a2 n' hn')⟩
      · rename_i hlt
        have : q' = q := by simpa using h
        subst this
        exact ⟨.inl b1, fun n' hn' hb => hb.elim (b2 n' hn') (a2 n' (by omega))⟩

theorem inspN_spec {fs : List Fl} {ss : List St} {p : List Be} (hall : HallOK fs ss) (hp : PlOK p) : ∀ k, k ≤ fs.length →
    (inspN fs ss p k = none → ∀ f : Int, 0 ≤ f → f < k → ∀ n, ¬ Bad fs ss p f n) ∧
    (∀ c n f, inspN fs ss p k = some ((c, n), f) → 0 ≤ f ∧ f < k ∧ Bad fs ss p f n ∧ ∀ g n' : Int, 0 ≤ g → g < k → Bad fs ss p g n' → n < n' ∨ n = n' ∧ f ≤ g)
  | 0, _ => ⟨fun _ f h0 h1 => by omega, fun c n f h => (by cases h)⟩
  | k + 1, hk => by
    obtain ⟨i1, i2⟩ := inspN_spec hall hp k (by omega)
    have l1 := look_none hall hp (show (0 : Int) ≤ k by omega) (show (k : Int) < fs.length by omega)
    have l2 := fun q => look_some (q := q) hall hp (show (0 : Int) ≤ k by omega) (show (k : Int) < fs.length by omega)
    rw [inspN]
    cases hl : lookF fs ss p k with
    | none =>
      have l1' := l1.1 hl
      simp only [inspS]
      refine ⟨fun h f h0 h1 n => ?_, fun c n f h => ?_⟩
      · by_cases e : f = k
        · subst e; exact l1' n
        · exact i1 h f h0 (by omega) n
      · obtain ⟨a0, a1, a2, a3⟩ := i2 c n f h
        refine ⟨a0, by omega, a2, fun g n' g0 g1 hb => ?_⟩
        by_cases e : g = k
        · subst e; exact absurd hb (l1' n')
        · exact a3 g n' g0 (by omega) hb
    | some z =>
      obtain ⟨z1, z2⟩ := l2 z hl
      simp only [inspS]
      cases hi : inspN fs ss p k with
      | none =>
        simp only [inspB, if_true]
        refine ⟨fun h => (by cases h), fun c n f h => ?_⟩
        simp only [Option.some.injEq, Prod.mk.injEq] at h
        obtain ⟨rfl, rfl⟩ := h
        refine ⟨by omega, by omega, z1, fun g n' g0 g1 hb => ?_⟩
        by_cases e : g = k
        · subst e
          rcases Int.lt_trichotomy n n' with h | h | h
          · exact .inl h
          · exact .inr ⟨h, Int.le_refl _⟩
          · exact absurd hb (z2 n' h)
        · exact absurd hb (i1 hi g g0 (by omega) n')
      | some w =>
        obtain ⟨⟨cw, nw⟩, fw⟩ := w
        obtain ⟨a0, a1, a2, a3⟩ := i2 cw nw fw hi
        simp only [inspB, decide_eq_true_eq]
        split
        · rename_i hlt
          refine ⟨fun h => (by cases h), fun c n f h => ?_⟩
          simp only [Option.some.injEq, Prod.mk.injEq] at h
          obtain ⟨rfl, rfl⟩ := h
          refine ⟨by omega, by omega, z1, fun g n' g0 g1 hb => ?_⟩
          by_cases e : g = k
          · subst e
            rcases Int.lt_trichotomy n n' with h | h | h
            · exact .inl h
            · exact .inr ⟨h, Int.le_refl _⟩
            · exact absurd hb (z2 n' h)
          · have := a3 g n' g0 (by omega) hb
            simp only at hlt; left; omega
        · rename_i hlt
          refine ⟨fun h => (by cases h), fun c n f h => ?_⟩
          simp only [Option.some.injEq, Prod.mk.injEq] at h
          obtain ⟨⟨rfl, rfl⟩, rfl⟩ := h
          refine ⟨a0, by omega, a2, fun g n' g0 g1 hb => ?_⟩
          by_cases e : g = k
          · subst e
            have : ¬ n' < z.2 := fun h => z2 n' h hb
            rcases Int.lt_trichotomy nw n' with h | h | h
            · exact .inl h
            · exact .inr ⟨h, by omega⟩
            · omega
          · exact a3 g n' g0 (by omega) hb
/-- ████ A PLAN IS RIGHT if nothing is wrong. -/
theorem insp_none {fs : List Fl} {ss : List St} {p : List Be} (hall : HallOK fs ss) (hp : PlOK p) : inspF fs ss p = none ↔ ∀ f : Int, 0 ≤ f → f < fs.length → ∀ n, ¬ Bad fs ss p f n := by
  obtain ⟨i1, i2⟩ := inspN_spec hall hp fs.length (Nat.le_refl _)
  constructor
  · intro h f h0 h1 n; exact i1 h f h0 h1 n
  · intro h
    cases hi : inspF fs ss p with
    | none => rfl
    | some w =>
      obtain ⟨⟨c, n⟩, f⟩ := w
      obtain ⟨a0, a1, a2, _⟩ := i2 c n f hi
      exact absurd a2 (h f a0 a1 n)
/-- ████ .. and the first fault is the first that is. -/
theorem insp_some {fs : List Fl} {ss : List St} {p : List Be} (hall : HallOK fs ss) (hp : PlOK p) {c : Bool} {n f : Int} (h : inspF fs ss p = some ((c, n), f)) : 0 ≤ f ∧ f < fs.length ∧ Bad fs ss p f n ∧ ∀ g n' : Int, 0 ≤ g → g < fs.length → Bad fs ss p g n' → n < n' ∨ n = n' ∧ f ≤ g :=
  (inspN_spec hall hp fs.length (Nat.le_refl _)).2 c n f h

/-! What a search finds -/
/-- A plan in which each strike has one of its berths. -/
structure Valid (fs : List Fl) (ss : List St) (may : May) (p : List Be) : Prop where
  len : p.length = 4
  at_ : ∀ i, i < ss.length → beAt p i ∈ berthsK fs ss may i
  out : ∀ i, ss.length ≤ i → beAt p i = bnone
theorem beAt_set {p : List Be} {k i : Nat} {b : Be} (hk : k < p.length) : beAt (p.set k b) i = if i = k then b else beAt p i := by
  simp only [beAt, List.getD]
  by_cases e : i = k
  · subst e; rw [if_pos rfl, List.getElem?_set_self hk]; rfl
  · rw [if_neg e, List.getElem?_set_ne (Ne.symm e)]
theorem beAt_ext {p q : List Be} (h1 : p.length = 4) (h2 : q.length = 4) (h : ∀ i, i < 4 → beAt p i = beAt q i) : p = q := by
  apply List.ext_getElem?
  intro i
  rcases Nat.lt_or_ge i 4 with hi | hi
  · have := h i hi
    simp only [beAt, List.getD, List.getElem?_eq_getElem (show i < p.length by omega), List.getElem?_eq_getElem (show i < q.length by omega), Option.getD_some] at this ⊢
    rw [this]
  · rw [List.getElem?_eq_none (by omega), List.getElem?_eq_none (by omega)]
/-- The more is set, the more stands. -/
theorem hi_mono {fs : List Fl} {ss : List St} {p q : List Be} {f d : Int} (hall : HallOK fs ss) (hf : 0 ≤ f) (h : ∀ i, i < 4 → beAt q i = beAt p i ∨ (beAt q i).fl < 0) : hiAt fs ss q f d ≤ hiAt fs ss p f d := by
  refine sumK_le fun i hi => ?_
  have hc := (co_ok hall i).1
  rcases h i hi with h | h
  · simp only [hiG, h]; exact Int.le_refl _
  · simp only [hiG]
    rw [if_neg (by omega)]
    split <;> omega
theorem prune_no {fs : List Fl} {ss : List St} {p q : List Be} {b : Be} (hall : HallOK fs ss) (hp : PlOK p) (hq : PlOK q) (hb : b.fl < fs.length) (hr : inspF fs ss p = none) (h : ∀ i, i < 4 → beAt q i = beAt p i ∨ (beAt q i).fl < 0) : prune fs ss q b = false := by
  unfold prune
  split
  · rename_i h0
    cases ho : over (flAt fs b.fl).pl (standsD fs ss q b.fl) with
    | false => rfl
    | true =>
      obtain ⟨i, s, hs, hlt⟩ := over_iff.1 ho
      have hi : i < 22 := by
        rcases Nat.lt_or_ge i 22 with h' | h'
        · exact h'
        · rw [List.getElem?_eq_none (by rw [standsD_len]; exact h')] at hs; cases hs
      rw [standsD_at hall hq h0 hb hi] at hs
      cases hs
      have hm := hi_mono (d := i) hall h0 h
      have := (insp_none hall hp).1 hr b.fl h0 hb i
      exact absurd (.inl ⟨by omega, by omega, by simp only at hlt; omega⟩) this
  · rfl
theorem mem_rights {fs : List Fl} {ss : List St} {may : May} (hall : HallOK fs ss) : ∀ (m k : Nat) (q p : List Be), k + m = ss.length → PlanOf fs ss q → (∀ i, k ≤ i → beAt q i = bnone) →
    (p ∈ rights fs ss may m k q ↔ p.length = 4 ∧ (∀ i, i < k → beAt p i = beAt q i) ∧ (∀ i, k ≤ i → i < ss.length → beAt p i ∈ berthsK fs ss may i) ∧ (∀ i, ss.length ≤ i → beAt p i = bnone) ∧ inspF fs ss p = none)
  | 0, k, q, p, hk, hq, hn => by
    rw [rights]
    constructor
    · intro h
      split at h
      · rename_i hi
        have : p = q := by simpa using h
        subst this
        exact ⟨hq.ok.len, fun _ _ => rfl, fun i h1 h2 => by omega, fun i h1 => hn i (by omega), by simpa using hi⟩
      · cases h
    · rintro ⟨h1, h2, h3, h4, h5⟩
      have : p = q := beAt_ext h1 hq.ok.len fun i hi => by
        rcases Nat.lt_or_ge i k with h | h
        · exact h2 i h
        · rw [h4 i (by omega), hn i h]
      subst this
      simp [h5]
  | m + 1, k, q, p, hk, hq, hn => by
    have hk4 : k < q.length := by have := hall.ns; have := hq.ok.len; omega
    have hbn : ∀ b, beAt (q.set k b) k = b := fun b => by rw [beAt_set hk4, if_pos rfl]
    have hsn : ∀ b i, k + 1 ≤ i → beAt (q.set k b) i = bnone := fun b i hi => by rw [beAt_set hk4, if_neg (by omega)]; exact hn i (by omega)
    have hso : ∀ b i, i < k → beAt (q.set k b) i = beAt q i := fun b i hi => by rw [beAt_set hk4, if_neg (by omega)]
    rw [rights, List.mem_flatMap]
    constructor
    · rintro ⟨b, hb, hp⟩
      split at hp
      · cases hp
      · obtain ⟨h1, h2, h3, h4, h5⟩ := (mem_rights hall m (k + 1) (q.set k b) p (by omega) (plan_set hq (by omega) (berth_ok hall (by omega) hb)) (hsn b)).1 hp
        refine ⟨h1, fun i hi => ?_, fun i hi hi2 => ?_, h4, h5⟩
        · rw [h2 i (by omega), hso b i hi]
        · by_cases e : i = k
          · subst e; rw [h2 i (by omega), hbn]; exact hb
          · exact h3 i (by omega) hi2
    · rintro ⟨h1, h2, h3, h4, h5⟩
      have hb := h3 k (Nat.le_refl _) (by omega)
      have hset := plan_set (k := k) hq (by omega) (berth_ok hall (by omega) hb)
      have hpre : ∀ i, i < 4 → beAt (q.set k (beAt p k)) i = beAt p i ∨ (beAt (q.set k (beAt p k)) i).fl < 0 := fun i hi => by
        rcases Nat.lt_trichotomy i k with h | h | h
        · left; rw [hso _ i h, h2 i h]
        · left; subst h; rw [hbn]
        · right; rw [hsn _ i (by omega)]; simp [bnone]
      have hpOK : PlOK p := ⟨h1, fun b hb => by
        obtain ⟨i, hi, rfl⟩ := List.mem_iff_getElem.1 hb
        have e : p[i] = beAt p i := by simp [beAt, List.getD, List.getElem?_eq_getElem hi]
        rw [e]
        rcases Nat.lt_or_ge i k with h | h
        · rw [h2 i h]; exact (beAt_some hq.ok (by omega)).2
        · rcases Nat.lt_or_ge i ss.length with h' | h'
          · have := berth_ok hall h' (h3 i h h'); omega
          · rw [h4 i h']; simp [bnone]⟩
      refine ⟨beAt p k, hb, ?_⟩
      rw [if_neg (by rw [prune_no hall hpOK hset.ok (berth_ok hall (by omega) hb).2.2.1 h5 hpre]; simp)]
      refine (mem_rights hall m (k + 1) _ p (by omega) hset (hsn _)).2 ⟨h1, fun i hi => ?_, fun i hi hi2 => h3 i (by omega) hi2, h4, h5⟩
      by_cases e : i = k
      · subst e; rw [hbn]
      · rw [hso _ i (by omega), h2 i (by omega)]
theorem beAt_nil (i : Nat) : beAt (padB []) i = bnone := beAt_p0 i
/-- ████ A SEARCH FINDS the right ones of the plans in which each strike has a berth that it may have. -/
theorem mem_rightsOf {fs : List Fl} {ss : List St} {may : May} (hall : HallOK fs ss) {p : List Be} : p ∈ rightsOf fs ss may [] ↔ Valid fs ss may p ∧ inspF fs ss p = none := by
  rw [rightsOf, List.length_nil, mem_rights hall _ _ _ _ (by omega) (pad_nil hall.nf.1) (fun i _ => beAt_nil i)]
  constructor
  · rintro ⟨h1, _, h3, h4, h5⟩; exact ⟨⟨h1, fun i hi => h3 i (Nat.zero_le _) hi, h4⟩, h5⟩
  · rintro ⟨⟨h1, h2, h3⟩, h4⟩; exact ⟨h1, fun i hi => by omega, fun i _ hi => h2 i hi, h3, h4⟩
theorem mem_allF {fs : List Fl} {ss : List St} {may : May} (hall : HallOK fs ss) {p : List Be} : p ∈ allF fs ss may ↔ Valid fs ss may p ∧ inspF fs ss p = none := by
  unfold allF
  split
  · exact mem_rightsOf hall
  · rename_i hs
    have h0 : 0 < (padB []).length := by decide
    rw [List.mem_flatMap]
    have hb1 : ∀ b, b ∈ berthsK fs ss may 0 → (p ∈ rightsOf fs ss may [b] ↔ p.length = 4 ∧ (∀ i, i < 1 → beAt p i = beAt ((padB []).set 0 b) i) ∧ (∀ i, 1 ≤ i → i < ss.length → beAt p i ∈ berthsK fs ss may i) ∧ (∀ i, ss.length ≤ i → beAt p i = bnone) ∧ inspF fs ss p = none) := fun b hb => by
      rw [rightsOf, List.length_singleton, pad_one]
      exact mem_rights hall _ _ _ _ (by omega) (plan_set (pad_nil hall.nf.1) (by omega) (berth_ok hall (by omega) hb)) (fun i hi => by rw [beAt_set h0, if_neg (by omega)]; exact beAt_nil i)
    constructor
    · rintro ⟨b, hb, hp⟩
      obtain ⟨h1, h2, h3, h4, h5⟩ := (hb1 b hb).1 hp
      refine ⟨⟨h1, fun i hi => ?_, h4⟩, h5⟩
      by_cases e : i = 0
      · subst e; rw [h2 0 (by omega), beAt_set h0, if_pos rfl]; exact hb
      · exact h3 i (by omega) hi
    · rintro ⟨⟨h1, h2, h3⟩, h4⟩
      refine ⟨beAt p 0, h2 0 (by omega), (hb1 _ (h2 0 (by omega))).2 ⟨h1, fun i hi => ?_, fun i _ hi => h2 i hi, h3, h4⟩⟩
      have : i = 0 := by omega
      subst this
      rw [beAt_set h0, if_pos rfl]
theorem mem_daysFrom_iff {f : Int} : ∀ {m : Nat} {d : Int} {b : Be}, b ∈ daysFrom f d m ↔ b.fl = f ∧ d ≤ b.day ∧ b.day < d + m
  | 0, d, b => by
    constructor
    · intro h; simp [daysFrom] at h
    · intro h; omega
  | m + 1, d, b => by
    rw [daysFrom, List.mem_cons, mem_daysFrom_iff]
    constructor
    · rintro (rfl | h)
      · simp; omega
      · omega
    · rintro ⟨h1, h2, h3⟩
      by_cases e : b.day = d
      · left; obtain ⟨x, y⟩ := b; simp at h1 e; rw [h1, e]
      · right; omega
theorem mem_floorsFrom_iff {s : St} : ∀ {m : Nat} {f : Int} {b : Be}, b ∈ floorsFrom s f m ↔ f ≤ b.fl ∧ b.fl < f + m ∧ s.day ≤ b.day ∧ b.day < s.day + (s.wa + 1).toNat
  | 0, f, b => by simp [floorsFrom]; omega
  | m + 1, f, b => by
    rw [floorsFrom, List.mem_append, mem_daysFrom_iff, mem_floorsFrom_iff]
    omega
theorem mem_berths {fs : List Fl} {ss : List St} {may : May} {k : Nat} {b : Be} : b ∈ berthsK fs ss may k ↔ (may k).2 = true ∧ b = bnone ∨ (may k).1 = true ∧ 0 ≤ b.fl ∧ b.fl < fs.length ∧ (stAt ss k).day ≤ b.day ∧ b.day < (stAt ss k).day + ((stAt ss k).wa + 1).toNat := by
  rw [berthsK, List.mem_append]
  have e1 : b ∈ (if (may k).2 then [bnone] else []) ↔ (may k).2 = true ∧ b = bnone := by
    split <;> simp [*]
  have e2 : b ∈ (if (may k).1 then floorsFrom (stAt ss k) 0 fs.length else []) ↔ (may k).1 = true ∧ b ∈ floorsFrom (stAt ss k) 0 fs.length := by
    split <;> simp [*]
  rw [e1, e2, mem_floorsFrom_iff]
  simp
end Go.Mus

/- The best plans; when all strikes can be set; the first that can't. Conditions: none. -/
namespace Go.Mus
/-! Each plan once -/
theorem daysFrom_nodup {f : Int} : ∀ (m : Nat) (d : Int), (daysFrom f d m).Nodup
  | 0, _ => .nil
  | m + 1, d => by
    rw [daysFrom, List.nodup_cons]
    refine ⟨fun h => ?_, daysFrom_nodup m (d + 1)⟩
    have := (mem_daysFrom h).2.1
    simp only at this; omega
theorem floorsFrom_nodup {s : St} : ∀ (m : Nat) (f : Int), (floorsFrom s f m).Nodup
  | 0, _ => .nil
  | m + 1, f => by
    rw [floorsFrom, List.nodup_append]
    refine ⟨daysFrom_nodup _ _, floorsFrom_nodup m (f + 1), fun a ha b hb e => ?_⟩
    subst e
    have h1 := (mem_daysFrom ha).1
    have h2 := (mem_floorsFrom hb).1
    omega
theorem berthsK_nodup {fs : List Fl} {ss : List St} {may : May} {k : Nat} : (berthsK fs ss may k).Nodup := by
  rw [berthsK, List.nodup_append]
  refine ⟨by split <;> simp, ?_, fun a ha b hb e => ?_⟩
  · split
    · exact floorsFrom_nodup _ _
    · exact .nil
  subst e
  split at ha
  · have : a = bnone := by simpa using ha
    subst this
    split at hb
    · have := (mem_floorsFrom hb).1; simp [bnone] at this
    · cases hb
  · cases ha
theorem rights_at {fs : List Fl} {ss : List St} {may : May} (hall : HallOK fs ss) {m k : Nat} {q p : List Be} {b : Be} (hk : k + 1 + m = ss.length) (hq : PlanOf fs ss q) (hn : ∀ i, k ≤ i → beAt q i = bnone) (hb : b ∈ berthsK fs ss may k) (h : p ∈ rights fs ss may m (k + 1) (q.set k b)) : beAt p k = b := by
  have hk4 : k < q.length := by have := hall.ns; have := hq.ok.len; omega
  have := ((mem_rights hall m (k + 1) (q.set k b) p (by omega) (plan_set hq (by omega) (berth_ok hall (by omega) hb)) (fun i hi => by rw [beAt_set hk4, if_neg (by omega)]; exact hn i (by omega))).1 h).2.1 k (by omega)
  rw [this, beAt_set hk4, if_pos rfl]
theorem rights_nodup {fs : List Fl} {ss : List St} {may : May} (hall : HallOK fs ss) : ∀ (m k : Nat) (q : List Be), k + m = ss.length → PlanOf fs ss q → (∀ i, k ≤ i → beAt q i = bnone) → (rights fs ss may m k q).Nodup
  | 0, k, q, _, _, _ => by
    rw [rights]; split <;> simp
  | m + 1, k, q, hk, hq, hn => by
    have hk4 : k < q.length := by have := hall.ns; have := hq.ok.len; omega
    rw [rights, List.Nodup, List.pairwise_flatMap]
    refine ⟨fun b hb => ?_, ?_⟩
    · split
      · exact .nil
      · exact rights_nodup hall m (k + 1) _ (by omega) (plan_set hq (by omega) (berth_ok hall (by omega) hb)) (fun i hi => by rw [beAt_set hk4, if_neg (by omega)]; exact hn i (by omega))
    · refine (berthsK_nodup (fs := fs) (ss := ss) (may := may) (k := k)).imp_of_mem fun {a b} ha hb hab x hx y hy e => ?_
      subst e
      split at hx
      · cases hx
      · split at hy
        · cases hy
        · exact hab ((rights_at hall (by omega) hq hn ha hx).symm.trans (rights_at hall (by omega) hq hn hb hy))
theorem allF_nodup {fs : List Fl} {ss : List St} {may : May} (hall : HallOK fs ss) : (allF fs ss may).Nodup := by
  unfold allF
  split
  · exact rights_nodup hall _ _ _ (by simp) (pad_nil hall.nf.1) (fun i _ => beAt_nil i)
  · rename_i hs
    have hall1 : ∀ b, b ∈ berthsK fs ss may 0 → ∀ i, 1 ≤ i → beAt ((padB []).set 0 b) i = bnone := fun b _ i hi => by rw [beAt_set (by decide), if_neg (by omega)]; exact beAt_nil i
    rw [List.Nodup, List.pairwise_flatMap]
    refine ⟨fun b hb => ?_, ?_⟩
    · rw [rightsOf, List.length_singleton, pad_one]
      exact rights_nodup hall _ _ _ (by omega) (plan_set (pad_nil hall.nf.1) (by omega) (berth_ok hall (by omega) hb)) (hall1 b hb)
    · refine (berthsK_nodup (fs := fs) (ss := ss) (may := may) (k := 0)).imp_of_mem fun {a b} ha hb hab x hx y hy e => ?_
      subst e
      rw [rightsOf, List.length_singleton, pad_one] at hx hy
      exact hab ((rights_at hall (by omega) (pad_nil hall.nf.1) (fun i _ => beAt_nil i) ha hx).symm.trans (rights_at hall (by omega) (pad_nil hall.nf.1) (fun i _ => beAt_nil i) hb hy))

/-! The best -/
theorem filter_none {α : Type} {l : List α} {f : α → Bool} (h : ∀ q ∈ l, f q = false) : l.filter f = [] := List.filter_eq_nil_iff.2 fun q hq => by rw [h q hq]; simp
/-- What is kept while plans are looked at. -/
structure BInv (ss : List St) (l : List (List Be)) (s : (Int × List (List Be)) × List (List Be)) : Prop where
  met : s.2 = l
  top : l ≠ [] → (∃ q ∈ l, loavesF ss q = s.1.1) ∧ ∀ q ∈ l, loavesF ss q ≤ s.1.1
  out : s.1.2 = l.filter fun q => decide (loavesF ss q = s.1.1)
theorem BInv.step {ss : List St} {l : List (List Be)} {s : (Int × List (List Be)) × List (List Be)} {p : List Be} (H : BInv ss l s) (hp : p ∉ l) : BInv ss (l ++ [p]) (bstep ss s p) := by
  obtain ⟨⟨m, out⟩, met⟩ := s
  obtain ⟨h1, h2, h3⟩ := H
  simp only at h1 h2 h3
  subst h1
  obtain ⟨n, hn⟩ : ∃ n, loavesF ss p = n := ⟨_, rfl⟩
  simp only [bstep, if_neg hp, addM, hn]
  have hpf : ∀ c, [p].filter (fun q => decide (loavesF ss q = c)) = if n = c then [p] else [] := fun c => by
    rw [List.filter_cons]; simp [hn]
  rcases met with _ | ⟨q0, r0⟩
  · have h0 : out = [] := h3
    subst h0
    simp only [true_or, if_true, List.nil_append]
    refine ⟨rfl, fun _ => ⟨⟨p, by simp, hn⟩, fun q hq => ?_⟩, by simp only; rw [hpf, if_pos rfl]⟩
    have : q = p := by simpa using hq
    subst this; simp only; omega
  · obtain ⟨⟨q1, hq1, hq2⟩, htop⟩ := h2 (by simp)
    have hne : (q0 :: r0).filter (fun q => decide (loavesF ss q = m)) ≠ [] := fun e => by
      have := List.filter_eq_nil_iff.1 e q1 hq1
      simp [hq2] at this
    rw [← h3] at hne
    generalize q0 :: r0 = l at *
    by_cases hlt : m < n
    · have hc : out = [] ∨ m < n := .inr hlt
      simp only [if_pos hc, if_true, List.nil_append]
      refine ⟨rfl, fun _ => ⟨⟨p, by simp, hn⟩, fun q hq => ?_⟩, ?_⟩
      · rcases List.mem_append.1 hq with hq | hq
        · have := htop q hq; simp only; omega
        · have : q = p := by simpa using hq
          subst this; simp only; omega
      · simp only
        rw [List.filter_append, hpf, if_pos rfl, filter_none fun q hq => ?_]
        · rfl
        · have := htop q hq
          exact decide_eq_false (by omega)
    · have hc : ¬ (out = [] ∨ m < n) := not_or.2 ⟨hne, hlt⟩
      simp only [if_neg hc]
      by_cases he : n = m
      · rw [if_pos he]
        refine ⟨rfl, fun _ => ⟨⟨p, by simp, hn.trans he⟩, fun q hq => ?_⟩, ?_⟩
        · rcases List.mem_append.1 hq with hq | hq
          · exact htop q hq
          · have : q = p := by simpa using hq
            subst this; simp only; omega
        · simp only
          rw [List.filter_append, hpf, if_pos he, h3]
      · rw [if_neg he]
        refine ⟨rfl, fun _ => ⟨⟨q1, by simp [hq1], hq2⟩, fun q hq => ?_⟩, ?_⟩
        · rcases List.mem_append.1 hq with hq | hq
          · exact htop q hq
          · have : q = p := by simpa using hq
            subst this; simp only; omega
        · simp only
          rw [List.filter_append, hpf, if_neg he, List.append_nil, h3]
theorem BInv.run {ss : List St} : ∀ (r l : List (List Be)) (s : (Int × List (List Be)) × List (List Be)), BInv ss l s → (l ++ r).Nodup → BInv ss (l ++ r) (r.foldl (bstep ss) s)
  | [], l, s, h, _ => by rw [List.append_nil]; exact h
  | p :: r, l, s, h, hnd => by
    rw [List.foldl_cons, show l ++ p :: r = (l ++ [p]) ++ r by simp]
    refine BInv.run r (l ++ [p]) _ (h.step fun hm => ?_) (by simpa using hnd)
    exact (List.nodup_append.1 hnd).2.2 p hm p (by simp) rfl
/-- ████ THE BEST PLANS: of the right ones those with the most loaves, in order. -/
theorem best_spec {fs : List Fl} {ss : List St} (hall : HallOK fs ss) : (∃ q ∈ allF fs ss freeM, loavesF ss q = (bestF fs ss).1) ∧ (∀ q ∈ allF fs ss freeM, loavesF ss q ≤ (bestF fs ss).1) ∧ (bestF fs ss).2 = (allF fs ss freeM).filter fun q => decide (loavesF ss q = (bestF fs ss).1) := by
  have h := BInv.run (ss := ss) (allF fs ss freeM) [] ((0, []), []) ⟨rfl, fun h => absurd rfl h, rfl⟩ (allF_nodup hall)
  rw [List.nil_append] at h
  have hne : allF fs ss freeM ≠ [] := fun e => by have := allF_p0 hall; rw [e] at this; cases this
  exact ⟨(h.top hne).1, (h.top hne).2, h.out⟩

/-! Loaves -/
/-! Whether all can be set -/
theorem some_iff {fs : List Fl} {ss : List St} {may : May} (hall : HallOK fs ss) : someR fs ss may = true ↔ ∃ p, Valid fs ss may p ∧ inspF fs ss p = none := by
  have : someR fs ss may = true ↔ ∃ p, p ∈ rightsOf fs ss may [] := by
    simp only [someR, Bool.not_eq_true', List.isEmpty_eq_false_iff_exists_mem]
  rw [this]
  exact exists_congr fun p => mem_rightsOf hall
end Go.Mus

/- The first strikes of a plant alone; which strike is late. Conditions: none. -/
namespace Go.Mus
end Go.Mus

/- A plant without its last strike. Conditions: none; over the given program. -/
namespace Go.Mus
set_option maxRecDepth 100000
set_option maxHeartbeats 4000000
end Go.Mus

/- The strike that is late, and the best plan's length. Conditions: none. -/
namespace Go.Mus
end Go.Mus

/- Whether all strikes of a plant are set in its best plan; the strike that is late, asked of the best plans. Conditions: none; over the given program. -/
namespace Go.Mus
set_option maxRecDepth 100000
set_option maxHeartbeats 4000000
end Go.Mus

/- Strikes that wait longer; with which patience all can be set. Conditions: none; over the given program. -/
namespace Go.Mus
set_option maxRecDepth 100000
set_option maxHeartbeats 4000000
theorem Ops.freezeOs {x : Cx} {ops : Array Oper} {td : List Nat} {Q : Post} {ρ : Env} {ds : List Deferred} {A F : Frag} {α : Type} {row : α → List Value} {w : Nat} [Rw row w] {E : TypeId} {v : Value} {l : List α} (hs : Os E row v l A)
    (H : ∀ h', Ext x.h h' → Sl h' row v l → Zs h' v → Ops { x with h := h' } ops td Q ρ ds F) : Ops x ops td Q ρ ds (A ++ F) := by
  rcases hs with ⟨rfl, rfl, hsh⟩ | ⟨β, cc, cap, J, rfl, rfl, h1, h2, h3, hsh⟩
  · exact Ops.sb (Sb.left .refl hsh) (H x.h ⟨fun _ _ q => q, fun _ q => q⟩ .nil (fun b off n cap e => by cases e))
  · refine Ops.freeze (b := β) rfl fun h' hE hb hz => ?_
    refine Ops.sb (F' := F) (Sb.left .refl hsh) (H h' hE (.mk hb rfl h3) (fun b off n cap e => by cases e; exact hz))
end Go.Mus

/- A floor with other places; how many it needs. Conditions: none; over the given program. -/
namespace Go.Mus
set_option maxRecDepth 100000
set_option maxHeartbeats 4000000
/-- A floor's cells. -/
theorem Part.setR {α : Type} {row : α → List Value} {w : Nat} [Rw row w] {c : Array Value} {l : List α} {j : Nat} {p : α} (q : α) (k : Nat) (x : Value) (hk : k < w) (h : Part c 0 (flat row l)) (hj : l[j]? = some p) (hq : row q = (row p).set k x) : Part (c.setIfInBounds (j * w + k) x) 0 (flat row (l.set j q)) := by
  obtain ⟨pre, post, h1, h2⟩ := h
  have : pre = [] := List.length_eq_zero_iff.1 h2
  subst this
  refine ⟨[], post, ?_, rfl⟩
  have hlt : j < l.length := lt_of_get hj
  have hlen : j * w + k < (flat row l).length := by
    rw [flat_len]
    have : (j + 1) * w ≤ l.length * w := Nat.mul_le_mul_right _ hlt
    rw [Nat.succ_mul] at this; omega
  simp only [Array.toList_setIfInBounds, h1, List.nil_append]
  rw [List.set_append_left _ _ hlen]
  congr 1
  clear h1 h2 hlen
  induction l generalizing j with
  | nil => simp at hj
  | cons a l ih =>
    cases j with
    | zero =>
      simp only [List.getElem?_cons_zero, Option.some.injEq] at hj
      subst hj
      simp only [flat_cons, List.set_cons_zero, Nat.zero_mul, Nat.zero_add]
      rw [List.set_append_left _ _ (by rw [Rw.len]; exact hk), hq]
    | succ j =>
      have := ih (j := j) (by simpa using hj) (by simpa using hlt)
      simp only [List.set_cons_succ, flat_cons]
      rw [← this, List.set_append_right _ _ (by rw [Rw.len, Nat.succ_mul]; omega)]
      congr 2
      rw [Rw.len, Nat.succ_mul]; omega

/-! Places -/
end Go.Mus

/- How many places a floor needs. Conditions: none; over the given program. -/
namespace Go.Mus
set_option maxRecDepth 100000
set_option maxHeartbeats 4000000
theorem flAt_some {fs : List Fl} {f : Int} (h0 : 0 ≤ f) (h1 : f < fs.length) : fs[f.toNat]? = some (flAt fs f) := by
  obtain ⟨x, hx, -⟩ := has (show f.toNat < fs.length by omega)
  simp [flAt, List.getD, hx]
end Go.Mus

/- What makes plans right more easily, and so the loaves no fewer. Conditions: none. -/
namespace Go.Mus
/-- Where each right plan has one that is as good, the best are as good. -/
theorem best_le {fs fs' : List Fl} {ss ss' : List St} (hall : HallOK fs ss) (hall' : HallOK fs' ss') (H : ∀ p, Valid fs ss freeM p → inspF fs ss p = none → ∃ p', Valid fs' ss' freeM p' ∧ inspF fs' ss' p' = none ∧ loavesF ss p ≤ loavesF ss' p') : (bestF fs ss).1 ≤ (bestF fs' ss').1 := by
  obtain ⟨⟨q, hq, hql⟩, -, -⟩ := best_spec hall
  obtain ⟨-, htop, -⟩ := best_spec hall'
  obtain ⟨hv, hi⟩ := (mem_allF hall).1 hq
  obtain ⟨p', h1, h2, h3⟩ := H q hv hi
  have := htop p' ((mem_allF hall').2 ⟨h1, h2⟩)
  omega
/-! Without a strike -/
end Go.Mus

/- How much slower a floor may be. Conditions: none; over the given program. -/
namespace Go.Mus
set_option maxRecDepth 100000
set_option maxHeartbeats 4000000
/-! Turning a list round -/
end Go.Mus

/- How much slower a floor may be. Conditions: none; over the given program. -/
namespace Go.Mus
set_option maxRecDepth 100000
set_option maxHeartbeats 4000000
end Go.Mus

/- How much slower a floor may be, and that it is so. Conditions: none; over the given program. -/
namespace Go.Mus
set_option maxRecDepth 100000
set_option maxHeartbeats 4000000
theorem mem_numsN {lo a : Int} : ∀ {m : Nat}, a ∈ numsN lo m ↔ lo ≤ a ∧ a < lo + m
  | 0 => by
    constructor
    · intro h; simp [numsN] at h
    · intro h; omega
  | m + 1 => by
    rw [numsN, List.mem_append, mem_numsN]
    simp; omega
end Go.Mus

/- Whether a strike is in the best plans. Conditions: none; over the given program. -/
namespace Go.Mus
set_option maxRecDepth 100000
set_option maxHeartbeats 4000000
end Go.Mus

/- Whether two plants have the same answers. Conditions: none; over the given program. -/
namespace Go.Mus
set_option maxRecDepth 100000
set_option maxHeartbeats 4000000
end Go.Mus

/- Plants whose plans answer to each other; floors with other numbers. Conditions: none. -/
namespace Go.Mus
theorem perm_of_mem {α : Type} [DecidableEq α] {l l' : List α} (h : l.Nodup) (h' : l'.Nodup) (hm : ∀ a, a ∈ l ↔ a ∈ l') : l.Perm l' := by
  rw [List.perm_iff_count]
  intro a
  by_cases ha : a ∈ l
  · have h1 := List.count_pos_iff.2 ha
    have h2 := List.count_pos_iff.2 ((hm a).1 ha)
    have h3 := List.nodup_iff_count.1 h a
    have h4 := List.nodup_iff_count.1 h' a
    omega
  · rw [List.count_eq_zero.2 ha, List.count_eq_zero.2 fun h => ha ((hm a).2 h)]

theorem valid_free {fs : List Fl} {ss : List St} {may : May} {p : List Be} (h : Valid fs ss may p) : Valid fs ss freeM p := by
  refine ⟨h.len, fun i hi => ?_, h.out⟩
  have := h.at_ i hi
  rw [mem_berths] at this ⊢
  rcases this with ⟨_, h1⟩ | ⟨_, h1⟩
  · exact .inl ⟨rfl, h1⟩
  · exact .inr ⟨rfl, h1⟩
/-- Each right plan of the one answers to one of the other. -/
structure Sym (fs fs' : List Fl) (ss ss' : List St) (σ τ : List Be → List Be) : Prop where
  hall : HallOK fs ss
  hall' : HallOK fs' ss'
  len : ss'.length = ss.length
  val : ∀ may p, Valid fs ss may p → Valid fs' ss' may (σ p)
  val' : ∀ may p, Valid fs' ss' may p → Valid fs ss may (τ p)
  rgt : ∀ p, Valid fs ss freeM p → inspF fs ss p = none → inspF fs' ss' (σ p) = none
  rgt' : ∀ p, Valid fs' ss' freeM p → inspF fs' ss' p = none → inspF fs ss (τ p) = none
  inv : ∀ p, Valid fs ss freeM p → τ (σ p) = p
  inv' : ∀ p, Valid fs' ss' freeM p → σ (τ p) = p
  lo : ∀ p, Valid fs ss freeM p → loavesF ss' (σ p) = loavesF ss p
  on : ∀ p i, Valid fs ss freeM p → (0 ≤ (beAt (σ p) i).fl ↔ 0 ≤ (beAt p i).fl)
section
variable {fs fs' : List Fl} {ss ss' : List St} {σ τ : List Be → List Be} (Y : Sym fs fs' ss ss' σ τ)
include Y
theorem Sym.lo' {p : List Be} (h : Valid fs' ss' freeM p) : loavesF ss (τ p) = loavesF ss' p := by
  rw [← Y.lo _ (Y.val' _ _ h), Y.inv' p h]
theorem Sym.top : (bestF fs' ss').1 = (bestF fs ss).1 := by
  have h1 := best_le Y.hall Y.hall' fun p hv hi => ⟨σ p, Y.val _ _ hv, Y.rgt p hv hi, by rw [Y.lo p hv]; exact Int.le_refl _⟩
  have h2 := best_le Y.hall' Y.hall fun p hv hi => ⟨τ p, Y.val' _ _ hv, Y.rgt' p hv hi, by rw [Y.lo' hv]; exact Int.le_refl _⟩
  omega
theorem Sym.all : (allF fs' ss' freeM).Perm ((allF fs ss freeM).map σ) := by
  refine perm_of_mem (allF_nodup Y.hall') ?_ fun p => ?_
  · rw [List.Nodup, List.pairwise_map]
    refine (allF_nodup Y.hall).imp_of_mem fun {a b} ha hb hab e => hab ?_
    rw [← Y.inv a ((mem_allF Y.hall).1 ha).1, e, Y.inv b ((mem_allF Y.hall).1 hb).1]
  · rw [mem_allF Y.hall', List.mem_map]
    constructor
    · rintro ⟨h1, h2⟩
      exact ⟨τ p, (mem_allF Y.hall).2 ⟨Y.val' _ _ h1, Y.rgt' p h1 h2⟩, Y.inv' p h1⟩
    · rintro ⟨q, hq, rfl⟩
      obtain ⟨h1, h2⟩ := (mem_allF Y.hall).1 hq
      exact ⟨Y.val _ _ h1, Y.rgt q h1 h2⟩
theorem Sym.best : (bestF fs' ss').2.Perm ((bestF fs ss).2.map σ) := by
  rw [(best_spec Y.hall').2.2, (best_spec Y.hall).2.2, Y.top]
  refine (Y.all.filter _).trans (.of_eq ?_)
  rw [List.filter_map]
  congr 1
  refine List.filter_congr fun p hp => ?_
  show decide (loavesF ss' (σ p) = _) = _
  rw [Y.lo p ((mem_allF Y.hall).1 hp).1]
theorem Sym.count : (bestF fs' ss').2.length = (bestF fs ss).2.length := by rw [Y.best.length_eq, List.length_map]
theorem Sym.someR (may : May) : someR fs' ss' may = Go.Mus.someR fs ss may := by
  refine Bool.eq_iff_iff.2 ?_
  rw [some_iff Y.hall', some_iff Y.hall]
  constructor
  · rintro ⟨p, h1, h2⟩; exact ⟨τ p, Y.val' _ _ h1, Y.rgt' p (valid_free h1) h2⟩
  · rintro ⟨p, h1, h2⟩; exact ⟨σ p, Y.val _ _ h1, Y.rgt p (valid_free h1) h2⟩
theorem Sym.late : lateF fs' ss' = lateF fs ss := by
  have key : ∀ m n, lateFrom fs' ss' m n = lateFrom fs ss m n := by
    intro m
    induction m with
    | zero => intro n; rfl
    | succ m ih => intro n; rw [lateFrom, lateFrom, Y.someR, ih]
  rw [lateF, lateF, Y.len, key]
end
/-! Floors with other numbers -/
end Go.Mus

/- Floors with other numbers. Conditions: none; over the given program. -/
namespace Go.Mus
set_option maxRecDepth 100000
set_option maxHeartbeats 4000000
end Go.Mus

/- Plans out of a hat; copies of plans. Conditions: none; over the given program. -/
namespace Go.Mus
set_option maxRecDepth 100000
set_option maxHeartbeats 4000000
theorem DupBerths_fn (main : Side) (h : Hp) (l : List Be) (v : Value) (hl : Sl h Be.row v l) (hn : l.length ≤ 1000) : Fnc prog main n_kit_DupBerths #[v] h [] (fun v A => ∃ S, Os t_Berth Be.row v l S ∧ Sb S A) := by
  obtain ⟨a, cap, rfl⟩ := hl.isSl
  refine Fnc.of_body at_kit_DupBerths rfl (by show 1 ≤ 6; decide) [(0, .slice a l.length cap)] ⟨rfl, trivial⟩ ?_
  refine W.seq <| W.region rfl <| qs rfl rfl rfl <| Ops.nil <| thn_n <| W.seq <| W.region rfl ?_
  refine Ops.bsl0 (fun β3 => ?_)
  refine qm rfl rfl rfl ?_
  have hO : Os t_Berth Be.row (.slice (some ⟨β3, 0, none⟩) 0 0) ([] : List Be) [(β3, .cells #[] t_Berth (0, 0))] := .inr ⟨β3, #[], 0, [], rfl, rfl, rfl, Nat.le_refl _, Part.all [], .nil⟩
  refine oe rfl wn rfl rfl (e_append (row := Be.row) (l := []) (l' := l) rfl rfl rfl hO .all (fun h2 hE _ => hl.ext hE) (by simp; omega) (by decide) rfl (fun v' S' hS' => ?_))
  rw [List.nil_append] at hS'
  refine qs rfl rfl rfl <| Ops.nil <| thn_n <| W.ret ?_
  exact lvt (vs := [v']) ⟨S', hS', .refl⟩

theorem ckBerths_app {nf : Int} : ∀ {ss : List St} {l : List Be} {s : St} {b : Be}, ckBerths nf (ss.take l.length) l = 0 → ss[l.length]? = some s → ckBerth nf s b = 0 → ckBerths nf (ss.take (l.length + 1)) (l ++ [b]) = 0
  | [], l, s, b, _, h, _ => by simp at h
  | t :: ss, [], s, b, _, h, hb => by
    simp at h; subst h
    simp [ckBerths, hb]
  | t :: ss, c :: l, s, b, h, hs, hb => by
    simp only [List.length_cons, List.take_succ_cons, List.cons_append, ckBerths] at h ⊢
    split at h
    · rename_i h1
      rw [if_pos h1]
      exact ckBerths_app h (by simpa using hs) hb
    · rename_i h1; exact absurd h h1
theorem ckBerth_ok {nf : Int} {s : St} {b : Be} (hnf : 1 ≤ nf) (h : b = ⟨-1, 0⟩ ∨ 0 ≤ b.fl ∧ b.fl < nf ∧ s.day ≤ b.day ∧ b.day ≤ s.day + s.wa) : ckBerth nf s b = 0 := by
  unfold ckBerth
  rcases h with rfl | h
  · rw [if_neg (by unfold outs; simp only; omega), if_neg (by simp), if_neg (by simp only; omega)]
  · rw [if_neg (by unfold outs; omega), if_neg (by omega), if_neg (by unfold outs; omega)]

theorem BerthsOf_fn (main : Side) (h : Hp) (nums : List Int) (lv : Value) (b k : Nat) (s : Int) (fs : List Fl) (ss : List St) (vf vs : Value) (hl : Sl h rowI lv nums) (hf : Sl h Fl.row vf fs) (hs : Sl h St.row vs ss) (hck : ckPlant fs ss = 0) (hk : k < 2000000000) : Fnc prog main n_kit_BerthsOf #[.pointer (some ⟨b, 0, none⟩), .agg #[vf, vs]] h [(b, hatO lv k s)]
    (fun v A => ∃ l S k' s', Os t_Berth Be.row v l S ∧ ckPlan fs ss l = 0 ∧ k' ≤ k + 100 ∧ Sb ((b, hatO lv k' s') :: S) A) := by
  have hall := hall_ck hck
  have hnf := hall.nf
  have hns := hall.ns
  obtain ⟨a, cap, rfl⟩ := hf.isSl
  obtain ⟨a', cap', rfl⟩ := hs.isSl
  refine Fnc.of_body at_kit_BerthsOf rfl (by show 2 ≤ 46; decide) [(0, .pointer (some ⟨b, 0, none⟩)), (1, .agg #[.slice a fs.length cap, .slice a' ss.length cap'])] ⟨rfl, rfl, trivial⟩ ?_
  refine W.seq <| W.region rfl ?_
  refine Ops.box (cs := #[.slice a fs.length cap, .slice a' ss.length cap']) (fun β3 => ?_) rfl rfl rfl
  refine qs rfl rfl rfl <| Ops.nil <| thn_n <| W.seq <| W.region rfl <| qs rfl rfl rfl <| Ops.nil <| thn_n <| W.seq <| W.seq ?_
  refine W.region rfl <| qs rfl rfl rfl <| Ops.nil <| thn_n <| W.block ?_
  refine W.loop3 (σ := Nat) (τ := List Be × Value × Frag) (υ := Nat × Int) (fun i t u => i ≤ ss.length ∧ t.1.length = i ∧ Os t_Berth Be.row t.2.1 t.1 t.2.2 ∧ ckBerths fs.length (ss.take i) t.1 = 0 ∧ u.1 ≤ k + 3 * i) (fun i t _ => [(6, I i), (5, t.2.1), (3, .pointer (some ⟨β3, 0, none⟩)), (0, .pointer (some ⟨b, 0, none⟩))])
    (fun _ t u => (β3, .cells #[.slice a fs.length cap, .slice a' ss.length cap'] t_Plant (0, 0)) :: (b, hatO lv u.1 u.2) :: t.2.2) (fun i _ _ => ss.length - i) 0 ([], .slice none 0 0, []) (k, s) ⟨Nat.zero_le _, rfl, .nil .nil, by simp [ckBerths], by omega⟩ ⟨rfl, rfl, rfl, rfl, trivial⟩ .refl ?_
  rintro i ⟨l, v, S⟩ ⟨k1, s1⟩ ⟨hi, hlen, hO, hcb, hk1⟩
  simp only at hlen hO hcb hk1 ⊢
  refine W.seq <| W.seq <| W.region rfl <| qm rfl rfl rfl ?_
  refine oq (y_fieldAddr rfl rfl) rfl wn rfl rfl ?_
  refine oq (yld rfl rfl) rfl wn rfl rfl ?_
  refine oq (y_len rfl rfl) rfl wn rfl rfl ?_
  refine oq (y_lss rfl rfl rfl) rfl wn rfl rfl ?_
  refine Ops.nil <| thn_n ?_
  refine W.condp rfl (fun c11 => ?_) (fun c11 => ?_)
  · have hi1 : i < ss.length := by omega
    obtain ⟨t, ht, -⟩ := has hi1
    have hto := hall.st t (List.mem_of_getElem? ht)
    have hto2 := strike_ok hck ht
    obtain ⟨bs, off, c, E, fz, rfl, hb, hx1, hy1, hz1⟩ := hs.at ht
    have hc0 : c[off + i * 3 + 0]? = some (I t.day) := hz1 0 (by decide)
    have hc2 : c[off + i * 3 + 2]? = some (I t.wa) := hz1 2 (by decide)
    clear hx1 hz1
    obtain ⟨va, vc, rfl⟩ := hO.isSl
    refine W.skip <| thn_n <| W.seq <| W.block <| W.seq <| W.seq <| W.region rfl <| qm rfl rfl rfl ?_
    refine cg (A := [(b, _)]) (.tail .head) (fun h' hE hL => Seldom_fn _ h' nums lv b k1 s1 5 (hl.ext hE) (by omega) (by decide)) (fun v A' hv => ?_)
    obtain ⟨r, s2, rfl, hsb⟩ := hv
    refine Ops.sb (.cons (hsb.app .refl)) ?_
    refine Ops.nil <| thn_n ?_
    refine W.cond rfl (fun c15 => ?_) (fun c15 => ?_)
    · refine W.seq <| W.region rfl <| qm rfl rfl rfl ?_
      refine oq (y_build (cs := #[I (-1), I 0]) rfl rfl rfl) rfl wn rfl rfl ?_
      refine Ops.bsl (cs := #[I (-1), I 0]) (fun β18 => ?_) rfl (hf := by kernel_rfl)
      refine oe rfl wn rfl rfl (e_append (row := Be.row) (l' := [⟨-1, 0⟩]) rfl rfl rfl hO (.tail (.tail (.tail .all))) (fun h2 _ hl => Sl.mk (hl β18 _ (.head _)) rfl (Part.all (flat Be.row [⟨-1, 0⟩]))) (by simp; omega) (by decide) rfl (fun v' S' hO' => ?_))
      refine qs rfl rfl rfl <| Ops.nil <| thn_n <| W.exit <| thn_x <| blk_x <| thn_n <| W.region rfl <| qm rfl rfl rfl ?_
      first | refine oq (yadd rfl rfl rfl) rfl wn rfl rfl ?_ | refine oq (y_addw rfl rfl rfl) rfl wn rfl rfl ?_
      refine qs rfl rfl rfl <| Ops.nil <| thn_n ?_
      first
      | exact ⟨rfl, i + 1, (l ++ [⟨-1, 0⟩], v', S'), (k1 + 1, s2), ⟨by omega, by simp [hlen], hO', by subst hlen; exact ckBerths_app hcb ht (ckBerth_ok (by omega) (.inl rfl)), by simp only; omega⟩, by omega, ⟨rfl, rfl, rfl, rfl, trivial⟩, .skip rfl .refl⟩
      | exact ⟨rfl, i + 1, (l ++ [⟨f, t.day + w⟩], _, S'), (k1 + 3, s4), ⟨by omega, by simp [hlen], hO', by subst hlen; exact ckBerths_app hcb ht (ckBerth_ok (by omega) (.inr ⟨by simp only; omega, by simp only; omega, by simp only; omega, by simp only; omega⟩)), by simp only; omega⟩, by omega, ⟨rfl, rfl, rfl, rfl, trivial⟩, .skip rfl .refl⟩
    · refine W.skip <| thn_n ?_
      refine W.drawP1 (n := 26) rfl ?_
      refine aq (i := 0) (y_move rfl rfl) rfl an rfl rfl ?_
      refine aq (i := 1) (y_move rfl rfl) rfl an rfl rfl ?_
      refine aq (i := 2) (y_fieldAddr rfl rfl) rfl an rfl rfl ?_
      refine aq (i := 3) (yld rfl rfl) rfl an rfl rfl ?_
      refine aq (i := 4) (y_len rfl rfl) rfl an rfl rfl ?_
      first | refine aq (i := 5) (ysub rfl rfl rfl) rfl an rfl rfl ?_ | refine aq (i := 5) (y_subw rfl rfl rfl) rfl an rfl rfl ?_
      refine aq (i := 7) (y_fieldAddr rfl rfl) rfl an rfl rfl ?_
      refine aq (i := 8) (yld rfl rfl) rfl an rfl rfl ?_
      refine aq (i := 9) (y_move rfl rfl) rfl an rfl rfl ?_
      first | refine aq (i := 10) (yix rfl rfl rfl) rfl an rfl rfl ?_ | refine aq (i := 10) (yixI rfl rfl rfl) rfl an rfl rfl ?_
      refine aq (i := 11) (y_fieldAddr rfl rfl) rfl an rfl rfl ?_
      refine aq (i := 12) (yld rfl rfl) rfl an rfl rfl ?_
      refine aq (i := 13) (y_move rfl rfl) rfl an rfl rfl ?_
      refine aq (i := 14) (y_fieldAddr rfl rfl) rfl an rfl rfl ?_
      refine aq (i := 15) (yld rfl rfl) rfl an rfl rfl ?_
      refine aq (i := 16) (y_move rfl rfl) rfl an rfl rfl ?_
      first | refine aq (i := 17) (yix rfl rfl rfl) rfl an rfl rfl ?_ | refine aq (i := 17) (yixI rfl rfl rfl) rfl an rfl rfl ?_
      refine aq (i := 18) (y_fieldAddr rfl rfl) rfl an rfl rfl ?_
      refine aq (i := 19) (yld rfl rfl) rfl an rfl rfl ?_
      refine ae (i := 6) rfl an rfl rfl (e_call (A := [(b, _)]) (args := [_, _]) rfl rfl (.tail .head) (fun h' hE hL => To_fn _ h' nums lv b (k1 + 1) s2 ((fs.length : Int) - 1) (hl.ext hE) (by omega) (by omega)) (fun v A' hv => ?_))
      refine ⟨.inr (Keeps.one (.head _) Keeps.nil), ?_⟩
      obtain ⟨f, s3, rfl, hf0, hsb3⟩ := hv
      refine Any.sb (.cons (hsb3.app .refl)) ?_
      refine ae (i := 20) rfl an rfl rfl (e_call (A := [(b, _)]) (args := [_, _]) rfl rfl (.tail .head) (fun h' hE hL => To_fn _ h' nums lv b (k1 + 2) s3 t.wa (hl.ext hE) (by omega) (by omega)) (fun v A' hv => ?_))
      refine ⟨.inr (Keeps.one (.head _) Keeps.nil), ?_⟩
      obtain ⟨w, s4, rfl, hw0, hsb4⟩ := hv
      refine Any.sb (.cons (hsb4.app .refl)) ?_
      refine aq (i := 21) (yadd rfl rfl rfl) rfl an rfl rfl ?_
      refine aq (i := 22) (y_build (cs := #[I f, I (t.day + w)]) rfl rfl rfl) rfl an rfl rfl ?_
      refine abl (i := 23) (cs := #[I f, I (t.day + w)]) (fun β43 => ?_) rfl
      refine ae (i := 24) rfl an rfl rfl (e_append (row := Be.row) (l' := [⟨f, t.day + w⟩]) rfl rfl rfl hO (.tail (.tail (.tail .all))) (fun h2 _ hl => Sl.mk (hl β43 _ (.head _)) rfl (Part.all (flat Be.row [⟨f, t.day + w⟩]))) (by simp; omega) (by decide) rfl (fun v' S' hO' => ?_))
      refine ⟨.inr (Keeps.one (.tail _ (.head _)) Keeps.nil), ?_⟩
      obtain ⟨asl, csl, rfl⟩ := hO'.isSl
      refine aq (i := 25) (y_assign rfl rfl) rfl an rfl rfl ?_
      refine az ?_
      refine blk_n <| thn_n <| W.region rfl <| qm rfl rfl rfl ?_
      first | refine oq (yadd rfl rfl rfl) rfl wn rfl rfl ?_ | refine oq (y_addw rfl rfl rfl) rfl wn rfl rfl ?_
      refine qs rfl rfl rfl <| Ops.nil <| thn_n ?_
      first
      | exact ⟨rfl, i + 1, (l ++ [⟨-1, 0⟩], v', S'), (k1 + 1, s2), ⟨by omega, by simp [hlen], hO', by subst hlen; exact ckBerths_app hcb ht (ckBerth_ok (by omega) (.inl rfl)), by simp only; omega⟩, by omega, ⟨rfl, rfl, rfl, rfl, trivial⟩, .skip rfl .refl⟩
      | exact ⟨rfl, i + 1, (l ++ [⟨f, t.day + w⟩], _, S'), (k1 + 3, s4), ⟨by omega, by simp [hlen], hO', by subst hlen; exact ckBerths_app hcb ht (ckBerth_ok (by omega) (.inr ⟨by simp only; omega, by simp only; omega, by simp only; omega, by simp only; omega⟩)), by simp only; omega⟩, by omega, ⟨rfl, rfl, rfl, rfl, trivial⟩, .skip rfl .refl⟩
  · have hil : i = ss.length := by omega
    refine W.exit <| thn_x <| thn_x <| blk_x <| thn_n <| W.seq <| W.region rfl <| qm rfl rfl rfl <| qs rfl rfl rfl <| Ops.nil ?_
    refine thn_n <| W.ret ?_
    refine lvt (vs := [_]) ⟨l, S, k1, s1, hO, ?_, by omega, .skip rfl .refl⟩
    subst hil
    rw [List.take_length] at hcb
    unfold ckPlan
    rw [if_neg (by simp [hck]), if_neg (by omega), if_neg (by omega)]
    exact hcb
end Go.Mus

/- Small plants and plans out of a hat; plans a day later. Conditions: none; over the given program. -/
namespace Go.Mus
set_option maxRecDepth 100000
set_option maxHeartbeats 4000000
end Go.Mus

/- All strikes a day later. Conditions: none. -/
namespace Go.Mus
theorem fm_congr {α β : Type} {f g : α → List β} : ∀ {l : List α}, (∀ a ∈ l, f a = g a) → l.flatMap f = l.flatMap g
  | [], _ => rfl
  | a :: l, h => by
    rw [List.flatMap_cons, List.flatMap_cons, h a (List.mem_cons_self ..), fm_congr fun b hb => h b (List.mem_cons_of_mem _ hb)]
section
variable {fs : List Fl} {ss : List St}
/-! The searches -/
end
end Go.Mus

/- All strikes a day later: the same answers, a day later. Conditions: none. -/
namespace Go.Mus
section
variable {fs : List Fl} {ss : List St}
variable (hck : ckPlant fs ss = 0) (h11 : ∀ s ∈ ss, s.day ≤ 11)
include hck h11
end
/-! A plan a day later -/
end Go.Mus

/- Operations that come up in any order and only add to what is owned. Conditions: none; over any program. -/
namespace Go.Mus
/-- What is said of one that adds: its number, its slot, what it bears with what it adds. -/
abbrev Spc := Nat × Nat × (Value → Frag → Prop)
def waits (ops : Array Oper) : Nat → Nat → Nat → Bool
  | 0, _, _ => false
  | n + 1, k, b => match ops[k]? with | some o => o.after.any fun e => bindsTo e && (Nat.beq e.on b || waits ops n e.on b) | none => false
def bagT (ops : Array Oper) (listed : Nat) (B : List Nat) : Bool :=
  closedT ops listed && (List.range ops.size).all (fun k => (match ops[k]? with | some o => o.after.all fun e => !bindsTo e || Nat.blt e.on k | none => true) && (listed.testBit k || B.any (Nat.beq k) || B.all fun b => waits ops 6 k b)) && B.all (fun b => Nat.blt b ops.size && !listed.testBit b)

theorem waits_spec {ops : Array Oper} {listed : Nat} (hc : Closed ops listed) : ∀ (n k b : Nat) (o : Oper), ops[k]? = some o → (∀ e ∈ o.after, bindsTo e = true → listed.testBit e.on = true) → waits ops n k b = true → listed.testBit b = true
  | 0, k, b, o, _, _, h => by simp [waits] at h
  | n + 1, k, b, o, ho, hall, h => by
    simp only [waits, ho, Array.any_eq_true, Bool.and_eq_true, Bool.or_eq_true] at h
    obtain ⟨i, hi, h1, h2⟩ := h
    have h3 := hall _ (Array.getElem_mem hi) h1
    rcases h2 with h2 | h2
    · rw [← Nat.eq_of_beq_eq_true h2]; exact h3
    · cases ho' : ops[o.after[i].on]? with
      | none => cases n with
        | zero => simp [waits] at h2
        | succ n => simp [waits, ho'] at h2
      | some o' => exact waits_spec hc n _ b o' ho' (fun e he hb => hc _ o' ho' h3 e he hb) h2

structure BagI (ops : Array Oper) (listed : Nat) (B : List Nat) : Prop where
  cl : Closed ops listed
  low : ∀ k o, ops[k]? = some o → ∀ e ∈ o.after, bindsTo e = true → e.on < k
  or : ∀ k, k < ops.size → listed.testBit k = false → k ∈ B ∨ ∀ b ∈ B, waits ops 6 k b = true
  un : ∀ b ∈ B, b < ops.size ∧ listed.testBit b = false
  nd : B.Nodup

theorem bagT_spec {ops : Array Oper} {listed : Nat} {B : List Nat} (h : bagT ops listed B = true) (hn : B.Nodup) : BagI ops listed B := by
  simp only [bagT, Bool.and_eq_true, List.all_eq_true, List.mem_range, Bool.or_eq_true, Bool.not_eq_true'] at h
  obtain ⟨⟨h1, h2⟩, h3⟩ := h
  refine ⟨closedT_spec h1, fun k o hk e he hb => ?_, fun k hk hl => ?_, fun b hb => ⟨?_, (h3 b hb).2⟩, hn⟩
  · have hlt : k < ops.size := by
      rcases Nat.lt_or_ge k ops.size with h' | h'
      · exact h'
      · rw [Array.getElem?_eq_none h'] at hk; cases hk
    have := (h2 k hlt).1
    simp only [hk, Array.all_eq_true_iff_forall_mem, Bool.or_eq_true, Bool.not_eq_true'] at this
    rcases this e he with h' | h'
    · rw [hb] at h'; cases h'
    · exact Nat.le_of_ble_eq_true h'
  · rcases (h2 k hk).2 with (h' | h') | h'
    · rw [hl] at h'; cases h'
    · obtain ⟨b, hb, e⟩ := List.any_eq_true.1 h'
      rw [Nat.eq_of_beq_eq_true e]; exact .inl hb
    · exact .inr fun b hb => h' b hb
  · exact Nat.le_of_ble_eq_true (h3 b hb).1

theorem BagI.some {ops : Array Oper} {listed : Nat} {B : List Nat} (h : BagI ops listed B) {b : Nat} (hb : b ∈ B) : rdys ops listed ≠ [] := by
  have key : ∀ (n k : Nat), k < n → k < ops.size → listed.testBit k = false → ∃ i, rdy ops listed i = true := by
    intro n
    induction n with
    | zero => intro k hk; omega
    | succ n ih =>
      intro k hk hlt hl
      by_cases hr : rdy ops listed k = true
      · exact ⟨k, hr⟩
      · simp only [rdy, Array.getElem?_eq_getElem hlt, hl, Bool.not_false, Bool.true_and, Array.all_eq_true_iff_forall_mem, Bool.or_eq_true, Bool.not_eq_true'] at hr
        have : ∃ e ∈ (ops[k]).after, bindsTo e = true ∧ listed.testBit e.on = false := by
          refine Classical.byContradiction fun hn => hr fun e he => ?_
          cases hbe : bindsTo e with
          | false => exact .inl rfl
          | true =>
            cases ht : listed.testBit e.on with
            | true => exact .inr rfl
            | false => exact absurd ⟨e, he, hbe, ht⟩ hn
        obtain ⟨e, he, h1, h2⟩ := this
        have := h.low k _ (Array.getElem?_eq_getElem hlt) e he h1
        exact ih e.on (by omega) (by omega) h2
  obtain ⟨i, hi⟩ := key (b + 1) b (by omega) (h.un b hb).1 (h.un b hb).2
  intro e
  have := mem_rdys.2 hi
  rw [e] at this
  cases this

theorem BagI.inB {ops : Array Oper} {listed : Nat} {B : List Nat} (h : BagI ops listed B) {b j : Nat} (hb : b ∈ B) (hj : rdy ops listed j = true) : j ∈ B := by
  obtain ⟨oj, hoj, hun, hall⟩ := rdy_op hj
  rcases h.or j (rdy_lt hj) hun with h' | h'
  · exact h'
  · have := waits_spec h.cl 6 j b oj hoj hall (h' b hb)
    rw [(h.un b hb).2] at this
    cases this

theorem BagI.step {ops : Array Oper} {listed j : Nat} {B1 B2 : List Nat} (h : BagI ops listed (B1 ++ j :: B2)) (hj : rdy ops listed j = true) : BagI ops (listed ||| 2 ^ j) (B1 ++ B2) := by
  have hnd : j ∉ B1 ++ B2 := by
    have := (List.perm_middle (a := j) (l₁ := B1) (l₂ := B2)).nodup_iff.1 h.nd
    exact (List.nodup_cons.1 this).1
  refine ⟨h.cl.step hj, h.low, fun k hk hl => ?_, fun b hb => ?_, ?_⟩
  · rw [testBit_or, Bool.or_eq_false_iff] at hl
    have hne : j ≠ k := by simpa using hl.2
    rcases h.or k hk hl.1 with h' | h'
    · left
      rcases List.mem_append.1 h' with h' | h'
      · exact List.mem_append_left _ h'
      · rcases List.mem_cons.1 h' with h' | h'
        · exact absurd h'.symm hne
        · exact List.mem_append_right _ h'
    · right
      intro b hb
      refine h' b ?_
      rcases List.mem_append.1 hb with hb | hb
      · exact List.mem_append_left _ hb
      · exact List.mem_append_right _ (List.mem_cons_of_mem _ hb)
  · have hb' : b ∈ B1 ++ j :: B2 := by
      rcases List.mem_append.1 hb with hb | hb
      · exact List.mem_append_left _ hb
      · exact List.mem_append_right _ (List.mem_cons_of_mem _ hb)
    refine ⟨(h.un b hb').1, ?_⟩
    rw [testBit_or, (h.un b hb').2, Bool.false_or, decide_eq_false_iff_not]
    rintro rfl
    exact hnd hb
  · have := (List.perm_middle (a := j) (l₁ := B1) (l₂ := B2)).nodup_iff.1 h.nd
    exact (List.nodup_cons.1 this).2

/-- All of them have come up, with whatever they bear. -/
def bagK : List Spc → (Ev → Frag → Prop) → Ev → Frag → Prop
  | [], K, ε, F => K ε F
  | (_, d, P) :: r, K, ε, F => ∀ v A, P v A → bagK r K (upd ε (some d) v) (A ++ F)
theorem bagK_perm {K : Ev → Frag → Prop} (hK : ∀ ε F F', F'.Perm F → K ε F' → K ε F) : ∀ {B : List Spc} {ε : Ev} {F F' : Frag}, F'.Perm F → bagK B K ε F' → bagK B K ε F
  | [], ε, F, F', p, h => hK ε F F' p h
  | (_, d, P) :: r, ε, F, F', p, h => fun v A hv => bagK_perm hK (p.append_left A) (h v A hv)
theorem bagK_pull {K : Ev → Frag → Prop} (hK : ∀ ε F F', F'.Perm F → K ε F' → K ε F) {j d : Nat} {P : Value → Frag → Prop} : ∀ {B1 B2 : List Spc} {ε : Ev} {F : Frag}, (∀ s ∈ B1, s.2.1 ≠ d) → bagK (B1 ++ (j, d, P) :: B2) K ε F → ∀ v A, P v A → bagK (B1 ++ B2) K (upd ε (some d) v) (A ++ F)
  | [], B2, ε, F, _, h, v, A, hv => h v A hv
  | (i, d', P') :: B1, B2, ε, F, hn, h, v, A, hv => fun w C hw => by
    have hne : d' ≠ d := hn _ (List.mem_cons_self ..)
    have := bagK_pull hK (fun s hs => hn s (List.mem_cons_of_mem _ hs)) (h w C hw) v A hv
    rw [upd_comm hne] at this
    refine bagK_perm hK ?_ this
    rw [← List.append_assoc, ← List.append_assoc]
    exact List.perm_append_comm.append_right F

/-- One that adds. -/
def Adds (x : Cx) (ops : Array Oper) (ε : Ev) (s : Spc) : Prop :=
  ∃ o, ops[s.1]? = some o ∧ o.dst = some s.2.1 ∧ slotOK o.dst x.n = true ∧ (∀ c, o.op ≠ .defer c) ∧ o.guard = none ∧ ∀ e, Cons ε e → ∀ F, Run1 x o e F fun v F' => ∃ A F'', F''.Perm F' ∧ s.2.2 v A ∧ F'' = A ++ F

theorem Cons.back {ε : Ev} {d : Nat} {v : Value} {e : Operand → Value} (h : Cons (upd ε (some d) v) e) (hd : ε d = none) : Cons ε e := fun y u hy => h y u (by
  cases y with
  | tmp t =>
    simp only [evε, upd] at hy ⊢
    cases hb : Nat.beq t d with
    | true => rw [Nat.eq_of_beq_eq_true hb, hd] at hy; cases hy
    | false => exact hy
  | _ => exact hy)

theorem anyT_bag {x : Cx} {ops : Array Oper} {L : Frag} {K : Ev → Frag → Prop} (hK : ∀ ε F F', F'.Perm F → K ε F' → K ε F) {fin : Nat} {fuel : Nat} : ∀ (m : Nat) (B : List Spc) (listed : Nat) (ε : Ev) (F : Frag), B.length = m → BagI ops listed (B.map (·.1)) →
    (∀ s ∈ B, Adds x ops ε s) → (∀ s ∈ B, ε s.2.1 = none) → (B.map (·.2.1)).Nodup → (∀ k, fin.testBit k = (listed.testBit k || decide (k ∈ B.map (·.1)))) → Keeps L F →
    bagK B (anyT x ops (Keeps L) K fuel fin) ε F → anyT x ops (Keeps L) K (fuel + m) listed ε F := by
  intro m
  induction m with
  | zero =>
    intro B listed ε F hm hI hA hd hnd hfin hS H
    obtain rfl := List.length_eq_zero_iff.1 hm
    have : fin = listed := Nat.eq_of_testBit_eq fun k => by simpa using hfin k
    subst this
    exact H
  | succ m ih =>
    intro B listed ε F hm hI hA hd hnd hfin hS H
    obtain ⟨b, hb⟩ : ∃ b, b ∈ B.map (·.1) := by
      cases B with
      | nil => simp at hm
      | cons s r => exact ⟨s.1, by simp⟩
    refine ⟨fun h => absurd h (hI.some hb), fun i hi => ?_⟩
    obtain ⟨⟨i', d, P⟩, hs, rfl⟩ := List.mem_map.1 (hI.inB hb hi)
    obtain ⟨B1, B2, rfl⟩ := List.append_of_mem hs
    obtain ⟨o, h1, h2, h3, h4, h5, h6⟩ := hA _ hs
    simp only at h1 h2 h6 hi
    have hmap : (B1 ++ (i', d, P) :: B2).map (·.1) = B1.map (·.1) ++ i' :: B2.map (·.1) := by simp
    have hmap2 : (B1 ++ (i', d, P) :: B2).map (·.2.1) = B1.map (·.2.1) ++ d :: B2.map (·.2.1) := by simp
    rw [hmap] at hI
    rw [hmap2] at hnd
    have hnd2 := (List.perm_middle (a := d) (l₁ := B1.map (·.2.1)) (l₂ := B2.map (·.2.1))).nodup_iff.1 hnd
    have hdn : ∀ s ∈ B1 ++ B2, s.2.1 ≠ d := fun s hs' e => (List.nodup_cons.1 hnd2).1 (by rw [← List.map_append]; exact List.mem_map.2 ⟨s, hs', e⟩)
    have hsub : ∀ s ∈ B1 ++ B2, s ∈ B1 ++ (i', d, P) :: B2 := fun s hs' => by
      rcases List.mem_append.1 hs' with h' | h'
      · exact List.mem_append_left _ h'
      · exact List.mem_append_right _ (List.mem_cons_of_mem _ h')
    refine ⟨o, h1, h3, h4, .inl ⟨by unfold wantε; rw [h5], fun e he => ?_⟩⟩
    have hKp : ∀ ε F F', F'.Perm F → anyT x ops (Keeps L) K fuel fin ε F' → anyT x ops (Keeps L) K fuel fin ε F := fun ε F F' p => anyT_perm (fun _ _ p => Keeps.perm p) hK fuel fin ε F F' p
    refine (h6 e he F).mono fun v F' ⟨A, F'', hp, hv, hF⟩ => ?_
    subst hF
    have hS' : Keeps L F' := Keeps.perm hp fun q hq => List.mem_append_right _ (hS q hq)
    refine ⟨.inr hS', ?_⟩
    rw [h2]
    refine anyT_perm (fun _ _ p => Keeps.perm p) hK _ _ _ _ _ hp ?_
    refine ih (B1 ++ B2) _ _ _ (by simp at hm ⊢; omega) (by rw [List.map_append]; exact hI.step hi) (fun s hs' => ?_) (fun s hs' => ?_) (by rw [List.map_append]; exact (List.nodup_cons.1 hnd2).2) (fun k => ?_) (fun q hq => List.mem_append_right _ (hS q hq)) (bagK_pull hKp (fun s hs' => hdn s (List.mem_append_left _ hs')) H v A hv)
    · obtain ⟨o', a1, a2, a3, a4, a5, a6⟩ := hA s (hsub s hs')
      exact ⟨o', a1, a2, a3, a4, a5, fun e he F => a6 e (he.back (hd _ hs)) F⟩
    · have hne := hdn s hs'
      have hb : Nat.beq s.2.1 d = false := by cases hb : Nat.beq s.2.1 d with | false => rfl | true => exact absurd (Nat.eq_of_beq_eq_true hb) hne
      simp only [upd, hb, cond_false]
      exact hd s (hsub s hs')
    · rw [hfin k, testBit_or, hmap, List.map_append]
      by_cases e : i' = k
      · subst e; simp
      · have : k ≠ i' := fun h => e h.symm
        rw [decide_eq_false e, Bool.or_false]
        congr 1
        exact decide_eq_decide.2 (by simp only [List.mem_append, List.mem_cons, this, false_or])

section rules
variable {x : Cx} {Q : Post} {ρ : Env} {ds : List Deferred} {F : Frag} {ops : Array Oper} {L : Frag} {fuel listed : Nat}
def bagA : List Spc → (Env → Frag → Prop) → Env → Frag → Prop
  | [], K, ρ, F => K ρ F
  | (_, d, P) :: r, K, ρ, F => ∀ v A, P v A → bagA r K ((d, v) :: ρ) (A ++ F)
theorem bagA_K {K : Ev → Frag → Prop} : ∀ {B : List Spc} {ρ : Env} {F : Frag}, bagA B (fun ρ F => K (look ρ) F) ρ F → bagK B K (look ρ) F
  | [], _, _, h => h
  | (_, d, P) :: r, ρ, F, h => fun v A hv => by
    have := bagA_K (h v A hv)
    rw [upd_look]
    exact this
def bitsB : List Spc → Nat → Nat
  | [], n => n
  | s :: r, n => bitsB r (n ||| 2 ^ s.1)
theorem bitsB_spec : ∀ {B : List Spc} {n k : Nat}, (bitsB B n).testBit k = (n.testBit k || decide (k ∈ B.map (·.1)))
  | [], n, k => by simp [bitsB]
  | s :: r, n, k => by
    rw [bitsB, bitsB_spec, testBit_or]
    by_cases e : s.1 = k
    · subst e; simp
    · have : k ≠ s.1 := fun h => e h.symm
      rw [decide_eq_false e, Bool.or_false]
      congr 1
      exact decide_eq_decide.2 (by simp only [List.map_cons, List.mem_cons, this, false_or])
/-- ████ Operations that only add, in whatever order. -/
theorem Any.bag {B : List Spc} {m : Nat} (hA : ∀ s ∈ B, Adds x ops (look ρ) s) (H : bagA B (fun ρ F => Any x ops L fuel (bitsB B listed) Q ρ ds F) ρ F) (hS : Keeps L F) (hm : B.length = m) (hd : ∀ s ∈ B, look ρ s.2.1 = none) (hT : bagT ops listed (B.map (·.1)) = true) (hn : (B.map (·.1)).Nodup) (hn2 : (B.map (·.2.1)).Nodup) : Any x ops L (fuel + m) listed Q ρ ds F := by
  unfold Any at H ⊢
  exact anyT_bag (fun _ _ _ p ⟨ρ, F', h1, h2, h3⟩ => ⟨ρ, F', h1, h2.trans (.of_perm p), h3⟩) m B listed _ F hm (bagT_spec hT hn) hA hd hn2 (fun k => bitsB_spec) hS (bagA_K H)

theorem Adds.of {i d : Nat} {P : Value → Frag → Prop} {op : Op} {ty : TypeId} {pos : String} {aft : Array Edge} (ho : nthO ops.toList i = some ⟨some d, op, ty, pos, aft, none⟩) (hd : Nat.blt d x.n = true) (hn : noDefer op = true) (H : ∀ F, Ef x ρ ⟨some d, op, ty, pos, aft, none⟩ F fun v F' => ∃ A, P v A ∧ F' = A ++ F) : Adds x ops (look ρ) (i, d, P) :=
  ⟨_, nthO_get ho, rfl, hd, noDefer_spec hn, rfl, fun e he F => (H F e fun y v hy => he y v (by rw [ev_look]; exact hy)).mono fun v F' ⟨F'', p, A, hv, e⟩ => ⟨A, F'', p, hv, e⟩⟩
theorem Adds.call {i d f : Nat} {P : Value → Frag → Prop} {args : List Operand} {ts : Array TypeId} {vs : List Value} {ty : TypeId} {pos : String} {aft : Array Edge} (H : ∀ h', Ext x.h h' → Fnc x.P x.main f vs.toArray h' [] P) (ho : nthO ops.toList i = some ⟨some d, .call ⟨.value (.func f), args.toArray, ts⟩, ty, pos, aft, none⟩ := by rfl) [FB x.P f] (hv : evs ρ args = some vs := by rfl) (hd : Nat.blt d x.n = true := by rfl) : Adds x ops (look ρ) (i, d, P) :=
  .of ho hd rfl fun F => e_call0 rfl hv (fun h' hE _ => H h' hE) fun v A' hv => ⟨A', hv, rfl⟩
def NewP (t : TypeId) (zc : Array Value) (v : Value) (A : Frag) : Prop := ∃ β, v = .pointer (some ⟨β, 0, none⟩) ∧ A = [(β, .cells zc t (0, 0))]
theorem Adds.new {i d t s b : Nat} {z : Value} {zc : Array Value} {ty : TypeId} {pos : String} {aft : Array Edge} (ho : nthO ops.toList i = some ⟨some d, .alloc t, ty, pos, aft, none⟩ := by rfl) [TI x.P t s b z zc] (hd : Nat.blt d x.n = true := by rfl) : Adds x ops (look ρ) (i, d, NewP t zc) :=
  .of ho hd rfl fun F => e_alloc rfl fun β _ _ => ⟨_, ⟨β, rfl, rfl⟩, rfl⟩
end rules
end Go.Mus
namespace Go.Mus
section
variable {α : Type} {row : α → List Value} {w : Nat} [rw' : Rw row w]
section
variable {x : Cx} {ρ : Env} {F : Frag} {o : Oper} {R : Value → Frag → Prop}
end
end
section
variable {x : Cx} {S : Frag → Prop} {ρ : Env} {o : Oper}
end
end Go.Mus
namespace Go.Mus
section
variable {x : Cx} {Q : Post} {ρ : Env} {ds : List Deferred} {ops : Array Oper} {G : Frag} {y₁ y₂ y₃ y₄ y₅ y₆ : Nat × Obj} {id n : Nat}
theorem W.drawP4 (hn : ops.size = n) (H : Any x ops [y₁, y₂, y₃, y₄] n 0 Q ρ ds (y₁ :: y₂ :: y₃ :: y₄ :: G)) [MO x.P] : W x (.region id ops true) Q ρ ds (y₁ :: y₂ :: y₃ :: y₄ :: G) := W.drawL _ hn H
end
/-- The same, in another order. -/
theorem perm_cnt {α : Type} {l l' : List α} (h : ∀ [DecidableEq α] (a : α), l.count a = l'.count a) : l.Perm l' := by
  classical
  exact List.perm_iff_count.2 fun a => h a
end Go.Mus
namespace Go.Mus
/-- A slice of one's own is put by, wherever it stands. -/
theorem freezeAt {x : Cx} {c : Code} {Q : Post} {ρ : Env} {ds : List Deferred} {A F : Frag} {U : Frag → Frag} {α : Type} {row : α → List Value} {w : Nat} [Rw row w] {E : TypeId} {v : Value} {l : List α} (hs : Os E row v l A) (hg : Seg A F U)
    (H : ∀ h', Ext x.h h' → Sl h' row v l → Zs h' v → W { x with h := h' } c Q ρ ds (U [])) : W x c Q ρ ds F :=
  W.perm hg.perm.1 (freezeOs hs H)
theorem Sb.app1 {A G : Frag} {y : Nat × Obj} (h : Sb [y] A) : Sb (y :: G) (A ++ G) := h.app .refl
theorem Os.open {α : Type} {row : α → List Value} {w : Nat} [Rw row w] {E : TypeId} {a : Option Addr} {n cap : Nat} {l : List α} {A : Frag} (h : Os E row (.slice a n cap) l A) (hne : 0 < l.length) : ∃ β c J, a = some ⟨β, 0, none⟩ ∧ A = (β, .cells c E (0, 0)) :: J ∧ n = l.length ∧ c.size = cap * w ∧ l.length ≤ cap ∧ Part c 0 (flat row l) ∧ Shut J := by
  rcases h with ⟨rfl, _, _⟩ | ⟨β, c, cp, J, hv, rfl, h1, h2, h3, h4⟩
  · simp at hne
  · injection hv with e1 e2 e3
    subst e1 e2 e3
    exact ⟨β, c, J, rfl, rfl, rfl, h1, h2, h3, h4⟩
end Go.Mus

/- Plants a little changed. Conditions: none. -/
namespace Go.Mus
end Go.Mus

/- What shows in a heat, and what is wrong. Conditions: none. -/
namespace Go.Mus
set_option linter.unusedSectionVars false
def spanOf (fs : List Fl) (b : Be) : Int × Int := if 0 ≤ b.fl then ((flAt fs b.fl).lo, (flAt fs b.fl).hi) else (0, 0)
def stepH (fs : List Fl) (out : List (List Int)) (b : Be) : List (List Int) := out.flatMap fun h => (nums (spanOf fs b).1 (spanOf fs b).2).map fun n => h ++ [n]
/-- All heats of a plan. -/
def heatsF (fs : List Fl) (l : List Be) : List (List Int) := l.foldl (stepH fs) [[]]
def IsHeat (fs : List Fl) (l : List Be) (h : List Int) : Prop := h.length = l.length ∧ ∀ i b, l[i]? = some b → (spanOf fs b).1 ≤ h.getD i 0 ∧ h.getD i 0 ≤ (spanOf fs b).2
theorem mem_nums {a lo hi : Int} : a ∈ nums lo hi ↔ lo ≤ a ∧ a ≤ hi := by
  unfold nums; rw [mem_numsN]; omega
theorem getD_left {g : List Int} {n : Int} {i : Nat} (h : i < g.length) : (g ++ [n]).getD i 0 = g.getD i 0 := by simp only [List.getD]; rw [List.getElem?_append_left h]
theorem getD_end {g : List Int} {n : Int} : (g ++ [n]).getD g.length 0 = n := by simp [List.getD]
theorem isHeat_snoc {fs : List Fl} {l : List Be} {b : Be} {h : List Int} : IsHeat fs (l ++ [b]) h ↔ ∃ g n, h = g ++ [n] ∧ IsHeat fs l g ∧ (spanOf fs b).1 ≤ n ∧ n ≤ (spanOf fs b).2 := by
  constructor
  · rintro ⟨h1, h2⟩
    have hne : h ≠ [] := by rintro rfl; simp at h1
    have e : h = h.dropLast ++ [h.getLast hne] := (List.dropLast_concat_getLast hne).symm
    have hl : h.dropLast.length = l.length := by simp at h1 ⊢; omega
    generalize h.dropLast = g at e hl
    generalize h.getLast hne = n at e
    subst e
    refine ⟨g, n, rfl, ⟨hl, fun i c hc => ?_⟩, ?_⟩
    · have hi := lt_of_get hc
      have := h2 i c (by rw [List.getElem?_append_left hi]; exact hc)
      rwa [getD_left (by omega)] at this
    · have := h2 l.length b (by simp)
      rwa [← hl, getD_end] at this
  · rintro ⟨g, n, rfl, ⟨h1, h2⟩, h3⟩
    refine ⟨by simp [h1], fun i c hc => ?_⟩
    rcases Nat.lt_or_ge i l.length with hi | hi
    · rw [List.getElem?_append_left hi] at hc
      rw [getD_left (by omega)]
      exact h2 i c hc
    · have hil := lt_of_get hc
      simp at hil
      have e : i = l.length := by omega
      subst e
      rw [← h1, getD_end]
      have : c = b := by simpa using hc.symm
      subst this
      exact h3
theorem mem_heatsK {fs : List Fl} {l : List Be} : ∀ (k : Nat), k ≤ l.length → ∀ h, h ∈ heatsF fs (l.take k) ↔ IsHeat fs (l.take k) h
  | 0, _, h => by
    simp only [List.take_zero, heatsF, List.foldl_nil, List.mem_singleton]
    constructor
    · rintro rfl; exact ⟨rfl, fun i b hb => by simp at hb⟩
    · rintro ⟨h1, -⟩; exact List.eq_nil_of_length_eq_zero h1
  | k + 1, hk, h => by
    obtain ⟨b, hb, -⟩ := has (show k < l.length by omega)
    have e : l.take (k + 1) = l.take k ++ [b] := by rw [List.take_add_one, hb]; rfl
    rw [e, isHeat_snoc]
    have e2 : heatsF fs (l.take k ++ [b]) = stepH fs (heatsF fs (l.take k)) b := by simp [heatsF, List.foldl_append]
    rw [e2, stepH, List.mem_flatMap]
    constructor
    · rintro ⟨g, hg, hm⟩
      obtain ⟨n, hn, rfl⟩ := List.mem_map.1 hm
      exact ⟨g, n, rfl, (mem_heatsK k (by omega) g).1 hg, mem_nums.1 hn⟩
    · rintro ⟨g, n, rfl, hg, hn⟩
      exact ⟨g, (mem_heatsK k (by omega) g).2 hg, List.mem_map.2 ⟨n, mem_nums.2 hn, rfl⟩⟩
theorem mem_heats {fs : List Fl} {l : List Be} {h : List Int} : h ∈ heatsF fs l ↔ IsHeat fs l h := by
  have := mem_heatsK (fs := fs) (l := l) l.length (Nat.le_refl _) h
  rwa [List.take_length] at this

/-! Days on which something shows -/
def heG (ss : List St) (l : List Be) (h : List Int) (f d : Int) (i : Nat) : Int := if (beAt l i).fl = f ∧ (beAt l i).day ≤ d ∧ d < (beAt l i).day + h.getD i 0 then (stAt ss i).co else 0
def conesF (ss : List St) (l : List Be) (h : List Int) (f d : Int) : Int := sumK (heG ss l h f d) l.length
def Btw (l : List Be) (f d : Int) : Prop := (∃ i, i < l.length ∧ (beAt l i).fl = f ∧ (beAt l i).day < d) ∧ ∃ i, i < l.length ∧ (beAt l i).fl = f ∧ d < (beAt l i).day
def Idl (ss : List St) (l : List Be) (h : List Int) (f d : Int) : Prop := conesF ss l h f d = 0 ∧ Btw l f d
open Classical in
noncomputable def idleN (ss : List St) (l : List Be) (h : List Int) (f : Int) : Nat → Int
  | 0 => 0
  | d + 1 => if Idl ss l h f d then idleN ss l h f d + 1 else 0
def Shw (fs : List Fl) (ss : List St) (l : List Be) (h : List Int) (f d : Nat) : Prop := d < 22 ∧ f < fs.length ∧ ((flAt fs f).pl < conesF ss l h f d ∨ (flAt fs f).co < idleN ss l h f (d + 1))

theorem idle_nn {ss : List St} {l : List Be} {h : List Int} {f : Int} : ∀ d, 0 ≤ idleN ss l h f d ∧ idleN ss l h f d ≤ d
  | 0 => ⟨Int.le_refl _, Int.le_refl _⟩
  | d + 1 => by
    have := idle_nn (ss := ss) (l := l) (h := h) (f := f) d
    rw [idleN]
    split <;> omega
theorem idle_run {ss : List St} {l : List Be} {h : List Int} {f : Int} : ∀ (d k : Nat), (k : Int) < idleN ss l h f (d + 1) → k ≤ d ∧ Idl ss l h f ((d - k : Nat) : Int)
  | 0, k, hk => by
    rw [idleN] at hk
    split at hk
    · rename_i h1
      rw [idleN] at hk
      have : k = 0 := by omega
      subst this
      exact ⟨Nat.le_refl _, h1⟩
    · omega
  | d + 1, k, hk => by
    rw [idleN] at hk
    split at hk
    · rename_i h1
      rcases k with _ | k
      · exact ⟨by omega, h1⟩
      · have := idle_run (ss := ss) (l := l) (h := h) (f := f) d k (by omega)
        refine ⟨by omega, ?_⟩
        rw [Nat.add_sub_add_right]; exact this.2
    · omega
theorem idle_ge {ss : List St} {l : List Be} {h : List Int} {f : Int} (s : Nat) : ∀ (m : Nat), (∀ d : Nat, s ≤ d → d < s + m → Idl ss l h f d) → (m : Int) ≤ idleN ss l h f (s + m)
  | 0, _ => (idle_nn _).1
  | m + 1, H => by
    have h1 := idle_ge s m fun d a b => H d a (by omega)
    rw [← Nat.add_assoc, idleN, if_pos (H (s + m) (by omega) (by omega))]
    omega

theorem be_pad {l : List Be} {i : Nat} : beAt (padB l) i = beAt l i := by
  simp only [beAt, padB, List.getD]
  rcases Nat.lt_or_ge i l.length with h | h
  · rw [List.getElem?_append_left h]
  · rw [List.getElem?_append_right h, List.getElem?_eq_none (l := l) h]
    cases hx : (List.replicate (4 - l.length) bnone)[i - l.length]? with
    | none => rfl
    | some b => rw [List.eq_of_mem_replicate (List.mem_of_getElem? hx)]; rfl
theorem be_out {l : List Be} {i : Nat} (h : l.length ≤ i) : beAt l i = bnone := by simp [beAt, List.getD, List.getElem?_eq_none h]
theorem sumK_ext {g : Nat → Int} {k : Nat} : ∀ {m : Nat}, k ≤ m → (∀ i, k ≤ i → i < m → g i = 0) → sumK g m = sumK g k
  | 0, h, _ => by rw [Nat.le_zero.1 h]
  | m + 1, h, H => by
    rcases Nat.lt_or_ge k (m + 1) with h' | h'
    · rw [sumK, sumK_ext (by omega) fun i a b => H i a (by omega), H m (by omega) (by omega), Int.add_zero]
    · rw [Nat.le_antisymm h h']
theorem sumK_zero {g : Nat → Int} : ∀ {k : Nat}, (∀ i, i < k → 0 ≤ g i) → sumK g k = 0 → ∀ i, i < k → g i = 0
  | 0, _, _, i, hi => by omega
  | k + 1, h, he, i, hi => by
    have h1 := sumK_nn (g := g) (k := k) fun i hi => h i (by omega)
    have h2 := h k (by omega)
    rw [sumK] at he
    rcases (by omega : i < k ∨ i = k) with h' | rfl
    · exact sumK_zero (fun i hi => h i (by omega)) (by omega) i h'
    · omega

section
variable {fs : List Fl} {ss : List St} {l : List Be} (hall : HallOK fs ss) (hp : PlanOf fs ss (padB l)) (hn : l.length = ss.length)
include hall hp hn
theorem on_iff {f a : Int} (h0 : 0 ≤ f) : OnDay (padB l) f a ↔ ∃ i, i < l.length ∧ (beAt l i).fl = f ∧ (beAt l i).day = a := by
  have h4 := hall.ns
  constructor
  · rintro ⟨i, hi, h1, h2⟩
    rw [be_pad] at h1 h2
    refine ⟨i, ?_, h1, h2⟩
    rcases Nat.lt_or_ge i l.length with h | h
    · exact h
    · rw [be_out h] at h1; simp [bnone] at h1; omega
  · rintro ⟨i, hi, h1, h2⟩
    exact ⟨i, by omega, by rw [be_pad]; exact h1, by rw [be_pad]; exact h2⟩
theorem hi_sum {f d : Int} (h0 : 0 ≤ f) : hiAt fs ss (padB l) f d = sumK (hiG fs ss l f d) l.length := by
  have h4 := hall.ns
  have e : hiAt fs ss (padB l) f d = sumK (hiG fs ss l f d) 4 := sumK_congr fun i _ => by simp only [hiG, be_pad]
  rw [e]
  refine sumK_ext (by omega) fun i hi _ => ?_
  simp only [hiG, be_out hi, bnone]
  rw [if_neg (by omega)]
theorem be_some {i : Nat} (hi : i < l.length) : l[i]? = some (beAt l i) := by simp [beAt, List.getD, List.getElem?_eq_getElem hi]
theorem heat_at {h : List Int} (hh : IsHeat fs l h) {i : Nat} {f : Int} (hi : i < l.length) (h0 : 0 ≤ f) (hf : (beAt l i).fl = f) : (flAt fs f).lo ≤ h.getD i 0 ∧ h.getD i 0 ≤ (flAt fs f).hi := by
  have := hh.2 i _ (be_some hall hp hn hi)
  simp only [spanOf, hf, if_pos h0] at this
  exact this
theorem cones_le {h : List Int} (hh : IsHeat fs l h) {f d : Int} (h0 : 0 ≤ f) : conesF ss l h f d ≤ hiAt fs ss (padB l) f d := by
  rw [hi_sum hall hp hn h0]
  refine sumK_le fun i hi => ?_
  have hc := (co_ok hall i).1
  simp only [heG, hiG]
  by_cases c : (beAt l i).fl = f ∧ (beAt l i).day ≤ d ∧ d < (beAt l i).day + h.getD i 0
  · have := heat_at hall hp hn hh hi h0 c.1
    rw [if_pos c, if_pos (by omega)]; exact Int.le_refl _
  · rw [if_neg c]; split <;> omega
theorem fl_lt {i : Nat} (hi : i < l.length) : (beAt l i).fl < fs.length := hp.fl _ (by
  have := be_some hall hp hn hi
  exact List.mem_append_left _ (List.mem_of_getElem? this))
theorem isHeat_map {g : Be → Int} (hg : ∀ b, b ∈ l → (spanOf fs b).1 ≤ g b ∧ g b ≤ (spanOf fs b).2) : IsHeat fs l (l.map g) := by
  refine ⟨by simp, fun i b hb => ?_⟩
  have e : (l.map g).getD i 0 = g b := by simp [List.getD, hb]
  rw [e]
  exact hg b (List.mem_of_getElem? hb)
theorem span_ok {b : Be} (hb : b ∈ l) : (spanOf fs b).1 ≤ (spanOf fs b).2 := by
  unfold spanOf
  split
  · rename_i h0
    have := fl_ok hall h0 (hp.fl b (List.mem_append_left _ hb))
    exact this.2.2.2.1
  · exact Int.le_refl _
theorem map_at {g : Be → Int} {i : Nat} (hi : i < l.length) : (l.map g).getD i 0 = g (beAt l i) := by simp [List.getD, be_some hall hp hn hi]
theorem cones_nn {h : List Int} {f d : Int} : ∀ i, i < l.length → 0 ≤ heG ss l h f d i := fun i _ => by
  have := (co_ok hall i).1
  simp only [heG]; split <;> omega

/-- What shows in a heat, is wrong no later. -/
theorem shw_bad {h : List Int} (hh : IsHeat fs l h) {f d : Nat} (hs : Shw fs ss l h f d) : ∃ n : Int, n ≤ d ∧ Bad fs ss (padB l) f n := by
  obtain ⟨hd, hf, hs⟩ := hs
  have h0 : (0 : Int) ≤ f := by omega
  have hfo := fl_ok hall h0 (by omega : (f : Int) < fs.length)
  rcases hs with hs | hs
  · exact ⟨d, Int.le_refl _, .inl ⟨by omega, by omega, by have := cones_le hall hp hn hh (f := f) (d := d) h0; omega⟩⟩
  · have hrun : ∀ k : Nat, (k : Int) ≤ (flAt fs f).co → k ≤ d ∧ Idl ss l h f ((d - k : Nat) : Int) := fun k hk => idle_run d k (by omega)
    obtain ⟨c, hc⟩ : ∃ c : Nat, (flAt fs f).co = c := ⟨(flAt fs f).co.toNat, by omega⟩
    obtain ⟨hcd, hE⟩ := hrun c (by omega)
    obtain ⟨hE0, ⟨i0, hi0, hf0, hd0⟩, -⟩ := hE
    obtain ⟨-, -, -, ⟨i1, hi1, hf1, hd1⟩⟩ := (hrun 0 (by omega))
    have hno : ∀ i, i < l.length → (beAt l i).fl = f → ((d - c : Nat) : Int) ≤ (beAt l i).day → (beAt l i).day ≤ d → False := by
      intro i hi hfi ha hb
      obtain ⟨-, hz, -⟩ := hrun (d - (beAt l i).day.toNat) (by omega)
      have hz' := sumK_zero (cones_nn hall hp hn) hz i hi
      have hhe := heat_at hall hp hn hh hi h0 hfi
      have hco : 1 ≤ (stAt ss i).co := by
        obtain ⟨s, hs, -⟩ := has (show i < ss.length by omega)
        have e : stAt ss i = s := by simp [stAt, List.getD, hs]
        rw [e]; have := hall.st s (List.mem_of_getElem? hs); omega
      simp only [heG] at hz'
      rw [if_pos ⟨hfi, by omega, by omega⟩] at hz'
      omega
    have hmax : ∀ (m : Nat) (a : Int), OnDay (padB l) f a → a < ((d - c : Nat) : Int) → ((d - c : Nat) : Int) - a ≤ m → ∃ a', OnDay (padB l) f a' ∧ a' < ((d - c : Nat) : Int) ∧ ∀ b, OnDay (padB l) f b → b < ((d - c : Nat) : Int) → b ≤ a' := by
      intro m
      induction m with
      | zero => intro a _ h1 h2; omega
      | succ m ih =>
        intro a ha h1 h2
        by_cases hx : ∃ b, OnDay (padB l) f b ∧ b < ((d - c : Nat) : Int) ∧ a < b
        · obtain ⟨b, hb, hb1, hb2⟩ := hx
          exact ih b hb hb1 (by omega)
        · refine ⟨a, ha, h1, fun b hb hb1 => ?_⟩
          rcases Int.lt_or_le a b with h' | h'
          · exact absurd ⟨b, hb, hb1, h'⟩ hx
          · exact h'
    have hon0 := (on_iff hall hp hn h0).2 ⟨i0, hi0, hf0, rfl⟩
    obtain ⟨a, ha, ha1, ha2⟩ := hmax (((d - c : Nat) : Int) - (beAt l i0).day).toNat _ hon0 hd0 (by omega)
    obtain ⟨i, hi, hfi, hdi⟩ := (on_iff hall hp hn h0).1 ha
    have hz' := sumK_zero (cones_nn hall hp hn) hE0 i hi
    have hhe := heat_at hall hp hn hh hi h0 hfi
    have hco : 1 ≤ (stAt ss i).co := by
      obtain ⟨s, hs, -⟩ := has (show i < ss.length by omega)
      have e : stAt ss i = s := by simp [stAt, List.getD, hs]
      rw [e]; have := hall.st s (List.mem_of_getElem? hs); omega
    have hle : a + h.getD i 0 ≤ ((d - c : Nat) : Int) := by
      rcases Int.lt_or_le ((d - c : Nat) : Int) (a + h.getD i 0) with h' | h'
      · simp only [heG] at hz'
        rw [if_pos ⟨hfi, by omega, by omega⟩] at hz'
        omega
      · exact h'
    refine ⟨a + (flAt fs f).lo + (flAt fs f).co, by omega, .inr ⟨a, ha, rfl, ⟨_, (on_iff hall hp hn h0).2 ⟨i1, hi1, hf1, rfl⟩, by omega⟩, fun b hb => ?_⟩⟩
    rcases Int.lt_or_le b ((d - c : Nat) : Int) with h' | h'
    · exact .inl (ha2 b hb h')
    · obtain ⟨j, hj, hfj, hdj⟩ := (on_iff hall hp hn h0).1 hb
      rcases Int.lt_or_le (d : Int) b with h'' | h''
      · exact .inr (by omega)
      · exact absurd (hno j hj hfj (by omega) (by omega)) id

/-- What is wrong, shows in some heat. -/
theorem bad_shw {f : Nat} {n : Int} (hf : f < fs.length) (hb : Bad fs ss (padB l) f n) : 0 ≤ n ∧ ∃ h, IsHeat fs l h ∧ Shw fs ss l h f n.toNat := by
  have h0 : (0 : Int) ≤ f := by omega
  have hfo := fl_ok hall h0 (by omega : (f : Int) < fs.length)
  rcases hb with ⟨b0, b1, b2⟩ | ⟨a, ha, rfl, ⟨b, hb, hlt⟩, hno⟩
  · refine ⟨b0, l.map (fun b => (spanOf fs b).2), isHeat_map hall hp hn fun b hb => ⟨span_ok hall hp hn hb, Int.le_refl _⟩, by omega, hf, .inl ?_⟩
    rw [hi_sum hall hp hn h0] at b2
    have e : ((n.toNat : Nat) : Int) = n := by omega
    rw [e]
    have : conesF ss l (l.map fun b => (spanOf fs b).2) f n = sumK (hiG fs ss l f n) l.length := sumK_congr fun i hi => by
      simp only [heG, hiG, map_at hall hp hn hi, spanOf]
      by_cases c : (beAt l i).fl = f
      · rw [c, if_pos h0]
      · rw [if_neg (fun x => c x.1), if_neg (fun x => c x.1)]
    rw [this]; exact b2
  · have ha' := onDay_ge hp.ok ha
    have hb' := onDay_ge hp.ok hb
    obtain ⟨i, hi, hfi, hdi⟩ := (on_iff hall hp hn h0).1 ha
    obtain ⟨j, hj, hfj, hdj⟩ := (on_iff hall hp hn h0).1 hb
    have hk := idle_ge (ss := ss) (l := l) (h := l.map fun b => (spanOf fs b).1) (f := f) (a + (flAt fs f).lo).toNat ((flAt fs f).co.toNat + 1) (fun d hd1 hd2 => by
      refine ⟨?_, ⟨i, hi, hfi, by omega⟩, ⟨j, hj, hfj, by omega⟩⟩
      have : conesF ss l (l.map fun b => (spanOf fs b).1) f d = sumK (fun _ => 0) l.length := sumK_congr fun k hk => by
        simp only [heG, map_at hall hp hn hk]
        refine if_neg fun hx => ?_
        obtain ⟨x1, x2, x3⟩ := hx
        simp only [spanOf, x1, if_pos h0] at x3
        rcases hno _ ((on_iff hall hp hn h0).2 ⟨k, hk, x1, rfl⟩) with h' | h' <;> omega
      rw [this, sumK_0])
    refine ⟨by omega, _, isHeat_map hall hp hn (g := fun b => (spanOf fs b).1) fun b hb => ⟨Int.le_refl _, span_ok hall hp hn hb⟩, by omega, hf, .inr ?_⟩
    have e : (a + (flAt fs f).lo).toNat + ((flAt fs f).co.toNat + 1) = (a + (flAt fs f).lo + (flAt fs f).co).toNat + 1 := by omega
    rw [e] at hk
    omega
end
/-! The first of all -/
def MinS (R : Nat → Nat → Prop) (on first : Int) : Prop := (on = -1 ∧ first = -1 ∧ ∀ f d, ¬ R f d) ∨ ∃ f d : Nat, on = f ∧ first = d ∧ R f d ∧ ∀ f' d', R f' d' → d < d' ∨ d = d' ∧ f ≤ f'
theorem MinS.eq {R : Nat → Nat → Prop} {a b c d : Int} (h : MinS R a b) (h' : MinS R c d) : a = c ∧ b = d := by
  rcases h with ⟨rfl, rfl, h⟩ | ⟨f, n, rfl, rfl, h, hm⟩ <;> rcases h' with ⟨rfl, rfl, h'⟩ | ⟨f', n', rfl, rfl, h', hm'⟩
  · exact ⟨rfl, rfl⟩
  · exact absurd h' (h _ _)
  · exact absurd h (h' _ _)
  · have := hm _ _ h'
    have := hm' _ _ h
    omega
theorem MinS.new {R R' : Nat → Nat → Prop} {on first g day : Int} (h : MinS R on first) (h' : MinS R' g day) (hc : 0 ≤ day ∧ (first < 0 ∨ day < first ∨ day = first ∧ g < on)) : MinS (fun f d => R f d ∨ R' f d) g day := by
  rcases h' with ⟨rfl, rfl, h'⟩ | ⟨f', n', rfl, rfl, h', hm'⟩
  · omega
  · refine .inr ⟨f', n', rfl, rfl, .inr h', fun x y hxy => ?_⟩
    rcases hxy with hxy | hxy
    · rcases h with ⟨rfl, rfl, h⟩ | ⟨f, n, rfl, rfl, h, hm⟩
      · exact absurd hxy (h _ _)
      · have := hm _ _ hxy
        omega
    · exact hm' _ _ hxy
theorem MinS.old {R R' : Nat → Nat → Prop} {on first g day : Int} (h : MinS R on first) (h' : MinS R' g day) (hc : ¬ (0 ≤ day ∧ (first < 0 ∨ day < first ∨ day = first ∧ g < on))) : MinS (fun f d => R f d ∨ R' f d) on first := by
  rcases h' with ⟨rfl, rfl, h'⟩ | ⟨f', n', rfl, rfl, h', hm'⟩
  · rcases h with ⟨rfl, rfl, h⟩ | ⟨f, n, rfl, rfl, h, hm⟩
    · exact .inl ⟨rfl, rfl, fun f d hx => hx.elim (h _ _) (h' _ _)⟩
    · exact .inr ⟨f, n, rfl, rfl, .inl h, fun x y hxy => hxy.elim (hm _ _) (fun hx => absurd hx (h' _ _))⟩
  · rcases h with ⟨rfl, rfl, h⟩ | ⟨f, n, rfl, rfl, h, hm⟩
    · omega
    · refine .inr ⟨f, n, rfl, rfl, .inl h, fun x y hxy => ?_⟩
      rcases hxy with hxy | hxy
      · exact hm _ _ hxy
      · have := hm' _ _ hxy
        omega
/-- ████ What is wrong, and what shows in all heats. -/
theorem wrong_min {fs : List Fl} {ss : List St} {l : List Be} (h : ckPlan fs ss l = 0) : ∃ f d, wrongV fs ss l = (f, d, 0) ∧ MinS (fun f d => ∃ h ∈ heatsF fs l, Shw fs ss l h f d) f d := by
  obtain ⟨hall, hp, -⟩ := plan_ck h
  obtain ⟨-, hn, -⟩ := ckPlan0 h
  have e1 : wrongV fs ss l = errW (inspF fs ss (padB l)) := by
    have : askE fs ss l [] = 0 := by unfold askE; rw [if_neg (by simp [h]), if_neg (by simp [badF])]
    rw [wrongV, if_neg (by rw [this]; decide)]
  rw [e1]
  cases hi : inspF fs ss (padB l) with
  | none =>
    refine ⟨-1, -1, rfl, .inl ⟨rfl, rfl, fun f d ⟨h, hh, hs⟩ => ?_⟩⟩
    obtain ⟨n, -, hb⟩ := shw_bad hall hp hn (mem_heats.1 hh) hs
    exact (insp_none hall hp.ok).1 hi f (by omega) (by have := hs.2.1; omega) n hb
  | some w =>
    obtain ⟨⟨c, n⟩, f⟩ := w
    obtain ⟨y0, y1, hb, hmin⟩ := insp_some hall hp.ok hi
    obtain ⟨f, rfl⟩ : ∃ f' : Nat, f = f' := ⟨f.toNat, by omega⟩
    obtain ⟨h0, h, hh, hs⟩ := bad_shw hall hp hn (by omega) hb
    refine ⟨f, n, rfl, .inr ⟨f, n.toNat, rfl, by omega, ⟨h, mem_heats.2 hh, hs⟩, fun f' d' ⟨h', hh', hs'⟩ => ?_⟩⟩
    obtain ⟨n', hn', hb'⟩ := shw_bad hall hp hn (mem_heats.1 hh') hs'
    have := hmin f' n' (by omega) (by have := hs'.2.1; omega) hb'
    omega
end Go.Mus

/- Slices of slices; makeSlice. Conditions: none; over any program. -/
namespace Go.Mus
/-- A slice as an element. -/
structure Sv where
  a : Option Addr
  n : Nat
  cap : Nat
abbrev Sv.val (s : Sv) : Value := .slice s.a s.n s.cap
def rowS (s : Sv) : List Value := [.slice s.a s.n s.cap]
instance : Rw rowS 1 := ⟨fun _ => rfl, fun _ => rfl⟩

section
variable {α : Type} {row : α → List Value} {w : Nat} [rw' : Rw row w] {E : TypeId}
/-- Slices of one's own, one by one. -/
inductive Oss (E : TypeId) (row : α → List Value) [Rw row w] : List Sv → List (List α) → Frag → Prop
  | nil : Oss E row [] [] []
  | cons {s : Sv} {l : List α} {A B : Frag} {vs : List Sv} {ls : List (List α)} : Os E row s.val l A → Oss E row vs ls B → Oss E row (s :: vs) (l :: ls) (A ++ B)
theorem Oss.len {vs : List Sv} {ls : List (List α)} {A : Frag} (h : Oss E row vs ls A) : vs.length = ls.length := by
  induction h with
  | nil => rfl
  | cons _ _ ih => simp [ih]
theorem Oss.shut {vs : List Sv} {ls : List (List α)} {A : Frag} (h : Oss E row vs ls A) : Shut A := by
  induction h with
  | nil => exact .nil
  | cons h _ ih => exact h.shut.app ih
theorem Oss.snoc {vs : List Sv} {ls : List (List α)} {A B : Frag} {s : Sv} {l : List α} (h : Oss E row vs ls A) (hs : Os E row s.val l B) : Oss E row (vs ++ [s]) (ls ++ [l]) (A ++ B) := by
  induction h with
  | nil => have := Oss.cons hs .nil; simpa using this
  | cons h1 _ ih => have := Oss.cons h1 ih; rw [← List.append_assoc] at this; exact this
theorem Oss.sl {vs : List Sv} {ls : List (List α)} {A : Frag} {h' : Hp} (h : Oss E row vs ls A) (hL : ∀ b o, (b, o) ∈ A → h' b = some o) : ∀ {k : Nat} {s : Sv} {l : List α}, vs[k]? = some s → ls[k]? = some l → Sl h' row s.val l := by
  induction h with
  | nil => intro k s l hs; simp at hs
  | cons h1 _ ih =>
    intro k s l hs hl
    rcases k with _ | k
    · simp at hs hl; subst hs hl
      exact h1.sl fun b o hb => hL b o (List.mem_append_left _ hb)
    · simp at hs hl
      exact ih (fun b o hb => hL b o (List.mem_append_right _ hb)) hs hl
theorem Sv.eta {v : Value} {l : List α} {A : Frag} (h : Os E row v l A) : ∃ s : Sv, v = s.val := by
  obtain ⟨a, cap, rfl⟩ := h.isSl
  exact ⟨⟨a, _, cap⟩, rfl⟩
end
/-! makeSlice -/
section
variable {x : Cx} {ρ : Env} {F : Frag} {o : Oper} {R : Value → Frag → Prop}
end
end Go.Mus

/- All heats of a plan. Conditions: none; over the given program. -/
namespace Go.Mus
set_option maxRecDepth 100000
set_option maxHeartbeats 4000000
theorem ext2 {c : Array Value} {o : Nat} {u v w y : Value} (h : c.extract o (o + 4) = #[u, v, w, y]) : c.extract (o + 1) (o + 1 + 2) = #[v, w] := by
  have e : (c.extract o (o + 4)).extract 1 3 = c.extract (o + 1) (o + 1 + 2) := by
    rw [Array.extract_extract, show min (o + 3) (o + 4) = o + 1 + 2 by omega]
  rw [← e, h]; rfl

end Go.Mus

/- Cones on a day, days between, what shows in a heat. Conditions: none; over the given program. -/
namespace Go.Mus
set_option maxRecDepth 100000
set_option maxHeartbeats 4000000
end Go.Mus

/- Whatever the heat is. Conditions: none; over the given program. -/
namespace Go.Mus
set_option maxRecDepth 100000
set_option maxHeartbeats 4000000
end Go.Mus

/- When a floor is empty, when cones are done, days of doubt; what is said of them by all heats. Conditions: none. -/
namespace Go.Mus
def readyV (fs : List Fl) (ss : List St) (l : List Be) (i : Int) : Sp × Int :=
  if askE fs ss l [] ≠ 0 then (⟨0, 0⟩, askE fs ss l []) else if outs i 0 (ss.length - 1) then (⟨0, 0⟩, 3) else if (beAt l i.toNat).fl < 0 then (⟨0, 0⟩, 8)
  else (⟨(beAt l i.toNat).day + (flAt fs (beAt l i.toNat).fl).lo, (beAt l i.toNat).day + (flAt fs (beAt l i.toNat).fl).hi⟩, 0)
def dbK (f : Nat) (D : List Sp) : Nat → List (List Int)
  | 0 => []
  | d + 1 => if (D.getD d ⟨0, 0⟩).lo ≠ (D.getD d ⟨0, 0⟩).hi then dbK f D d ++ [[(f : Int), (d : Int)]] else dbK f D d
def dbF (fs : List Fl) (ss : List St) (p : List Be) : Nat → List (List Int)
  | 0 => []
  | f + 1 => dbF fs ss p f ++ dbK f (standsD fs ss p f) 22
def doubtV (fs : List Fl) (ss : List St) (l : List Be) : List (List Int) × Int :=
  if askE fs ss l [] ≠ 0 then ([], askE fs ss l []) else (dbF fs ss (padB l) fs.length, 0)
theorem dbK_len {f : Nat} {D : List Sp} : ∀ k, (dbK f D k).length ≤ k
  | 0 => Nat.le_refl _
  | k + 1 => by
    have := dbK_len (f := f) (D := D) k
    rw [dbK]; split
    · rw [List.length_append, List.length_singleton]; omega
    · omega
theorem dbF_len {fs : List Fl} {ss : List St} {p : List Be} : ∀ k, (dbF fs ss p k).length ≤ 22 * k
  | 0 => Nat.le_refl _
  | k + 1 => by
    have := dbF_len (fs := fs) (ss := ss) (p := p) k
    have := dbK_len (f := k) (D := standsD fs ss p k) 22
    rw [dbF, List.length_append]; omega
theorem dbK_zero {f : Nat} : ∀ k, dbK f days0 k = []
  | 0 => rfl
  | k + 1 => by
    have e : days0.getD k (⟨0, 0⟩ : Sp) = ⟨0, 0⟩ := by
      simp only [days0, List.getD, List.getElem?_replicate]; split <;> rfl
    rw [dbK, e, if_neg (by simp), dbK_zero k]
/-! Counted over all heats -/
def MmS (g : Nat → Int) (k : Nat) (lo hi : Int) : Prop := (k = 0 ∧ lo = 0 ∧ hi = 0) ∨ (0 < k ∧ (∀ i, i < k → lo ≤ g i ∧ g i ≤ hi) ∧ (∃ i, i < k ∧ g i = lo) ∧ ∃ i, i < k ∧ g i = hi)
theorem MmS.first {g : Nat → Int} {lo hi : Int} (h : MmS g 0 lo hi) : MmS g 1 (min (g 0) (g 0)) (max (g 0) (g 0)) := by
  refine .inr ⟨by omega, fun i hi => ?_, ⟨0, by omega, by omega⟩, ⟨0, by omega, by omega⟩⟩
  obtain rfl : i = 0 := by omega
  omega
theorem MmS.next {g : Nat → Int} {k : Nat} {lo hi : Int} (h : MmS g k lo hi) (hk : k ≠ 0) : MmS g (k + 1) (min lo (g k)) (max hi (g k)) := by
  rcases h with ⟨rfl, -, -⟩ | ⟨h0, h1, ⟨i, hi1, hi2⟩, ⟨j, hj1, hj2⟩⟩
  · exact absurd rfl hk
  refine .inr ⟨by omega, fun x hx => ?_, ?_, ?_⟩
  · rcases (by omega : x < k ∨ x = k) with h | rfl
    · have := h1 x h; omega
    · omega
  · rcases Int.le_total lo (g k) with h | h
    · exact ⟨i, by omega, by omega⟩
    · exact ⟨k, by omega, by omega⟩
  · rcases Int.le_total hi (g k) with h | h
    · exact ⟨k, by omega, by omega⟩
    · exact ⟨j, by omega, by omega⟩
theorem MmS.eq {g : Nat → Int} {n : Nat} {lo hi lo' hi' : Int} (h : MmS g n lo hi) (h' : MmS g n lo' hi') : lo = lo' ∧ hi = hi' := by
  rcases h with ⟨rfl, rfl, rfl⟩ | ⟨h0, h1, ⟨i, hi1, hi2⟩, ⟨j, hj1, hj2⟩⟩ <;> rcases h' with ⟨h0', rfl, rfl⟩ | ⟨h0', h1', ⟨i', hi1', hi2'⟩, ⟨j', hj1', hj2'⟩⟩
  · exact ⟨rfl, rfl⟩
  · omega
  · omega
  · have := h1 i' hi1'
    have := h1 j' hj1'
    have := h1' i hi1
    have := h1' j hj1
    omega
theorem lo_sum {fs : List Fl} {ss : List St} {l : List Be} (hall : HallOK fs ss) (hn : l.length = ss.length) {f d : Int} (h0 : 0 ≤ f) : loAt fs ss (padB l) f d = sumK (loG fs ss l f d) l.length := by
  have h4 := hall.ns
  have e : loAt fs ss (padB l) f d = sumK (loG fs ss l f d) 4 := sumK_congr fun i _ => by simp only [loG, be_pad]
  rw [e]
  refine sumK_ext (by omega) fun i hi _ => ?_
  simp only [loG, be_out hi, bnone]
  rw [if_neg (by omega)]
theorem cones_ge {fs : List Fl} {ss : List St} {l : List Be} (hall : HallOK fs ss) (hp : PlanOf fs ss (padB l)) (hn : l.length = ss.length) {h : List Int} (hh : IsHeat fs l h) {f d : Int} (h0 : 0 ≤ f) : loAt fs ss (padB l) f d ≤ conesF ss l h f d := by
  rw [lo_sum hall hn h0]
  refine sumK_le fun i hi => ?_
  have hc := (co_ok hall i).1
  simp only [heG, loG]
  by_cases c : (beAt l i).fl = f ∧ (beAt l i).day ≤ d ∧ d < (beAt l i).day + (flAt fs f).lo
  · have := heat_at hall hp hn hh hi h0 c.1
    rw [if_pos c, if_pos (by omega)]; exact Int.le_refl _
  · rw [if_neg c]; split <;> omega
theorem stands_get {fs : List Fl} {ss : List St} {l : List Be} (h : ckPlan fs ss l = 0) {f d : Nat} (hf : f < fs.length) (hd : d < 22) : (standsD fs ss (padB l) f).getD d ⟨0, 0⟩ = ⟨loAt fs ss (padB l) f d, hiAt fs ss (padB l) f d⟩ := by
  obtain ⟨hall, hp, hn⟩ := plan_ck h
  rw [List.getD, standsD_at hall hp.ok (by omega) (by omega) hd]
  rfl
end Go.Mus

/- All plans gone through: the right ones among them are those that are found, and what is kept of them. Conditions: none. -/
namespace Go.Mus
/-- All plans of the first strikes, in order. -/
def listF (fs : List Fl) (ss : List St) : Nat → List (List Be)
  | 0 => [[]]
  | i + 1 => (listF fs ss i).flatMap fun l => (berthsK fs ss freeM i).map fun b => l ++ [b]
def extF (fs : List Fl) (ss : List St) : Nat → List Be → List (List Be)
  | 0, l => [l]
  | m + 1, l => (berthsK fs ss freeM l.length).flatMap fun b => extF fs ss m (l ++ [b])
def isR (fs : List Fl) (ss : List St) (l : List Be) : Bool := (inspF fs ss (padB l)).isNone
def loaL (ss : List St) (l : List Be) : Int := loavesF ss (padB l)
theorem listF_len {fs : List Fl} {ss : List St} : ∀ i l, l ∈ listF fs ss i → l.length = i
  | 0, l, h => by have : l = [] := by simpa [listF] using h
                  subst this; rfl
  | i + 1, l, h => by
    obtain ⟨g, hg, hm⟩ := List.mem_flatMap.1 h
    obtain ⟨b, -, rfl⟩ := List.mem_map.1 hm
    rw [List.length_append, listF_len i g hg]; rfl
theorem list_ext {fs : List Fl} {ss : List St} : ∀ m k, (listF fs ss k).flatMap (extF fs ss m) = listF fs ss (k + m)
  | 0, k => by
    have : extF fs ss 0 = fun l => [l] := rfl
    rw [this, List.flatMap_singleton']; rfl
  | m + 1, k => by
    rw [show k + (m + 1) = (k + 1) + m by omega, ← list_ext m (k + 1), listF, List.flatMap_assoc]
    refine fm_congr fun l hl => ?_
    rw [extF, listF_len k l hl, List.flatMap_map]
theorem ext_nil {fs : List Fl} {ss : List St} {n : Nat} : extF fs ss n [] = listF fs ss n := by
  have := list_ext (fs := fs) (ss := ss) n 0
  rw [Nat.zero_add] at this
  rw [← this]; simp [listF]
theorem padB_set {l : List Be} {b : Be} (h : l.length < 4) : (padB l).set l.length b = padB (l ++ [b]) := by
  have e : 4 - l.length = (4 - (l ++ [b]).length) + 1 := by simp; omega
  unfold padB
  rw [e, List.set_append_right _ _ (Nat.le_refl _), Nat.sub_self, List.replicate_succ, List.set_cons_zero, List.append_assoc]
  rfl
theorem ext_pre {fs : List Fl} {ss : List St} : ∀ m l l', l' ∈ extF fs ss m l → ∃ r, l' = l ++ r
  | 0, l, l', h => by
    have : l' = l := by simpa [extF] using h
    exact ⟨[], by rw [this, List.append_nil]⟩
  | m + 1, l, l', h => by
    obtain ⟨b, -, hb⟩ := List.mem_flatMap.1 h
    obtain ⟨r, rfl⟩ := ext_pre m _ l' hb
    exact ⟨b :: r, by simp⟩
theorem ext_plan {fs : List Fl} {ss : List St} (hall : HallOK fs ss) : ∀ m l l', l.length + m = ss.length → PlanOf fs ss (padB l) → l' ∈ extF fs ss m l → PlanOf fs ss (padB l')
  | 0, l, l', _, hp, h => by
    have : l' = l := by simpa [extF] using h
    rw [this]; exact hp
  | m + 1, l, l', hl, hp, h => by
    have h4 := hall.ns
    obtain ⟨b, hb, hb'⟩ := List.mem_flatMap.1 h
    refine ext_plan hall m (l ++ [b]) l' (by simp; omega) ?_ hb'
    rw [← padB_set (by omega)]
    exact plan_set hp (by omega) (berth_ok hall (by omega) hb)
theorem rights_ext {fs : List Fl} {ss : List St} (hall : HallOK fs ss) : ∀ m l, l.length + m = ss.length → PlanOf fs ss (padB l) → rights fs ss freeM m l.length (padB l) = ((extF fs ss m l).filter (isR fs ss)).map padB
  | 0, l, _, _ => by
    rw [rights, extF, List.filter_cons]
    unfold isR
    split <;> rfl
  | m + 1, l, hl, hp => by
    have h4 := hall.ns
    rw [rights, extF, List.filter_flatMap, List.map_flatMap]
    refine fm_congr fun b hb => ?_
    rw [padB_set (by omega)]
    have hp' : PlanOf fs ss (padB (l ++ [b])) := by
      rw [← padB_set (by omega)]
      exact plan_set hp (by omega) (berth_ok hall (by omega) hb)
    have hbk := berth_ok hall (by omega) hb
    have ih := rights_ext hall m (l ++ [b]) (by simp; omega) hp'
    rw [List.length_append, List.length_singleton] at ih
    split
    · rename_i hpr
      have : (extF fs ss m (l ++ [b])).filter (isR fs ss) = [] := by
        refine List.filter_eq_nil_iff.2 fun l' hl' hr => ?_
        obtain ⟨r, rfl⟩ := ext_pre m _ l' hl'
        have hq := ext_plan hall m _ _ (by simp; omega) hp' hl'
        have hn : inspF fs ss (padB (l ++ [b] ++ r)) = none := by simpa [isR] using hr
        have := prune_no (b := b) hall hq.ok hp'.ok hbk.2.2.1 hn fun i hi => by
          rw [be_pad, be_pad]
          rcases Nat.lt_or_ge i (l ++ [b]).length with h | h
          · left; simp only [beAt, List.getD]; rw [List.getElem?_append_left h]
          · right; rw [be_out h]; simp [bnone]
        rw [hpr] at this; cases this
      rw [this]; rfl
    · exact ih
/-- ████ What is found is what is right, of all. -/
theorem allF_list {fs : List Fl} {ss : List St} (hall : HallOK fs ss) : allF fs ss freeM = ((listF fs ss ss.length).filter (isR fs ss)).map padB := by
  have h4 := hall.ns
  unfold allF
  split
  · rename_i h0
    have := rights_ext hall ss.length [] (by simp) (pad_nil hall.nf.1)
    rw [ext_nil] at this
    exact this
  · rename_i h0
    obtain ⟨n, hn⟩ : ∃ n, ss.length = n + 1 := ⟨ss.length - 1, by omega⟩
    have e : listF fs ss ss.length = (berthsK fs ss freeM 0).flatMap fun b => extF fs ss n ([] ++ [b]) := by
      rw [← ext_nil, hn, extF]; rfl
    rw [e, List.filter_flatMap, List.map_flatMap]
    refine fm_congr fun b hb => ?_
    have hp' : PlanOf fs ss (padB [b]) := by
      have := plan_set (pad_nil (ss := ss) hall.nf.1) (k := 0) (by omega) (berth_ok hall (by omega) hb)
      rwa [← pad_one] at this
    have := rights_ext hall n [b] (by simp; omega) hp'
    rw [rightsOf, show ss.length - [b].length = n by simp; omega]
    exact this
/-! What is kept of those that are gone through -/
structure BI (ss : List St) (R B : List (List Be)) (most : Int) : Prop where
  eq : B = R.filter fun l => decide (loaL ss l = most)
  top : ∀ l ∈ R, loaL ss l ≤ most
  ne : R ≠ [] → B ≠ []
  em : R = [] → most = -1
theorem BI.nil {ss : List St} : BI ss [] [] (-1) := ⟨rfl, fun l h => by simp at h, fun h => absurd rfl h, fun _ => rfl⟩
theorem BI.less {ss : List St} {R B : List (List Be)} {most : Int} {l : List Be} (h : BI ss R B most) (hl : loaL ss l < most) (h0 : 0 ≤ loaL ss l) : BI ss (R ++ [l]) B most := by
  have hR : R ≠ [] := fun e => by have := h.em e; omega
  refine ⟨?_, fun x hx => ?_, fun _ => h.ne hR, fun e => by simp at e⟩
  · rw [List.filter_append, ← h.eq, List.filter_cons, if_neg (by simp; omega)]; simp
  · rcases List.mem_append.1 hx with hx | hx
    · exact h.top x hx
    · have : x = l := by simpa using hx
      subst this; omega
theorem BI.same {ss : List St} {R B : List (List Be)} {most : Int} {l : List Be} (h : BI ss R B most) (hl : loaL ss l = most) (h0 : 0 ≤ loaL ss l) : BI ss (R ++ [l]) (B ++ [l]) most := by
  refine ⟨?_, fun x hx => ?_, fun _ e => by simp at e, fun e => by simp at e⟩
  · rw [List.filter_append, ← h.eq, List.filter_cons, if_pos (by simpa using hl)]; simp
  · rcases List.mem_append.1 hx with hx | hx
    · exact h.top x hx
    · have : x = l := by simpa using hx
      subst this; omega
theorem BI.more {ss : List St} {R B : List (List Be)} {most : Int} {l : List Be} (h : BI ss R B most) (hl : most < loaL ss l) : BI ss (R ++ [l]) [l] (loaL ss l) := by
  refine ⟨?_, fun x hx => ?_, fun _ e => by simp at e, fun e => by simp at e⟩
  · rw [List.filter_append, filter_none fun q hq => ?_, List.filter_cons, if_pos (by simp)]
    · simp
    · have := h.top q hq
      exact decide_eq_false (by omega)
  · rcases List.mem_append.1 hx with hx | hx
    · have := h.top x hx; omega
    · have : x = l := by simpa using hx
      subst this; omega
/-- ████ What is kept is what Best says. -/
theorem BI.best {fs : List Fl} {ss : List St} (hall : HallOK fs ss) {B : List (List Be)} {most : Int} (h : BI ss ((listF fs ss ss.length).filter (isR fs ss)) B most) : (bestF fs ss).1 = most ∧ (bestF fs ss).2 = B.map padB ∧ B ≠ [] ∧ ∀ l ∈ B, l ∈ listF fs ss ss.length := by
  obtain ⟨⟨q, hq, hq1⟩, htop, hout⟩ := best_spec hall
  rw [allF_list hall] at hq htop hout
  obtain ⟨l, hl, rfl⟩ := List.mem_map.1 hq
  have hne : (listF fs ss ss.length).filter (isR fs ss) ≠ [] := fun e => by rw [e] at hl; simp at hl
  have hB := h.ne hne
  have e : (bestF fs ss).1 = most := by
    obtain ⟨x, hx⟩ := List.exists_mem_of_ne_nil _ hB
    have hx' := hx
    rw [h.eq, List.mem_filter] at hx'
    have h1 : loaL ss x = most := by simpa using hx'.2
    have h2 := htop (padB x) (List.mem_map.2 ⟨x, hx'.1, rfl⟩)
    have h3 := h.top l hl
    simp only [loaL] at h1 h3
    omega
  refine ⟨e, ?_, hB, fun x hx => ?_⟩
  · rw [hout, List.filter_map, e, h.eq]
    rfl
  · rw [h.eq] at hx
    exact (List.mem_filter.1 (List.mem_filter.1 hx).1).1
end Go.Mus
