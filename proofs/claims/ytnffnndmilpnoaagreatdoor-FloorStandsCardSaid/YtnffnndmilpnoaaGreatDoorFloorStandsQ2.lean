/- Which plans are wrong, where, and when; which plans a search finds. Conditions: none. (And 30 texts more.) -/
import Derived.Test.YtnffnndmilpnoaaGreatDoorFloorStandsQ1
import Derived.Test.YtnffnndmilpnoaaGreatDoorR10
import Derived.Test.YtnffnndmilpnoaaGreatDoorR07
set_option linter.unusedVariables false
set_option linter.unusedSimpArgs false
set_option linter.unusedSectionVars false

/- Which plans are wrong, where, and when; which plans a search finds. Conditions: none. -/
namespace Go.Mus
/-- A strike is set on a floor on a day. -/
def OnDay (p : List Be) (f a : Int) : Prop := ∃ i, i < 4 ∧ (beAt p i).fl = f ∧ (beAt p i).day = a
def Cold (fs : List Fl) (p : List Be) (f n : Int) : Prop := ∃ a, OnDay p f a ∧ n = a + (flAt fs f).lo + (flAt fs f).co ∧ (∃ b, OnDay p f b ∧ n < b) ∧ ∀ b, OnDay p f b → b ≤ a ∨ n < b
def Full (fs : List Fl) (ss : List St) (p : List Be) (f n : Int) : Prop := 0 ≤ n ∧ n < 22 ∧ (flAt fs f).pl < hiAt fs ss p f n
def Bad (fs : List Fl) (ss : List St) (p : List Be) (f n : Int) : Prop := Full fs ss p f n ∨ Cold fs p f n

theorem onFk_iff {p : List Be} {f : Int} : ∀ {k : Nat} {a : Int}, a ∈ onFk p f k ↔ ∃ i, i < k ∧ (beAt p i).fl = f ∧ a = (i : Int)
  | 0, a => by simp [onFk]
  | k + 1, a => by
    rw [onFk]
    split
    · rename_i h
      rw [List.mem_append, onFk_iff (k := k)]
      constructor
      · rintro (⟨i, h1, h2, h3⟩ | h1)
        · exact ⟨i, by omega, h2, h3⟩
        · exact ⟨k, by omega, h, by simpa using h1⟩
      · rintro ⟨i, h1, h2, h3⟩
        by_cases e : i = k
        · subst e; right; simpa using h3
        · left; exact ⟨i, by omega, h2, h3⟩
    · rename_i h
      rw [onFk_iff (k := k)]
      constructor
      · rintro ⟨i, h1, h2, h3⟩; exact ⟨i, by omega, h2, h3⟩
      · rintro ⟨i, h1, h2, h3⟩
        by_cases e : i = k
        · subst e; exact absurd h2 h
        · exact ⟨i, by omega, h2, h3⟩
theorem days_iff {p : List Be} {f a : Int} : a ∈ (setL p f).map (dayOf p) ↔ OnDay p f a := by
  simp only [List.mem_map, setL, (isort_perm _ _).mem_iff, onFk_iff, OnDay]
  constructor
  · rintro ⟨x, ⟨i, h1, h2, rfl⟩, h3⟩; exact ⟨i, h1, h2, by simpa [dayOf] using h3⟩
  · rintro ⟨i, h1, h2, h3⟩; exact ⟨i, ⟨i, h1, h2, rfl⟩, by simpa [dayOf] using h3⟩
theorem onDay_ge {p : List Be} {f a : Int} (hp : PlOK p) (h : OnDay p f a) : 0 ≤ a ∧ a ≤ 17 := by
  obtain ⟨i, _, _, rfl⟩ := h
  exact beAt_day hp i

theorem lookF_eq {fs : List Fl} {ss : List St} {p : List Be} {f : Int} (hall : HallOK fs ss) (hp : PlOK p) (h0 : 0 ≤ f) (h1 : f < fs.length) :
    ∃ c, lookF fs ss p f = merge (fullF (flAt fs f).pl (standsD fs ss p f) 0) c ∧ (∀ n, c = some n → Cold fs p f n ∧ ∀ n', n' < n → ¬ Cold fs p f n') ∧ (c = none → ∀ n, ¬ Cold fs p f n) := by
  have hfl := fl_ok hall h0 h1
  refine ⟨coldL (flAt fs f).co (flAt fs f).lo ((setL p f).map (dayOf p)) (-1), ?_, ?_⟩
  · rw [← lookS_fold ⟨hfl.2.2.1, by omega⟩ ⟨hfl.2.2.2.2.2.1, hfl.2.2.2.2.2.2⟩ _ _ _ (Int.le_refl _) (by decide) (fun d hd => onDay_ge hp (days_iff.1 hd)), lookF, List.foldl_map]
  have hs : ((setL p f).map (dayOf p)).Pairwise (· ≤ ·) := by
    rw [List.pairwise_map]; exact isort_srt
  have hd : ∀ a, a ∈ (setL p f).map (dayOf p) ↔ OnDay p f a := fun a => days_iff
  cases hl : (setL p f).map (dayOf p) with
  | nil =>
    rw [hl] at hd
    refine ⟨fun n h => (by cases h), fun _ n hn => ?_⟩
    obtain ⟨a, ha, _⟩ := hn
    have := (hd a).2 ha
    cases this
  | cons d r =>
    rw [hl] at hs hd
    rw [List.pairwise_cons] at hs
    have hd0 := (onDay_ge hp ((hd d).1 (List.mem_cons_self ..))).1
    have e : coldL (flAt fs f).co (flAt fs f).lo (d :: r) (-1) = coldL (flAt fs f).co (flAt fs f).lo r (d + (flAt fs f).lo) := by
      rw [coldL, if_neg (by omega)]; congr 1; omega
    obtain ⟨i1, i2, i3⟩ := coldL_srt (co := (flAt fs f).co) hfl.2.2.1 (ds := r) (e := d) hd0 hs.1 hs.2
    have hm : ∀ a, (a = d ∨ a ∈ r) ↔ OnDay p f a := fun a => by rw [← hd]; exact List.mem_cons.symm
    have hr : ∀ a b, OnDay p f a → OnDay p f b → a < b → b ∈ r := fun a b ha hb hlt => by
      rcases (hm b).2 hb with rfl | h
      · rcases (hm a).2 ha with rfl | h'
        · omega
        · have := hs.1 a h'; omega
      · exact h
    rw [e]
    refine ⟨fun n h => ⟨?_, fun n' hn' hc => ?_⟩, fun h n hc => ?_⟩
    · obtain ⟨a, ha, hn, ⟨b, hb, hb2⟩, hal⟩ := i1 n h
      refine ⟨a, (hm a).1 ha, hn, ⟨b, (hm b).1 (.inr hb), hb2⟩, fun c hc => ?_⟩
      rcases (hm c).2 hc with rfl | hc
      · left
        rcases ha with rfl | ha
        · exact Int.le_refl _
        · exact hs.1 a ha
      · exact hal c hc
    · obtain ⟨a, ha, rfl, ⟨b, hb, hb2⟩, hal⟩ := hc
      obtain ⟨c, hc1, hc2, hc3⟩ := i3 n h a ((hm a).2 ha) hn' b (hr a b ha hb (by omega)) hb2
      have := hal c ((hm c).1 (.inr hc1)); omega
    · obtain ⟨a, ha, rfl, ⟨b, hb, hb2⟩, hal⟩ := hc
      obtain ⟨c, hc1, hc2, hc3⟩ := i2 h a ((hm a).2 ha) b (hr a b ha hb (by omega)) hb2
      have := hal c ((hm c).1 (.inr hc1)); omega

theorem full_none {fs : List Fl} {ss : List St} {p : List Be} {f : Int} (hall : HallOK fs ss) (hp : PlOK p) (h0 : 0 ≤ f) (h1 : f < fs.length) : fullF (flAt fs f).pl (standsD fs ss p f) 0 = none ↔ ∀ n, ¬ Full fs ss p f n := by
  rw [fullF_none]
  constructor
  · rintro h n ⟨n0, n1, n2⟩
    obtain ⟨j, rfl⟩ : ∃ j : Nat, n = j := ⟨n.toNat, by omega⟩
    have := h j _ (standsD_at hall hp h0 h1 (by omega))
    simp only at this; omega
  · intro h i s hs
    have hi : i < 22 := by
      rcases Nat.lt_or_ge i 22 with h' | h'
      · exact h'
      · rw [List.getElem?_eq_none (by rw [standsD_len]; exact h')] at hs; cases hs
    rw [standsD_at hall hp h0 h1 hi] at hs
    cases hs
    exact Int.not_lt.1 fun hlt => h i ⟨by omega, by omega, hlt⟩
theorem full_some {fs : List Fl} {ss : List St} {p : List Be} {f : Int} {q : Bool × Int} (hall : HallOK fs ss) (hp : PlOK p) (h0 : 0 ≤ f) (h1 : f < fs.length) (h : fullF (flAt fs f).pl (standsD fs ss p f) 0 = some q) : Full fs ss p f q.2 ∧ ∀ n', n' < q.2 → ¬ Full fs ss p f n' := by
  obtain ⟨-, i, s, h2, h3, h4, h5⟩ := fullF_some h
  have hi : i < 22 := by
    rcases Nat.lt_or_ge i 22 with h' | h'
    · exact h'
    · rw [List.getElem?_eq_none (by rw [standsD_len]; exact h')] at h3; cases h3
  rw [standsD_at hall hp h0 h1 hi] at h3
  cases h3
  rw [Nat.zero_add] at h2
  rw [h2]
  refine ⟨⟨by omega, by omega, h4⟩, ?_⟩
  rintro n' hn' ⟨q0, q1, q2⟩
  obtain ⟨j, rfl⟩ : ∃ j : Nat, n' = j := ⟨n'.toNat, by omega⟩
  have := h5 j _ (by omega) (standsD_at hall hp h0 h1 (by omega))
  simp only at this; omega

theorem look_none {fs : List Fl} {ss : List St} {p : List Be} {f : Int} (hall : HallOK fs ss) (hp : PlOK p) (h0 : 0 ≤ f) (h1 : f < fs.length) : lookF fs ss p f = none ↔ ∀ n, ¬ Bad fs ss p f n := by
  obtain ⟨c, hc, hs, hn⟩ := lookF_eq hall hp h0 h1
  rw [hc, merge_none, full_none hall hp h0 h1]
  constructor
  · rintro ⟨h2, h3⟩ n (hb | hb)
    · exact h2 n hb
    · exact hn h3 n hb
  · intro h
    refine ⟨fun n hb => h n (.inl hb), ?_⟩
    cases c with
    | none => rfl
    | some n => exact absurd (.inr (hs n rfl).1) (h n)
theorem look_some {fs : List Fl} {ss : List St} {p : List Be} {f : Int} {q : Bool × Int} (hall : HallOK fs ss) (hp : PlOK p) (h0 : 0 ≤ f) (h1 : f < fs.length) (h : lookF fs ss p f = some q) : Bad fs ss p f q.2 ∧ ∀ n', n' < q.2 → ¬ Bad fs ss p f n' := by
  obtain ⟨c, hc, hs, hn⟩ := lookF_eq hall hp h0 h1
  rw [hc] at h
  cases hf : fullF (flAt fs f).pl (standsD fs ss p f) 0 with
  | none =>
    rw [hf] at h
    have hf' := (full_none hall hp h0 h1).1 hf
    cases c with
    | none => cases h
    | some n =>
      have : q = (true, n) := by simpa [merge, early] using h.symm
      subst this
      obtain ⟨a1, a2⟩ := hs n rfl
      exact ⟨.inr a1, fun n' hn' hb => hb.elim (hf' n') (a2 n' hn')⟩
  | some q' =>
    rw [hf] at h
    obtain ⟨b1, b2⟩ := full_some hall hp h0 h1 hf
    cases c with
    | none =>
      have : q' = q := by simpa [merge] using h
      subst this
      exact ⟨.inl b1, fun n' hn' hb => hb.elim (b2 n' hn') (hn rfl n')⟩
    | some n =>
      obtain ⟨a1, a2⟩ := hs n rfl
      simp only [merge, early, decide_eq_true_eq] at h
      split at h
      · rename_i hlt
        have : q = (true, n) := by simpa using h.symm
        subst this
        exact ⟨.inr a1, fun n' hn' hb => hb.elim (b2 n' (by simp only at hn'; omega)) (a2 n' hn')⟩
      · rename_i hlt
        have : q' = q := by simpa using h
        subst this
        exact ⟨.inl b1, fun n' hn' hb => hb.elim (b2 n' hn') (a2 n' (by omega))⟩

theorem inspN_spec {fs : List Fl} {ss : List St} {p : List Be} (hall : HallOK fs ss) (hp : PlOK p) : ∀ k, k ≤ fs.length →
    (inspN fs ss p k = none → ∀ f : Int, 0 ≤ f → f < k → ∀ n, ¬ Bad fs ss p f n) ∧
    (∀ c n f, inspN fs ss p k = some ((c, n), f) → 0 ≤ f ∧ f < k ∧ Bad fs ss p f n ∧ ∀ g n' : Int, 0 ≤ g → g < k → Bad fs ss p g n' → n < n' ∨ n = n' ∧ f ≤ g)
  | 0, _ => ⟨fun _ f h0 h1 => by omega, fun c n f h => (by cases h)⟩
  | k + 1, hk => by
    obtain ⟨i1, i2⟩ := inspN_spec hall hp k (by omega)
    have l1 := look_none hall hp (show (0 : Int) ≤ k by omega) (show (k : Int) < fs.length by omega)
    have l2 := fun q => look_some (q := q) hall hp (show (0 : Int) ≤ k by omega) (show (k : Int) < fs.length by omega)
    rw [inspN]
    cases hl : lookF fs ss p k with
    | none =>
      have l1' := l1.1 hl
      simp only [inspS]
      refine ⟨fun h f h0 h1 n => ?_, fun c n f h => ?_⟩
      · by_cases e : f = k
        · subst e; exact l1' n
        · exact i1 h f h0 (by omega) n
      · obtain ⟨a0, a1, a2, a3⟩ := i2 c n f h
        refine ⟨a0, by omega, a2, fun g n' g0 g1 hb => ?_⟩
        by_cases e : g = k
        · subst e; exact absurd hb (l1' n')
        · exact a3 g n' g0 (by omega) hb
    | some z =>
      obtain ⟨z1, z2⟩ := l2 z hl
      simp only [inspS]
      cases hi : inspN fs ss p k with
      | none =>
        simp only [inspB, if_true]
        refine ⟨fun h => (by cases h), fun c n f h => ?_⟩
        simp only [Option.some.injEq, Prod.mk.injEq] at h
        obtain ⟨rfl, rfl⟩ := h
        refine ⟨by omega, by omega, z1, fun g n' g0 g1 hb => ?_⟩
        by_cases e : g = k
        · subst e
          rcases Int.lt_trichotomy n n' with h | h | h
          · exact .inl h
          · exact .inr ⟨h, Int.le_refl _⟩
          · exact absurd hb (z2 n' h)
        · exact absurd hb (i1 hi g g0 (by omega) n')
      | some w =>
        obtain ⟨⟨cw, nw⟩, fw⟩ := w
        obtain ⟨a0, a1, a2, a3⟩ := i2 cw nw fw hi
        simp only [inspB, decide_eq_true_eq]
        split
        · rename_i hlt
          refine ⟨fun h => (by cases h), fun c n f h => ?_⟩
          simp only [Option.some.injEq, Prod.mk.injEq] at h
          obtain ⟨rfl, rfl⟩ := h
          refine ⟨by omega, by omega, z1, fun g n' g0 g1 hb => ?_⟩
          by_cases e : g = k
          · subst e
            rcases Int.lt_trichotomy n n' with h | h | h
            · exact .inl h
            · exact .inr ⟨h, Int.le_refl _⟩
            · exact absurd hb (z2 n' h)
          · have := a3 g n' g0 (by omega) hb
            simp only at hlt; left; omega
        · rename_i hlt
          refine ⟨fun h => (by cases h), fun c n f h => ?_⟩
          simp only [Option.some.injEq, Prod.mk.injEq] at h
          obtain ⟨⟨rfl, rfl⟩, rfl⟩ := h
          refine ⟨a0, by omega, a2, fun g n' g0 g1 hb => ?_⟩
          by_cases e : g = k
          · subst e
            have : ¬ n' < z.2 := fun h => z2 n' h hb
            rcases Int.lt_trichotomy nw n' with h | h | h
            · exact .inl h
            · exact .inr ⟨h, by omega⟩
            · omega
          · exact a3 g n' g0 (by omega) hb
/-- ████ A PLAN IS RIGHT if nothing is wrong. -/
theorem insp_none {fs : List Fl} {ss : List St} {p : List Be} (hall : HallOK fs ss) (hp : PlOK p) : inspF fs ss p = none ↔ ∀ f : Int, 0 ≤ f → f < fs.length → ∀ n, ¬ Bad fs ss p f n := by
  obtain ⟨i1, i2⟩ := inspN_spec hall hp fs.length (Nat.le_refl _)
  constructor
  · intro h f h0 h1 n; exact i1 h f h0 h1 n
  · intro h
    cases hi : inspF fs ss p with
    | none => rfl
    | some w =>
      obtain ⟨⟨c, n⟩, f⟩ := w
      obtain ⟨a0, a1, a2, _⟩ := i2 c n f hi
      exact absurd a2 (h f a0 a1 n)
/-! What a search finds -/
/-- A plan in which each strike has one of its berths. -/
structure Valid (fs : List Fl) (ss : List St) (may : May) (p : List Be) : Prop where
  len : p.length = 4
  at_ : ∀ i, i < ss.length → beAt p i ∈ berthsK fs ss may i
  out : ∀ i, ss.length ≤ i → beAt p i = bnone
theorem beAt_set {p : List Be} {k i : Nat} {b : Be} (hk : k < p.length) : beAt (p.set k b) i = if i = k then b else beAt p i := by
  simp only [beAt, List.getD]
  by_cases e : i = k
  · subst e; rw [if_pos rfl, List.getElem?_set_self hk]; rfl
  · rw [if_neg e, List.getElem?_set_ne (Ne.symm e)]
theorem beAt_ext {p q : List Be} (h1 : p.length = 4) (h2 : q.length = 4) (h : ∀ i, i < 4 → beAt p i = beAt q i) : p = q := by
  apply List.ext_getElem?
  intro i
  rcases Nat.lt_or_ge i 4 with hi | hi
  · have := h i hi
    simp only [beAt, List.getD, List.getElem?_eq_getElem (show i < p.length by omega), List.getElem?_eq_getElem (show i < q.length by omega), Option.getD_some] at this ⊢
    rw [this]
  · rw [List.getElem?_eq_none (by omega), List.getElem?_eq_none (by omega)]
/-- The more is set, the more stands. -/
theorem hi_mono {fs : List Fl} {ss : List St} {p q : List Be} {f d : Int} (hall : HallOK fs ss) (hf : 0 ≤ f) (h : ∀ i, i < 4 → beAt q i = beAt p i ∨ (beAt q i).fl < 0) : hiAt fs ss q f d ≤ hiAt fs ss p f d := by
  refine sumK_le fun i hi => ?_
  have hc := (co_ok hall i).1
  rcases h i hi with h | h
  · simp only [hiG, h]; exact Int.le_refl _
  · simp only [hiG]
    rw [if_neg (by omega)]
    split <;> omega
theorem prune_no {fs : List Fl} {ss : List St} {p q : List Be} {b : Be} (hall : HallOK fs ss) (hp : PlOK p) (hq : PlOK q) (hb : b.fl < fs.length) (hr : inspF fs ss p = none) (h : ∀ i, i < 4 → beAt q i = beAt p i ∨ (beAt q i).fl < 0) : prune fs ss q b = false := by
  unfold prune
  split
  · rename_i h0
    cases ho : over (flAt fs b.fl).pl (standsD fs ss q b.fl) with
    | false => rfl
    | true =>
      obtain ⟨i, s, hs, hlt⟩ := over_iff.1 ho
      have hi : i < 22 := by
        rcases Nat.lt_or_ge i 22 with h' | h'
        · exact h'
        · rw [List.getElem?_eq_none (by rw [standsD_len]; exact h')] at hs; cases hs
      rw [standsD_at hall hq h0 hb hi] at hs
      cases hs
      have hm := hi_mono (d := i) hall h0 h
      have := (insp_none hall hp).1 hr b.fl h0 hb i
      exact absurd (.inl ⟨by omega, by omega, by simp only at hlt; omega⟩) this
  · rfl
theorem mem_rights {fs : List Fl} {ss : List St} {may : May} (hall : HallOK fs ss) : ∀ (m k : Nat) (q p : List Be), k + m = ss.length → PlanOf fs ss q → (∀ i, k ≤ i → beAt q i = bnone) →
    (p ∈ rights fs ss may m k q ↔ p.length = 4 ∧ (∀ i, i < k → beAt p i = beAt q i) ∧ (∀ i, k ≤ i → i < ss.length → beAt p i ∈ berthsK fs ss may i) ∧ (∀ i, ss.length ≤ i → beAt p i = bnone) ∧ inspF fs ss p = none)
  | 0, k, q, p, hk, hq, hn => by
    rw [rights]
    constructor
    · intro h
      split at h
      · rename_i hi
        have : p = q := by simpa using h
        subst this
        exact ⟨hq.ok.len, fun _ _ => rfl, fun i h1 h2 => by omega, fun i h1 => hn i (by omega), by simpa using hi⟩
      · cases h
    · rintro ⟨h1, h2, h3, h4, h5⟩
      have : p = q := beAt_ext h1 hq.ok.len fun i hi => by
        rcases Nat.lt_or_ge i k with h | h
        · exact h2 i h
        · rw [h4 i (by omega), hn i h]
      subst this
      simp [h5]
  | m + 1, k, q, p, hk, hq, hn => by
    have hk4 : k < q.length := by have := hall.ns; have := hq.ok.len; omega
    have hbn : ∀ b, beAt (q.set k b) k = b := fun b => by rw [beAt_set hk4, if_pos rfl]
    have hsn : ∀ b i, k + 1 ≤ i → beAt (q.set k b) i = bnone := fun b i hi => by rw [beAt_set hk4, if_neg (by omega)]; exact hn i (by omega)
    have hso : ∀ b i, i < k → beAt (q.set k b) i = beAt q i := fun b i hi => by rw [beAt_set hk4, if_neg (by omega)]
    rw [rights, List.mem_flatMap]
    constructor
    · rintro ⟨b, hb, hp⟩
      split at hp
      · cases hp
      · obtain ⟨h1, h2, h3, h4, h5⟩ := (mem_rights hall m (k + 1) (q.set k b) p (by omega) (plan_set hq (by omega) (berth_ok hall (by omega) hb)) (hsn b)).1 hp
        refine ⟨h1, fun i hi => ?_, fun i hi hi2 => ?_, h4, h5⟩
        · rw [h2 i (by omega), hso b i hi]
        · by_cases e : i = k
          · subst e; rw [h2 i (by omega), hbn]; exact hb
          · exact h3 i (by omega) hi2
    · rintro ⟨h1, h2, h3, h4, h5⟩
      have hb := h3 k (Nat.le_refl _) (by omega)
      have hset := plan_set (k := k) hq (by omega) (berth_ok hall (by omega) hb)
      have hpre : ∀ i, i < 4 → beAt (q.set k (beAt p k)) i = beAt p i ∨ (beAt (q.set k (beAt p k)) i).fl < 0 := fun i hi => by
        rcases Nat.lt_trichotomy i k with h | h | h
        · left; rw [hso _ i h, h2 i h]
        · left; subst h; rw [hbn]
        · right; rw [hsn _ i (by omega)]; simp [bnone]
      have hpOK : PlOK p := ⟨h1, fun b hb => by
        obtain ⟨i, hi, rfl⟩ := List.mem_iff_getElem.1 hb
        have e : p[i] = beAt p i := by simp [beAt, List.getD, List.getElem?_eq_getElem hi]
        rw [e]
        rcases Nat.lt_or_ge i k with h | h
        · rw [h2 i h]; exact (beAt_some hq.ok (by omega)).2
        · rcases Nat.lt_or_ge i ss.length with h' | h'
          · have := berth_ok hall h' (h3 i h h'); omega
          · rw [h4 i h']; simp [bnone]⟩
      refine ⟨beAt p k, hb, ?_⟩
      rw [if_neg (by rw [prune_no hall hpOK hset.ok (berth_ok hall (by omega) hb).2.2.1 h5 hpre]; simp)]
      refine (mem_rights hall m (k + 1) _ p (by omega) hset (hsn _)).2 ⟨h1, fun i hi => ?_, fun i hi hi2 => h3 i (by omega) hi2, h4, h5⟩
      by_cases e : i = k
      · subst e; rw [hbn]
      · rw [hso _ i (by omega), h2 i (by omega)]
theorem beAt_nil (i : Nat) : beAt (padB []) i = bnone := beAt_p0 i
/-- ████ A SEARCH FINDS the right ones of the plans in which each strike has a berth that it may have. -/
theorem mem_rightsOf {fs : List Fl} {ss : List St} {may : May} (hall : HallOK fs ss) {p : List Be} : p ∈ rightsOf fs ss may [] ↔ Valid fs ss may p ∧ inspF fs ss p = none := by
  rw [rightsOf, List.length_nil, mem_rights hall _ _ _ _ (by omega) (pad_nil hall.nf.1) (fun i _ => beAt_nil i)]
  constructor
  · rintro ⟨h1, _, h3, h4, h5⟩; exact ⟨⟨h1, fun i hi => h3 i (Nat.zero_le _) hi, h4⟩, h5⟩
  · rintro ⟨⟨h1, h2, h3⟩, h4⟩; exact ⟨h1, fun i hi => by omega, fun i _ hi => h2 i hi, h3, h4⟩
theorem mem_allF {fs : List Fl} {ss : List St} {may : May} (hall : HallOK fs ss) {p : List Be} : p ∈ allF fs ss may ↔ Valid fs ss may p ∧ inspF fs ss p = none := by
  unfold allF
  split
  · exact mem_rightsOf hall
  · rename_i hs
    have h0 : 0 < (padB []).length := by decide
    rw [List.mem_flatMap]
    have hb1 : ∀ b, b ∈ berthsK fs ss may 0 → (p ∈ rightsOf fs ss may [b] ↔ p.length = 4 ∧ (∀ i, i < 1 → beAt p i = beAt ((padB []).set 0 b) i) ∧ (∀ i, 1 ≤ i → i < ss.length → beAt p i ∈ berthsK fs ss may i) ∧ (∀ i, ss.length ≤ i → beAt p i = bnone) ∧ inspF fs ss p = none) := fun b hb => by
      rw [rightsOf, List.length_singleton, pad_one]
      exact mem_rights hall _ _ _ _ (by omega) (plan_set (pad_nil hall.nf.1) (by omega) (berth_ok hall (by omega) hb)) (fun i hi => by rw [beAt_set h0, if_neg (by omega)]; exact beAt_nil i)
    constructor
    · rintro ⟨b, hb, hp⟩
      obtain ⟨h1, h2, h3, h4, h5⟩ := (hb1 b hb).1 hp
      refine ⟨⟨h1, fun i hi => ?_, h4⟩, h5⟩
      by_cases e : i = 0
      · subst e; rw [h2 0 (by omega), beAt_set h0, if_pos rfl]; exact hb
      · exact h3 i (by omega) hi
    · rintro ⟨⟨h1, h2, h3⟩, h4⟩
      refine ⟨beAt p 0, h2 0 (by omega), (hb1 _ (h2 0 (by omega))).2 ⟨h1, fun i hi => ?_, fun i _ hi => h2 i hi, h3, h4⟩⟩
      have : i = 0 := by omega
      subst this
      rw [beAt_set h0, if_pos rfl]
theorem mem_daysFrom_iff {f : Int} : ∀ {m : Nat} {d : Int} {b : Be}, b ∈ daysFrom f d m ↔ b.fl = f ∧ d ≤ b.day ∧ b.day < d + m
  | 0, d, b => by
    constructor
    · intro h; simp [daysFrom] at h
    · intro h; omega
  | m + 1, d, b => by
    rw [daysFrom, List.mem_cons, mem_daysFrom_iff]
    constructor
    · rintro (rfl | h)
      · simp; omega
      · omega
    · rintro ⟨h1, h2, h3⟩
      by_cases e : b.day = d
      · left; obtain ⟨x, y⟩ := b; simp at h1 e; rw [h1, e]
      · right; omega
theorem mem_floorsFrom_iff {s : St} : ∀ {m : Nat} {f : Int} {b : Be}, b ∈ floorsFrom s f m ↔ f ≤ b.fl ∧ b.fl < f + m ∧ s.day ≤ b.day ∧ b.day < s.day + (s.wa + 1).toNat
  | 0, f, b => by simp [floorsFrom]; omega
  | m + 1, f, b => by
    rw [floorsFrom, List.mem_append, mem_daysFrom_iff, mem_floorsFrom_iff]
    omega
theorem mem_berths {fs : List Fl} {ss : List St} {may : May} {k : Nat} {b : Be} : b ∈ berthsK fs ss may k ↔ (may k).2 = true ∧ b = bnone ∨ (may k).1 = true ∧ 0 ≤ b.fl ∧ b.fl < fs.length ∧ (stAt ss k).day ≤ b.day ∧ b.day < (stAt ss k).day + ((stAt ss k).wa + 1).toNat := by
  rw [berthsK, List.mem_append]
  have e1 : b ∈ (if (may k).2 then [bnone] else []) ↔ (may k).2 = true ∧ b = bnone := by
    split <;> simp [*]
  have e2 : b ∈ (if (may k).1 then floorsFrom (stAt ss k) 0 fs.length else []) ↔ (may k).1 = true ∧ b ∈ floorsFrom (stAt ss k) 0 fs.length := by
    split <;> simp [*]
  rw [e1, e2, mem_floorsFrom_iff]
  simp
end Go.Mus

/- The best plans; when all strikes can be set; the first that can't. Conditions: none. -/
namespace Go.Mus
/-! Each plan once -/
theorem daysFrom_nodup {f : Int} : ∀ (m : Nat) (d : Int), (daysFrom f d m).Nodup
  | 0, _ => .nil
  | m + 1, d => by
    rw [daysFrom, List.nodup_cons]
    refine ⟨fun h => ?_, daysFrom_nodup m (d + 1)⟩
    have := (mem_daysFrom h).2.1
    simp only at this; omega
theorem floorsFrom_nodup {s : St} : ∀ (m : Nat) (f : Int), (floorsFrom s f m).Nodup
  | 0, _ => .nil
  | m + 1, f => by
    rw [floorsFrom, List.nodup_append]
    refine ⟨daysFrom_nodup _ _, floorsFrom_nodup m (f + 1), fun a ha b hb e => ?_⟩
    subst e
    have h1 := (mem_daysFrom ha).1
    have h2 := (mem_floorsFrom hb).1
    omega
theorem berthsK_nodup {fs : List Fl} {ss : List St} {may : May} {k : Nat} : (berthsK fs ss may k).Nodup := by
  rw [berthsK, List.nodup_append]
  refine ⟨by split <;> simp, ?_, fun a ha b hb e => ?_⟩
  · split
    · exact floorsFrom_nodup _ _
    · exact .nil
  subst e
  split at ha
  · have : a = bnone := by simpa using ha
    subst this
    split at hb
    · have := (mem_floorsFrom hb).1; simp [bnone] at this
    · cases hb
  · cases ha
theorem rights_at {fs : List Fl} {ss : List St} {may : May} (hall : HallOK fs ss) {m k : Nat} {q p : List Be} {b : Be} (hk : k + 1 + m = ss.length) (hq : PlanOf fs ss q) (hn : ∀ i, k ≤ i → beAt q i = bnone) (hb : b ∈ berthsK fs ss may k) (h : p ∈ rights fs ss may m (k + 1) (q.set k b)) : beAt p k = b := by
  have hk4 : k < q.length := by have := hall.ns; have := hq.ok.len; omega
  have := ((mem_rights hall m (k + 1) (q.set k b) p (by omega) (plan_set hq (by omega) (berth_ok hall (by omega) hb)) (fun i hi => by rw [beAt_set hk4, if_neg (by omega)]; exact hn i (by omega))).1 h).2.1 k (by omega)
  rw [this, beAt_set hk4, if_pos rfl]
theorem rights_nodup {fs : List Fl} {ss : List St} {may : May} (hall : HallOK fs ss) : ∀ (m k : Nat) (q : List Be), k + m = ss.length → PlanOf fs ss q → (∀ i, k ≤ i → beAt q i = bnone) → (rights fs ss may m k q).Nodup
  | 0, k, q, _, _, _ => by
    rw [rights]; split <;> simp
  | m + 1, k, q, hk, hq, hn => by
    have hk4 : k < q.length := by have := hall.ns; have := hq.ok.len; omega
    rw [rights, List.Nodup, List.pairwise_flatMap]
    refine ⟨fun b hb => ?_, ?_⟩
    · split
      · exact .nil
      · exact rights_nodup hall m (k + 1) _ (by omega) (plan_set hq (by omega) (berth_ok hall (by omega) hb)) (fun i hi => by rw [beAt_set hk4, if_neg (by omega)]; exact hn i (by omega))
    · refine (berthsK_nodup (fs := fs) (ss := ss) (may := may) (k := k)).imp_of_mem fun {a b} ha hb hab x hx y hy e => ?_
      subst e
      split at hx
      · cases hx
      · split at hy
        · cases hy
        · exact hab ((rights_at hall (by omega) hq hn ha hx).symm.trans (rights_at hall (by omega) hq hn hb hy))
theorem allF_nodup {fs : List Fl} {ss : List St} {may : May} (hall : HallOK fs ss) : (allF fs ss may).Nodup := by
  unfold allF
  split
  · exact rights_nodup hall _ _ _ (by simp) (pad_nil hall.nf.1) (fun i _ => beAt_nil i)
  · rename_i hs
    have hall1 : ∀ b, b ∈ berthsK fs ss may 0 → ∀ i, 1 ≤ i → beAt ((padB []).set 0 b) i = bnone := fun b _ i hi => by rw [beAt_set (by decide), if_neg (by omega)]; exact beAt_nil i
    rw [List.Nodup, List.pairwise_flatMap]
    refine ⟨fun b hb => ?_, ?_⟩
    · rw [rightsOf, List.length_singleton, pad_one]
      exact rights_nodup hall _ _ _ (by omega) (plan_set (pad_nil hall.nf.1) (by omega) (berth_ok hall (by omega) hb)) (hall1 b hb)
    · refine (berthsK_nodup (fs := fs) (ss := ss) (may := may) (k := 0)).imp_of_mem fun {a b} ha hb hab x hx y hy e => ?_
      subst e
      rw [rightsOf, List.length_singleton, pad_one] at hx hy
      exact hab ((rights_at hall (by omega) (pad_nil hall.nf.1) (fun i _ => beAt_nil i) ha hx).symm.trans (rights_at hall (by omega) (pad_nil hall.nf.1) (fun i _ => beAt_nil i) hb hy))

/-! The best -/
theorem filter_none {α : Type} {l : List α} {f : α → Bool} (h : ∀ q ∈ l, f q = false) : l.filter f = [] := List.filter_eq_nil_iff.2 fun q hq => by rw [h q hq]; simp
/-- What is kept while plans are looked at. -/
structure BInv (ss : List St) (l : List (List Be)) (s : (Int × List (List Be)) × List (List Be)) : Prop where
  met : s.2 = l
  top : l ≠ [] → (∃ q ∈ l, loavesF ss q = s.1.1) ∧ ∀ q ∈ l, loavesF ss q ≤ s.1.1
  out : s.1.2 = l.filter fun q => decide (loavesF ss q = s.1.1)
theorem BInv.step {ss : List St} {l : List (List Be)} {s : (Int × List (List Be)) × List (List Be)} {p : List Be} (H : BInv ss l s) (hp : p ∉ l) : BInv ss (l ++ [p]) (bstep ss s p) := by
  obtain ⟨⟨m, out⟩, met⟩ := s
  obtain ⟨h1, h2, h3⟩ := H
  simp only at h1 h2 h3
  subst h1
  obtain ⟨n, hn⟩ : ∃ n, loavesF ss p = n := ⟨_, rfl⟩
  simp only [bstep, if_neg hp, addM, hn]
  have hpf : ∀ c, [p].filter (fun q => decide (loavesF ss q = c)) = if n = c then [p] else [] := fun c => by
    rw [List.filter_cons]; simp [hn]
  rcases met with _ | ⟨q0, r0⟩
  · have h0 : out = [] := h3
    subst h0
    simp only [true_or, if_true, List.nil_append]
    refine ⟨rfl, fun _ => ⟨⟨p, by simp, hn⟩, fun q hq => ?_⟩, by simp only; rw [hpf, if_pos rfl]⟩
    have : q = p := by simpa using hq
    subst this; simp only; omega
  · obtain ⟨⟨q1, hq1, hq2⟩, htop⟩ := h2 (by simp)
    have hne : (q0 :: r0).filter (fun q => decide (loavesF ss q = m)) ≠ [] := fun e => by
      have := List.filter_eq_nil_iff.1 e q1 hq1
      simp [hq2] at this
    rw [← h3] at hne
    generalize q0 :: r0 = l at *
    by_cases hlt : m < n
    · have hc : out = [] ∨ m < n := .inr hlt
      simp only [if_pos hc, if_true, List.nil_append]
      refine ⟨rfl, fun _ => ⟨⟨p, by simp, hn⟩, fun q hq => ?_⟩, ?_⟩
      · rcases List.mem_append.1 hq with hq | hq
        · have := htop q hq; simp only; omega
        · have : q = p := by simpa using hq
          subst this; simp only; omega
      · simp only
        rw [List.filter_append, hpf, if_pos rfl, filter_none fun q hq => ?_]
        · rfl
        · have := htop q hq
          exact decide_eq_false (by omega)
    · have hc : ¬ (out = [] ∨ m < n) := not_or.2 ⟨hne, hlt⟩
      simp only [if_neg hc]
      by_cases he : n = m
      · rw [if_pos he]
        refine ⟨rfl, fun _ => ⟨⟨p, by simp, hn.trans he⟩, fun q hq => ?_⟩, ?_⟩
        · rcases List.mem_append.1 hq with hq | hq
          · exact htop q hq
          · have : q = p := by simpa using hq
            subst this; simp only; omega
        · simp only
          rw [List.filter_append, hpf, if_pos he, h3]
      · rw [if_neg he]
        refine ⟨rfl, fun _ => ⟨⟨q1, by simp [hq1], hq2⟩, fun q hq => ?_⟩, ?_⟩
        · rcases List.mem_append.1 hq with hq | hq
          · exact htop q hq
          · have : q = p := by simpa using hq
            subst this; simp only; omega
        · simp only
          rw [List.filter_append, hpf, if_neg he, List.append_nil, h3]
theorem BInv.run {ss : List St} : ∀ (r l : List (List Be)) (s : (Int × List (List Be)) × List (List Be)), BInv ss l s → (l ++ r).Nodup → BInv ss (l ++ r) (r.foldl (bstep ss) s)
  | [], l, s, h, _ => by rw [List.append_nil]; exact h
  | p :: r, l, s, h, hnd => by
    rw [List.foldl_cons, show l ++ p :: r = (l ++ [p]) ++ r by simp]
    refine BInv.run r (l ++ [p]) _ (h.step fun hm => ?_) (by simpa using hnd)
    exact (List.nodup_append.1 hnd).2.2 p hm p (by simp) rfl
/-- ████ THE BEST PLANS: of the right ones those with the most loaves, in order. -/
theorem best_spec {fs : List Fl} {ss : List St} (hall : HallOK fs ss) : (∃ q ∈ allF fs ss freeM, loavesF ss q = (bestF fs ss).1) ∧ (∀ q ∈ allF fs ss freeM, loavesF ss q ≤ (bestF fs ss).1) ∧ (bestF fs ss).2 = (allF fs ss freeM).filter fun q => decide (loavesF ss q = (bestF fs ss).1) := by
  have h := BInv.run (ss := ss) (allF fs ss freeM) [] ((0, []), []) ⟨rfl, fun h => absurd rfl h, rfl⟩ (allF_nodup hall)
  rw [List.nil_append] at h
  have hne : allF fs ss freeM ≠ [] := fun e => by have := allF_p0 hall; rw [e] at this; cases this
  exact ⟨(h.top hne).1, (h.top hne).2, h.out⟩

/-! Loaves -/
/-! Whether all can be set -/
theorem some_iff {fs : List Fl} {ss : List St} {may : May} (hall : HallOK fs ss) : someR fs ss may = true ↔ ∃ p, Valid fs ss may p ∧ inspF fs ss p = none := by
  have : someR fs ss may = true ↔ ∃ p, p ∈ rightsOf fs ss may [] := by
    simp only [someR, Bool.not_eq_true', List.isEmpty_eq_false_iff_exists_mem]
  rw [this]
  exact exists_congr fun p => mem_rightsOf hall
end Go.Mus

/- The first strikes of a plant alone; which strike is late. Conditions: none. -/
namespace Go.Mus
end Go.Mus

/- A plant without its last strike. Conditions: none; over the given program. -/
namespace Go.Mus
set_option maxRecDepth 100000
set_option maxHeartbeats 4000000
end Go.Mus

/- The strike that is late, and the best plan's length. Conditions: none. -/
namespace Go.Mus
end Go.Mus

/- Whether all strikes of a plant are set in its best plan; the strike that is late, asked of the best plans. Conditions: none; over the given program. -/
namespace Go.Mus
set_option maxRecDepth 100000
set_option maxHeartbeats 4000000
end Go.Mus

/- Strikes that wait longer; with which patience all can be set. Conditions: none; over the given program. -/
namespace Go.Mus
set_option maxRecDepth 100000
set_option maxHeartbeats 4000000
theorem Ops.freezeOs {x : Cx} {ops : Array Oper} {td : List Nat} {Q : Post} {ρ : Env} {ds : List Deferred} {A F : Frag} {α : Type} {row : α → List Value} {w : Nat} [Rw row w] {E : TypeId} {v : Value} {l : List α} (hs : Os E row v l A)
    (H : ∀ h', Ext x.h h' → Sl h' row v l → Zs h' v → Ops { x with h := h' } ops td Q ρ ds F) : Ops x ops td Q ρ ds (A ++ F) := by
  rcases hs with ⟨rfl, rfl, hsh⟩ | ⟨β, cc, cap, J, rfl, rfl, h1, h2, h3, hsh⟩
  · exact Ops.sb (Sb.left .refl hsh) (H x.h ⟨fun _ _ q => q, fun _ q => q⟩ .nil (fun b off n cap e => by cases e))
  · refine Ops.freeze (b := β) rfl fun h' hE hb hz => ?_
    refine Ops.sb (F' := F) (Sb.left .refl hsh) (H h' hE (.mk hb rfl h3) (fun b off n cap e => by cases e; exact hz))
end Go.Mus

/- A floor with other places; how many it needs. Conditions: none; over the given program. -/
namespace Go.Mus
set_option maxRecDepth 100000
set_option maxHeartbeats 4000000
/-- A floor's cells. -/
theorem Part.setR {α : Type} {row : α → List Value} {w : Nat} [Rw row w] {c : Array Value} {l : List α} {j : Nat} {p : α} (q : α) (k : Nat) (x : Value) (hk : k < w) (h : Part c 0 (flat row l)) (hj : l[j]? = some p) (hq : row q = (row p).set k x) : Part (c.setIfInBounds (j * w + k) x) 0 (flat row (l.set j q)) := by
  obtain ⟨pre, post, h1, h2⟩ := h
  have : pre = [] := List.length_eq_zero_iff.1 h2
  subst this
  refine ⟨[], post, ?_, rfl⟩
  have hlt : j < l.length := lt_of_get hj
  have hlen : j * w + k < (flat row l).length := by
    rw [flat_len]
    have : (j + 1) * w ≤ l.length * w := Nat.mul_le_mul_right _ hlt
    rw [Nat.succ_mul] at this; omega
  simp only [Array.toList_setIfInBounds, h1, List.nil_append]
  rw [List.set_append_left _ _ hlen]
  congr 1
  clear h1 h2 hlen
  induction l generalizing j with
  | nil => simp at hj
  | cons a l ih =>
    cases j with
    | zero =>
      simp only [List.getElem?_cons_zero, Option.some.injEq] at hj
      subst hj
      simp only [flat_cons, List.set_cons_zero, Nat.zero_mul, Nat.zero_add]
      rw [List.set_append_left _ _ (by rw [Rw.len]; exact hk), hq]
    | succ j =>
      have := ih (j := j) (by simpa using hj) (by simpa using hlt)
      simp only [List.set_cons_succ, flat_cons]
      rw [← this, List.set_append_right _ _ (by rw [Rw.len, Nat.succ_mul]; omega)]
      congr 2
      rw [Rw.len, Nat.succ_mul]; omega

/-! Places -/
end Go.Mus

/- How many places a floor needs. Conditions: none; over the given program. -/
namespace Go.Mus
set_option maxRecDepth 100000
set_option maxHeartbeats 4000000
theorem flAt_some {fs : List Fl} {f : Int} (h0 : 0 ≤ f) (h1 : f < fs.length) : fs[f.toNat]? = some (flAt fs f) := by
  obtain ⟨x, hx, -⟩ := has (show f.toNat < fs.length by omega)
  simp [flAt, List.getD, hx]
end Go.Mus

/- What makes plans right more easily, and so the loaves no fewer. Conditions: none. -/
namespace Go.Mus
/-- Where each right plan has one that is as good, the best are as good. -/
theorem best_le {fs fs' : List Fl} {ss ss' : List St} (hall : HallOK fs ss) (hall' : HallOK fs' ss') (H : ∀ p, Valid fs ss freeM p → inspF fs ss p = none → ∃ p', Valid fs' ss' freeM p' ∧ inspF fs' ss' p' = none ∧ loavesF ss p ≤ loavesF ss' p') : (bestF fs ss).1 ≤ (bestF fs' ss').1 := by
  obtain ⟨⟨q, hq, hql⟩, -, -⟩ := best_spec hall
  obtain ⟨-, htop, -⟩ := best_spec hall'
  obtain ⟨hv, hi⟩ := (mem_allF hall).1 hq
  obtain ⟨p', h1, h2, h3⟩ := H q hv hi
  have := htop p' ((mem_allF hall').2 ⟨h1, h2⟩)
  omega
/-! Without a strike -/
end Go.Mus

/- How much slower a floor may be. Conditions: none; over the given program. -/
namespace Go.Mus
set_option maxRecDepth 100000
set_option maxHeartbeats 4000000
/-! Turning a list round -/
end Go.Mus

/- How much slower a floor may be. Conditions: none; over the given program. -/
namespace Go.Mus
set_option maxRecDepth 100000
set_option maxHeartbeats 4000000
end Go.Mus

/- How much slower a floor may be, and that it is so. Conditions: none; over the given program. -/
namespace Go.Mus
set_option maxRecDepth 100000
set_option maxHeartbeats 4000000
end Go.Mus

/- Whether a strike is in the best plans. Conditions: none; over the given program. -/
namespace Go.Mus
set_option maxRecDepth 100000
set_option maxHeartbeats 4000000
end Go.Mus

/- Whether two plants have the same answers. Conditions: none; over the given program. -/
namespace Go.Mus
set_option maxRecDepth 100000
set_option maxHeartbeats 4000000
end Go.Mus

/- Plants whose plans answer to each other; floors with other numbers. Conditions: none. -/
namespace Go.Mus
theorem perm_of_mem {α : Type} [DecidableEq α] {l l' : List α} (h : l.Nodup) (h' : l'.Nodup) (hm : ∀ a, a ∈ l ↔ a ∈ l') : l.Perm l' := by
  rw [List.perm_iff_count]
  intro a
  by_cases ha : a ∈ l
  · have h1 := List.count_pos_iff.2 ha
    have h2 := List.count_pos_iff.2 ((hm a).1 ha)
    have h3 := List.nodup_iff_count.1 h a
    have h4 := List.nodup_iff_count.1 h' a
    omega
  · rw [List.count_eq_zero.2 ha, List.count_eq_zero.2 fun h => ha ((hm a).2 h)]

theorem valid_free {fs : List Fl} {ss : List St} {may : May} {p : List Be} (h : Valid fs ss may p) : Valid fs ss freeM p := by
  refine ⟨h.len, fun i hi => ?_, h.out⟩
  have := h.at_ i hi
  rw [mem_berths] at this ⊢
  rcases this with ⟨_, h1⟩ | ⟨_, h1⟩
  · exact .inl ⟨rfl, h1⟩
  · exact .inr ⟨rfl, h1⟩
/-- Each right plan of the one answers to one of the other. -/
structure Sym (fs fs' : List Fl) (ss ss' : List St) (σ τ : List Be → List Be) : Prop where
  hall : HallOK fs ss
  hall' : HallOK fs' ss'
  len : ss'.length = ss.length
  val : ∀ may p, Valid fs ss may p → Valid fs' ss' may (σ p)
  val' : ∀ may p, Valid fs' ss' may p → Valid fs ss may (τ p)
  rgt : ∀ p, Valid fs ss freeM p → inspF fs ss p = none → inspF fs' ss' (σ p) = none
  rgt' : ∀ p, Valid fs' ss' freeM p → inspF fs' ss' p = none → inspF fs ss (τ p) = none
  inv : ∀ p, Valid fs ss freeM p → τ (σ p) = p
  inv' : ∀ p, Valid fs' ss' freeM p → σ (τ p) = p
  lo : ∀ p, Valid fs ss freeM p → loavesF ss' (σ p) = loavesF ss p
  on : ∀ p i, Valid fs ss freeM p → (0 ≤ (beAt (σ p) i).fl ↔ 0 ≤ (beAt p i).fl)
section
variable {fs fs' : List Fl} {ss ss' : List St} {σ τ : List Be → List Be} (Y : Sym fs fs' ss ss' σ τ)
include Y
theorem Sym.lo' {p : List Be} (h : Valid fs' ss' freeM p) : loavesF ss (τ p) = loavesF ss' p := by
  rw [← Y.lo _ (Y.val' _ _ h), Y.inv' p h]
theorem Sym.top : (bestF fs' ss').1 = (bestF fs ss).1 := by
  have h1 := best_le Y.hall Y.hall' fun p hv hi => ⟨σ p, Y.val _ _ hv, Y.rgt p hv hi, by rw [Y.lo p hv]; exact Int.le_refl _⟩
  have h2 := best_le Y.hall' Y.hall fun p hv hi => ⟨τ p, Y.val' _ _ hv, Y.rgt' p hv hi, by rw [Y.lo' hv]; exact Int.le_refl _⟩
  omega
theorem Sym.all : (allF fs' ss' freeM).Perm ((allF fs ss freeM).map σ) := by
  refine perm_of_mem (allF_nodup Y.hall') ?_ fun p => ?_
  · rw [List.Nodup, List.pairwise_map]
    refine (allF_nodup Y.hall).imp_of_mem fun {a b} ha hb hab e => hab ?_
    rw [← Y.inv a ((mem_allF Y.hall).1 ha).1, e, Y.inv b ((mem_allF Y.hall).1 hb).1]
  · rw [mem_allF Y.hall', List.mem_map]
    constructor
    · rintro ⟨h1, h2⟩
      exact ⟨τ p, (mem_allF Y.hall).2 ⟨Y.val' _ _ h1, Y.rgt' p h1 h2⟩, Y.inv' p h1⟩
    · rintro ⟨q, hq, rfl⟩
      obtain ⟨h1, h2⟩ := (mem_allF Y.hall).1 hq
      exact ⟨Y.val _ _ h1, Y.rgt q h1 h2⟩
theorem Sym.best : (bestF fs' ss').2.Perm ((bestF fs ss).2.map σ) := by
  rw [(best_spec Y.hall').2.2, (best_spec Y.hall).2.2, Y.top]
  refine (Y.all.filter _).trans (.of_eq ?_)
  rw [List.filter_map]
  congr 1
  refine List.filter_congr fun p hp => ?_
  show decide (loavesF ss' (σ p) = _) = _
  rw [Y.lo p ((mem_allF Y.hall).1 hp).1]
theorem Sym.count : (bestF fs' ss').2.length = (bestF fs ss).2.length := by rw [Y.best.length_eq, List.length_map]
theorem Sym.someR (may : May) : someR fs' ss' may = Go.Mus.someR fs ss may := by
  refine Bool.eq_iff_iff.2 ?_
  rw [some_iff Y.hall', some_iff Y.hall]
  constructor
  · rintro ⟨p, h1, h2⟩; exact ⟨τ p, Y.val' _ _ h1, Y.rgt' p (valid_free h1) h2⟩
  · rintro ⟨p, h1, h2⟩; exact ⟨σ p, Y.val _ _ h1, Y.rgt p (valid_free h1) h2⟩
theorem Sym.late : lateF fs' ss' = lateF fs ss := by
  have key : ∀ m n, lateFrom fs' ss' m n = lateFrom fs ss m n := by
    intro m
    induction m with
    | zero => intro n; rfl
    | succ m ih => intro n; rw [lateFrom, lateFrom, Y.someR, ih]
  rw [lateF, lateF, Y.len, key]
end
/-! Floors with other numbers -/
end Go.Mus

/- Floors with other numbers. Conditions: none; over the given program. -/
namespace Go.Mus
set_option maxRecDepth 100000
set_option maxHeartbeats 4000000
end Go.Mus

/- Plans out of a hat; copies of plans. Conditions: none; over the given program. -/
namespace Go.Mus
set_option maxRecDepth 100000
set_option maxHeartbeats 4000000
theorem DupBerths_fn (main : Side) (h : Hp) (l : List Be) (v : Value) (hl : Sl h Be.row v l) (hn : l.length ≤ 1000) : Fnc prog main n_kit_DupBerths #[v] h [] (fun v A => ∃ S, Os t_Berth Be.row v l S ∧ Sb S A) := by
  obtain ⟨a, cap, rfl⟩ := hl.isSl
  refine Fnc.of_body at_kit_DupBerths rfl (by show 1 ≤ 6; decide) [(0, .slice a l.length cap)] ⟨rfl, trivial⟩ ?_
  refine W.seq <| W.region rfl <| qs rfl rfl rfl <| Ops.nil <| thn_n <| W.seq <| W.region rfl ?_
  refine Ops.bsl0 (fun β3 => ?_)
  refine qm rfl rfl rfl ?_
  have hO : Os t_Berth Be.row (.slice (some ⟨β3, 0, none⟩) 0 0) ([] : List Be) [(β3, .cells #[] t_Berth (0, 0))] := .inr ⟨β3, #[], 0, [], rfl, rfl, rfl, Nat.le_refl _, Part.all [], .nil⟩
  refine oe rfl wn rfl rfl (e_append (row := Be.row) (l := []) (l' := l) rfl rfl rfl hO .all (fun h2 hE _ => hl.ext hE) (by simp; omega) (by decide) rfl (fun v' S' hS' => ?_))
  rw [List.nil_append] at hS'
  refine qs rfl rfl rfl <| Ops.nil <| thn_n <| W.ret ?_
  exact lvt (vs := [v']) ⟨S', hS', .refl⟩

theorem ckBerths_app {nf : Int} : ∀ {ss : List St} {l : List Be} {s : St} {b : Be}, ckBerths nf (ss.take l.length) l = 0 → ss[l.length]? = some s → ckBerth nf s b = 0 → ckBerths nf (ss.take (l.length + 1)) (l ++ [b]) = 0
  | [], l, s, b, _, h, _ => by simp at h
  | t :: ss, [], s, b, _, h, hb => by
    simp at h; subst h
    simp [ckBerths, hb]
  | t :: ss, c :: l, s, b, h, hs, hb => by
    simp only [List.length_cons, List.take_succ_cons, List.cons_append, ckBerths] at h ⊢
    split at h
    · rename_i h1
      rw [if_pos h1]
      exact ckBerths_app h (by simpa using hs) hb
    · rename_i h1; exact absurd h h1
theorem ckBerth_ok {nf : Int} {s : St} {b : Be} (hnf : 1 ≤ nf) (h : b = ⟨-1, 0⟩ ∨ 0 ≤ b.fl ∧ b.fl < nf ∧ s.day ≤ b.day ∧ b.day ≤ s.day + s.wa) : ckBerth nf s b = 0 := by
  unfold ckBerth
  rcases h with rfl | h
  · rw [if_neg (by unfold outs; simp only; omega), if_neg (by simp), if_neg (by simp only; omega)]
  · rw [if_neg (by unfold outs; omega), if_neg (by omega), if_neg (by unfold outs; omega)]

theorem BerthsOf_fn (main : Side) (h : Hp) (nums : List Int) (lv : Value) (b k : Nat) (s : Int) (fs : List Fl) (ss : List St) (vf vs : Value) (hl : Sl h rowI lv nums) (hf : Sl h Fl.row vf fs) (hs : Sl h St.row vs ss) (hck : ckPlant fs ss = 0) (hk : k < 2000000000) : Fnc prog main n_kit_BerthsOf #[.pointer (some ⟨b, 0, none⟩), .agg #[vf, vs]] h [(b, hatO lv k s)]
    (fun v A => ∃ l S k' s', Os t_Berth Be.row v l S ∧ ckPlan fs ss l = 0 ∧ k' ≤ k + 100 ∧ Sb ((b, hatO lv k' s') :: S) A) := by
  have hall := hall_ck hck
  have hnf := hall.nf
  have hns := hall.ns
  obtain ⟨a, cap, rfl⟩ := hf.isSl
  obtain ⟨a', cap', rfl⟩ := hs.isSl
  refine Fnc.of_body at_kit_BerthsOf rfl (by show 2 ≤ 46; decide) [(0, .pointer (some ⟨b, 0, none⟩)), (1, .agg #[.slice a fs.length cap, .slice a' ss.length cap'])] ⟨rfl, rfl, trivial⟩ ?_
  refine W.seq <| W.region rfl ?_
  refine Ops.box (cs := #[.slice a fs.length cap, .slice a' ss.length cap']) (fun β3 => ?_) rfl rfl rfl
  refine qs rfl rfl rfl <| Ops.nil <| thn_n <| W.seq <| W.region rfl <| qs rfl rfl rfl <| Ops.nil <| thn_n <| W.seq <| W.seq ?_
  refine W.region rfl <| qs rfl rfl rfl <| Ops.nil <| thn_n <| W.block ?_
  refine W.loop3 (σ := Nat) (τ := List Be × Value × Frag) (υ := Nat × Int) (fun i t u => i ≤ ss.length ∧ t.1.length = i ∧ Os t_Berth Be.row t.2.1 t.1 t.2.2 ∧ ckBerths fs.length (ss.take i) t.1 = 0 ∧ u.1 ≤ k + 3 * i) (fun i t _ => [(6, I i), (5, t.2.1), (3, .pointer (some ⟨β3, 0, none⟩)), (0, .pointer (some ⟨b, 0, none⟩))])
    (fun _ t u => (β3, .cells #[.slice a fs.length cap, .slice a' ss.length cap'] t_Plant (0, 0)) :: (b, hatO lv u.1 u.2) :: t.2.2) (fun i _ _ => ss.length - i) 0 ([], .slice none 0 0, []) (k, s) ⟨Nat.zero_le _, rfl, .nil .nil, by simp [ckBerths], by omega⟩ ⟨rfl, rfl, rfl, rfl, trivial⟩ .refl ?_
  rintro i ⟨l, v, S⟩ ⟨k1, s1⟩ ⟨hi, hlen, hO, hcb, hk1⟩
  simp only at hlen hO hcb hk1 ⊢
  refine W.seq <| W.seq <| W.region rfl <| qm rfl rfl rfl ?_
  refine oq (y_fieldAddr rfl rfl) rfl wn rfl rfl ?_
  refine oq (yld rfl rfl) rfl wn rfl rfl ?_
  refine oq (y_len rfl rfl) rfl wn rfl rfl ?_
  refine oq (y_lss rfl rfl rfl) rfl wn rfl rfl ?_
  refine Ops.nil <| thn_n ?_
  refine W.condp rfl (fun c11 => ?_) (fun c11 => ?_)
  · have hi1 : i < ss.length := by omega
    obtain ⟨t, ht, -⟩ := has hi1
    have hto := hall.st t (List.mem_of_getElem? ht)
    have hto2 := strike_ok hck ht
    obtain ⟨bs, off, c, E, fz, rfl, hb, hx1, hy1, hz1⟩ := hs.at ht
    have hc0 : c[off + i * 3 + 0]? = some (I t.day) := hz1 0 (by decide)
    have hc2 : c[off + i * 3 + 2]? = some (I t.wa) := hz1 2 (by decide)
    clear hx1 hz1
    obtain ⟨va, vc, rfl⟩ := hO.isSl
    refine W.skip <| thn_n <| W.seq <| W.block <| W.seq <| W.seq <| W.region rfl <| qm rfl rfl rfl ?_
    refine cg (A := [(b, _)]) (.tail .head) (fun h' hE hL => Seldom_fn _ h' nums lv b k1 s1 5 (hl.ext hE) (by omega) (by decide)) (fun v A' hv => ?_)
    obtain ⟨r, s2, rfl, hsb⟩ := hv
    refine Ops.sb (.cons (hsb.app .refl)) ?_
    refine Ops.nil <| thn_n ?_
    refine W.cond rfl (fun c15 => ?_) (fun c15 => ?_)
    · refine W.seq <| W.region rfl <| qm rfl rfl rfl ?_
      refine oq (y_build (cs := #[I (-1), I 0]) rfl rfl rfl) rfl wn rfl rfl ?_
      refine Ops.bsl (cs := #[I (-1), I 0]) (fun β18 => ?_) rfl (hf := by kernel_rfl)
      refine oe rfl wn rfl rfl (e_append (row := Be.row) (l' := [⟨-1, 0⟩]) rfl rfl rfl hO (.tail (.tail (.tail .all))) (fun h2 _ hl => Sl.mk (hl β18 _ (.head _)) rfl (Part.all (flat Be.row [⟨-1, 0⟩]))) (by simp; omega) (by decide) rfl (fun v' S' hO' => ?_))
      refine qs rfl rfl rfl <| Ops.nil <| thn_n <| W.exit <| thn_x <| blk_x <| thn_n <| W.region rfl <| qm rfl rfl rfl ?_
      first | refine oq (yadd rfl rfl rfl) rfl wn rfl rfl ?_ | refine oq (y_addw rfl rfl rfl) rfl wn rfl rfl ?_
      refine qs rfl rfl rfl <| Ops.nil <| thn_n ?_
      first
      | exact ⟨rfl, i + 1, (l ++ [⟨-1, 0⟩], v', S'), (k1 + 1, s2), ⟨by omega, by simp [hlen], hO', by subst hlen; exact ckBerths_app hcb ht (ckBerth_ok (by omega) (.inl rfl)), by simp only; omega⟩, by omega, ⟨rfl, rfl, rfl, rfl, trivial⟩, .skip rfl .refl⟩
      | exact ⟨rfl, i + 1, (l ++ [⟨f, t.day + w⟩], _, S'), (k1 + 3, s4), ⟨by omega, by simp [hlen], hO', by subst hlen; exact ckBerths_app hcb ht (ckBerth_ok (by omega) (.inr ⟨by simp only; omega, by simp only; omega, by simp only; omega, by simp only; omega⟩)), by simp only; omega⟩, by omega, ⟨rfl, rfl, rfl, rfl, trivial⟩, .skip rfl .refl⟩
    · refine W.skip <| thn_n ?_
      refine W.drawP1 (n := 26) rfl ?_
      refine aq (i := 0) (y_move rfl rfl) rfl an rfl rfl ?_
      refine aq (i := 1) (y_move rfl rfl) rfl an rfl rfl ?_
      refine aq (i := 2) (y_fieldAddr rfl rfl) rfl an rfl rfl ?_
      refine aq (i := 3) (yld rfl rfl) rfl an rfl rfl ?_
      refine aq (i := 4) (y_len rfl rfl) rfl an rfl rfl ?_
      first | refine aq (i := 5) (ysub rfl rfl rfl) rfl an rfl rfl ?_ | refine aq (i := 5) (y_subw rfl rfl rfl) rfl an rfl rfl ?_
      refine aq (i := 7) (y_fieldAddr rfl rfl) rfl an rfl rfl ?_
      refine aq (i := 8) (yld rfl rfl) rfl an rfl rfl ?_
      refine aq (i := 9) (y_move rfl rfl) rfl an rfl rfl ?_
      first | refine aq (i := 10) (yix rfl rfl rfl) rfl an rfl rfl ?_ | refine aq (i := 10) (yixI rfl rfl rfl) rfl an rfl rfl ?_
      refine aq (i := 11) (y_fieldAddr rfl rfl) rfl an rfl rfl ?_
      refine aq (i := 12) (yld rfl rfl) rfl an rfl rfl ?_
      refine aq (i := 13) (y_move rfl rfl) rfl an rfl rfl ?_
      refine aq (i := 14) (y_fieldAddr rfl rfl) rfl an rfl rfl ?_
      refine aq (i := 15) (yld rfl rfl) rfl an rfl rfl ?_
      refine aq (i := 16) (y_move rfl rfl) rfl an rfl rfl ?_
      first | refine aq (i := 17) (yix rfl rfl rfl) rfl an rfl rfl ?_ | refine aq (i := 17) (yixI rfl rfl rfl) rfl an rfl rfl ?_
      refine aq (i := 18) (y_fieldAddr rfl rfl) rfl an rfl rfl ?_
      refine aq (i := 19) (yld rfl rfl) rfl an rfl rfl ?_
      refine ae (i := 6) rfl an rfl rfl (e_call (A := [(b, _)]) (args := [_, _]) rfl rfl (.tail .head) (fun h' hE hL => To_fn _ h' nums lv b (k1 + 1) s2 ((fs.length : Int) - 1) (hl.ext hE) (by omega) (by omega)) (fun v A' hv => ?_))
      refine ⟨.inr (Keeps.one (.head _) Keeps.nil), ?_⟩
      obtain ⟨f, s3, rfl, hf0, hsb3⟩ := hv
      refine Any.sb (.cons (hsb3.app .refl)) ?_
      refine ae (i := 20) rfl an rfl rfl (e_call (A := [(b, _)]) (args := [_, _]) rfl rfl (.tail .head) (fun h' hE hL => To_fn _ h' nums lv b (k1 + 2) s3 t.wa (hl.ext hE) (by omega) (by omega)) (fun v A' hv => ?_))
      refine ⟨.inr (Keeps.one (.head _) Keeps.nil), ?_⟩
      obtain ⟨w, s4, rfl, hw0, hsb4⟩ := hv
      refine Any.sb (.cons (hsb4.app .refl)) ?_
      refine aq (i := 21) (yadd rfl rfl rfl) rfl an rfl rfl ?_
      refine aq (i := 22) (y_build (cs := #[I f, I (t.day + w)]) rfl rfl rfl) rfl an rfl rfl ?_
      refine abl (i := 23) (cs := #[I f, I (t.day + w)]) (fun β43 => ?_) rfl
      refine ae (i := 24) rfl an rfl rfl (e_append (row := Be.row) (l' := [⟨f, t.day + w⟩]) rfl rfl rfl hO (.tail (.tail (.tail .all))) (fun h2 _ hl => Sl.mk (hl β43 _ (.head _)) rfl (Part.all (flat Be.row [⟨f, t.day + w⟩]))) (by simp; omega) (by decide) rfl (fun v' S' hO' => ?_))
      refine ⟨.inr (Keeps.one (.tail _ (.head _)) Keeps.nil), ?_⟩
      obtain ⟨asl, csl, rfl⟩ := hO'.isSl
      refine aq (i := 25) (y_assign rfl rfl) rfl an rfl rfl ?_
      refine az ?_
      refine blk_n <| thn_n <| W.region rfl <| qm rfl rfl rfl ?_
      first | refine oq (yadd rfl rfl rfl) rfl wn rfl rfl ?_ | refine oq (y_addw rfl rfl rfl) rfl wn rfl rfl ?_
      refine qs rfl rfl rfl <| Ops.nil <| thn_n ?_
      first
      | exact ⟨rfl, i + 1, (l ++ [⟨-1, 0⟩], v', S'), (k1 + 1, s2), ⟨by omega, by simp [hlen], hO', by subst hlen; exact ckBerths_app hcb ht (ckBerth_ok (by omega) (.inl rfl)), by simp only; omega⟩, by omega, ⟨rfl, rfl, rfl, rfl, trivial⟩, .skip rfl .refl⟩
      | exact ⟨rfl, i + 1, (l ++ [⟨f, t.day + w⟩], _, S'), (k1 + 3, s4), ⟨by omega, by simp [hlen], hO', by subst hlen; exact ckBerths_app hcb ht (ckBerth_ok (by omega) (.inr ⟨by simp only; omega, by simp only; omega, by simp only; omega, by simp only; omega⟩)), by simp only; omega⟩, by omega, ⟨rfl, rfl, rfl, rfl, trivial⟩, .skip rfl .refl⟩
  · have hil : i = ss.length := by omega
    refine W.exit <| thn_x <| thn_x <| blk_x <| thn_n <| W.seq <| W.region rfl <| qm rfl rfl rfl <| qs rfl rfl rfl <| Ops.nil ?_
    refine thn_n <| W.ret ?_
    refine lvt (vs := [_]) ⟨l, S, k1, s1, hO, ?_, by omega, .skip rfl .refl⟩
    subst hil
    rw [List.take_length] at hcb
    unfold ckPlan
    rw [if_neg (by simp [hck]), if_neg (by omega), if_neg (by omega)]
    exact hcb
end Go.Mus

/- Small plants and plans out of a hat; plans a day later. Conditions: none; over the given program. -/
namespace Go.Mus
set_option maxRecDepth 100000
set_option maxHeartbeats 4000000
end Go.Mus

/- All strikes a day later. Conditions: none. -/
namespace Go.Mus
section
variable {fs : List Fl} {ss : List St}
/-! The searches -/
end
end Go.Mus

/- All strikes a day later: the same answers, a day later. Conditions: none. -/
namespace Go.Mus
section
variable {fs : List Fl} {ss : List St}
variable (hck : ckPlant fs ss = 0) (h11 : ∀ s ∈ ss, s.day ≤ 11)
include hck h11
end
/-! A plan a day later -/
theorem ask_ok {fs : List Fl} {ss : List St} {l : List Be} {ns : List Int} (h : ckPlan fs ss l = 0) (hb : badF fs.length ns = false) : askE fs ss l ns = 0 := by
  unfold askE; rw [if_neg (by simp [h]), if_neg (by simp [hb])]
end Go.Mus

/- Operations that come up in any order and only add to what is owned. Conditions: none; over any program. -/
namespace Go.Mus
/-- What is said of one that adds: its number, its slot, what it bears with what it adds. -/
abbrev Spc := Nat × Nat × (Value → Frag → Prop)
def waits (ops : Array Oper) : Nat → Nat → Nat → Bool
  | 0, _, _ => false
  | n + 1, k, b => match ops[k]? with | some o => o.after.any fun e => bindsTo e && (Nat.beq e.on b || waits ops n e.on b) | none => false
def bagT (ops : Array Oper) (listed : Nat) (B : List Nat) : Bool :=
  closedT ops listed && (List.range ops.size).all (fun k => (match ops[k]? with | some o => o.after.all fun e => !bindsTo e || Nat.blt e.on k | none => true) && (listed.testBit k || B.any (Nat.beq k) || B.all fun b => waits ops 6 k b)) && B.all (fun b => Nat.blt b ops.size && !listed.testBit b)

theorem waits_spec {ops : Array Oper} {listed : Nat} (hc : Closed ops listed) : ∀ (n k b : Nat) (o : Oper), ops[k]? = some o → (∀ e ∈ o.after, bindsTo e = true → listed.testBit e.on = true) → waits ops n k b = true → listed.testBit b = true
  | 0, k, b, o, _, _, h => by simp [waits] at h
  | n + 1, k, b, o, ho, hall, h => by
    simp only [waits, ho, Array.any_eq_true, Bool.and_eq_true, Bool.or_eq_true] at h
    obtain ⟨i, hi, h1, h2⟩ := h
    have h3 := hall _ (Array.getElem_mem hi) h1
    rcases h2 with h2 | h2
    · rw [← Nat.eq_of_beq_eq_true h2]; exact h3
    · cases ho' : ops[o.after[i].on]? with
      | none => cases n with
        | zero => simp [waits] at h2
        | succ n => simp [waits, ho'] at h2
      | some o' => exact waits_spec hc n _ b o' ho' (fun e he hb => hc _ o' ho' h3 e he hb) h2

structure BagI (ops : Array Oper) (listed : Nat) (B : List Nat) : Prop where
  cl : Closed ops listed
  low : ∀ k o, ops[k]? = some o → ∀ e ∈ o.after, bindsTo e = true → e.on < k
  or : ∀ k, k < ops.size → listed.testBit k = false → k ∈ B ∨ ∀ b ∈ B, waits ops 6 k b = true
  un : ∀ b ∈ B, b < ops.size ∧ listed.testBit b = false
  nd : B.Nodup

theorem bagT_spec {ops : Array Oper} {listed : Nat} {B : List Nat} (h : bagT ops listed B = true) (hn : B.Nodup) : BagI ops listed B := by
  simp only [bagT, Bool.and_eq_true, List.all_eq_true, List.mem_range, Bool.or_eq_true, Bool.not_eq_true'] at h
  obtain ⟨⟨h1, h2⟩, h3⟩ := h
  refine ⟨closedT_spec h1, fun k o hk e he hb => ?_, fun k hk hl => ?_, fun b hb => ⟨?_, (h3 b hb).2⟩, hn⟩
  · have hlt : k < ops.size := by
      rcases Nat.lt_or_ge k ops.size with h' | h'
      · exact h'
      · rw [Array.getElem?_eq_none h'] at hk; cases hk
    have := (h2 k hlt).1
    simp only [hk, Array.all_eq_true_iff_forall_mem, Bool.or_eq_true, Bool.not_eq_true'] at this
    rcases this e he with h' | h'
    · rw [hb] at h'; cases h'
    · exact Nat.le_of_ble_eq_true h'
  · rcases (h2 k hk).2 with (h' | h') | h'
    · rw [hl] at h'; cases h'
    · obtain ⟨b, hb, e⟩ := List.any_eq_true.1 h'
      rw [Nat.eq_of_beq_eq_true e]; exact .inl hb
    · exact .inr fun b hb => h' b hb
  · exact Nat.le_of_ble_eq_true (h3 b hb).1

theorem BagI.some {ops : Array Oper} {listed : Nat} {B : List Nat} (h : BagI ops listed B) {b : Nat} (hb : b ∈ B) : rdys ops listed ≠ [] := by
  have key : ∀ (n k : Nat), k < n → k < ops.size → listed.testBit k = false → ∃ i, rdy ops listed i = true := by
    intro n
    induction n with
    | zero => intro k hk; omega
    | succ n ih =>
      intro k hk hlt hl
      by_cases hr : rdy ops listed k = true
      · exact ⟨k, hr⟩
      · simp only [rdy, Array.getElem?_eq_getElem hlt, hl, Bool.not_false, Bool.true_and, Array.all_eq_true_iff_forall_mem, Bool.or_eq_true, Bool.not_eq_true'] at hr
        have : ∃ e ∈ (ops[k]).after, bindsTo e = true ∧ listed.testBit e.on = false := by
          refine Classical.byContradiction fun hn => hr fun e he => ?_
          cases hbe : bindsTo e with
          | false => exact .inl rfl
          | true =>
            cases ht : listed.testBit e.on with
            | true => exact .inr rfl
            | false => exact absurd ⟨e, he, hbe, ht⟩ hn
        obtain ⟨e, he, h1, h2⟩ := this
        have := h.low k _ (Array.getElem?_eq_getElem hlt) e he h1
        exact ih e.on (by omega) (by omega) h2
  obtain ⟨i, hi⟩ := key (b + 1) b (by omega) (h.un b hb).1 (h.un b hb).2
  intro e
  have := mem_rdys.2 hi
  rw [e] at this
  cases this

theorem BagI.inB {ops : Array Oper} {listed : Nat} {B : List Nat} (h : BagI ops listed B) {b j : Nat} (hb : b ∈ B) (hj : rdy ops listed j = true) : j ∈ B := by
  obtain ⟨oj, hoj, hun, hall⟩ := rdy_op hj
  rcases h.or j (rdy_lt hj) hun with h' | h'
  · exact h'
  · have := waits_spec h.cl 6 j b oj hoj hall (h' b hb)
    rw [(h.un b hb).2] at this
    cases this

theorem BagI.step {ops : Array Oper} {listed j : Nat} {B1 B2 : List Nat} (h : BagI ops listed (B1 ++ j :: B2)) (hj : rdy ops listed j = true) : BagI ops (listed ||| 2 ^ j) (B1 ++ B2) := by
  have hnd : j ∉ B1 ++ B2 := by
    have := (List.perm_middle (a := j) (l₁ := B1) (l₂ := B2)).nodup_iff.1 h.nd
    exact (List.nodup_cons.1 this).1
  refine ⟨h.cl.step hj, h.low, fun k hk hl => ?_, fun b hb => ?_, ?_⟩
  · rw [testBit_or, Bool.or_eq_false_iff] at hl
    have hne : j ≠ k := by simpa using hl.2
    rcases h.or k hk hl.1 with h' | h'
    · left
      rcases List.mem_append.1 h' with h' | h'
      · exact List.mem_append_left _ h'
      · rcases List.mem_cons.1 h' with h' | h'
        · exact absurd h'.symm hne
        · exact List.mem_append_right _ h'
    · right
      intro b hb
      refine h' b ?_
      rcases List.mem_append.1 hb with hb | hb
      · exact List.mem_append_left _ hb
      · exact List.mem_append_right _ (List.mem_cons_of_mem _ hb)
  · have hb' : b ∈ B1 ++ j :: B2 := by
      rcases List.mem_append.1 hb with hb | hb
      · exact List.mem_append_left _ hb
      · exact List.mem_append_right _ (List.mem_cons_of_mem _ hb)
    refine ⟨(h.un b hb').1, ?_⟩
    rw [testBit_or, (h.un b hb').2, Bool.false_or, decide_eq_false_iff_not]
    rintro rfl
    exact hnd hb
  · have := (List.perm_middle (a := j) (l₁ := B1) (l₂ := B2)).nodup_iff.1 h.nd
    exact (List.nodup_cons.1 this).2

/-- All of them have come up, with whatever they bear. -/
def bagK : List Spc → (Ev → Frag → Prop) → Ev → Frag → Prop
  | [], K, ε, F => K ε F
  | (_, d, P) :: r, K, ε, F => ∀ v A, P v A → bagK r K (upd ε (some d) v) (A ++ F)
theorem bagK_perm {K : Ev → Frag → Prop} (hK : ∀ ε F F', F'.Perm F → K ε F' → K ε F) : ∀ {B : List Spc} {ε : Ev} {F F' : Frag}, F'.Perm F → bagK B K ε F' → bagK B K ε F
  | [], ε, F, F', p, h => hK ε F F' p h
  | (_, d, P) :: r, ε, F, F', p, h => fun v A hv => bagK_perm hK (p.append_left A) (h v A hv)
theorem bagK_pull {K : Ev → Frag → Prop} (hK : ∀ ε F F', F'.Perm F → K ε F' → K ε F) {j d : Nat} {P : Value → Frag → Prop} : ∀ {B1 B2 : List Spc} {ε : Ev} {F : Frag}, (∀ s ∈ B1, s.2.1 ≠ d) → bagK (B1 ++ (j, d, P) :: B2) K ε F → ∀ v A, P v A → bagK (B1 ++ B2) K (upd ε (some d) v) (A ++ F)
  | [], B2, ε, F, _, h, v, A, hv => h v A hv
  | (i, d', P') :: B1, B2, ε, F, hn, h, v, A, hv => fun w C hw => by
    have hne : d' ≠ d := hn _ (List.mem_cons_self ..)
    have := bagK_pull hK (fun s hs => hn s (List.mem_cons_of_mem _ hs)) (h w C hw) v A hv
    rw [upd_comm hne] at this
    refine bagK_perm hK ?_ this
    rw [← List.append_assoc, ← List.append_assoc]
    exact List.perm_append_comm.append_right F

/-- One that adds. -/
def Adds (x : Cx) (ops : Array Oper) (ε : Ev) (s : Spc) : Prop :=
  ∃ o, ops[s.1]? = some o ∧ o.dst = some s.2.1 ∧ slotOK o.dst x.n = true ∧ (∀ c, o.op ≠ .defer c) ∧ o.guard = none ∧ ∀ e, Cons ε e → ∀ F, Run1 x o e F fun v F' => ∃ A F'', F''.Perm F' ∧ s.2.2 v A ∧ F'' = A ++ F

theorem Cons.back {ε : Ev} {d : Nat} {v : Value} {e : Operand → Value} (h : Cons (upd ε (some d) v) e) (hd : ε d = none) : Cons ε e := fun y u hy => h y u (by
  cases y with
  | tmp t =>
    simp only [evε, upd] at hy ⊢
    cases hb : Nat.beq t d with
    | true => rw [Nat.eq_of_beq_eq_true hb, hd] at hy; cases hy
    | false => exact hy
  | _ => exact hy)

theorem anyT_bag {x : Cx} {ops : Array Oper} {L : Frag} {K : Ev → Frag → Prop} (hK : ∀ ε F F', F'.Perm F → K ε F' → K ε F) {fin : Nat} {fuel : Nat} : ∀ (m : Nat) (B : List Spc) (listed : Nat) (ε : Ev) (F : Frag), B.length = m → BagI ops listed (B.map (·.1)) →
    (∀ s ∈ B, Adds x ops ε s) → (∀ s ∈ B, ε s.2.1 = none) → (B.map (·.2.1)).Nodup → (∀ k, fin.testBit k = (listed.testBit k || decide (k ∈ B.map (·.1)))) → Keeps L F →
    bagK B (anyT x ops (Keeps L) K fuel fin) ε F → anyT x ops (Keeps L) K (fuel + m) listed ε F := by
  intro m
  induction m with
  | zero =>
    intro B listed ε F hm hI hA hd hnd hfin hS H
    obtain rfl := List.length_eq_zero_iff.1 hm
    have : fin = listed := Nat.eq_of_testBit_eq fun k => by simpa using hfin k
    subst this
    exact H
  | succ m ih =>
    intro B listed ε F hm hI hA hd hnd hfin hS H
    obtain ⟨b, hb⟩ : ∃ b, b ∈ B.map (·.1) := by
      cases B with
      | nil => simp at hm
      | cons s r => exact ⟨s.1, by simp⟩
    refine ⟨fun h => absurd h (hI.some hb), fun i hi => ?_⟩
    obtain ⟨⟨i', d, P⟩, hs, rfl⟩ := List.mem_map.1 (hI.inB hb hi)
    obtain ⟨B1, B2, rfl⟩ := List.append_of_mem hs
    obtain ⟨o, h1, h2, h3, h4, h5, h6⟩ := hA _ hs
    simp only at h1 h2 h6 hi
    have hmap : (B1 ++ (i', d, P) :: B2).map (·.1) = B1.map (·.1) ++ i' :: B2.map (·.1) := by simp
    have hmap2 : (B1 ++ (i', d, P) :: B2).map (·.2.1) = B1.map (·.2.1) ++ d :: B2.map (·.2.1) := by simp
    rw [hmap] at hI
    rw [hmap2] at hnd
    have hnd2 := (List.perm_middle (a := d) (l₁ := B1.map (·.2.1)) (l₂ := B2.map (·.2.1))).nodup_iff.1 hnd
    have hdn : ∀ s ∈ B1 ++ B2, s.2.1 ≠ d := fun s hs' e => (List.nodup_cons.1 hnd2).1 (by rw [← List.map_append]; exact List.mem_map.2 ⟨s, hs', e⟩)
    have hsub : ∀ s ∈ B1 ++ B2, s ∈ B1 ++ (i', d, P) :: B2 := fun s hs' => by
      rcases List.mem_append.1 hs' with h' | h'
      · exact List.mem_append_left _ h'
      · exact List.mem_append_right _ (List.mem_cons_of_mem _ h')
    refine ⟨o, h1, h3, h4, .inl ⟨by unfold wantε; rw [h5], fun e he => ?_⟩⟩
    have hKp : ∀ ε F F', F'.Perm F → anyT x ops (Keeps L) K fuel fin ε F' → anyT x ops (Keeps L) K fuel fin ε F := fun ε F F' p => anyT_perm (fun _ _ p => Keeps.perm p) hK fuel fin ε F F' p
    refine (h6 e he F).mono fun v F' ⟨A, F'', hp, hv, hF⟩ => ?_
    subst hF
    have hS' : Keeps L F' := Keeps.perm hp fun q hq => List.mem_append_right _ (hS q hq)
    refine ⟨.inr hS', ?_⟩
    rw [h2]
    refine anyT_perm (fun _ _ p => Keeps.perm p) hK _ _ _ _ _ hp ?_
    refine ih (B1 ++ B2) _ _ _ (by simp at hm ⊢; omega) (by rw [List.map_append]; exact hI.step hi) (fun s hs' => ?_) (fun s hs' => ?_) (by rw [List.map_append]; exact (List.nodup_cons.1 hnd2).2) (fun k => ?_) (fun q hq => List.mem_append_right _ (hS q hq)) (bagK_pull hKp (fun s hs' => hdn s (List.mem_append_left _ hs')) H v A hv)
    · obtain ⟨o', a1, a2, a3, a4, a5, a6⟩ := hA s (hsub s hs')
      exact ⟨o', a1, a2, a3, a4, a5, fun e he F => a6 e (he.back (hd _ hs)) F⟩
    · have hne := hdn s hs'
      have hb : Nat.beq s.2.1 d = false := by cases hb : Nat.beq s.2.1 d with | false => rfl | true => exact absurd (Nat.eq_of_beq_eq_true hb) hne
      simp only [upd, hb, cond_false]
      exact hd s (hsub s hs')
    · rw [hfin k, testBit_or, hmap, List.map_append]
      by_cases e : i' = k
      · subst e; simp
      · have : k ≠ i' := fun h => e h.symm
        rw [decide_eq_false e, Bool.or_false]
        congr 1
        exact decide_eq_decide.2 (by simp only [List.mem_append, List.mem_cons, this, false_or])

section rules
variable {x : Cx} {Q : Post} {ρ : Env} {ds : List Deferred} {F : Frag} {ops : Array Oper} {L : Frag} {fuel listed : Nat}
def bagA : List Spc → (Env → Frag → Prop) → Env → Frag → Prop
  | [], K, ρ, F => K ρ F
  | (_, d, P) :: r, K, ρ, F => ∀ v A, P v A → bagA r K ((d, v) :: ρ) (A ++ F)
theorem bagA_K {K : Ev → Frag → Prop} : ∀ {B : List Spc} {ρ : Env} {F : Frag}, bagA B (fun ρ F => K (look ρ) F) ρ F → bagK B K (look ρ) F
  | [], _, _, h => h
  | (_, d, P) :: r, ρ, F, h => fun v A hv => by
    have := bagA_K (h v A hv)
    rw [upd_look]
    exact this
def bitsB : List Spc → Nat → Nat
  | [], n => n
  | s :: r, n => bitsB r (n ||| 2 ^ s.1)
theorem bitsB_spec : ∀ {B : List Spc} {n k : Nat}, (bitsB B n).testBit k = (n.testBit k || decide (k ∈ B.map (·.1)))
  | [], n, k => by simp [bitsB]
  | s :: r, n, k => by
    rw [bitsB, bitsB_spec, testBit_or]
    by_cases e : s.1 = k
    · subst e; simp
    · have : k ≠ s.1 := fun h => e h.symm
      rw [decide_eq_false e, Bool.or_false]
      congr 1
      exact decide_eq_decide.2 (by simp only [List.map_cons, List.mem_cons, this, false_or])
/-- ████ Operations that only add, in whatever order. -/
theorem Any.bag {B : List Spc} {m : Nat} (hA : ∀ s ∈ B, Adds x ops (look ρ) s) (H : bagA B (fun ρ F => Any x ops L fuel (bitsB B listed) Q ρ ds F) ρ F) (hS : Keeps L F) (hm : B.length = m) (hd : ∀ s ∈ B, look ρ s.2.1 = none) (hT : bagT ops listed (B.map (·.1)) = true) (hn : (B.map (·.1)).Nodup) (hn2 : (B.map (·.2.1)).Nodup) : Any x ops L (fuel + m) listed Q ρ ds F := by
  unfold Any at H ⊢
  exact anyT_bag (fun _ _ _ p ⟨ρ, F', h1, h2, h3⟩ => ⟨ρ, F', h1, h2.trans (.of_perm p), h3⟩) m B listed _ F hm (bagT_spec hT hn) hA hd hn2 (fun k => bitsB_spec) hS (bagA_K H)

theorem Adds.of {i d : Nat} {P : Value → Frag → Prop} {op : Op} {ty : TypeId} {pos : String} {aft : Array Edge} (ho : nthO ops.toList i = some ⟨some d, op, ty, pos, aft, none⟩) (hd : Nat.blt d x.n = true) (hn : noDefer op = true) (H : ∀ F, Ef x ρ ⟨some d, op, ty, pos, aft, none⟩ F fun v F' => ∃ A, P v A ∧ F' = A ++ F) : Adds x ops (look ρ) (i, d, P) :=
  ⟨_, nthO_get ho, rfl, hd, noDefer_spec hn, rfl, fun e he F => (H F e fun y v hy => he y v (by rw [ev_look]; exact hy)).mono fun v F' ⟨F'', p, A, hv, e⟩ => ⟨A, F'', p, hv, e⟩⟩
theorem Adds.call {i d f : Nat} {P : Value → Frag → Prop} {args : List Operand} {ts : Array TypeId} {vs : List Value} {ty : TypeId} {pos : String} {aft : Array Edge} (H : ∀ h', Ext x.h h' → Fnc x.P x.main f vs.toArray h' [] P) (ho : nthO ops.toList i = some ⟨some d, .call ⟨.value (.func f), args.toArray, ts⟩, ty, pos, aft, none⟩ := by rfl) [FB x.P f] (hv : evs ρ args = some vs := by rfl) (hd : Nat.blt d x.n = true := by rfl) : Adds x ops (look ρ) (i, d, P) :=
  .of ho hd rfl fun F => e_call0 rfl hv (fun h' hE _ => H h' hE) fun v A' hv => ⟨A', hv, rfl⟩
def NewP (t : TypeId) (zc : Array Value) (v : Value) (A : Frag) : Prop := ∃ β, v = .pointer (some ⟨β, 0, none⟩) ∧ A = [(β, .cells zc t (0, 0))]
theorem Adds.new {i d t s b : Nat} {z : Value} {zc : Array Value} {ty : TypeId} {pos : String} {aft : Array Edge} (ho : nthO ops.toList i = some ⟨some d, .alloc t, ty, pos, aft, none⟩ := by rfl) [TI x.P t s b z zc] (hd : Nat.blt d x.n = true := by rfl) : Adds x ops (look ρ) (i, d, NewP t zc) :=
  .of ho hd rfl fun F => e_alloc rfl fun β _ _ => ⟨_, ⟨β, rfl, rfl⟩, rfl⟩
end rules
end Go.Mus
namespace Go.Mus
section
variable {α : Type} {row : α → List Value} {w : Nat} [rw' : Rw row w]
section
variable {x : Cx} {ρ : Env} {F : Frag} {o : Oper} {R : Value → Frag → Prop}
end
end
section
variable {x : Cx} {S : Frag → Prop} {ρ : Env} {o : Oper}
end
end Go.Mus
namespace Go.Mus
section
variable {x : Cx} {Q : Post} {ρ : Env} {ds : List Deferred} {ops : Array Oper} {G : Frag} {y₁ y₂ y₃ y₄ y₅ y₆ : Nat × Obj} {id n : Nat}
theorem W.drawP4 (hn : ops.size = n) (H : Any x ops [y₁, y₂, y₃, y₄] n 0 Q ρ ds (y₁ :: y₂ :: y₃ :: y₄ :: G)) [MO x.P] : W x (.region id ops true) Q ρ ds (y₁ :: y₂ :: y₃ :: y₄ :: G) := W.drawL _ hn H
end
/-- The same, in another order. -/
theorem perm_cnt {α : Type} {l l' : List α} (h : ∀ [DecidableEq α] (a : α), l.count a = l'.count a) : l.Perm l' := by
  classical
  exact List.perm_iff_count.2 fun a => h a
end Go.Mus
namespace Go.Mus
/-- A slice of one's own is put by, wherever it stands. -/
theorem freezeAt {x : Cx} {c : Code} {Q : Post} {ρ : Env} {ds : List Deferred} {A F : Frag} {U : Frag → Frag} {α : Type} {row : α → List Value} {w : Nat} [Rw row w] {E : TypeId} {v : Value} {l : List α} (hs : Os E row v l A) (hg : Seg A F U)
    (H : ∀ h', Ext x.h h' → Sl h' row v l → Zs h' v → W { x with h := h' } c Q ρ ds (U [])) : W x c Q ρ ds F :=
  W.perm hg.perm.1 (freezeOs hs H)
theorem Sb.app1 {A G : Frag} {y : Nat × Obj} (h : Sb [y] A) : Sb (y :: G) (A ++ G) := h.app .refl
theorem Os.open {α : Type} {row : α → List Value} {w : Nat} [Rw row w] {E : TypeId} {a : Option Addr} {n cap : Nat} {l : List α} {A : Frag} (h : Os E row (.slice a n cap) l A) (hne : 0 < l.length) : ∃ β c J, a = some ⟨β, 0, none⟩ ∧ A = (β, .cells c E (0, 0)) :: J ∧ n = l.length ∧ c.size = cap * w ∧ l.length ≤ cap ∧ Part c 0 (flat row l) ∧ Shut J := by
  rcases h with ⟨rfl, _, _⟩ | ⟨β, c, cp, J, hv, rfl, h1, h2, h3, h4⟩
  · simp at hne
  · injection hv with e1 e2 e3
    subst e1 e2 e3
    exact ⟨β, c, J, rfl, rfl, rfl, h1, h2, h3, h4⟩
end Go.Mus

/- Plants a little changed. Conditions: none. -/
namespace Go.Mus
end Go.Mus

/- What shows in a heat, and what is wrong. Conditions: none. -/
namespace Go.Mus
set_option linter.unusedSectionVars false
/-! Days on which something shows -/
theorem be_pad {l : List Be} {i : Nat} : beAt (padB l) i = beAt l i := by
  simp only [beAt, padB, List.getD]
  rcases Nat.lt_or_ge i l.length with h | h
  · rw [List.getElem?_append_left h]
  · rw [List.getElem?_append_right h, List.getElem?_eq_none (l := l) h]
    cases hx : (List.replicate (4 - l.length) bnone)[i - l.length]? with
    | none => rfl
    | some b => rw [List.eq_of_mem_replicate (List.mem_of_getElem? hx)]; rfl
theorem be_out {l : List Be} {i : Nat} (h : l.length ≤ i) : beAt l i = bnone := by simp [beAt, List.getD, List.getElem?_eq_none h]
theorem sumK_ext {g : Nat → Int} {k : Nat} : ∀ {m : Nat}, k ≤ m → (∀ i, k ≤ i → i < m → g i = 0) → sumK g m = sumK g k
  | 0, h, _ => by rw [Nat.le_zero.1 h]
  | m + 1, h, H => by
    rcases Nat.lt_or_ge k (m + 1) with h' | h'
    · rw [sumK, sumK_ext (by omega) fun i a b => H i a (by omega), H m (by omega) (by omega), Int.add_zero]
    · rw [Nat.le_antisymm h h']
section
variable {fs : List Fl} {ss : List St} {l : List Be} (hall : HallOK fs ss) (hp : PlanOf fs ss (padB l)) (hn : l.length = ss.length)
include hall hp hn
theorem hi_sum {f d : Int} (h0 : 0 ≤ f) : hiAt fs ss (padB l) f d = sumK (hiG fs ss l f d) l.length := by
  have h4 := hall.ns
  have e : hiAt fs ss (padB l) f d = sumK (hiG fs ss l f d) 4 := sumK_congr fun i _ => by simp only [hiG, be_pad]
  rw [e]
  refine sumK_ext (by omega) fun i hi _ => ?_
  simp only [hiG, be_out hi, bnone]
  rw [if_neg (by omega)]
theorem be_some {i : Nat} (hi : i < l.length) : l[i]? = some (beAt l i) := by simp [beAt, List.getD, List.getElem?_eq_getElem hi]
end
/-! The first of all -/
def MinS (R : Nat → Nat → Prop) (on first : Int) : Prop := (on = -1 ∧ first = -1 ∧ ∀ f d, ¬ R f d) ∨ ∃ f d : Nat, on = f ∧ first = d ∧ R f d ∧ ∀ f' d', R f' d' → d < d' ∨ d = d' ∧ f ≤ f'
theorem MinS.eq {R : Nat → Nat → Prop} {a b c d : Int} (h : MinS R a b) (h' : MinS R c d) : a = c ∧ b = d := by
  rcases h with ⟨rfl, rfl, h⟩ | ⟨f, n, rfl, rfl, h, hm⟩ <;> rcases h' with ⟨rfl, rfl, h'⟩ | ⟨f', n', rfl, rfl, h', hm'⟩
  · exact ⟨rfl, rfl⟩
  · exact absurd h' (h _ _)
  · exact absurd h (h' _ _)
  · have := hm _ _ h'
    have := hm' _ _ h
    omega
theorem MinS.new {R R' : Nat → Nat → Prop} {on first g day : Int} (h : MinS R on first) (h' : MinS R' g day) (hc : 0 ≤ day ∧ (first < 0 ∨ day < first ∨ day = first ∧ g < on)) : MinS (fun f d => R f d ∨ R' f d) g day := by
  rcases h' with ⟨rfl, rfl, h'⟩ | ⟨f', n', rfl, rfl, h', hm'⟩
  · omega
  · refine .inr ⟨f', n', rfl, rfl, .inr h', fun x y hxy => ?_⟩
    rcases hxy with hxy | hxy
    · rcases h with ⟨rfl, rfl, h⟩ | ⟨f, n, rfl, rfl, h, hm⟩
      · exact absurd hxy (h _ _)
      · have := hm _ _ hxy
        omega
    · exact hm' _ _ hxy
theorem MinS.old {R R' : Nat → Nat → Prop} {on first g day : Int} (h : MinS R on first) (h' : MinS R' g day) (hc : ¬ (0 ≤ day ∧ (first < 0 ∨ day < first ∨ day = first ∧ g < on))) : MinS (fun f d => R f d ∨ R' f d) on first := by
  rcases h' with ⟨rfl, rfl, h'⟩ | ⟨f', n', rfl, rfl, h', hm'⟩
  · rcases h with ⟨rfl, rfl, h⟩ | ⟨f, n, rfl, rfl, h, hm⟩
    · exact .inl ⟨rfl, rfl, fun f d hx => hx.elim (h _ _) (h' _ _)⟩
    · exact .inr ⟨f, n, rfl, rfl, .inl h, fun x y hxy => hxy.elim (hm _ _) (fun hx => absurd hx (h' _ _))⟩
  · rcases h with ⟨rfl, rfl, h⟩ | ⟨f, n, rfl, rfl, h, hm⟩
    · omega
    · refine .inr ⟨f, n, rfl, rfl, .inl h, fun x y hxy => ?_⟩
      rcases hxy with hxy | hxy
      · exact hm _ _ hxy
      · have := hm' _ _ hxy
        omega
end Go.Mus

/- Slices of slices; makeSlice. Conditions: none; over any program. -/
namespace Go.Mus
/-- A slice as an element. -/
structure Sv where
  a : Option Addr
  n : Nat
  cap : Nat
abbrev Sv.val (s : Sv) : Value := .slice s.a s.n s.cap
def rowS (s : Sv) : List Value := [.slice s.a s.n s.cap]
instance : Rw rowS 1 := ⟨fun _ => rfl, fun _ => rfl⟩

section
variable {α : Type} {row : α → List Value} {w : Nat} [rw' : Rw row w] {E : TypeId}
/-- Slices of one's own, one by one. -/
inductive Oss (E : TypeId) (row : α → List Value) [Rw row w] : List Sv → List (List α) → Frag → Prop
  | nil : Oss E row [] [] []
  | cons {s : Sv} {l : List α} {A B : Frag} {vs : List Sv} {ls : List (List α)} : Os E row s.val l A → Oss E row vs ls B → Oss E row (s :: vs) (l :: ls) (A ++ B)
theorem Oss.len {vs : List Sv} {ls : List (List α)} {A : Frag} (h : Oss E row vs ls A) : vs.length = ls.length := by
  induction h with
  | nil => rfl
  | cons _ _ ih => simp [ih]
theorem Oss.shut {vs : List Sv} {ls : List (List α)} {A : Frag} (h : Oss E row vs ls A) : Shut A := by
  induction h with
  | nil => exact .nil
  | cons h _ ih => exact h.shut.app ih
theorem Oss.sl {vs : List Sv} {ls : List (List α)} {A : Frag} {h' : Hp} (h : Oss E row vs ls A) (hL : ∀ b o, (b, o) ∈ A → h' b = some o) : ∀ {k : Nat} {s : Sv} {l : List α}, vs[k]? = some s → ls[k]? = some l → Sl h' row s.val l := by
  induction h with
  | nil => intro k s l hs; simp at hs
  | cons h1 _ ih =>
    intro k s l hs hl
    rcases k with _ | k
    · simp at hs hl; subst hs hl
      exact h1.sl fun b o hb => hL b o (List.mem_append_left _ hb)
    · simp at hs hl
      exact ih (fun b o hb => hL b o (List.mem_append_right _ hb)) hs hl
theorem Sv.eta {v : Value} {l : List α} {A : Frag} (h : Os E row v l A) : ∃ s : Sv, v = s.val := by
  obtain ⟨a, cap, rfl⟩ := h.isSl
  exact ⟨⟨a, _, cap⟩, rfl⟩
end
/-! makeSlice -/
section
variable {x : Cx} {ρ : Env} {F : Frag} {o : Oper} {R : Value → Frag → Prop}
end
end Go.Mus

/- All heats of a plan. Conditions: none; over the given program. -/
namespace Go.Mus
set_option maxRecDepth 100000
set_option maxHeartbeats 4000000
theorem ext2 {c : Array Value} {o : Nat} {u v w y : Value} (h : c.extract o (o + 4) = #[u, v, w, y]) : c.extract (o + 1) (o + 1 + 2) = #[v, w] := by
  have e : (c.extract o (o + 4)).extract 1 3 = c.extract (o + 1) (o + 1 + 2) := by
    rw [Array.extract_extract, show min (o + 3) (o + 4) = o + 1 + 2 by omega]
  rw [← e, h]; rfl

end Go.Mus

/- Cones on a day, days between, what shows in a heat. Conditions: none; over the given program. -/
namespace Go.Mus
set_option maxRecDepth 100000
set_option maxHeartbeats 4000000
end Go.Mus

/- When a floor is empty, when cones are done, days of doubt; what is said of them by all heats. Conditions: none. -/
namespace Go.Mus
def emptyS (s : Sp) : Int := if s.lo = 0 ∧ s.hi = 0 then 1 else if 0 < s.lo then 2 else 3
def emptyV (fs : List Fl) (ss : List St) (l : List Be) (f d : Int) : Int × Int :=
  if (standsV fs ss l f d).2 ≠ 0 then (0, (standsV fs ss l f d).2) else (emptyS (standsV fs ss l f d).1, 0)
/-! Counted over all heats -/
def MmS (g : Nat → Int) (k : Nat) (lo hi : Int) : Prop := (k = 0 ∧ lo = 0 ∧ hi = 0) ∨ (0 < k ∧ (∀ i, i < k → lo ≤ g i ∧ g i ≤ hi) ∧ (∃ i, i < k ∧ g i = lo) ∧ ∃ i, i < k ∧ g i = hi)
theorem MmS.first {g : Nat → Int} {lo hi : Int} (h : MmS g 0 lo hi) : MmS g 1 (min (g 0) (g 0)) (max (g 0) (g 0)) := by
  refine .inr ⟨by omega, fun i hi => ?_, ⟨0, by omega, by omega⟩, ⟨0, by omega, by omega⟩⟩
  obtain rfl : i = 0 := by omega
  omega
theorem MmS.next {g : Nat → Int} {k : Nat} {lo hi : Int} (h : MmS g k lo hi) (hk : k ≠ 0) : MmS g (k + 1) (min lo (g k)) (max hi (g k)) := by
  rcases h with ⟨rfl, -, -⟩ | ⟨h0, h1, ⟨i, hi1, hi2⟩, ⟨j, hj1, hj2⟩⟩
  · exact absurd rfl hk
  refine .inr ⟨by omega, fun x hx => ?_, ?_, ?_⟩
  · rcases (by omega : x < k ∨ x = k) with h | rfl
    · have := h1 x h; omega
    · omega
  · rcases Int.le_total lo (g k) with h | h
    · exact ⟨i, by omega, by omega⟩
    · exact ⟨k, by omega, by omega⟩
  · rcases Int.le_total hi (g k) with h | h
    · exact ⟨k, by omega, by omega⟩
    · exact ⟨j, by omega, by omega⟩
theorem MmS.eq {g : Nat → Int} {n : Nat} {lo hi lo' hi' : Int} (h : MmS g n lo hi) (h' : MmS g n lo' hi') : lo = lo' ∧ hi = hi' := by
  rcases h with ⟨rfl, rfl, rfl⟩ | ⟨h0, h1, ⟨i, hi1, hi2⟩, ⟨j, hj1, hj2⟩⟩ <;> rcases h' with ⟨h0', rfl, rfl⟩ | ⟨h0', h1', ⟨i', hi1', hi2'⟩, ⟨j', hj1', hj2'⟩⟩
  · exact ⟨rfl, rfl⟩
  · omega
  · omega
  · have := h1 i' hi1'
    have := h1 j' hj1'
    have := h1' i hi1
    have := h1' j hj1
    omega
theorem lo_sum {fs : List Fl} {ss : List St} {l : List Be} (hall : HallOK fs ss) (hn : l.length = ss.length) {f d : Int} (h0 : 0 ≤ f) : loAt fs ss (padB l) f d = sumK (loG fs ss l f d) l.length := by
  have h4 := hall.ns
  have e : loAt fs ss (padB l) f d = sumK (loG fs ss l f d) 4 := sumK_congr fun i _ => by simp only [loG, be_pad]
  rw [e]
  refine sumK_ext (by omega) fun i hi _ => ?_
  simp only [loG, be_out hi, bnone]
  rw [if_neg (by omega)]
theorem stands_val {fs : List Fl} {ss : List St} {l : List Be} (h : ckPlan fs ss l = 0) {f d : Nat} (hf : f < fs.length) (hd : d < 22) : standsV fs ss l f d = (⟨loAt fs ss (padB l) f d, hiAt fs ss (padB l) f d⟩, 0) := by
  obtain ⟨hall, hp, hn⟩ := plan_ck h
  have hbf : badF fs.length [(f : Int)] = false := by
    simp only [badF]; rw [if_neg (by unfold outs; omega)]
  rw [standsV, if_neg (by rw [ask_ok h hbf]; decide), if_neg (by unfold outs; omega), Int.toNat_natCast, List.getD, standsD_at hall hp.ok (by omega) (by omega) hd]
  rfl
end Go.Mus

/- When a floor is empty, when cones are done, days of doubt. Conditions: none; over the given program. -/
namespace Go.Mus
set_option maxRecDepth 100000
set_option maxHeartbeats 4000000
theorem Empty_fn (main : Side) (h : Hp) (fs : List Fl) (ss : List St) (l : List Be) (f d : Int) (vf vs vl : Value) (hf : Sl h Fl.row vf fs) (hs : Sl h St.row vs ss) (hl : Sl h Be.row vl l) : Pu prog main n_floor_Empty #[.agg #[vf, vs], vl, I f, I d] h (.tuple #[I (emptyV fs ss l f d).1, I (emptyV fs ss l f d).2]) := by
  obtain ⟨a, cap, rfl⟩ := hf.isSl
  obtain ⟨a', cap', rfl⟩ := hs.isSl
  obtain ⟨a2, cap2, rfl⟩ := hl.isSl
  obtain ⟨s, e, hV⟩ : ∃ s e, standsV fs ss l f d = (s, e) := ⟨_, _, rfl⟩
  refine Fnc.of_body at_floor_Empty rfl (by show 4 ≤ 32; decide) [(0, .agg #[.slice a fs.length cap, .slice a' ss.length cap']), (1, .slice a2 l.length cap2), (2, I f), (3, I d)] ⟨rfl, rfl, rfl, rfl, trivial⟩ ?_
  refine W.seq <| W.region rfl ?_
  refine Ops.box (fun β4 => ?_)
  refine qs rfl rfl rfl <| qs rfl rfl rfl <| Ops.nil <| thn_n <| W.seq <| W.region rfl ?_
  first | refine oq (yldW rfl rfl) rfl wn rfl rfl ?_ | refine oq (yldA rfl rfl) rfl wn rfl rfl ?_
  refine qm rfl rfl rfl <| qm rfl rfl rfl <| qm rfl rfl rfl ?_
  refine cp (u := .tuple #[.agg #[I s.lo, I s.hi], I e]) (fun h' hE hL => ?_) ?_
  · have := Stands_fn main h' fs ss l f d _ _ _ (hf.ext hE) (hs.ext hE) (hl.ext hE)
    rw [hV] at this
    exact this
  refine qm rfl rfl rfl <| oq (y_extract rfl rfl rfl) rfl wn rfl rfl <| oq (y_extract rfl rfl rfl) rfl wn rfl rfl ?_
  refine Ops.new (fun β10 => ?_)
  first | refine Ops.stoW ?_ | refine Ops.stoA ?_
  refine qs rfl rfl rfl <| Ops.nil <| thn_n <| W.seq <| W.block <| W.seq <| W.region rfl <| qm rfl rfl rfl ?_
  refine oq (y_neq rfl rfl rfl) rfl wn rfl rfl ?_
  refine qs rfl rfl rfl <| Ops.nil <| thn_n ?_
  refine W.condp rfl (fun c20 => ?_) (fun c20 => ?_)
  · refine W.seq <| W.region rfl <| qm rfl rfl rfl <| qs rfl rfl rfl <| qs rfl rfl rfl <| Ops.nil <| thn_n <| W.ret <| blk_r <| thn_r ?_
    refine lvp ?_
    simp only [emptyV, hV]; rw [if_pos c20]; rfl
  · refine W.seq <| W.region rfl ?_
    first | refine oq (yldW rfl rfl) rfl wn rfl rfl ?_ | refine oq (yldA rfl rfl) rfl wn rfl rfl ?_
    refine oq (y_build (parts := []) (cs := #[I 0, I 0]) rfl rfl rfl) rfl wn rfl rfl ?_
    refine oq (Yv.eq (u := .bool (decide (s.lo = 0 ∧ s.hi = 0))) (y_eqA [s.lo, s.hi] [0, 0] rfl rfl rfl rfl rfl rfl rfl) (by simp)) rfl wn rfl rfl ?_
    refine qs rfl rfl rfl <| Ops.nil <| thn_n ?_
    refine W.condp rfl (fun c24 => ?_) (fun c24 => ?_)
    · refine W.seq <| W.region rfl <| qs rfl rfl rfl <| qs rfl rfl rfl <| Ops.nil <| thn_n <| W.ret <| blk_r <| thn_r ?_
      refine lvp ?_
      simp only [emptyV, hV]; rw [if_neg c20, emptyS, if_pos c24]; rfl
    · refine W.seq <| W.region rfl ?_
      refine oq (y_fieldAddr rfl rfl) rfl wn rfl rfl ?_
      refine oq (yld rfl rfl) rfl wn rfl rfl ?_
      refine oq (y_gtr rfl rfl rfl) rfl wn rfl rfl ?_
      refine qs rfl rfl rfl <| Ops.nil <| thn_n ?_
      refine W.condp rfl (fun c28 => ?_) (fun c28 => ?_)
      · refine W.seq <| W.region rfl <| qs rfl rfl rfl <| qs rfl rfl rfl <| Ops.nil <| thn_n <| W.ret <| blk_r <| thn_r ?_
        refine lvp ?_
        simp only [emptyV, hV]; rw [if_neg c20, emptyS, if_neg c24, if_pos c28]; rfl
      · refine W.skip <| blk_n <| thn_n <| W.seq <| W.region rfl <| qs rfl rfl rfl <| qs rfl rfl rfl <| Ops.nil <| thn_n <| W.ret ?_
        refine lvp ?_
        simp only [emptyV, hV]; rw [if_neg c20, emptyS, if_neg c24, if_neg c28]; rfl

/-! Days, beside each other -/
theorem eqv_days : EqV prog t_days 44 3 := EqV.array (n := 22) (w := 2) (K := 2) eqv_span.at
instance : EV prog t_days 44 := ⟨eqv_days.le (by decide)⟩
instance : NS prog t_days := ⟨by kernel_rfl, by kernel_rfl⟩
end Go.Mus

/- Slices of structs of numbers, as they are handed in. Conditions: none; over any program. -/
namespace Go.Mus
/-- A type whose reading is w numbers. -/
def RowT (P : Program) (t : TypeId) (w : Nat) : Prop := P.cellsOf t = w ∧ ∀ {H : Type} {enc : TypeId × Value → H} {W : World} {base : Nat} {spare : Nat → Bool} {held : Bool} {fuel : Nat} {cs : List Value} {x : DataW H × List MemPlace}, DataW.trod enc P W base spare held fuel t cs = some x → ∃ ns : List Int, cs = ns.map nI ∧ ns.length = w
theorem RowT.int {P : Program} {t : TypeId} (ht : P.underlying t = some (.int .i64)) (hc : P.cellsOf t = 1) : RowT P t 1 := ⟨hc, fun h => by
  obtain ⟨n, rfl, -, -⟩ := DataW.trod_int ht h
  exact ⟨[n], rfl, rfl⟩⟩
def LayR (P : Program) : List Field → List Nat → Nat → Prop
  | [], [], _ => True
  | f :: fs, w :: ws, o => f.offset = o ∧ RowT P f.type w ∧ LayR P fs ws (o + w)
  | _, _, _ => False
theorem layR_run {P : Program} {H : Type} {enc : TypeId × Value → H} {W : World} {base : Nat} {spare : Nat → Bool} {held : Bool} {n : Nat} {cs : List Value} : ∀ (fs : List Field) (ws : List Nat) (o : Nat), LayR P fs ws o → (∀ f ∈ fs, ∃ x, DataW.trod enc P W base spare held n f.type ((cs.drop f.offset).take (P.cellsOf f.type)) = some x) → o + ws.sum = cs.length → ∃ ns : List Int, cs.drop o = ns.map nI ∧ ns.length = ws.sum
  | [], [], o, _, _, hl => ⟨[], by simp at hl; simp; omega, rfl⟩
  | f :: fs, w :: ws, o, ⟨ho, ⟨hc, hr⟩, hrest⟩, hx, hl => by
    obtain ⟨x, h1⟩ := hx f (List.mem_cons_self ..)
    obtain ⟨ns, h2, h3⟩ := hr h1
    rw [List.sum_cons] at hl
    obtain ⟨ms, h4, h5⟩ := layR_run fs ws (o + w) hrest (fun g hg => hx g (List.mem_cons_of_mem _ hg)) (by omega)
    subst ho
    rw [hc] at h2
    refine ⟨ns ++ ms, ?_, by rw [List.length_append, h3, h5, List.sum_cons]⟩
    rw [List.map_append, ← h2, ← h4, ← List.drop_drop, List.take_append_drop]
  | [], _ :: _, _, h, _, _ => h.elim
  | _ :: _, [], _, h, _, _ => h.elim
theorem RowT.struct {P : Program} {t : TypeId} {fs : Array Field} {ws : List Nat} (ht : P.underlying t = some (.struct fs)) (hl : LayR P fs.toList ws 0) (hc : P.cellsOf t = ws.sum) : RowT P t ws.sum := ⟨hc, fun {H enc W base spare held fuel cs x} h => by
  obtain ⟨xs, n, -, -, h1, h2, h3⟩ := DataW.trod_struct ht h
  have := layR_run (cs := cs) fs.toList ws 0 hl (fun f hf => by
    obtain ⟨i, hi⟩ := List.mem_iff_getElem?.1 hf
    have hi' : fs[i]? = some f := by simpa using hi
    have hlt : i < xs.length := by
      rw [h2]
      rcases Nat.lt_or_ge i fs.size with h | h
      · exact h
      · rw [Array.getElem?_eq_none h] at hi'; cases hi'
    exact ⟨xs[i], by rw [h3 i f hi', List.getElem?_eq_getElem hlt]⟩) (by omega)
  simpa using this⟩
/-- A value of such a type. -/
theorem RowT.val {P : Program} {t w : Nat} (R : RowT P t w) {H : Type} {enc : TypeId × Value → H} {W : World} {base : Nat} {spare : Nat → Bool} {held : Bool} {v : Value} {d : DataW H} {ps : List MemPlace} (h : DataW.Trod enc P W base spare held t v d ps) : ∃ ns : List Int, v.cells.toList = ns.map nI ∧ ns.length = w := by
  obtain ⟨fuel, h⟩ := h
  exact R.2 h

theorem cells_some {W : World} {base n : Nat} {a : Addr} {cs : List Value} (h : W.cells? base a n = some cs) : cs.length = n ∧ ∀ i, i < n → W.cell? (a.add i) = cs[i]? := by
  unfold World.cells? at h
  split at h
  · have h1 := mapM_some_length h
    rw [List.length_range] at h1
    exact ⟨h1, fun i hi => mapM_some_get h i i (by simp [hi])⟩
  · cases h
/-- ████ A SLICE OF SUCH A TYPE. -/
theorem RowT.slice {P : Program} {e t w : Nat} (R : RowT P e w) (hw : 0 < w) {α : Type} {row : α → List Value} [Rw row w] (mk : ∀ ns : List Int, ns.length = w → ∃ p : α, row p = ns.map nI) (ht : P.underlying t = some (.slice e)) {H : Type} {enc : TypeId × Value → H} {W : World} {base : Nat} {spare : Nat → Bool} {held : Bool} {v : Value} {fuel : Nat} {x : DataW H × List MemPlace} (hf : DataW.trod enc P W base spare held fuel t [v] = some x) : ∃ l : List α, Sl (atStart W) row v l := by
  rcases DataW.trod_slice ht hf with ⟨hcs, -⟩ | ⟨a, len, cap, elems, rest, n, -, hcs, -, hb, hle, hm, hlen, hel, -, -⟩
  · obtain rfl : v = .slice none 0 0 := by simpa using hcs
    exact ⟨[], .nil⟩
  · obtain rfl : v = .slice (some a) len cap := by simpa using hcs
    rw [R.1] at hel
    have each : ∀ i, i < len → ∃ p : α, ∀ j, j < w → W.cell? ((a.add (i * w)).add j) = (row p)[j]? := fun i hi => by
      have h1 := hel i hi
      rw [List.getElem?_eq_getElem (by omega), Option.bind_eq_some_iff] at h1
      obtain ⟨cs, h2, h3⟩ := h1
      obtain ⟨ns, rfl, h4⟩ := R.2 h3
      obtain ⟨p, hp⟩ := mk ns h4
      refine ⟨p, fun j hj => ?_⟩
      rw [(cells_some h2).2 j hj, hp]
    have all : ∀ m, m ≤ len → ∃ l : List α, l.length = m ∧ ∀ i p, l[i]? = some p → ∀ j, j < w → W.cell? ((a.add (i * w)).add j) = (row p)[j]? := by
      intro m
      induction m with
      | zero => intro _; exact ⟨[], rfl, fun i p hp => by simp at hp⟩
      | succ m ih =>
        intro hm
        obtain ⟨l, h1, h2⟩ := ih (by omega)
        obtain ⟨p, hp⟩ := each m (by omega)
        refine ⟨l ++ [p], by simp [h1], fun i q hq => ?_⟩
        rcases Nat.lt_or_ge i l.length with h | h
        · rw [List.getElem?_append_left h] at hq; exact h2 i q hq
        · have hlt := lt_of_get hq
          simp at hlt
          have : i = m := by omega
          subst this
          rw [List.getElem?_append_right h, show i - l.length = 0 by omega] at hq
          simp at hq
          subst hq
          exact hp
    obtain ⟨l, hl, hc⟩ := all len (Nat.le_refl _)
    refine ⟨l, some a, cap, by rw [hl], fun hne => ?_⟩
    have hpos : 0 < len := by
      rcases Nat.eq_zero_or_pos len with h | h
      · subst h; exact absurd (List.eq_nil_of_length_eq_zero hl) hne
      · exact h
    obtain ⟨b, off, spot⟩ := a
    have hsp : spot = none := by
      obtain ⟨p, hp, -⟩ := has (show 0 < l.length by omega)
      have h0 := hc 0 p hp 0 hw
      have hrw : (row p).length = w := Rw.len p
      rw [List.getElem?_eq_getElem (by omega)] at h0
      cases hs : spot with
      | none => rfl
      | some s =>
        subst hs
        exfalso
        simp only [Nat.zero_mul, World.cell?, Addr.add, if_true] at h0
        split at h0
        · simp at h0
        · cases h0
    subst hsp
    have cell : ∀ k, k < (flat row l).length → ∃ c E fz, W.heap[b]? = some (.cells c E fz) ∧ c[off + k]? = (flat row l)[k]? := fun k hk => by
      rw [flat_len] at hk
      have hi : k / w < l.length := Nat.div_lt_of_lt_mul (by rw [Nat.mul_comm]; exact hk)
      have hj : k % w < w := Nat.mod_lt _ hw
      obtain ⟨p, hp, -⟩ := has hi
      have h1 := hc _ p hp _ hj
      have hrw : (row p).length = w := Rw.len p
      have e1 : k / w * w + k % w = k := Nat.div_add_mod' k w
      have h2 : (flat row l)[k]? = (row p)[k % w]? := by
        have hP : Part (flat row l).toArray 0 (flat row l) := Part.all _
        have h3 := hP.rowG hp (k % w) hj
        rw [Nat.zero_add, e1] at h3
        simpa using h3
      have ea : ((⟨b, off, none⟩ : Addr).add (k / w * w)).add (k % w) = ⟨b, off + k, none⟩ := by
        have e2 : (⟨b, off, none⟩ : Addr).add (k / w * w) = ⟨b, off + k / w * w, none⟩ := add_spot rfl _
        rw [e2, add_spot rfl]
        simp only [Addr.mk.injEq, true_and, and_true]
        omega
      rw [ea] at h1
      rw [h2]
      rw [List.getElem?_eq_getElem (show k % w < (row p).length by omega)] at h1 ⊢
      simp only [World.cell?] at h1
      split at h1
      · rename_i c E fz hb
        exact ⟨c, E, fz, hb, by simpa using h1⟩
      · cases h1
    have hfl := flat_len (row := row) l
    have hpos2 : 0 < (flat row l).length := by rw [hfl]; exact Nat.mul_pos (by omega) hw
    obtain ⟨c, E, fz, hb', h0⟩ := cell 0 hpos2
    refine ⟨b, off, c, E, fz, rfl, atStart_some.2 ⟨hb', rfl⟩, Part.of_get (fun j hj => ?_) (fun e => by rw [e] at hpos2; simp at hpos2)⟩
    obtain ⟨c', E', fz', hb2, hj'⟩ := cell j hj
    rw [hb'] at hb2
    cases hb2
    exact hj'
end Go.Mus

/- From a law of plants, floors, strikes, plans and numbers that answers true to its card. Conditions: as the cards say; over the given program. -/
namespace Go.Mus
open Go.Proofs.YtnffnndmilpnoaaGreatDoor
set_option maxRecDepth 100000
set_option maxHeartbeats 4000000
section
open Go.ChangeShapes Go.WideShapes Go.RowKit
theorem rT_int : RowT prog t_int 1 := RowT.int under_int cells_int
theorem rT_span : RowT prog t_Span 2 := RowT.struct (ws := [1, 1]) (TD.out (t := t_Span)) ⟨rfl, rT_int, rfl, rT_int, trivial⟩ (by kernel_rfl)
theorem rT_floor : RowT prog t_Floor 4 := RowT.struct (ws := [1, 2, 1]) (TD.out (t := t_Floor)) ⟨rfl, rT_int, rfl, rT_span, rfl, rT_int, trivial⟩ (by kernel_rfl)
theorem rT_strike : RowT prog t_Strike 3 := RowT.struct (ws := [1, 1, 1]) (TD.out (t := t_Strike)) ⟨rfl, rT_int, rfl, rT_int, rfl, rT_int, trivial⟩ (by kernel_rfl)
theorem rT_berth : RowT prog t_Berth 2 := RowT.struct (ws := [1, 1]) (TD.out (t := t_Berth)) ⟨rfl, rT_int, rfl, rT_int, trivial⟩ (by kernel_rfl)
theorem mkFl : ∀ ns : List Int, ns.length = 4 → ∃ p : Fl, p.row = ns.map nI
  | [a, b, c, d], _ => ⟨⟨a, b, c, d⟩, rfl⟩
theorem mkSt : ∀ ns : List Int, ns.length = 3 → ∃ p : St, p.row = ns.map nI
  | [a, b, c], _ => ⟨⟨a, b, c⟩, rfl⟩
theorem mkBe : ∀ ns : List Int, ns.length = 2 → ∃ p : Be, p.row = ns.map nI
  | [a, b], _ => ⟨⟨a, b⟩, rfl⟩
theorem mkI : ∀ ns : List Int, ns.length = 1 → ∃ p : Int, rowI p = ns.map nI
  | [a], _ => ⟨a, rfl⟩

/-- What an argument is. -/
structure ArgOK (h : Hp) (t : TypeId) (v : Value) : Prop where
  plant : t = t_Plant → ∃ vf vs fs ss, v = .agg #[vf, vs] ∧ Sl h Fl.row vf fs ∧ Sl h St.row vs ss
  floor : t = t_Floor → ∃ f : Fl, v = f.val
  strike : t = t_Strike → ∃ s : St, v = s.val
  plan : t = t_sl_Berth → ∃ l, Sl h Be.row v l
  int : t = t_int → ∃ n, v = I n
  ints : t = t_sl_int → ∃ l, Sl h rowI v l
def ArgsOK (h : Hp) : List TypeId → List Value → Prop
  | [], [] => True
  | t :: ts, v :: vs => ArgOK h t v ∧ ArgsOK h ts vs
  | _, _ => False
theorem arg_ok {H : Type} {enc : TypeId × Value → H} {W : World} {n : Nat} {t : TypeId} {v : Value} {d : DataW H} {ps : List MemPlace} (hv : Value.okWide prog W .any n t v) (h : DataW.Trod enc prog W 0 (fun _ => true) true t v d ps) : ArgOK (atStart W) t v := by
  refine ⟨?_, ?_, ?_, ?_, ?_, ?_⟩
  · rintro rfl
    obtain ⟨cs, rfl, hc⟩ := okWide_struct (TD.out (t := t_Plant)) hv
    obtain ⟨fuel, h⟩ := h
    obtain ⟨y0, y1, m, -, hl, h0, h1⟩ := trod_struct2 (TD.out (t := t_Plant)) h
    have hc2 : cs.size = 2 := by rw [hc]; kernel_rfl
    obtain ⟨l⟩ := cs
    match l, hc2 with
    | [vf, vs], _ =>
      have h0' : DataW.trod enc prog W 0 (fun _ => true) true m t_sl_Floor [vf] = some y0 := h0
      have h1' : DataW.trod enc prog W 0 (fun _ => true) true m t_sl_Strike [vs] = some y1 := h1
      obtain ⟨fs, hf⟩ := rT_floor.slice (row := Fl.row) (by decide) mkFl (TD.out (t := t_sl_Floor)) h0'
      obtain ⟨ss, hs⟩ := rT_strike.slice (row := St.row) (by decide) mkSt (TD.out (t := t_sl_Strike)) h1'
      exact ⟨vf, vs, fs, ss, rfl, hf, hs⟩
  · rintro rfl
    obtain ⟨cs, rfl, hc⟩ := okWide_struct (TD.out (t := t_Floor)) hv
    obtain ⟨ns, h1, h2⟩ := rT_floor.val h
    obtain ⟨p, hp⟩ := mkFl ns h2
    refine ⟨p, ?_⟩
    have : cs.toList = p.row := by rw [hp]; exact h1
    rw [show cs = p.row.toArray by rw [← this]]
    rfl
  · rintro rfl
    obtain ⟨cs, rfl, hc⟩ := okWide_struct (TD.out (t := t_Strike)) hv
    obtain ⟨ns, h1, h2⟩ := rT_strike.val h
    obtain ⟨p, hp⟩ := mkSt ns h2
    refine ⟨p, ?_⟩
    have : cs.toList = p.row := by rw [hp]; exact h1
    rw [show cs = p.row.toArray by rw [← this]]
    rfl
  · rintro rfl
    obtain ⟨a, len, cap, rfl⟩ := okWide_slice (TD.out (t := t_sl_Berth)) hv
    obtain ⟨fuel, h⟩ := h
    exact rT_berth.slice (row := Be.row) (by decide) mkBe (TD.out (t := t_sl_Berth)) h
  · rintro rfl
    obtain ⟨ns, h1, h2⟩ := rT_int.val h
    obtain ⟨n, rfl⟩ := okWide_int under_int hv
    exact ⟨n, rfl⟩
  · rintro rfl
    obtain ⟨a, len, cap, rfl⟩ := okWide_slice under_sl_int hv
    obtain ⟨fuel, h⟩ := h
    exact rT_int.slice (row := rowI) (by decide) mkI under_sl_int h
theorem args_ok {H : Type} {enc : TypeId × Value → H} {W : World} {n : Nat} : ∀ {ts : List TypeId} {vs : List Value} {ds : List (DataW H)} {ps : List MemPlace}, (∀ (j : Nat) t v, ts[j]? = some t → vs[j]? = some v → Value.okWide prog W .any n t v) → DataW.TrodAll enc prog W 0 (fun _ => true) true ts vs ds ps → ArgsOK (atStart W) ts vs ∧ ds.length = ts.length
  | [], [], ds, ps, _, h => by
    cases ds with
    | nil => exact ⟨trivial, rfl⟩
    | cons d ds => exact h.elim
  | [], _ :: _, _, _, _, h => h.elim
  | _ :: _, [], _, _, _, h => h.elim
  | t :: ts, v :: vs, [], _, _, h => h.elim
  | t :: ts, v :: vs, d :: ds, ps, hv, h => by
    obtain ⟨p, q, h1, h2, -⟩ := h
    obtain ⟨h3, h4⟩ := args_ok (fun j t v a b => hv (j + 1) t v (by simpa using a) (by simpa using b)) h2
    exact ⟨⟨arg_ok (hv 0 t v rfl rfl) h1, h3⟩, by simp [h4]⟩
theorem args_stay {H : Type} {enc : TypeId × Value → H} {W W' : World} (hb : Below W.heap.size W W') : ∀ {ts : List TypeId} {vs : List Value} {ds : List (DataW H)} {ps : List MemPlace}, (∀ t ∈ ts, prog.readableRec t = true ∧ t < prog.types.size) → DataW.TrodAll enc prog W 0 (fun _ => true) true ts vs ds ps → (∀ x ∈ ps, x.block < W.heap.size) → DataW.TrodAll enc prog W' 0 (fun b => decide (b < W.heap.size)) true ts vs ds ps
  | [], [], ds, ps, _, h, _ => by
    cases ds with
    | nil => exact h
    | cons d ds => exact h.elim
  | [], _ :: _, _, _, _, h, _ => h.elim
  | _ :: _, [], _, _, _, h, _ => h.elim
  | t :: ts, v :: vs, [], _, _, h, _ => h.elim
  | t :: ts, v :: vs, d :: ds, ps, ht, h, hlt => by
    obtain ⟨p, q, h1, h2, rfl⟩ := h
    exact ⟨p, q, Below.trod laidOut0 (ht t (List.mem_cons_self ..)).1 (ht t (List.mem_cons_self ..)).2 h1 hb (fun x hx => hlt x (List.mem_append_left _ hx)), args_stay hb (fun t h => ht t (List.mem_cons_of_mem _ h)) h2 (fun x hx => hlt x (List.mem_append_right _ hx)), rfl⟩
/-- ████ A LAW OF SUCH ARGUMENTS. -/
theorem liftN {s : ChangeSpec} {f : FuncId} {fn : Func} (os : Go.Os) (started : os.Started) (H : Type) (enc : TypeId × Value → H) (hfn : prog.funcs[f]? = some fn) (hinit : prog.inits.idxOf? f = none) (ts : List TypeId) (hp : fn.params.toList = ts) (hts : ∀ t ∈ ts, prog.readableRec t = true ∧ t < prog.types.size) (hr : fn.resultTypes.toList = [t_bool]) (hrs : fn.resultTypes.size = 1) (hv : s.vars = [])
    (hs : ∀ ds : List (DataW H), ds.length = ts.length → s.fn H ds = { results := [.lit (.bool true)], args := ds })
    (witness : ∃ (w : World) (tape : Tape) (i : Input), w.os = os ∧ (w.forCall tape i).Shaped prog ∧ i.vars = [] ∧ Input.okWide prog (w.forCall tape i) .any w.heap.size f i ∧
      ((s.pre enc prog fn [] false (w.forCall tape i).memory i.args ∧ laidMetH prog laid0 (w.forCall tape i).memory) ∧ sizedMet enc prog fn (OpenSpec.ofChange s) false (w.forCall tape i).memory i.args) ∧ ({} : Assume).holds prog (lone (Frame.enter prog f i.args .normal) [] (w.forCall tape i)))
    (T : ∀ (main : Side) (_ : ∀ S, main.ok S → ∃ Fin, S = Mn prog Fin) (_ : main.b = true) (h : Hp) (args : List Value) (_ : ArgsOK h ts args) (Eg : TypeId) (zg : Nat × Nat) (_ : h 0 = some (.cells #[rtV t_error] Eg zg)) (_ : h.z 0), TopV prog main f args.toArray h (.bool true)) :
    ReturnsInLeavingWide {} Go.Proofs.Tryz.checked os f .any (fun w args => (s.pre enc prog fn [] false w args ∧ laidMetH prog laid0 w) ∧ sizedMet enc prog fn (OpenSpec.ofChange s) false w args) (s.post enc prog fn false true false false) := by
  refine returnsInLeavingWide_of_good (C := Go.Proofs.Tryz.checked) own0 started witness ?_
  intro w tape i _ _ _ hok hpre _
  obtain ⟨_, _, _, fn', hfn', _, _, _, _, hval0⟩ := hok
  have e : fn' = fn := Option.some.inj (hfn'.symm.trans hfn)
  subst e
  obtain ⟨⟨⟨ds, gs, before, hw, -⟩, hx⟩, -⟩ := hpre
  have hW := DataW.Whole.of_heap (w' := w.forCall tape i) (by rfl) hw
  have hL : laidMetH prog laid0 (w.forCall tape i) := laidMetH_heap (by rfl) hx
  generalize w.forCall tape i = W at *
  have hval : ∀ (j : Nat) t v, fn'.params[j]? = some t → i.args[j]? = some v → Value.okWide prog W .any w.heap.size t v := hval0
  have hW' := hW
  obtain ⟨p, q, hA0, hV, rfl, _, _⟩ := hW
  have hA : DataW.TrodAll enc prog W 0 (fun _ => true) true fn'.params.toList i.args.toList ds p := hA0
  rw [hp] at hA
  obtain ⟨hao, hdl⟩ := args_ok (n := w.heap.size) (fun j t v a b => hval j t v (by rw [← Array.getElem?_toList, hp]; exact a) (by rw [← Array.getElem?_toList]; exact b)) hA
  rw [hv] at hV
  obtain ⟨rfl, rfl⟩ := trodVars_none hV
  simp only [List.append_nil] at hW'
  have hlt : ∀ x ∈ p, x.block < W.heap.size := fun x hx => by simpa using hW'.lt x hx
  obtain ⟨E, z, hg⟩ := handle0 hL
  have hgs : atStart W 0 = some (.cells #[rtV t_error] E z) := atStart_some.2 ⟨hg, rfl⟩
  obtain ⟨M, last, o, w', t', h1, h2, h3, h4⟩ := TopV.run hinit (T (mainS prog (FinOK prog fun v _ => v = .bool true)) (fun S h => ⟨_, h⟩) rfl (atStart W) i.args.toList hao E z hgs ⟨_, hg, rfl⟩)
  refine ⟨M, last, o, w', t', h1, h2, h3, h4.mono fun v hF => ?_⟩
  obtain ⟨rfl, hk⟩ := hF
  have hb := hk.below
  refine ChangeSpec.post_blind ⟨ds, [], p, [], p, [], hW', ?_, ?_, ?_, hb.frame _, fun h => by cases h⟩
  · have hrl : Value.resultList fn'.resultTypes.size (.bool true) = [.bool true] := by rw [hrs]; rfl
    rw [List.append_nil, hs ds hdl, hrl, hr]; exact trodAll_mk1 (shut_bool under_bool true)
  · rw [List.append_nil, hs ds hdl, hp]
    exact args_stay hb hts hA hlt
  · rw [List.append_nil, hs ds hdl, hv]; rfl
end
end Go.Mus
