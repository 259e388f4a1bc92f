/- The best plans; when all strikes can be set; the first that can't. Conditions: none. (And 4 texts more.) -/
import Derived.Test.YtabnpjbnoedfgaaDoorP14
import Derived.Test.YtabnpjbnoedfgaaDoorP13
set_option linter.unusedVariables false
set_option linter.unusedSimpArgs false

/- The best plans; when all strikes can be set; the first that can't. Conditions: none. -/
namespace Go.Mus

/-! Each plan once -/
theorem daysFrom_nodup {f : Int} : ∀ (m : Nat) (d : Int), (daysFrom f d m).Nodup
  | 0, _ => .nil
  | m + 1, d => by
    rw [daysFrom, List.nodup_cons]
    refine ⟨fun h => ?_, daysFrom_nodup m (d + 1)⟩
    have := (mem_daysFrom h).2.1
    simp only at this; omega
theorem floorsFrom_nodup {s : St} : ∀ (m : Nat) (f : Int), (floorsFrom s f m).Nodup
  | 0, _ => .nil
  | m + 1, f => by
    rw [floorsFrom, List.nodup_append]
    refine ⟨daysFrom_nodup _ _, floorsFrom_nodup m (f + 1), fun a ha b hb e => ?_⟩
    subst e
    have h1 := (mem_daysFrom ha).1
    have h2 := (mem_floorsFrom hb).1
    omega
theorem berthsK_nodup {fs : List Fl} {ss : List St} {may : May} {k : Nat} : (berthsK fs ss may k).Nodup := by
  rw [berthsK, List.nodup_append]
  refine ⟨by split <;> simp, ?_, fun a ha b hb e => ?_⟩
  · split
    · exact floorsFrom_nodup _ _
    · exact .nil
  subst e
  split at ha
  · have : a = bnone := by simpa using ha
    subst this
    split at hb
    · have := (mem_floorsFrom hb).1; simp [bnone] at this
    · cases hb
  · cases ha
theorem rights_at {fs : List Fl} {ss : List St} {may : May} (hall : HallOK fs ss) {m k : Nat} {q p : List Be} {b : Be} (hk : k + 1 + m = ss.length) (hq : PlanOf fs ss q) (hn : ∀ i, k ≤ i → beAt q i = bnone) (hb : b ∈ berthsK fs ss may k) (h : p ∈ rights fs ss may m (k + 1) (q.set k b)) : beAt p k = b := by
  have hk4 : k < q.length := by have := hall.ns; have := hq.ok.len; omega
  have := ((mem_rights hall m (k + 1) (q.set k b) p (by omega) (plan_set hq (by omega) (berth_ok hall (by omega) hb)) (fun i hi => by rw [beAt_set hk4, if_neg (by omega)]; exact hn i (by omega))).1 h).2.1 k (by omega)
  rw [this, beAt_set hk4, if_pos rfl]
theorem rights_nodup {fs : List Fl} {ss : List St} {may : May} (hall : HallOK fs ss) : ∀ (m k : Nat) (q : List Be), k + m = ss.length → PlanOf fs ss q → (∀ i, k ≤ i → beAt q i = bnone) → (rights fs ss may m k q).Nodup
  | 0, k, q, _, _, _ => by
    rw [rights]; split <;> simp
  | m + 1, k, q, hk, hq, hn => by
    have hk4 : k < q.length := by have := hall.ns; have := hq.ok.len; omega
    rw [rights, List.Nodup, List.pairwise_flatMap]
    refine ⟨fun b hb => ?_, ?_⟩
    · split
      · exact .nil
      · exact rights_nodup hall m (k + 1) _ (by omega) (plan_set hq (by omega) (berth_ok hall (by omega) hb)) (fun i hi => by rw [beAt_set hk4, if_neg (by omega)]; exact hn i (by omega))
    · refine (berthsK_nodup (fs := fs) (ss := ss) (may := may) (k := k)).imp_of_mem fun {a b} ha hb hab x hx y hy e => ?_
      subst e
      split at hx
      · cases hx
      · split at hy
        · cases hy
        · exact hab ((rights_at hall (by omega) hq hn ha hx).symm.trans (rights_at hall (by omega) hq hn hb hy))
theorem allF_nodup {fs : List Fl} {ss : List St} {may : May} (hall : HallOK fs ss) : (allF fs ss may).Nodup := by
  unfold allF
  split
  · exact rights_nodup hall _ _ _ (by simp) (pad_nil hall.nf.1) (fun i _ => beAt_nil i)
  · rename_i hs
    have hall1 : ∀ b, b ∈ berthsK fs ss may 0 → ∀ i, 1 ≤ i → beAt ((padB []).set 0 b) i = bnone := fun b _ i hi => by rw [beAt_set (by decide), if_neg (by omega)]; exact beAt_nil i
    rw [List.Nodup, List.pairwise_flatMap]
    refine ⟨fun b hb => ?_, ?_⟩
    · rw [rightsOf, List.length_singleton, pad_one]
      exact rights_nodup hall _ _ _ (by omega) (plan_set (pad_nil hall.nf.1) (by omega) (berth_ok hall (by omega) hb)) (hall1 b hb)
    · refine (berthsK_nodup (fs := fs) (ss := ss) (may := may) (k := 0)).imp_of_mem fun {a b} ha hb hab x hx y hy e => ?_
      subst e
      rw [rightsOf, List.length_singleton, pad_one] at hx hy
      exact hab ((rights_at hall (by omega) (pad_nil hall.nf.1) (fun i _ => beAt_nil i) ha hx).symm.trans (rights_at hall (by omega) (pad_nil hall.nf.1) (fun i _ => beAt_nil i) hb hy))

/-! The best -/
theorem filter_none {α : Type} {l : List α} {f : α → Bool} (h : ∀ q ∈ l, f q = false) : l.filter f = [] := List.filter_eq_nil_iff.2 fun q hq => by rw [h q hq]; simp
/-- What is kept while plans are looked at. -/
structure BInv (ss : List St) (l : List (List Be)) (s : (Int × List (List Be)) × List (List Be)) : Prop where
  met : s.2 = l
  top : l ≠ [] → (∃ q ∈ l, loavesF ss q = s.1.1) ∧ ∀ q ∈ l, loavesF ss q ≤ s.1.1
  out : s.1.2 = l.filter fun q => decide (loavesF ss q = s.1.1)
theorem BInv.step {ss : List St} {l : List (List Be)} {s : (Int × List (List Be)) × List (List Be)} {p : List Be} (H : BInv ss l s) (hp : p ∉ l) : BInv ss (l ++ [p]) (bstep ss s p) := by
  obtain ⟨⟨m, out⟩, met⟩ := s
  obtain ⟨h1, h2, h3⟩ := H
  simp only at h1 h2 h3
  subst h1
  obtain ⟨n, hn⟩ : ∃ n, loavesF ss p = n := ⟨_, rfl⟩
  simp only [bstep, if_neg hp, addM, hn]
  have hpf : ∀ c, [p].filter (fun q => decide (loavesF ss q = c)) = if n = c then [p] else [] := fun c => by
    rw [List.filter_cons]; simp [hn]
  rcases met with _ | ⟨q0, r0⟩
  · have h0 : out = [] := h3
    subst h0
    simp only [true_or, if_true, List.nil_append]
    refine ⟨rfl, fun _ => ⟨⟨p, by simp, hn⟩, fun q hq => ?_⟩, by simp only; rw [hpf, if_pos rfl]⟩
    have : q = p := by simpa using hq
    subst this; simp only; omega
  · obtain ⟨⟨q1, hq1, hq2⟩, htop⟩ := h2 (by simp)
    have hne : (q0 :: r0).filter (fun q => decide (loavesF ss q = m)) ≠ [] := fun e => by
      have := List.filter_eq_nil_iff.1 e q1 hq1
      simp [hq2] at this
    rw [← h3] at hne
    generalize q0 :: r0 = l at *
    by_cases hlt : m < n
    · have hc : out = [] ∨ m < n := .inr hlt
      simp only [if_pos hc, if_true, List.nil_append]
      refine ⟨rfl, fun _ => ⟨⟨p, by simp, hn⟩, fun q hq => ?_⟩, ?_⟩
      · rcases List.mem_append.1 hq with hq | hq
        · have := htop q hq; simp only; omega
        · have : q = p := by simpa using hq
          subst this; simp only; omega
      · simp only
        rw [List.filter_append, hpf, if_pos rfl, filter_none fun q hq => ?_]
        · rfl
        · have := htop q hq
          exact decide_eq_false (by omega)
    · have hc : ¬ (out = [] ∨ m < n) := not_or.2 ⟨hne, hlt⟩
      simp only [if_neg hc]
      by_cases he : n = m
      · rw [if_pos he]
        refine ⟨rfl, fun _ => ⟨⟨p, by simp, hn.trans he⟩, fun q hq => ?_⟩, ?_⟩
        · rcases List.mem_append.1 hq with hq | hq
          · exact htop q hq
          · have : q = p := by simpa using hq
            subst this; simp only; omega
        · simp only
          rw [List.filter_append, hpf, if_pos he, h3]
      · rw [if_neg he]
        refine ⟨rfl, fun _ => ⟨⟨q1, by simp [hq1], hq2⟩, fun q hq => ?_⟩, ?_⟩
        · rcases List.mem_append.1 hq with hq | hq
          · exact htop q hq
          · have : q = p := by simpa using hq
            subst this; simp only; omega
        · simp only
          rw [List.filter_append, hpf, if_neg he, List.append_nil, h3]
theorem BInv.run {ss : List St} : ∀ (r l : List (List Be)) (s : (Int × List (List Be)) × List (List Be)), BInv ss l s → (l ++ r).Nodup → BInv ss (l ++ r) (r.foldl (bstep ss) s)
  | [], l, s, h, _ => by rw [List.append_nil]; exact h
  | p :: r, l, s, h, hnd => by
    rw [List.foldl_cons, show l ++ p :: r = (l ++ [p]) ++ r by simp]
    refine BInv.run r (l ++ [p]) _ (h.step fun hm => ?_) (by simpa using hnd)
    exact (List.nodup_append.1 hnd).2.2 p hm p (by simp) rfl
/-- ████ THE BEST PLANS: of the right ones those with the most loaves, in order. -/
theorem best_spec {fs : List Fl} {ss : List St} (hall : HallOK fs ss) : (∃ q ∈ allF fs ss freeM, loavesF ss q = (bestF fs ss).1) ∧ (∀ q ∈ allF fs ss freeM, loavesF ss q ≤ (bestF fs ss).1) ∧ (bestF fs ss).2 = (allF fs ss freeM).filter fun q => decide (loavesF ss q = (bestF fs ss).1) := by
  have h := BInv.run (ss := ss) (allF fs ss freeM) [] ((0, []), []) ⟨rfl, fun h => absurd rfl h, rfl⟩ (allF_nodup hall)
  rw [List.nil_append] at h
  have hne : allF fs ss freeM ≠ [] := fun e => by have := allF_p0 hall; rw [e] at this; cases this
  exact ⟨(h.top hne).1, (h.top hne).2, h.out⟩

/-! Loaves -/
def coG (ss : List St) (p : List Be) (i : Nat) : Int := if 0 ≤ (beAt p i).fl then (stAt ss i).co else 0
theorem loavesK_eq {fs : List Fl} {ss : List St} {p : List Be} (hall : HallOK fs ss) : ∀ k, k ≤ 1000 → loavesK ss p k = sumK (coG ss p) k ∧ 0 ≤ sumK (coG ss p) k ∧ sumK (coG ss p) k ≤ 6 * k
  | 0, _ => ⟨rfl, Int.le_refl _, Int.le_refl _⟩
  | k + 1, hk => by
    obtain ⟨h1, h2, h3⟩ := loavesK_eq (p := p) hall k (by omega)
    have hc := co_ok hall k
    simp only [loavesK, sumK, coG]
    split
    · rw [h1, wadd_small h2 (by omega) hc.1 (by omega)]
      exact ⟨rfl, by omega, by omega⟩
    · exact ⟨by omega, by omega, by omega⟩
theorem loavesF_eq {fs : List Fl} {ss : List St} {p : List Be} (hall : HallOK fs ss) : loavesF ss p = sumK (coG ss p) ss.length := (loavesK_eq hall _ (by have := hall.ns; omega)).1
theorem sumK_eq_all {g g' : Nat → Int} : ∀ {k : Nat}, (∀ i, i < k → g i ≤ g' i) → sumK g' k ≤ sumK g k → ∀ i, i < k → g i = g' i
  | 0, _, _, i, hi => by omega
  | k + 1, h, he, i, hi => by
    have h1 := sumK_le (k := k) fun i hi => h i (by omega)
    have h2 := h k (by omega)
    simp only [sumK] at he
    by_cases e : i = k
    · subst e; omega
    · exact sumK_eq_all (k := k) (fun i hi => h i (by omega)) (by omega) i (by omega)

/-! Whether all can be set -/
theorem valid_plan {fs : List Fl} {ss : List St} {may : May} {p : List Be} (hall : HallOK fs ss) (hv : Valid fs ss may p) : PlanOf fs ss p := by
  have hb : ∀ i, -1 ≤ (beAt p i).fl ∧ (beAt p i).fl ≤ 1 ∧ (beAt p i).fl < fs.length ∧ 0 ≤ (beAt p i).day ∧ (beAt p i).day ≤ 17 := fun i => by
    rcases Nat.lt_or_ge i ss.length with h | h
    · exact berth_ok hall h (hv.at_ i h)
    · rw [hv.out i h]; simp [bnone]; omega
  have hm : ∀ b ∈ p, ∃ i, b = beAt p i := fun b hb => by
    obtain ⟨i, hi, rfl⟩ := List.mem_iff_getElem.1 hb
    exact ⟨i, by simp [beAt, List.getD, List.getElem?_eq_getElem hi]⟩
  refine ⟨⟨hv.len, fun b h => ?_⟩, fun b h => ?_, fun i hi => by rw [hv.out i hi]; simp [bnone]⟩
  · obtain ⟨i, rfl⟩ := hm b h; have := hb i; omega
  · obtain ⟨i, rfl⟩ := hm b h; have := hb i; omega
theorem some_iff {fs : List Fl} {ss : List St} {may : May} (hall : HallOK fs ss) : someR fs ss may = true ↔ ∃ p, Valid fs ss may p ∧ inspF fs ss p = none := by
  have : someR fs ss may = true ↔ ∃ p, p ∈ rightsOf fs ss may [] := by
    simp only [someR, Bool.not_eq_true', List.isEmpty_eq_false_iff_exists_mem]
  rw [this]
  exact exists_congr fun p => mem_rightsOf hall
theorem bound_free {fs : List Fl} {ss : List St} {p : List Be} : Valid fs ss boundM p ↔ Valid fs ss freeM p ∧ ∀ i, i < ss.length → 0 ≤ (beAt p i).fl := by
  constructor
  · rintro ⟨h1, h2, h3⟩
    have hb : ∀ i, i < ss.length → 0 ≤ (beAt p i).fl ∧ beAt p i ∈ berthsK fs ss freeM i := fun i hi => by
      have := h2 i hi
      rw [mem_berths] at this ⊢
      simp only [boundM, freeM] at this ⊢
      simp at this ⊢
      exact ⟨this.1, .inr this⟩
    exact ⟨⟨h1, fun i hi => (hb i hi).2, h3⟩, fun i hi => (hb i hi).1⟩
  · rintro ⟨⟨h1, h2, h3⟩, h4⟩
    refine ⟨h1, fun i hi => ?_, h3⟩
    have := h2 i hi
    have h5 := h4 i hi
    rw [mem_berths] at this ⊢
    simp only [boundM, freeM] at this ⊢
    simp at this ⊢
    rcases this with h | h
    · rw [h] at h5; simp [bnone] at h5
    · exact h
theorem take_at {p : List Be} {n i : Nat} (hi : i < n) : (p.take n)[i]? = p[i]? := by
  rw [List.getElem?_take, if_pos hi]
/-- ████ THE BEST PLAN SETS ALL STRIKES just if some right plan does. -/
theorem best_all {fs : List Fl} {ss : List St} (hck : ckPlant fs ss = 0) : (∀ b ∈ (bestB fs ss).1, 0 ≤ b.fl) ↔ someR fs ss boundM = true := by
  have hall := hall_ck hck
  have hns := hall.ns
  obtain ⟨-, htop, hout⟩ := best_spec hall
  obtain ⟨p, r, hpr⟩ : ∃ p r, (bestF fs ss).2 = p :: r := by
    cases h : (bestF fs ss).2 with
    | nil => exact absurd h (bestF_ne hall)
    | cons p r => exact ⟨p, r, rfl⟩
  have hpm : p ∈ (bestF fs ss).2 := hpr ▸ List.mem_cons_self ..
  have hp := hpm
  rw [hout, List.mem_filter] at hp
  obtain ⟨hpa, hpl⟩ := hp
  have hpl' : loavesF ss p = (bestF fs ss).1 := by simpa using hpl
  obtain ⟨hv, hin⟩ := (mem_allF hall).1 hpa
  have hbB : (bestB fs ss).1 = p.take ss.length := by simp only [bestB]; rw [if_neg (by simp [hck]), hpr]; rfl
  have hat : (∀ b ∈ p.take ss.length, 0 ≤ b.fl) ↔ ∀ i, i < ss.length → 0 ≤ (beAt p i).fl := by
    constructor
    · intro h i hi
      have e : p[i]? = some (beAt p i) := by
        have := hv.len
        simp [beAt, List.getD, List.getElem?_eq_getElem (show i < p.length by omega)]
      exact h _ (List.mem_of_getElem? ((take_at hi).trans e))
    · intro h b hb
      obtain ⟨i, hi⟩ := List.mem_iff_getElem?.1 hb
      have hi4 : i < ss.length := by
        rcases Nat.lt_or_ge i ss.length with h' | h'
        · exact h'
        · rw [List.getElem?_eq_none (by simp; omega)] at hi; cases hi
      rw [take_at hi4] at hi
      have := h i hi4
      simpa [beAt, List.getD, hi] using this
  rw [hbB, hat, some_iff hall]
  constructor
  · intro h
    exact ⟨p, bound_free.2 ⟨hv, h⟩, hin⟩
  · rintro ⟨q, hq, hqi⟩
    obtain ⟨hqf, hqs⟩ := bound_free.1 hq
    have hle := htop q ((mem_allF hall).2 ⟨hqf, hqi⟩)
    rw [← hpl', loavesF_eq hall, loavesF_eq hall] at hle
    have hg : ∀ i, i < ss.length → coG ss p i = coG ss q i := sumK_eq_all (fun i hi => by
      simp only [coG, if_pos (hqs i hi)]
      have := (co_ok hall i).1
      split <;> omega) hle
    intro i hi
    have h1 := hg i hi
    have h2 := co_pos hall hi
    simp only [coG, if_pos (hqs i hi)] at h1
    split at h1
    · assumption
    · omega
end Go.Mus

/- The first strikes of a plant alone; which strike is late. Conditions: none. -/
namespace Go.Mus

theorem ckStrikes_take : ∀ {ss : List St} {b : Int} (m : Nat), ckStrikes b ss = 0 → ckStrikes b (ss.take m) = 0
  | [], b, m, _ => by simp [ckStrikes]
  | s :: ss, b, 0, _ => by simp [ckStrikes]
  | s :: ss, b, m + 1, h => by
    simp only [List.take_succ_cons, ckStrikes] at h ⊢
    split at h
    · rename_i hc; rw [if_pos hc]; exact ckStrikes_take m h
    · rename_i hc; exact absurd h hc
theorem ckPlant_mk {fs : List Fl} {ss : List St} (h1 : 1 ≤ fs.length) (h2 : fs.length ≤ 2) (h3 : ckFloors fs = 0) (h4 : ss.length ≤ 4) (h5 : ckStrikes 0 ss = 0) : ckPlant fs ss = 0 := by
  unfold ckPlant
  rw [if_neg (by omega), if_neg (by omega), if_neg (by simp [h3]), if_neg (by omega), h5]
theorem ckPlant_take {fs : List Fl} {ss : List St} (m : Nat) (h : ckPlant fs ss = 0) : ckPlant fs (ss.take m) = 0 := by
  obtain ⟨h1, h2, h3, h4, h5⟩ := ckPlant0 h
  exact ckPlant_mk (by omega) h2 h4 (by simp; omega) (ckStrikes_take m h5)

/-- What is right hangs on the cones of what is set. -/
theorem insp_cong {fs : List Fl} {ss ss' : List St} {p : List Be} (hall : HallOK fs ss) (hall' : HallOK fs ss') (hp : PlOK p) (h : ∀ i, i < 4 → 0 ≤ (beAt p i).fl → (stAt ss i).co = (stAt ss' i).co) : inspF fs ss p = none ↔ inspF fs ss' p = none := by
  rw [insp_none hall hp, insp_none hall' hp]
  have hh : ∀ f d : Int, 0 ≤ f → hiAt fs ss p f d = hiAt fs ss' p f d := fun f d hf => sumK_congr fun i hi => by
    simp only [hiG]
    by_cases hc : (beAt p i).fl = f ∧ (beAt p i).day ≤ d ∧ d < (beAt p i).day + (flAt fs f).hi
    · rw [if_pos hc, if_pos hc]; exact h i hi (by omega)
    · rw [if_neg hc, if_neg hc]
  have hb : ∀ f n : Int, 0 ≤ f → (Bad fs ss p f n ↔ Bad fs ss' p f n) := fun f n hf => by
    simp only [Bad, Full, hh f n hf]
  constructor
  · intro H f h0 h1 n hn; exact H f h0 h1 n ((hb f n h0).2 hn)
  · intro H f h0 h1 n hn; exact H f h0 h1 n ((hb f n h0).1 hn)
theorem stAt_take {ss : List St} {m i : Nat} (h : i < m) : stAt (ss.take m) i = stAt ss i := by
  simp only [stAt, List.getD, List.getElem?_take, if_pos h]
/-- .. so strikes that are to be left make no difference. -/
theorem some_take {fs : List Fl} {ss : List St} {m n : Nat} (hck : ckPlant fs ss = 0) (hn : n < m) (hm : m ≤ ss.length) : someR fs (ss.take m) (lateM n) = someR fs ss (lateM n) := by
  have hall := hall_ck hck
  have hall' := hall_ck (ckPlant_take m hck)
  have hl : (ss.take m).length = m := by simp; omega
  have hb : ∀ i (b : Be), i < m → (b ∈ berthsK fs (ss.take m) (lateM n) i ↔ b ∈ berthsK fs ss (lateM n) i) := fun i b hi => by
    rw [mem_berths, mem_berths, stAt_take hi]
  have hb2 : ∀ i (b : Be), m ≤ i → (b ∈ berthsK fs ss (lateM n) i ↔ b = bnone) := fun i b hi => by
    rw [mem_berths]
    have e1 : (lateM n i).1 = false := by simp [lateM]; omega
    have e2 : (lateM n i).2 = true := by simp [lateM]; omega
    rw [e1, e2]; simp
  have hv : ∀ p, Valid fs (ss.take m) (lateM n) p ↔ Valid fs ss (lateM n) p := fun p => by
    constructor
    · rintro ⟨h1, h2, h3⟩
      rw [hl] at h2 h3
      refine ⟨h1, fun i hi => ?_, fun i hi => h3 i (by omega)⟩
      rcases Nat.lt_or_ge i m with h | h
      · exact (hb i _ h).1 (h2 i h)
      · exact (hb2 i _ h).2 (h3 i h)
    · rintro ⟨h1, h2, h3⟩
      refine ⟨h1, fun i hi => ?_, fun i hi => ?_⟩
      · rw [hl] at hi; exact (hb i _ hi).2 (h2 i (by omega))
      · rw [hl] at hi
        rcases Nat.lt_or_ge i ss.length with h | h
        · exact (hb2 i _ hi).1 (h2 i h)
        · exact h3 i h
  have key : someR fs (ss.take m) (lateM n) = true ↔ someR fs ss (lateM n) = true := by
    rw [some_iff hall, some_iff hall']
    refine exists_congr fun p => ?_
    rw [hv p]
    refine and_congr_right fun hp => insp_cong hall' hall (valid_plan hall hp).ok fun i hi hf => ?_
    rcases Nat.lt_or_ge i m with h | h
    · rw [stAt_take h]
    · have := ((hv p).2 hp).out i (by omega)
      rw [this] at hf; simp [bnone] at hf
  exact Bool.eq_iff_iff.2 key
/-- All of the first ones. -/
theorem some_bound {fs : List Fl} {ss : List St} {m : Nat} (hck : ckPlant fs ss = 0) (h0 : 0 < m) (hm : m ≤ ss.length) : someR fs (ss.take m) boundM = someR fs ss (lateM (m - 1)) := by
  rw [← some_take (m := m) hck (by omega) hm]
  have hall' := hall_ck (ckPlant_take m hck)
  have hl : (ss.take m).length = m := by simp; omega
  refine Bool.eq_iff_iff.2 ?_
  rw [some_iff hall', some_iff hall']
  refine exists_congr fun p => and_congr_left fun _ => ?_
  have hb : ∀ i (b : Be), i < m → (b ∈ berthsK fs (ss.take m) boundM i ↔ b ∈ berthsK fs (ss.take m) (lateM (m - 1)) i) := fun i b hi => by
    rw [mem_berths, mem_berths]
    have e1 : (lateM (m - 1) i).1 = true := by simp [lateM]; omega
    have e2 : (lateM (m - 1) i).2 = false := by simp [lateM]; omega
    rw [e1, e2]; simp [boundM]
  constructor
  · rintro ⟨h1, h2, h3⟩
    exact ⟨h1, fun i hi => (hb i _ (by omega)).1 (h2 i hi), h3⟩
  · rintro ⟨h1, h2, h3⟩
    exact ⟨h1, fun i hi => (hb i _ (by omega)).2 (h2 i hi), h3⟩

theorem lateFrom_spec {fs : List Fl} {ss : List St} : ∀ (m n : Nat), (lateFrom fs ss m n = -1 ∧ ∀ k, n ≤ k → k < n + m → someR fs ss (lateM k) = true) ∨ ∃ r : Nat, n ≤ r ∧ r < n + m ∧ lateFrom fs ss m n = r ∧ someR fs ss (lateM r) = false ∧ ∀ k, n ≤ k → k < r → someR fs ss (lateM k) = true
  | 0, n => .inl ⟨rfl, fun k h1 h2 => by omega⟩
  | m + 1, n => by
    rw [lateFrom]
    cases hs : someR fs ss (lateM n) with
    | false =>
      rw [if_neg (by simp)]
      exact .inr ⟨n, Nat.le_refl _, by omega, rfl, hs, fun k h1 h2 => by omega⟩
    | true =>
      rw [if_pos rfl]
      rcases lateFrom_spec (fs := fs) (ss := ss) m (n + 1) with ⟨h1, h2⟩ | ⟨r, h1, h2, h3, h4, h5⟩
      · refine .inl ⟨h1, fun k k1 k2 => ?_⟩
        by_cases e : k = n
        · subst e; exact hs
        · exact h2 k (by omega) (by omega)
      · refine .inr ⟨r, by omega, by omega, h3, h4, fun k k1 k2 => ?_⟩
        by_cases e : k = n
        · subst e; exact hs
        · exact h5 k (by omega) k2
/-- ████ WHICH STRIKE IS LATE. -/
theorem late_spec (fs : List Fl) (ss : List St) : (lateF fs ss = -1 ∧ ∀ k, k < ss.length → someR fs ss (lateM k) = true) ∨ ∃ r : Nat, r < ss.length ∧ lateF fs ss = r ∧ someR fs ss (lateM r) = false ∧ ∀ k, k < r → someR fs ss (lateM k) = true := by
  rcases lateFrom_spec (fs := fs) (ss := ss) ss.length 0 with ⟨h1, h2⟩ | ⟨r, h1, h2, h3, h4, h5⟩
  · exact .inl ⟨h1, fun k hk => h2 k (Nat.zero_le _) (by omega)⟩
  · exact .inr ⟨r, by omega, h3, h4, fun k hk => h5 k (Nat.zero_le _) hk⟩
theorem late_without {fs : List Fl} {ss : List St} (hck : ckPlant fs ss = 0) (hn : 0 < ss.length) : lateF fs (ss.take (ss.length - 1)) = if lateF fs ss = (ss.length : Int) - 1 then -1 else lateF fs ss := by
  have hl : (ss.take (ss.length - 1)).length = ss.length - 1 := by simp
  have hs : ∀ k, k < ss.length - 1 → someR fs (ss.take (ss.length - 1)) (lateM k) = someR fs ss (lateM k) := fun k hk => some_take hck hk (by omega)
  rcases late_spec fs ss with ⟨h1, h2⟩ | ⟨r, h1, h2, h3, h4⟩ <;> rcases late_spec fs (ss.take (ss.length - 1)) with ⟨g1, g2⟩ | ⟨r', g1, g2, g3, g4⟩
  · rw [h1, g1, if_neg (by omega)]
  · rw [hl] at g1
    rw [hs r' g1, h2 r' (by omega)] at g3
    cases g3
  · rw [h2, g1]
    by_cases e : r = ss.length - 1
    · rw [if_pos (by omega)]
    · have := g2 r (by omega)
      rw [hs r (by omega), h3] at this
      cases this
  · rw [hl] at g1
    rw [hs r' g1] at g3
    rw [h2, g2]
    rcases Nat.lt_trichotomy r r' with h | h | h
    · have := g4 r h
      rw [hs r (by omega), h3] at this
      cases this
    · subst h; rw [if_neg (by omega)]
    · rw [h4 r' h] at g3; cases g3
end Go.Mus

/- A plant without its last strike. Conditions: none; over the given program. -/
namespace Go.Mus
set_option maxRecDepth 100000
set_option maxHeartbeats 4000000

theorem Os.addr {α : Type} {row : α → List Value} {w : Nat} [Rw row w] {E : TypeId} {a : Option Addr} {n cap : Nat} {l : List α} {A : Frag} (H : Os E row (.slice a n cap) l A) : (a.map (·.spot) = some none ∨ a = none) ∧ l.length ≤ cap := by
  rcases H with ⟨rfl, e, _⟩ | ⟨β, c, cap', J, e, _, _, h2, _⟩
  · cases e; exact ⟨.inr rfl, Nat.le_refl _⟩
  · cases e; exact ⟨.inl rfl, h2⟩
theorem FloorWithout_top (main : Side) (hS : ∀ S, main.ok S → ∃ Fin, S = Mn prog Fin) (hmb : main.b = true) (h : Hp) (nums : List Int) (lv : Value) (Eg : TypeId) (zg : Nat × Nat) (hl : Sl h rowI lv nums) (hg : h 0 = some (.cells #[rtV t_error] Eg zg)) (z0 : h.z 0) : TopV prog main n_law_FloorWithout #[lv] h (.bool true) := by
  refine TopV.of_body at_law_FloorWithout rfl (by show 1 ≤ 57; decide) [(0, lv)] ⟨rfl, trivial⟩ ?_
  refine W.seq ?_
  refine W.region rfl ?_
  refine oq (y_assign rfl rfl) rfl wn rfl rfl ?_
  refine Ops.nil ?_
  refine thn_n ?_
  refine W.seq ?_
  refine W.region rfl ?_
  refine oq (y_move rfl rfl) rfl wn rfl rfl ?_
  refine c0 (fun h' hE hL => NewHat_fn _ h' nums lv (hl.ext hE)) (fun v A' hv => ?_)
  obtain ⟨bh, s0, rfl, rfl⟩ := hv
  refine cg (A := [(bh, _)]) .head (fun h' hE hL => PlantOf_fn _ h' nums lv bh s0 4 1 (hl.ext hE) (by decide) (by decide)) (fun v A' hv => ?_)
  obtain ⟨vf, vs, fs, ss, Sf, Ss, k1, s1, rfl, ⟨hOf, hOs⟩, ⟨hck, hn4, hw⟩, -, hsb⟩ := hv
  refine Ops.sb (F' := Sf ++ Ss) ((Sb.skip rfl .refl).trans (hsb.trans (Sb.right .refl .nil))) ?_
  obtain ⟨a, cap, rfl⟩ := hOf.isSl
  obtain ⟨a', cap', rfl⟩ := hOs.isSl
  obtain ⟨h1n, h2n, -, -, -⟩ := ckPlant0 hck
  refine Ops.new (fun β3 => ?_)
  first | refine Ops.stoW ?_ | refine Ops.stoA ?_
  refine Ops.nil ?_
  refine thn_n ?_
  refine W.seq ?_
  refine W.region rfl ?_
  refine oq (y_fieldAddr rfl rfl) rfl wn rfl rfl ?_
  refine oq (yld rfl rfl) rfl wn rfl rfl ?_
  refine oq (y_len rfl rfl) rfl wn rfl rfl ?_
  refine oq (y_assign rfl rfl) rfl wn rfl rfl ?_
  refine Ops.nil ?_
  refine thn_n ?_
  refine W.seq ?_
  refine W.seq ?_
  refine W.region rfl ?_
  refine oq (y_move rfl rfl) rfl wn rfl rfl ?_
  refine oq (y_eql rfl rfl rfl) rfl wn rfl rfl ?_
  refine Ops.nil ?_
  refine thn_n ?_
  refine W.condp rfl (fun c18 => ?_) (fun c18 => ?_)
  · refine W.seq ?_
    refine W.region rfl ?_
    refine cp (fun h' hE hL => exs_fn _ hS hmb h' Eg zg (hE.1 _ _ hg) (hE.2 _ z0)) ?_
    refine oq (y_assign rfl rfl) rfl wn rfl rfl ?_
    refine Ops.nil ?_
    refine thn_n ?_
    refine W.ret ?_
    refine thn_r ?_
    exact lvq (hs := .cons rfl (hOf.shut.app hOs.shut)) rfl
  · refine W.skip ?_
    refine thn_n ?_
    refine W.seq ?_
    refine W.region rfl ?_
    first | refine oq (yldW rfl rfl) rfl wn rfl rfl ?_ | refine oq (yldA rfl rfl) rfl wn rfl rfl ?_
    refine c0 (fun h' hE hL => DupPlant_fn _ h' fs ss _ _ (hOf.sl fun b o hb => hL b o (.tail _ (List.mem_append_left _ hb))) (hOs.sl fun b o hb => hL b o (.tail _ (List.mem_append_right _ hb))) (by omega)) (fun v A' hv => ?_)
    obtain ⟨vf2, vs2, Sf2, Ss2, rfl, ⟨hOf2, hOs2⟩, hsb⟩ := hv
    refine Ops.sb (F' := (β3, .cells #[.slice a fs.length cap, .slice a' ss.length cap'] t_Plant (0, 0)) :: ((Sf ++ Ss) ++ (Sf2 ++ Ss2))) (.trans (.of_perm (List.perm_append_comm (l₁ := _ :: (Sf ++ Ss)) (l₂ := Sf2 ++ Ss2))) (hsb.app .refl)) ?_
    obtain ⟨a2, cap2, rfl⟩ := hOf2.isSl
    obtain ⟨a3, cap3, rfl⟩ := hOs2.isSl
    obtain ⟨hsp, hcp⟩ := hOs2.addr
    refine Ops.new (fun β5 => ?_)
    first | refine Ops.stoW ?_ | refine Ops.stoA ?_
    refine Ops.nil ?_
    refine thn_n ?_
    refine W.seq ?_
    refine W.region rfl ?_
    refine oq (y_fieldAddr rfl rfl) rfl wn rfl rfl ?_
    refine oq (yld rfl rfl) rfl wn rfl rfl ?_
    refine oq (y_move rfl rfl) rfl wn rfl rfl ?_
    refine oq ((ysub rfl rfl rfl).eq (u := I ((ss.length - 1 : Nat) : Int)) (show I _ = I _ by congr 1; omega)) rfl wn rfl rfl ?_
    refine oq (y_sliceHi (m := ss.length - 1) rfl rfl rfl hsp) rfl wn rfl rfl ?_
    refine oq (y_fieldAddr rfl rfl) rfl wn rfl rfl ?_
    refine Ops.sto ?_
    refine Ops.nil ?_
    refine thn_n ?_
    refine W.seq ?_
    refine W.region rfl ?_
    first | refine oq (yldW rfl rfl) rfl wn rfl rfl ?_ | refine oq (yldA rfl rfl) rfl wn rfl rfl ?_
    refine cp (u := .tuple #[I (lateF fs ss), I 0]) (fun h' hE hL => ?_) ?_
    · have := Late_fn main h' fs ss _ _ Eg zg (hOf.sl fun b o hb => hL b o (.tail _ (.tail _ (List.mem_append_left _ (List.mem_append_left _ hb))))) (hOs.sl fun b o hb => hL b o (.tail _ (.tail _ (List.mem_append_left _ (List.mem_append_right _ hb))))) (hE.1 _ _ hg)
      rw [hck, if_neg (by decide)] at this
      exact this
    refine oq (y_move rfl rfl) rfl wn rfl rfl ?_
    refine oq (y_extract rfl rfl rfl) rfl wn rfl rfl ?_
    refine oq (y_extract rfl rfl rfl) rfl wn rfl rfl ?_
    refine oq (y_assign rfl rfl) rfl wn rfl rfl ?_
    refine oq (y_assign rfl rfl) rfl wn rfl rfl ?_
    refine Ops.nil ?_
    refine thn_n ?_
    refine W.seq ?_
    refine W.region rfl ?_
    first | refine oq (yldW rfl rfl) rfl wn rfl rfl ?_ | refine oq (yldA rfl rfl) rfl wn rfl rfl ?_
    refine cp (u := .tuple #[I (lateF fs (ss.take (ss.length - 1))), I 0]) (fun h' hE hL => ?_) ?_
    · have := Late_fn main h' fs (ss.take (ss.length - 1)) _ _ Eg zg (hOf2.sl fun b o hb => hL b o (.tail _ (.tail _ (List.mem_append_right _ (List.mem_append_left _ hb))))) (Sl.take (hOs2.sl fun b o hb => hL b o (.tail _ (.tail _ (List.mem_append_right _ (List.mem_append_right _ hb))))) (by omega)) (hE.1 _ _ hg)
      rw [ckPlant_take _ hck, if_neg (by decide)] at this
      exact this
    refine oq (y_move rfl rfl) rfl wn rfl rfl ?_
    refine oq (y_extract rfl rfl rfl) rfl wn rfl rfl ?_
    refine oq (y_extract rfl rfl rfl) rfl wn rfl rfl ?_
    refine oq (y_assign rfl rfl) rfl wn rfl rfl ?_
    refine oq (y_assign rfl rfl) rfl wn rfl rfl ?_
    refine Ops.nil ?_
    refine thn_n ?_
    refine W.seq ?_
    refine W.region rfl ?_
    have hlw := late_without hck (show 0 < ss.length by omega)
    refine oq (y_move rfl rfl) rfl wn rfl rfl ?_
    refine oq (y_assign rfl rfl) rfl wn rfl rfl ?_
    refine Ops.nil ?_
    refine thn_n ?_
    refine W.seq ?_
    refine W.seq ?_
    refine W.region rfl ?_
    refine oq (y_move rfl rfl) rfl wn rfl rfl ?_
    refine oq (y_move rfl rfl) rfl wn rfl rfl ?_
    first | refine oq (ysub rfl rfl rfl) rfl wn rfl rfl ?_ | refine oq (y_subw rfl rfl rfl) rfl wn rfl rfl ?_
    refine oq (y_eql rfl rfl rfl) rfl wn rfl rfl ?_
    refine Ops.nil ?_
    refine thn_n ?_
    refine W.condp rfl (fun c42 => ?_) (fun c42 => ?_)
    · refine W.region rfl ?_
      refine oq (y_assign rfl rfl) rfl wn rfl rfl ?_
      refine Ops.nil ?_
      refine thn_n ?_
      refine W.seq ?_
      refine W.region rfl ?_
      refine oq (y_move rfl rfl) rfl wn rfl rfl ?_
      --abs T
      refine oq ((y_eql rfl rfl rfl).eq (u := .bool true) rfl) rfl wn rfl rfl ?_
      refine oq (y_move rfl rfl) rfl wn rfl rfl ?_
      refine oq (y_move rfl rfl) rfl (want_some rfl rfl rfl) rfl rfl ?_
      --abs T
      refine oq ((y_eql rfl rfl rfl).eq (u := .bool true) rfl) rfl (want_some rfl rfl rfl) rfl rfl ?_
      refine oq (y_pickT rfl rfl rfl) rfl wn rfl rfl ?_
      refine oq (y_move rfl rfl) rfl wn rfl rfl ?_
      refine oq (y_move rfl rfl) rfl (want_some rfl rfl rfl) rfl rfl ?_
      refine oq (y_move rfl rfl) rfl (want_some rfl rfl rfl) rfl rfl ?_
      --abs T
      first
      | refine oq ((y_eql rfl rfl rfl).eq (u := .bool true) (congrArg Value.bool (decide_eq_true (hlw.trans (if_pos c42))))) rfl (want_some rfl rfl rfl) rfl rfl ?_
      | refine oq ((y_eql rfl rfl rfl).eq (u := .bool true) (congrArg Value.bool (decide_eq_true (hlw.trans (if_neg c42))))) rfl (want_some rfl rfl rfl) rfl rfl ?_
      refine oq (y_pickT rfl rfl rfl) rfl wn rfl rfl ?_
      refine oq (y_move rfl rfl) rfl wn rfl rfl ?_
      --abs T
      refine cp (fun h' hE hL => exs_fn _ hS hmb h' Eg zg (hE.1 _ _ hg) (hE.2 _ z0)) ?_ (hw := want_some rfl rfl rfl)
      refine oq (y_pickT rfl rfl rfl) rfl wn rfl rfl ?_
      refine oq (y_assign rfl rfl) rfl wn rfl rfl ?_
      refine Ops.nil ?_
      refine thn_n ?_
      refine W.ret ?_
      exact lvq (hs := .cons rfl (.cons rfl ((hOf.shut.app hOs.shut).app (hOf2.shut.app hOs2.shut)))) rfl
    · refine W.skip ?_
      refine thn_n ?_
      refine W.seq ?_
      refine W.region rfl ?_
      refine oq (y_move rfl rfl) rfl wn rfl rfl ?_
      --abs T
      refine oq ((y_eql rfl rfl rfl).eq (u := .bool true) rfl) rfl wn rfl rfl ?_
      refine oq (y_move rfl rfl) rfl wn rfl rfl ?_
      refine oq (y_move rfl rfl) rfl (want_some rfl rfl rfl) rfl rfl ?_
      --abs T
      refine oq ((y_eql rfl rfl rfl).eq (u := .bool true) rfl) rfl (want_some rfl rfl rfl) rfl rfl ?_
      refine oq (y_pickT rfl rfl rfl) rfl wn rfl rfl ?_
      refine oq (y_move rfl rfl) rfl wn rfl rfl ?_
      refine oq (y_move rfl rfl) rfl (want_some rfl rfl rfl) rfl rfl ?_
      refine oq (y_move rfl rfl) rfl (want_some rfl rfl rfl) rfl rfl ?_
      --abs T
      first
      | refine oq ((y_eql rfl rfl rfl).eq (u := .bool true) (congrArg Value.bool (decide_eq_true (hlw.trans (if_pos c42))))) rfl (want_some rfl rfl rfl) rfl rfl ?_
      | refine oq ((y_eql rfl rfl rfl).eq (u := .bool true) (congrArg Value.bool (decide_eq_true (hlw.trans (if_neg c42))))) rfl (want_some rfl rfl rfl) rfl rfl ?_
      refine oq (y_pickT rfl rfl rfl) rfl wn rfl rfl ?_
      refine oq (y_move rfl rfl) rfl wn rfl rfl ?_
      --abs T
      refine cp (fun h' hE hL => exs_fn _ hS hmb h' Eg zg (hE.1 _ _ hg) (hE.2 _ z0)) ?_ (hw := want_some rfl rfl rfl)
      refine oq (y_pickT rfl rfl rfl) rfl wn rfl rfl ?_
      refine oq (y_assign rfl rfl) rfl wn rfl rfl ?_
      refine Ops.nil ?_
      refine thn_n ?_
      refine W.ret ?_
      exact lvq (hs := .cons rfl (.cons rfl ((hOf.shut.app hOs.shut).app (hOf2.shut.app hOs2.shut)))) rfl
end Go.Mus

/- The strike that is late, and the best plan's length. Conditions: none. -/
namespace Go.Mus
theorem late_eq {fs : List Fl} {ss : List St} {r : Nat} (hr : r < ss.length) (hf : someR fs ss (lateM r) = false) (ha : ∀ k, k < r → someR fs ss (lateM k) = true) : lateF fs ss = r := by
  rcases late_spec fs ss with ⟨h1, h2⟩ | ⟨r', h1, h2, h3, h4⟩
  · rw [h2 r hr] at hf; cases hf
  · rcases Nat.lt_trichotomy r r' with h | h | h
    · rw [h4 r h] at hf; cases hf
    · subst h; exact h2
    · rw [ha r' h] at h3; cases h3
theorem late_all {fs : List Fl} {ss : List St} (ha : ∀ k, k < ss.length → someR fs ss (lateM k) = true) : lateF fs ss = -1 := by
  rcases late_spec fs ss with ⟨h1, h2⟩ | ⟨r', h1, h2, h3, h4⟩
  · exact h1
  · rw [ha r' h1] at h3; cases h3
theorem bestB_ok {fs : List Fl} {ss : List St} (hck : ckPlant fs ss = 0) : bestB fs ss = ((bestB fs ss).1, (bestF fs ss).1, 0) ∧ (bestB fs ss).1.length = ss.length := by
  have hall := hall_ck hck
  have hns := hall.ns
  have e : bestB fs ss = (((bestF fs ss).2.headD []).take ss.length, (bestF fs ss).1, 0) := by simp only [bestB]; rw [if_neg (by simp [hck])]
  refine ⟨by rw [e], ?_⟩
  rw [e]
  obtain ⟨p, r, hpr⟩ : ∃ p r, (bestF fs ss).2 = p :: r := by
    cases h : (bestF fs ss).2 with
    | nil => exact absurd h (bestF_ne hall)
    | cons p r => exact ⟨p, r, rfl⟩
  have hp4 : p.length = 4 := allF4 (bestF_mem (hpr ▸ List.mem_cons_self ..))
  rw [hpr]
  simp [hp4]; omega
end Go.Mus

/- Whether all strikes of a plant are set in its best plan; the strike that is late, asked of the best plans. Conditions: none; over the given program. -/
namespace Go.Mus
set_option maxRecDepth 100000
set_option maxHeartbeats 4000000

theorem served_fn (main : Side) (hS : ∀ S, main.ok S → ∃ Fin, S = Mn prog Fin) (hmb : main.b = true) (h : Hp) (fs : List Fl) (ss : List St) (vf vs : Value) (Eg : TypeId) (zg : Nat × Nat) (hf : Sl h Fl.row vf fs) (hs : Sl h St.row vs ss) (zf : Zs h vf) (zs : Zs h vs) (hck : ckPlant fs ss = 0)
    (hg : h 0 = some (.cells #[rtV t_error] Eg zg)) (z0 : h.z 0) : Pu prog main n_law_served #[.agg #[vf, vs]] h (.tuple #[.bool (someR fs ss boundM), .bool true]) := by
  obtain ⟨a, cap, rfl⟩ := hf.isSl
  obtain ⟨a', cap', rfl⟩ := hs.isSl
  obtain ⟨hbe, hbl⟩ := bestB_ok hck
  have hba := best_all hck
  have hns := (hall_ck hck).ns
  obtain ⟨l, hl⟩ : ∃ l, (bestB fs ss).1 = l := ⟨_, rfl⟩
  rw [hl] at hbe hbl hba
  refine Fnc.of_body at_law_served rfl (by show 1 ≤ 36; decide) [(0, .agg #[.slice a fs.length cap, .slice a' ss.length cap'])] ⟨rfl, trivial⟩ ?_
  refine W.seq ?_
  refine W.region rfl ?_
  refine Ops.box (fun β1 => ?_)
  refine oq (y_assign rfl rfl) rfl wn rfl rfl ?_
  refine oq (y_assign rfl rfl) rfl wn rfl rfl ?_
  refine Ops.nil ?_
  refine thn_n ?_
  refine W.seq ?_
  refine W.region rfl ?_
  first | refine oq (yldW rfl rfl) rfl wn rfl rfl ?_ | refine oq (yldA rfl rfl) rfl wn rfl rfl ?_
  refine c0 (fun h' hE hL => Best_fn _ hS hmb h' fs ss (.slice a fs.length cap) (.slice a' ss.length cap') Eg zg (hf.ext hE) (hs.ext hE) (zf.ext hE) (zs.ext hE) (hE.1 _ _ hg) (hE.2 _ z0)) (fun v A' hv => ?_)
  rw [hbe] at hv
  obtain ⟨u, S, rfl, hO, hsb⟩ := hv
  obtain ⟨ua, uc, rfl⟩ := hO.isSl
  refine Ops.sb (F' := (β1, .cells #[.slice a fs.length cap, .slice a' ss.length cap'] t_Plant (0, 0)) :: S) (.trans (.of_perm (List.perm_append_singleton _ _).symm) (hsb.app .refl)) ?_
  refine oq (y_move rfl rfl) rfl wn rfl rfl ?_
  refine oq (y_extract rfl rfl rfl) rfl wn rfl rfl ?_
  refine oq (y_extract rfl rfl rfl) rfl wn rfl rfl ?_
  refine oq (y_extract rfl rfl rfl) rfl wn rfl rfl ?_
  refine oq (y_assign rfl rfl) rfl wn rfl rfl ?_
  refine oq (y_assign rfl rfl) rfl wn rfl rfl ?_
  refine oq (y_assign rfl rfl) rfl wn rfl rfl ?_
  refine Ops.nil ?_
  refine thn_n ?_
  refine W.seq ?_
  refine W.seq ?_
  refine W.region rfl ?_
  refine oq (y_move rfl rfl) rfl wn rfl rfl ?_
  --abs F
  refine oq ((y_neq rfl rfl rfl).eq (u := .bool false) rfl) rfl wn rfl rfl ?_
  refine oq (y_move rfl rfl) rfl wn rfl rfl ?_
  refine oq (y_move rfl rfl) rfl (want_some rfl rfl rfl) rfl rfl ?_
  refine oq (y_len rfl rfl) rfl (want_some rfl rfl rfl) rfl rfl ?_
  refine oq (y_fieldAddr rfl rfl) rfl (want_some rfl rfl rfl) rfl rfl ?_
  refine oq (yld rfl rfl) rfl (want_some rfl rfl rfl) rfl rfl ?_
  refine oq (y_len rfl rfl) rfl (want_some rfl rfl rfl) rfl rfl ?_
  --abs F
  refine oq ((y_neq rfl rfl rfl).eq (u := .bool false) (congrArg Value.bool (decide_eq_false (fun hne => hne (by simp only; omega))))) rfl (want_some rfl rfl rfl) rfl rfl ?_
  refine oq (y_pickF rfl rfl rfl) rfl wn rfl rfl ?_
  refine Ops.nil ?_
  refine thn_n ?_
  refine W.condF ?_
  refine W.skip ?_
  refine thn_n ?_
  refine W.seq ?_
  refine W.sb (F' := S ++ [(β1, .cells #[.slice a fs.length cap, .slice a' ss.length cap'] t_Plant (0, 0))]) (.of_perm (List.perm_append_singleton _ _)) ?_
  refine freezeOs hO (fun hx hEx hsl _ => ?_)
  refine W.seq ?_
  refine W.region rfl ?_
  refine oq (y_assign rfl rfl) rfl wn rfl rfl ?_
  refine Ops.nil ?_
  refine thn_n ?_
  refine W.block ?_
  refine W.loop (σ := Nat) (fun k => k ≤ l.length ∧ ∀ i b, i < k → l[i]? = some b → 0 ≤ b.fl) (fun k => [(7, I k), (4, .slice ua l.length uc)]) (fun _ => []) (fun k => l.length - k) 0 ⟨Nat.zero_le _, fun i b hi => by omega⟩ ⟨rfl, rfl, trivial⟩ sbA ?_
  rintro k ⟨hk, hall⟩
  refine W.seq ?_
  refine W.seq ?_
  refine W.region rfl ?_
  refine oq (y_move rfl rfl) rfl wn rfl rfl ?_
  refine oq (y_move rfl rfl) rfl wn rfl rfl ?_
  refine oq (y_len rfl rfl) rfl wn rfl rfl ?_
  refine oq (y_lss rfl rfl rfl) rfl wn rfl rfl ?_
  refine Ops.nil ?_
  refine thn_n ?_
  refine W.condp rfl (fun c27 => ?_) (fun c27 => ?_)
  · obtain ⟨p, hp, -⟩ := has (show k < l.length by omega)
    obtain ⟨b, off, c, E, fz, rfl, hb, hx1, hy1, hz1⟩ := hsl.at hp
    have hpb : c[off + k * 2 + 0]? = some (I p.fl) := hz1 0 (by decide)
    clear hx1 hz1
    refine W.skip ?_
    refine thn_n ?_
    refine W.seq ?_
    refine W.block ?_
    refine W.seq ?_
    refine W.region rfl ?_
    refine oq (y_move rfl rfl) rfl wn rfl rfl ?_
    refine oq (y_move rfl rfl) rfl wn rfl rfl ?_
    first | refine oq (yix rfl rfl rfl) rfl wn rfl rfl ?_ | refine oq (yixI rfl rfl rfl) rfl wn rfl rfl ?_
    refine oq (y_fieldAddr rfl rfl) rfl wn rfl rfl ?_
    refine oq (yld rfl rfl (hl := .inl hb) (hc := hpb)) rfl wn rfl rfl ?_
    refine oq (y_lss rfl rfl rfl) rfl wn rfl rfl ?_
    refine Ops.nil ?_
    refine thn_n ?_
    refine W.condp rfl (fun c35 => ?_) (fun c35 => ?_)
    · refine W.seq ?_
      refine W.region rfl ?_
      refine oq (y_assign rfl rfl) rfl wn rfl rfl ?_
      refine oq (y_assign rfl rfl) rfl wn rfl rfl ?_
      refine Ops.nil ?_
      refine thn_n ?_
      refine W.ret ?_
      refine blk_r ?_
      refine thn_r ?_
      refine thn_r ?_
      refine blk_r ?_
      refine thn_r ?_
      refine lvp ?_
      have : someR fs ss boundM = false := by
        cases hs : someR fs ss boundM with
        | false => rfl
        | true => have := hba.2 hs p (List.mem_of_getElem? hp); omega
      rw [this]; rfl
    · refine W.skip ?_
      refine blk_n ?_
      refine thn_n ?_
      refine W.region rfl ?_
      refine oq (y_move rfl rfl) rfl wn rfl rfl ?_
      first | refine oq (yadd rfl rfl rfl) rfl wn rfl rfl ?_ | refine oq (y_addw rfl rfl rfl) rfl wn rfl rfl ?_
      refine oq (y_assign rfl rfl) rfl wn rfl rfl ?_
      refine Ops.nil ?_
      refine thn_n ?_
      refine ⟨rfl, k + 1, ⟨by omega, fun i q hi hq => ?_⟩, by omega, ⟨rfl, rfl, trivial⟩, sbA⟩
      by_cases e : i = k
      · subst e
        rw [hp] at hq; cases hq
        omega
      · exact hall i q (by omega) hq
  · refine W.exit ?_
    refine thn_x ?_
    refine thn_x ?_
    refine blk_x ?_
    refine thn_n ?_
    refine W.seq ?_
    refine W.region rfl ?_
    refine oq (y_assign rfl rfl) rfl wn rfl rfl ?_
    refine oq (y_assign rfl rfl) rfl wn rfl rfl ?_
    refine Ops.nil ?_
    refine thn_n ?_
    refine W.ret ?_
    refine lvp ?_
    have : someR fs ss boundM = true := hba.1 fun q hq => by
      obtain ⟨i, hi⟩ := List.mem_iff_getElem?.1 hq
      exact hall i q (by have := lt_of_get hi; omega) hi
    rw [this]; rfl
end Go.Mus
