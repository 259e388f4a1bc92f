/- The best plans; when all strikes can be set; the first that can't. Conditions: none. (And 22 texts more.) -/
import Derived.Test.YtabnpjbnoedfgaaDoorFloorHeatQ1
import Derived.Test.YtabnpjbnoedfgaaDoorR09
import Derived.Test.YtabnpjbnoedfgaaDoorR06
set_option linter.unusedVariables false
set_option linter.unusedSimpArgs false
set_option linter.unusedSectionVars false

/- The best plans; when all strikes can be set; the first that can't. Conditions: none. -/
namespace Go.Mus
/-! Each plan once -/
theorem daysFrom_nodup {f : Int} : ∀ (m : Nat) (d : Int), (daysFrom f d m).Nodup
  | 0, _ => .nil
  | m + 1, d => by
    rw [daysFrom, List.nodup_cons]
    refine ⟨fun h => ?_, daysFrom_nodup m (d + 1)⟩
    have := (mem_daysFrom h).2.1
    simp only at this; omega
theorem floorsFrom_nodup {s : St} : ∀ (m : Nat) (f : Int), (floorsFrom s f m).Nodup
  | 0, _ => .nil
  | m + 1, f => by
    rw [floorsFrom, List.nodup_append]
    refine ⟨daysFrom_nodup _ _, floorsFrom_nodup m (f + 1), fun a ha b hb e => ?_⟩
    subst e
    have h1 := (mem_daysFrom ha).1
    have h2 := (mem_floorsFrom hb).1
    omega
theorem berthsK_nodup {fs : List Fl} {ss : List St} {may : May} {k : Nat} : (berthsK fs ss may k).Nodup := by
  rw [berthsK, List.nodup_append]
  refine ⟨by split <;> simp, ?_, fun a ha b hb e => ?_⟩
  · split
    · exact floorsFrom_nodup _ _
    · exact .nil
  subst e
  split at ha
  · have : a = bnone := by simpa using ha
    subst this
    split at hb
    · have := (mem_floorsFrom hb).1; simp [bnone] at this
    · cases hb
  · cases ha
theorem rights_at {fs : List Fl} {ss : List St} {may : May} (hall : HallOK fs ss) {m k : Nat} {q p : List Be} {b : Be} (hk : k + 1 + m = ss.length) (hq : PlanOf fs ss q) (hn : ∀ i, k ≤ i → beAt q i = bnone) (hb : b ∈ berthsK fs ss may k) (h : p ∈ rights fs ss may m (k + 1) (q.set k b)) : beAt p k = b := by
  have hk4 : k < q.length := by have := hall.ns; have := hq.ok.len; omega
  have := ((mem_rights hall m (k + 1) (q.set k b) p (by omega) (plan_set hq (by omega) (berth_ok hall (by omega) hb)) (fun i hi => by rw [beAt_set hk4, if_neg (by omega)]; exact hn i (by omega))).1 h).2.1 k (by omega)
  rw [this, beAt_set hk4, if_pos rfl]
theorem rights_nodup {fs : List Fl} {ss : List St} {may : May} (hall : HallOK fs ss) : ∀ (m k : Nat) (q : List Be), k + m = ss.length → PlanOf fs ss q → (∀ i, k ≤ i → beAt q i = bnone) → (rights fs ss may m k q).Nodup
  | 0, k, q, _, _, _ => by
    rw [rights]; split <;> simp
  | m + 1, k, q, hk, hq, hn => by
    have hk4 : k < q.length := by have := hall.ns; have := hq.ok.len; omega
    rw [rights, List.Nodup, List.pairwise_flatMap]
    refine ⟨fun b hb => ?_, ?_⟩
    · split
      · exact .nil
      · exact rights_nodup hall m (k + 1) _ (by omega) (plan_set hq (by omega) (berth_ok hall (by omega) hb)) (fun i hi => by rw [beAt_set hk4, if_neg (by omega)]; exact hn i (by omega))
    · refine (berthsK_nodup (fs := fs) (ss := ss) (may := may) (k := k)).imp_of_mem fun {a b} ha hb hab x hx y hy e => ?_
      subst e
      split at hx
      · cases hx
      · split at hy
        · cases hy
        · exact hab ((rights_at hall (by omega) hq hn ha hx).symm.trans (rights_at hall (by omega) hq hn hb hy))
theorem allF_nodup {fs : List Fl} {ss : List St} {may : May} (hall : HallOK fs ss) : (allF fs ss may).Nodup := by
  unfold allF
  split
  · exact rights_nodup hall _ _ _ (by simp) (pad_nil hall.nf.1) (fun i _ => beAt_nil i)
  · rename_i hs
    have hall1 : ∀ b, b ∈ berthsK fs ss may 0 → ∀ i, 1 ≤ i → beAt ((padB []).set 0 b) i = bnone := fun b _ i hi => by rw [beAt_set (by decide), if_neg (by omega)]; exact beAt_nil i
    rw [List.Nodup, List.pairwise_flatMap]
    refine ⟨fun b hb => ?_, ?_⟩
    · rw [rightsOf, List.length_singleton, pad_one]
      exact rights_nodup hall _ _ _ (by omega) (plan_set (pad_nil hall.nf.1) (by omega) (berth_ok hall (by omega) hb)) (hall1 b hb)
    · refine (berthsK_nodup (fs := fs) (ss := ss) (may := may) (k := 0)).imp_of_mem fun {a b} ha hb hab x hx y hy e => ?_
      subst e
      rw [rightsOf, List.length_singleton, pad_one] at hx hy
      exact hab ((rights_at hall (by omega) (pad_nil hall.nf.1) (fun i _ => beAt_nil i) ha hx).symm.trans (rights_at hall (by omega) (pad_nil hall.nf.1) (fun i _ => beAt_nil i) hb hy))

/-! The best -/
theorem filter_none {α : Type} {l : List α} {f : α → Bool} (h : ∀ q ∈ l, f q = false) : l.filter f = [] := List.filter_eq_nil_iff.2 fun q hq => by rw [h q hq]; simp
/-- What is kept while plans are looked at. -/
structure BInv (ss : List St) (l : List (List Be)) (s : (Int × List (List Be)) × List (List Be)) : Prop where
  met : s.2 = l
  top : l ≠ [] → (∃ q ∈ l, loavesF ss q = s.1.1) ∧ ∀ q ∈ l, loavesF ss q ≤ s.1.1
  out : s.1.2 = l.filter fun q => decide (loavesF ss q = s.1.1)
theorem BInv.step {ss : List St} {l : List (List Be)} {s : (Int × List (List Be)) × List (List Be)} {p : List Be} (H : BInv ss l s) (hp : p ∉ l) : BInv ss (l ++ [p]) (bstep ss s p) := by
  obtain ⟨⟨m, out⟩, met⟩ := s
  obtain ⟨h1, h2, h3⟩ := H
  simp only at h1 h2 h3
  subst h1
  obtain ⟨n, hn⟩ : ∃ n, loavesF ss p = n := ⟨_, rfl⟩
  simp only [bstep, if_neg hp, addM, hn]
  have hpf : ∀ c, [p].filter (fun q => decide (loavesF ss q = c)) = if n = c then [p] else [] := fun c => by
    rw [List.filter_cons]; simp [hn]
  rcases met with _ | ⟨q0, r0⟩
  · have h0 : out = [] := h3
    subst h0
    simp only [true_or, if_true, List.nil_append]
    refine ⟨rfl, fun _ => ⟨⟨p, by simp, hn⟩, fun q hq => ?_⟩, by simp only; rw [hpf, if_pos rfl]⟩
    have : q = p := by simpa using hq
    subst this; simp only; omega
  · obtain ⟨⟨q1, hq1, hq2⟩, htop⟩ := h2 (by simp)
    have hne : (q0 :: r0).filter (fun q => decide (loavesF ss q = m)) ≠ [] := fun e => by
      have := List.filter_eq_nil_iff.1 e q1 hq1
      simp [hq2] at this
    rw [← h3] at hne
    generalize q0 :: r0 = l at *
    by_cases hlt : m < n
    · have hc : out = [] ∨ m < n := .inr hlt
      simp only [if_pos hc, if_true, List.nil_append]
      refine ⟨rfl, fun _ => ⟨⟨p, by simp, hn⟩, fun q hq => ?_⟩, ?_⟩
      · rcases List.mem_append.1 hq with hq | hq
        · have := htop q hq; simp only; omega
        · have : q = p := by simpa using hq
          subst this; simp only; omega
      · simp only
        rw [List.filter_append, hpf, if_pos rfl, filter_none fun q hq => ?_]
        · rfl
        · have := htop q hq
          exact decide_eq_false (by omega)
    · have hc : ¬ (out = [] ∨ m < n) := not_or.2 ⟨hne, hlt⟩
      simp only [if_neg hc]
      by_cases he : n = m
      · rw [if_pos he]
        refine ⟨rfl, fun _ => ⟨⟨p, by simp, hn.trans he⟩, fun q hq => ?_⟩, ?_⟩
        · rcases List.mem_append.1 hq with hq | hq
          · exact htop q hq
          · have : q = p := by simpa using hq
            subst this; simp only; omega
        · simp only
          rw [List.filter_append, hpf, if_pos he, h3]
      · rw [if_neg he]
        refine ⟨rfl, fun _ => ⟨⟨q1, by simp [hq1], hq2⟩, fun q hq => ?_⟩, ?_⟩
        · rcases List.mem_append.1 hq with hq | hq
          · exact htop q hq
          · have : q = p := by simpa using hq
            subst this; simp only; omega
        · simp only
          rw [List.filter_append, hpf, if_neg he, List.append_nil, h3]
theorem BInv.run {ss : List St} : ∀ (r l : List (List Be)) (s : (Int × List (List Be)) × List (List Be)), BInv ss l s → (l ++ r).Nodup → BInv ss (l ++ r) (r.foldl (bstep ss) s)
  | [], l, s, h, _ => by rw [List.append_nil]; exact h
  | p :: r, l, s, h, hnd => by
    rw [List.foldl_cons, show l ++ p :: r = (l ++ [p]) ++ r by simp]
    refine BInv.run r (l ++ [p]) _ (h.step fun hm => ?_) (by simpa using hnd)
    exact (List.nodup_append.1 hnd).2.2 p hm p (by simp) rfl
/-- ████ THE BEST PLANS: of the right ones those with the most loaves, in order. -/
theorem best_spec {fs : List Fl} {ss : List St} (hall : HallOK fs ss) : (∃ q ∈ allF fs ss freeM, loavesF ss q = (bestF fs ss).1) ∧ (∀ q ∈ allF fs ss freeM, loavesF ss q ≤ (bestF fs ss).1) ∧ (bestF fs ss).2 = (allF fs ss freeM).filter fun q => decide (loavesF ss q = (bestF fs ss).1) := by
  have h := BInv.run (ss := ss) (allF fs ss freeM) [] ((0, []), []) ⟨rfl, fun h => absurd rfl h, rfl⟩ (allF_nodup hall)
  rw [List.nil_append] at h
  have hne : allF fs ss freeM ≠ [] := fun e => by have := allF_p0 hall; rw [e] at this; cases this
  exact ⟨(h.top hne).1, (h.top hne).2, h.out⟩

/-! Loaves -/
/-! Whether all can be set -/
theorem some_iff {fs : List Fl} {ss : List St} {may : May} (hall : HallOK fs ss) : someR fs ss may = true ↔ ∃ p, Valid fs ss may p ∧ inspF fs ss p = none := by
  have : someR fs ss may = true ↔ ∃ p, p ∈ rightsOf fs ss may [] := by
    simp only [someR, Bool.not_eq_true', List.isEmpty_eq_false_iff_exists_mem]
  rw [this]
  exact exists_congr fun p => mem_rightsOf hall
end Go.Mus

/- The first strikes of a plant alone; which strike is late. Conditions: none. -/
namespace Go.Mus
end Go.Mus

/- A plant without its last strike. Conditions: none; over the given program. -/
namespace Go.Mus
set_option maxRecDepth 100000
set_option maxHeartbeats 4000000
end Go.Mus

/- The strike that is late, and the best plan's length. Conditions: none. -/
namespace Go.Mus
end Go.Mus

/- Whether all strikes of a plant are set in its best plan; the strike that is late, asked of the best plans. Conditions: none; over the given program. -/
namespace Go.Mus
set_option maxRecDepth 100000
set_option maxHeartbeats 4000000
end Go.Mus

/- Strikes that wait longer; with which patience all can be set. Conditions: none; over the given program. -/
namespace Go.Mus
set_option maxRecDepth 100000
set_option maxHeartbeats 4000000
theorem Ops.freezeOs {x : Cx} {ops : Array Oper} {td : List Nat} {Q : Post} {ρ : Env} {ds : List Deferred} {A F : Frag} {α : Type} {row : α → List Value} {w : Nat} [Rw row w] {E : TypeId} {v : Value} {l : List α} (hs : Os E row v l A)
    (H : ∀ h', Ext x.h h' → Sl h' row v l → Zs h' v → Ops { x with h := h' } ops td Q ρ ds F) : Ops x ops td Q ρ ds (A ++ F) := by
  rcases hs with ⟨rfl, rfl, hsh⟩ | ⟨β, cc, cap, J, rfl, rfl, h1, h2, h3, hsh⟩
  · exact Ops.sb (Sb.left .refl hsh) (H x.h ⟨fun _ _ q => q, fun _ q => q⟩ .nil (fun b off n cap e => by cases e))
  · refine Ops.freeze (b := β) rfl fun h' hE hb hz => ?_
    refine Ops.sb (F' := F) (Sb.left .refl hsh) (H h' hE (.mk hb rfl h3) (fun b off n cap e => by cases e; exact hz))
end Go.Mus

/- A floor with other places; how many it needs. Conditions: none; over the given program. -/
namespace Go.Mus
set_option maxRecDepth 100000
set_option maxHeartbeats 4000000
/-- A floor's cells. -/
theorem Part.setR {α : Type} {row : α → List Value} {w : Nat} [Rw row w] {c : Array Value} {l : List α} {j : Nat} {p : α} (q : α) (k : Nat) (x : Value) (hk : k < w) (h : Part c 0 (flat row l)) (hj : l[j]? = some p) (hq : row q = (row p).set k x) : Part (c.setIfInBounds (j * w + k) x) 0 (flat row (l.set j q)) := by
  obtain ⟨pre, post, h1, h2⟩ := h
  have : pre = [] := List.length_eq_zero_iff.1 h2
  subst this
  refine ⟨[], post, ?_, rfl⟩
  have hlt : j < l.length := lt_of_get hj
  have hlen : j * w + k < (flat row l).length := by
    rw [flat_len]
    have : (j + 1) * w ≤ l.length * w := Nat.mul_le_mul_right _ hlt
    rw [Nat.succ_mul] at this; omega
  simp only [Array.toList_setIfInBounds, h1, List.nil_append]
  rw [List.set_append_left _ _ hlen]
  congr 1
  clear h1 h2 hlen
  induction l generalizing j with
  | nil => simp at hj
  | cons a l ih =>
    cases j with
    | zero =>
      simp only [List.getElem?_cons_zero, Option.some.injEq] at hj
      subst hj
      simp only [flat_cons, List.set_cons_zero, Nat.zero_mul, Nat.zero_add]
      rw [List.set_append_left _ _ (by rw [Rw.len]; exact hk), hq]
    | succ j =>
      have := ih (j := j) (by simpa using hj) (by simpa using hlt)
      simp only [List.set_cons_succ, flat_cons]
      rw [← this, List.set_append_right _ _ (by rw [Rw.len, Nat.succ_mul]; omega)]
      congr 2
      rw [Rw.len, Nat.succ_mul]; omega

/-! Places -/
end Go.Mus

/- How many places a floor needs. Conditions: none; over the given program. -/
namespace Go.Mus
set_option maxRecDepth 100000
set_option maxHeartbeats 4000000
end Go.Mus

/- What makes plans right more easily, and so the loaves no fewer. Conditions: none. -/
namespace Go.Mus
/-- Where each right plan has one that is as good, the best are as good. -/
theorem best_le {fs fs' : List Fl} {ss ss' : List St} (hall : HallOK fs ss) (hall' : HallOK fs' ss') (H : ∀ p, Valid fs ss freeM p → inspF fs ss p = none → ∃ p', Valid fs' ss' freeM p' ∧ inspF fs' ss' p' = none ∧ loavesF ss p ≤ loavesF ss' p') : (bestF fs ss).1 ≤ (bestF fs' ss').1 := by
  obtain ⟨⟨q, hq, hql⟩, -, -⟩ := best_spec hall
  obtain ⟨-, htop, -⟩ := best_spec hall'
  obtain ⟨hv, hi⟩ := (mem_allF hall).1 hq
  obtain ⟨p', h1, h2, h3⟩ := H q hv hi
  have := htop p' ((mem_allF hall').2 ⟨h1, h2⟩)
  omega
/-! Without a strike -/
end Go.Mus

/- How much slower a floor may be. Conditions: none; over the given program. -/
namespace Go.Mus
set_option maxRecDepth 100000
set_option maxHeartbeats 4000000
/-! Turning a list round -/
end Go.Mus

/- How much slower a floor may be. Conditions: none; over the given program. -/
namespace Go.Mus
set_option maxRecDepth 100000
set_option maxHeartbeats 4000000
end Go.Mus

/- How much slower a floor may be, and that it is so. Conditions: none; over the given program. -/
namespace Go.Mus
set_option maxRecDepth 100000
set_option maxHeartbeats 4000000
theorem mem_numsN {lo a : Int} : ∀ {m : Nat}, a ∈ numsN lo m ↔ lo ≤ a ∧ a < lo + m
  | 0 => by
    constructor
    · intro h; simp [numsN] at h
    · intro h; omega
  | m + 1 => by
    rw [numsN, List.mem_append, mem_numsN]
    simp; omega
end Go.Mus

/- Whether a strike is in the best plans. Conditions: none; over the given program. -/
namespace Go.Mus
set_option maxRecDepth 100000
set_option maxHeartbeats 4000000
end Go.Mus

/- Whether two plants have the same answers. Conditions: none; over the given program. -/
namespace Go.Mus
set_option maxRecDepth 100000
set_option maxHeartbeats 4000000
end Go.Mus

/- Plants whose plans answer to each other; floors with other numbers. Conditions: none. -/
namespace Go.Mus
theorem perm_of_mem {α : Type} [DecidableEq α] {l l' : List α} (h : l.Nodup) (h' : l'.Nodup) (hm : ∀ a, a ∈ l ↔ a ∈ l') : l.Perm l' := by
  rw [List.perm_iff_count]
  intro a
  by_cases ha : a ∈ l
  · have h1 := List.count_pos_iff.2 ha
    have h2 := List.count_pos_iff.2 ((hm a).1 ha)
    have h3 := List.nodup_iff_count.1 h a
    have h4 := List.nodup_iff_count.1 h' a
    omega
  · rw [List.count_eq_zero.2 ha, List.count_eq_zero.2 fun h => ha ((hm a).2 h)]

theorem valid_free {fs : List Fl} {ss : List St} {may : May} {p : List Be} (h : Valid fs ss may p) : Valid fs ss freeM p := by
  refine ⟨h.len, fun i hi => ?_, h.out⟩
  have := h.at_ i hi
  rw [mem_berths] at this ⊢
  rcases this with ⟨_, h1⟩ | ⟨_, h1⟩
  · exact .inl ⟨rfl, h1⟩
  · exact .inr ⟨rfl, h1⟩
/-- Each right plan of the one answers to one of the other. -/
structure Sym (fs fs' : List Fl) (ss ss' : List St) (σ τ : List Be → List Be) : Prop where
  hall : HallOK fs ss
  hall' : HallOK fs' ss'
  len : ss'.length = ss.length
  val : ∀ may p, Valid fs ss may p → Valid fs' ss' may (σ p)
  val' : ∀ may p, Valid fs' ss' may p → Valid fs ss may (τ p)
  rgt : ∀ p, Valid fs ss freeM p → inspF fs ss p = none → inspF fs' ss' (σ p) = none
  rgt' : ∀ p, Valid fs' ss' freeM p → inspF fs' ss' p = none → inspF fs ss (τ p) = none
  inv : ∀ p, Valid fs ss freeM p → τ (σ p) = p
  inv' : ∀ p, Valid fs' ss' freeM p → σ (τ p) = p
  lo : ∀ p, Valid fs ss freeM p → loavesF ss' (σ p) = loavesF ss p
  on : ∀ p i, Valid fs ss freeM p → (0 ≤ (beAt (σ p) i).fl ↔ 0 ≤ (beAt p i).fl)
section
variable {fs fs' : List Fl} {ss ss' : List St} {σ τ : List Be → List Be} (Y : Sym fs fs' ss ss' σ τ)
include Y
theorem Sym.lo' {p : List Be} (h : Valid fs' ss' freeM p) : loavesF ss (τ p) = loavesF ss' p := by
  rw [← Y.lo _ (Y.val' _ _ h), Y.inv' p h]
theorem Sym.top : (bestF fs' ss').1 = (bestF fs ss).1 := by
  have h1 := best_le Y.hall Y.hall' fun p hv hi => ⟨σ p, Y.val _ _ hv, Y.rgt p hv hi, by rw [Y.lo p hv]; exact Int.le_refl _⟩
  have h2 := best_le Y.hall' Y.hall fun p hv hi => ⟨τ p, Y.val' _ _ hv, Y.rgt' p hv hi, by rw [Y.lo' hv]; exact Int.le_refl _⟩
  omega
theorem Sym.all : (allF fs' ss' freeM).Perm ((allF fs ss freeM).map σ) := by
  refine perm_of_mem (allF_nodup Y.hall') ?_ fun p => ?_
  · rw [List.Nodup, List.pairwise_map]
    refine (allF_nodup Y.hall).imp_of_mem fun {a b} ha hb hab e => hab ?_
    rw [← Y.inv a ((mem_allF Y.hall).1 ha).1, e, Y.inv b ((mem_allF Y.hall).1 hb).1]
  · rw [mem_allF Y.hall', List.mem_map]
    constructor
    · rintro ⟨h1, h2⟩
      exact ⟨τ p, (mem_allF Y.hall).2 ⟨Y.val' _ _ h1, Y.rgt' p h1 h2⟩, Y.inv' p h1⟩
    · rintro ⟨q, hq, rfl⟩
      obtain ⟨h1, h2⟩ := (mem_allF Y.hall).1 hq
      exact ⟨Y.val _ _ h1, Y.rgt q h1 h2⟩
theorem Sym.best : (bestF fs' ss').2.Perm ((bestF fs ss).2.map σ) := by
  rw [(best_spec Y.hall').2.2, (best_spec Y.hall).2.2, Y.top]
  refine (Y.all.filter _).trans (.of_eq ?_)
  rw [List.filter_map]
  congr 1
  refine List.filter_congr fun p hp => ?_
  show decide (loavesF ss' (σ p) = _) = _
  rw [Y.lo p ((mem_allF Y.hall).1 hp).1]
theorem Sym.count : (bestF fs' ss').2.length = (bestF fs ss).2.length := by rw [Y.best.length_eq, List.length_map]
theorem Sym.someR (may : May) : someR fs' ss' may = Go.Mus.someR fs ss may := by
  refine Bool.eq_iff_iff.2 ?_
  rw [some_iff Y.hall', some_iff Y.hall]
  constructor
  · rintro ⟨p, h1, h2⟩; exact ⟨τ p, Y.val' _ _ h1, Y.rgt' p (valid_free h1) h2⟩
  · rintro ⟨p, h1, h2⟩; exact ⟨σ p, Y.val _ _ h1, Y.rgt p (valid_free h1) h2⟩
theorem Sym.late : lateF fs' ss' = lateF fs ss := by
  have key : ∀ m n, lateFrom fs' ss' m n = lateFrom fs ss m n := by
    intro m
    induction m with
    | zero => intro n; rfl
    | succ m ih => intro n; rw [lateFrom, lateFrom, Y.someR, ih]
  rw [lateF, lateF, Y.len, key]
end
/-! Floors with other numbers -/
end Go.Mus

/- Floors with other numbers. Conditions: none; over the given program. -/
namespace Go.Mus
set_option maxRecDepth 100000
set_option maxHeartbeats 4000000
end Go.Mus

/- Plans out of a hat; copies of plans. Conditions: none; over the given program. -/
namespace Go.Mus
set_option maxRecDepth 100000
set_option maxHeartbeats 4000000
theorem ckBerths_app {nf : Int} : ∀ {ss : List St} {l : List Be} {s : St} {b : Be}, ckBerths nf (ss.take l.length) l = 0 → ss[l.length]? = some s → ckBerth nf s b = 0 → ckBerths nf (ss.take (l.length + 1)) (l ++ [b]) = 0
  | [], l, s, b, _, h, _ => by simp at h
  | t :: ss, [], s, b, _, h, hb => by
    simp at h; subst h
    simp [ckBerths, hb]
  | t :: ss, c :: l, s, b, h, hs, hb => by
    simp only [List.length_cons, List.take_succ_cons, List.cons_append, ckBerths] at h ⊢
    split at h
    · rename_i h1
      rw [if_pos h1]
      exact ckBerths_app h (by simpa using hs) hb
    · rename_i h1; exact absurd h h1
theorem ckBerth_ok {nf : Int} {s : St} {b : Be} (hnf : 1 ≤ nf) (h : b = ⟨-1, 0⟩ ∨ 0 ≤ b.fl ∧ b.fl < nf ∧ s.day ≤ b.day ∧ b.day ≤ s.day + s.wa) : ckBerth nf s b = 0 := by
  unfold ckBerth
  rcases h with rfl | h
  · rw [if_neg (by unfold outs; simp only; omega), if_neg (by simp), if_neg (by simp only; omega)]
  · rw [if_neg (by unfold outs; omega), if_neg (by omega), if_neg (by unfold outs; omega)]

theorem BerthsOf_fn (main : Side) (h : Hp) (nums : List Int) (lv : Value) (b k : Nat) (s : Int) (fs : List Fl) (ss : List St) (vf vs : Value) (hl : Sl h rowI lv nums) (hf : Sl h Fl.row vf fs) (hs : Sl h St.row vs ss) (hck : ckPlant fs ss = 0) (hk : k < 2000000000) : Fnc prog main n_kit_BerthsOf #[.pointer (some ⟨b, 0, none⟩), .agg #[vf, vs]] h [(b, hatO lv k s)]
    (fun v A => ∃ l S k' s', Os t_Berth Be.row v l S ∧ ckPlan fs ss l = 0 ∧ k' ≤ k + 100 ∧ Sb ((b, hatO lv k' s') :: S) A) := by
  have hall := hall_ck hck
  have hnf := hall.nf
  have hns := hall.ns
  obtain ⟨a, cap, rfl⟩ := hf.isSl
  obtain ⟨a', cap', rfl⟩ := hs.isSl
  refine Fnc.of_body at_kit_BerthsOf rfl (by show 2 ≤ 46; decide) [(0, .pointer (some ⟨b, 0, none⟩)), (1, .agg #[.slice a fs.length cap, .slice a' ss.length cap'])] ⟨rfl, rfl, trivial⟩ ?_
  refine W.seq <| W.region rfl ?_
  refine Ops.box (cs := #[.slice a fs.length cap, .slice a' ss.length cap']) (fun β3 => ?_) rfl rfl rfl
  refine qs rfl rfl rfl <| Ops.nil <| thn_n <| W.seq <| W.region rfl <| qs rfl rfl rfl <| Ops.nil <| thn_n <| W.seq <| W.seq ?_
  refine W.region rfl <| qs rfl rfl rfl <| Ops.nil <| thn_n <| W.block ?_
  refine W.loop3 (σ := Nat) (τ := List Be × Value × Frag) (υ := Nat × Int) (fun i t u => i ≤ ss.length ∧ t.1.length = i ∧ Os t_Berth Be.row t.2.1 t.1 t.2.2 ∧ ckBerths fs.length (ss.take i) t.1 = 0 ∧ u.1 ≤ k + 3 * i) (fun i t _ => [(6, I i), (5, t.2.1), (3, .pointer (some ⟨β3, 0, none⟩)), (0, .pointer (some ⟨b, 0, none⟩))])
    (fun _ t u => (β3, .cells #[.slice a fs.length cap, .slice a' ss.length cap'] t_Plant (0, 0)) :: (b, hatO lv u.1 u.2) :: t.2.2) (fun i _ _ => ss.length - i) 0 ([], .slice none 0 0, []) (k, s) ⟨Nat.zero_le _, rfl, .nil .nil, by simp [ckBerths], by omega⟩ ⟨rfl, rfl, rfl, rfl, trivial⟩ .refl ?_
  rintro i ⟨l, v, S⟩ ⟨k1, s1⟩ ⟨hi, hlen, hO, hcb, hk1⟩
  simp only at hlen hO hcb hk1 ⊢
  refine W.seq <| W.seq <| W.region rfl <| qm rfl rfl rfl ?_
  refine oq (y_fieldAddr rfl rfl) rfl wn rfl rfl ?_
  refine oq (yld rfl rfl) rfl wn rfl rfl ?_
  refine oq (y_len rfl rfl) rfl wn rfl rfl ?_
  refine oq (y_lss rfl rfl rfl) rfl wn rfl rfl ?_
  refine Ops.nil <| thn_n ?_
  refine W.condp rfl (fun c11 => ?_) (fun c11 => ?_)
  · have hi1 : i < ss.length := by omega
    obtain ⟨t, ht, -⟩ := has hi1
    have hto := hall.st t (List.mem_of_getElem? ht)
    have hto2 := strike_ok hck ht
    obtain ⟨bs, off, c, E, fz, rfl, hb, hx1, hy1, hz1⟩ := hs.at ht
    have hc0 : c[off + i * 3 + 0]? = some (I t.day) := hz1 0 (by decide)
    have hc2 : c[off + i * 3 + 2]? = some (I t.wa) := hz1 2 (by decide)
    clear hx1 hz1
    obtain ⟨va, vc, rfl⟩ := hO.isSl
    refine W.skip <| thn_n <| W.seq <| W.block <| W.seq <| W.seq <| W.region rfl <| qm rfl rfl rfl ?_
    refine cg (A := [(b, _)]) (.tail .head) (fun h' hE hL => Seldom_fn _ h' nums lv b k1 s1 5 (hl.ext hE) (by omega) (by decide)) (fun v A' hv => ?_)
    obtain ⟨r, s2, rfl, hsb⟩ := hv
    refine Ops.sb (.cons (hsb.app .refl)) ?_
    refine Ops.nil <| thn_n ?_
    refine W.cond rfl (fun c15 => ?_) (fun c15 => ?_)
    · refine W.seq <| W.region rfl <| qm rfl rfl rfl ?_
      refine oq (y_build (cs := #[I (-1), I 0]) rfl rfl rfl) rfl wn rfl rfl ?_
      refine Ops.bsl (cs := #[I (-1), I 0]) (fun β18 => ?_) rfl (hf := by kernel_rfl)
      refine oe rfl wn rfl rfl (e_append (row := Be.row) (l' := [⟨-1, 0⟩]) rfl rfl rfl hO (.tail (.tail (.tail .all))) (fun h2 _ hl => Sl.mk (hl β18 _ (.head _)) rfl (Part.all (flat Be.row [⟨-1, 0⟩]))) (by simp; omega) (by decide) rfl (fun v' S' hO' => ?_))
      refine qs rfl rfl rfl <| Ops.nil <| thn_n <| W.exit <| thn_x <| blk_x <| thn_n <| W.region rfl <| qm rfl rfl rfl ?_
      first | refine oq (yadd rfl rfl rfl) rfl wn rfl rfl ?_ | refine oq (y_addw rfl rfl rfl) rfl wn rfl rfl ?_
      refine qs rfl rfl rfl <| Ops.nil <| thn_n ?_
      first
      | exact ⟨rfl, i + 1, (l ++ [⟨-1, 0⟩], v', S'), (k1 + 1, s2), ⟨by omega, by simp [hlen], hO', by subst hlen; exact ckBerths_app hcb ht (ckBerth_ok (by omega) (.inl rfl)), by simp only; omega⟩, by omega, ⟨rfl, rfl, rfl, rfl, trivial⟩, .skip rfl .refl⟩
      | exact ⟨rfl, i + 1, (l ++ [⟨f, t.day + w⟩], _, S'), (k1 + 3, s4), ⟨by omega, by simp [hlen], hO', by subst hlen; exact ckBerths_app hcb ht (ckBerth_ok (by omega) (.inr ⟨by simp only; omega, by simp only; omega, by simp only; omega, by simp only; omega⟩)), by simp only; omega⟩, by omega, ⟨rfl, rfl, rfl, rfl, trivial⟩, .skip rfl .refl⟩
    · refine W.skip <| thn_n ?_
      refine W.drawP1 (n := 26) rfl ?_
      refine aq (i := 0) (y_move rfl rfl) rfl an rfl rfl ?_
      refine aq (i := 1) (y_move rfl rfl) rfl an rfl rfl ?_
      refine aq (i := 2) (y_fieldAddr rfl rfl) rfl an rfl rfl ?_
      refine aq (i := 3) (yld rfl rfl) rfl an rfl rfl ?_
      refine aq (i := 4) (y_len rfl rfl) rfl an rfl rfl ?_
      first | refine aq (i := 5) (ysub rfl rfl rfl) rfl an rfl rfl ?_ | refine aq (i := 5) (y_subw rfl rfl rfl) rfl an rfl rfl ?_
      refine aq (i := 7) (y_fieldAddr rfl rfl) rfl an rfl rfl ?_
      refine aq (i := 8) (yld rfl rfl) rfl an rfl rfl ?_
      refine aq (i := 9) (y_move rfl rfl) rfl an rfl rfl ?_
      first | refine aq (i := 10) (yix rfl rfl rfl) rfl an rfl rfl ?_ | refine aq (i := 10) (yixI rfl rfl rfl) rfl an rfl rfl ?_
      refine aq (i := 11) (y_fieldAddr rfl rfl) rfl an rfl rfl ?_
      refine aq (i := 12) (yld rfl rfl) rfl an rfl rfl ?_
      refine aq (i := 13) (y_move rfl rfl) rfl an rfl rfl ?_
      refine aq (i := 14) (y_fieldAddr rfl rfl) rfl an rfl rfl ?_
      refine aq (i := 15) (yld rfl rfl) rfl an rfl rfl ?_
      refine aq (i := 16) (y_move rfl rfl) rfl an rfl rfl ?_
      first | refine aq (i := 17) (yix rfl rfl rfl) rfl an rfl rfl ?_ | refine aq (i := 17) (yixI rfl rfl rfl) rfl an rfl rfl ?_
      refine aq (i := 18) (y_fieldAddr rfl rfl) rfl an rfl rfl ?_
      refine aq (i := 19) (yld rfl rfl) rfl an rfl rfl ?_
      refine ae (i := 6) rfl an rfl rfl (e_call (A := [(b, _)]) (args := [_, _]) rfl rfl (.tail .head) (fun h' hE hL => To_fn _ h' nums lv b (k1 + 1) s2 ((fs.length : Int) - 1) (hl.ext hE) (by omega) (by omega)) (fun v A' hv => ?_))
      refine ⟨.inr (Keeps.one (.head _) Keeps.nil), ?_⟩
      obtain ⟨f, s3, rfl, hf0, hsb3⟩ := hv
      refine Any.sb (.cons (hsb3.app .refl)) ?_
      refine ae (i := 20) rfl an rfl rfl (e_call (A := [(b, _)]) (args := [_, _]) rfl rfl (.tail .head) (fun h' hE hL => To_fn _ h' nums lv b (k1 + 2) s3 t.wa (hl.ext hE) (by omega) (by omega)) (fun v A' hv => ?_))
      refine ⟨.inr (Keeps.one (.head _) Keeps.nil), ?_⟩
      obtain ⟨w, s4, rfl, hw0, hsb4⟩ := hv
      refine Any.sb (.cons (hsb4.app .refl)) ?_
      refine aq (i := 21) (yadd rfl rfl rfl) rfl an rfl rfl ?_
      refine aq (i := 22) (y_build (cs := #[I f, I (t.day + w)]) rfl rfl rfl) rfl an rfl rfl ?_
      refine abl (i := 23) (cs := #[I f, I (t.day + w)]) (fun β43 => ?_) rfl
      refine ae (i := 24) rfl an rfl rfl (e_append (row := Be.row) (l' := [⟨f, t.day + w⟩]) rfl rfl rfl hO (.tail (.tail (.tail .all))) (fun h2 _ hl => Sl.mk (hl β43 _ (.head _)) rfl (Part.all (flat Be.row [⟨f, t.day + w⟩]))) (by simp; omega) (by decide) rfl (fun v' S' hO' => ?_))
      refine ⟨.inr (Keeps.one (.tail _ (.head _)) Keeps.nil), ?_⟩
      obtain ⟨asl, csl, rfl⟩ := hO'.isSl
      refine aq (i := 25) (y_assign rfl rfl) rfl an rfl rfl ?_
      refine az ?_
      refine blk_n <| thn_n <| W.region rfl <| qm rfl rfl rfl ?_
      first | refine oq (yadd rfl rfl rfl) rfl wn rfl rfl ?_ | refine oq (y_addw rfl rfl rfl) rfl wn rfl rfl ?_
      refine qs rfl rfl rfl <| Ops.nil <| thn_n ?_
      first
      | exact ⟨rfl, i + 1, (l ++ [⟨-1, 0⟩], v', S'), (k1 + 1, s2), ⟨by omega, by simp [hlen], hO', by subst hlen; exact ckBerths_app hcb ht (ckBerth_ok (by omega) (.inl rfl)), by simp only; omega⟩, by omega, ⟨rfl, rfl, rfl, rfl, trivial⟩, .skip rfl .refl⟩
      | exact ⟨rfl, i + 1, (l ++ [⟨f, t.day + w⟩], _, S'), (k1 + 3, s4), ⟨by omega, by simp [hlen], hO', by subst hlen; exact ckBerths_app hcb ht (ckBerth_ok (by omega) (.inr ⟨by simp only; omega, by simp only; omega, by simp only; omega, by simp only; omega⟩)), by simp only; omega⟩, by omega, ⟨rfl, rfl, rfl, rfl, trivial⟩, .skip rfl .refl⟩
  · have hil : i = ss.length := by omega
    refine W.exit <| thn_x <| thn_x <| blk_x <| thn_n <| W.seq <| W.region rfl <| qm rfl rfl rfl <| qs rfl rfl rfl <| Ops.nil ?_
    refine thn_n <| W.ret ?_
    refine lvt (vs := [_]) ⟨l, S, k1, s1, hO, ?_, by omega, .skip rfl .refl⟩
    subst hil
    rw [List.take_length] at hcb
    unfold ckPlan
    rw [if_neg (by simp [hck]), if_neg (by omega), if_neg (by omega)]
    exact hcb
end Go.Mus

/- Small plants and plans out of a hat; plans a day later. Conditions: none; over the given program. -/
namespace Go.Mus
set_option maxRecDepth 100000
set_option maxHeartbeats 4000000
theorem tiny_fn (main : Side) (h : Hp) (nums : List Int) (lv : Value) (b : Nat) (s : Int) (hl : Sl h rowI lv nums) : Fnc prog main n_law_tiny #[.pointer (some ⟨b, 0, none⟩)] h [(b, hatO lv 0 s)]
    (fun v A => ∃ vf vs vl fs ss l Sf Ss Sp, v = .tuple #[.agg #[vf, vs], vl] ∧ (Os t_Floor Fl.row vf fs Sf ∧ Os t_Strike St.row vs ss Ss ∧ Os t_Berth Be.row vl l Sp) ∧ (ckPlant fs ss = 0 ∧ ckPlan fs ss l = 0 ∧ ss.length ≤ 3 ∧ ∀ t ∈ ss, t.wa ≤ 1) ∧ Sb (Sp ++ (Sf ++ Ss)) A) := by
  refine Fnc.of_body at_law_tiny rfl (by show 1 ≤ 11; decide) [(0, .pointer (some ⟨b, 0, none⟩))] ⟨rfl, trivial⟩ ?_
  refine W.seq <| W.region rfl ?_
  refine Ops.new (fun β2 => ?_)
  refine qs rfl rfl rfl <| Ops.nil <| thn_n <| W.seq <| W.region rfl <| qm rfl rfl rfl ?_
  refine cg (A := [(b, _)]) (.tail .head) (fun h' hE hL => PlantOf_fn _ h' nums lv b s 3 1 (hl.ext hE) (by decide) (by decide)) (fun v A' hv => ?_)
  obtain ⟨vf, vs, fs, ss, Sf, Ss, k1, s1, rfl, ⟨hOf, hOs⟩, ⟨hck, hn4, hw⟩, hk100, hsb⟩ := hv
  refine Ops.sb (F' := (β2, .cells #[.slice none 0 0, .slice none 0 0] t_Plant (0, 0)) :: (b, hatO lv k1 s1) :: (Sf ++ Ss)) (.cons (hsb.trans (Sb.right .refl .nil))) ?_
  obtain ⟨a, cap, rfl⟩ := hOf.isSl
  obtain ⟨a', cap', rfl⟩ := hOs.isSl
  refine Ops.new (fun β4 => ?_)
  first | refine Ops.stoW ?_ | refine Ops.stoA ?_
  refine Ops.nil <| thn_n <| W.seq ?_
  refine W.drawP1 (n := 6) rfl ?_
  first | refine aq (i := 0) (yldW rfl rfl) rfl an rfl rfl ?_ | refine aq (i := 0) (yldA rfl rfl) rfl an rfl rfl ?_
  refine aq (i := 1) (y_move rfl rfl) rfl an rfl rfl ?_
  first | refine aq (i := 2) (yldW rfl rfl) rfl an rfl rfl ?_ | refine aq (i := 2) (yldA rfl rfl) rfl an rfl rfl ?_
  refine ae (i := 3) rfl an rfl rfl (e_call (A := [(b, _)]) (args := [_, _]) rfl rfl (.tail (.tail .head)) (fun h' hE hL => BerthsOf_fn _ h' nums lv b k1 s1 fs ss _ _ (hl.ext hE) (hOf.sl fun c o hb => hL c o (.tail _ (.tail _ (List.mem_append_right [] (List.mem_append_left _ hb))))) (hOs.sl fun c o hb => hL c o (.tail _ (.tail _ (List.mem_append_right [] (List.mem_append_right _ hb))))) hck (by omega)) (fun v A' hv => ?_))
  refine ⟨.inr (Keeps.one (.head _) Keeps.nil), ?_⟩
  obtain ⟨l, Sp, k2, s2, hOp, hcp, hk2, hsb2⟩ := hv
  obtain ⟨al, lc, rfl⟩ := hOp.isSl
  refine Any.sb (F' := (β4, .cells #[.slice a fs.length cap, .slice a' ss.length cap'] t_Plant (0, 0)) :: (β2, .cells #[.slice none 0 0, .slice none 0 0] t_Plant (0, 0)) :: (Sp ++ (Sf ++ Ss))) (.cons (.cons (.trans (.skip rfl .refl) (hsb2.app .refl)))) ?_
  first | refine ae (i := 4) rfl an rfl rfl (eSW rfl rfl rfl ?_) | refine ae (i := 4) rfl an rfl rfl (eSA rfl rfl rfl ?_)
  refine ⟨.inr (by first | exact Keeps.refl | exact Keeps.nil | ((repeat (first | exact fun _ h => h | apply Keeps.cons | apply Keeps.app)) <;> fail) | (repeat (first | exact Keeps.nil | refine Keeps.one (by repeat (first | exact List.Mem.head _ | apply List.Mem.tail)) ?_))), ?_⟩
  refine aq (i := 5) (y_assign rfl rfl) rfl an rfl rfl ?_
  refine az ?_
  refine thn_n <| W.ret ?_
  refine lvc (hv := rAgg (rTmp rNil)) ⟨_, _, _, fs, ss, l, Sf, Ss, Sp, rfl, ⟨hOf, hOs, hOp⟩, ⟨hck, hcp, hn4, hw⟩, .skip rfl (.skip rfl .refl)⟩

end Go.Mus

/- Operations that come up in any order and only add to what is owned. Conditions: none; over any program. -/
namespace Go.Mus
/-- What is said of one that adds: its number, its slot, what it bears with what it adds. -/
abbrev Spc := Nat × Nat × (Value → Frag → Prop)
def waits (ops : Array Oper) : Nat → Nat → Nat → Bool
  | 0, _, _ => false
  | n + 1, k, b => match ops[k]? with | some o => o.after.any fun e => bindsTo e && (Nat.beq e.on b || waits ops n e.on b) | none => false
structure BagI (ops : Array Oper) (listed : Nat) (B : List Nat) : Prop where
  cl : Closed ops listed
  low : ∀ k o, ops[k]? = some o → ∀ e ∈ o.after, bindsTo e = true → e.on < k
  or : ∀ k, k < ops.size → listed.testBit k = false → k ∈ B ∨ ∀ b ∈ B, waits ops 6 k b = true
  un : ∀ b ∈ B, b < ops.size ∧ listed.testBit b = false
  nd : B.Nodup

theorem BagI.some {ops : Array Oper} {listed : Nat} {B : List Nat} (h : BagI ops listed B) {b : Nat} (hb : b ∈ B) : rdys ops listed ≠ [] := by
  have key : ∀ (n k : Nat), k < n → k < ops.size → listed.testBit k = false → ∃ i, rdy ops listed i = true := by
    intro n
    induction n with
    | zero => intro k hk; omega
    | succ n ih =>
      intro k hk hlt hl
      by_cases hr : rdy ops listed k = true
      · exact ⟨k, hr⟩
      · simp only [rdy, Array.getElem?_eq_getElem hlt, hl, Bool.not_false, Bool.true_and, Array.all_eq_true_iff_forall_mem, Bool.or_eq_true, Bool.not_eq_true'] at hr
        have : ∃ e ∈ (ops[k]).after, bindsTo e = true ∧ listed.testBit e.on = false := by
          refine Classical.byContradiction fun hn => hr fun e he => ?_
          cases hbe : bindsTo e with
          | false => exact .inl rfl
          | true =>
            cases ht : listed.testBit e.on with
            | true => exact .inr rfl
            | false => exact absurd ⟨e, he, hbe, ht⟩ hn
        obtain ⟨e, he, h1, h2⟩ := this
        have := h.low k _ (Array.getElem?_eq_getElem hlt) e he h1
        exact ih e.on (by omega) (by omega) h2
  obtain ⟨i, hi⟩ := key (b + 1) b (by omega) (h.un b hb).1 (h.un b hb).2
  intro e
  have := mem_rdys.2 hi
  rw [e] at this
  cases this

theorem BagI.step {ops : Array Oper} {listed j : Nat} {B1 B2 : List Nat} (h : BagI ops listed (B1 ++ j :: B2)) (hj : rdy ops listed j = true) : BagI ops (listed ||| 2 ^ j) (B1 ++ B2) := by
  have hnd : j ∉ B1 ++ B2 := by
    have := (List.perm_middle (a := j) (l₁ := B1) (l₂ := B2)).nodup_iff.1 h.nd
    exact (List.nodup_cons.1 this).1
  refine ⟨h.cl.step hj, h.low, fun k hk hl => ?_, fun b hb => ?_, ?_⟩
  · rw [testBit_or, Bool.or_eq_false_iff] at hl
    have hne : j ≠ k := by simpa using hl.2
    rcases h.or k hk hl.1 with h' | h'
    · left
      rcases List.mem_append.1 h' with h' | h'
      · exact List.mem_append_left _ h'
      · rcases List.mem_cons.1 h' with h' | h'
        · exact absurd h'.symm hne
        · exact List.mem_append_right _ h'
    · right
      intro b hb
      refine h' b ?_
      rcases List.mem_append.1 hb with hb | hb
      · exact List.mem_append_left _ hb
      · exact List.mem_append_right _ (List.mem_cons_of_mem _ hb)
  · have hb' : b ∈ B1 ++ j :: B2 := by
      rcases List.mem_append.1 hb with hb | hb
      · exact List.mem_append_left _ hb
      · exact List.mem_append_right _ (List.mem_cons_of_mem _ hb)
    refine ⟨(h.un b hb').1, ?_⟩
    rw [testBit_or, (h.un b hb').2, Bool.false_or, decide_eq_false_iff_not]
    rintro rfl
    exact hnd hb
  · have := (List.perm_middle (a := j) (l₁ := B1) (l₂ := B2)).nodup_iff.1 h.nd
    exact (List.nodup_cons.1 this).2

/-- One that adds. -/
def Adds (x : Cx) (ops : Array Oper) (ε : Ev) (s : Spc) : Prop :=
  ∃ o, ops[s.1]? = some o ∧ o.dst = some s.2.1 ∧ slotOK o.dst x.n = true ∧ (∀ c, o.op ≠ .defer c) ∧ o.guard = none ∧ ∀ e, Cons ε e → ∀ F, Run1 x o e F fun v F' => ∃ A F'', F''.Perm F' ∧ s.2.2 v A ∧ F'' = A ++ F

theorem Cons.back {ε : Ev} {d : Nat} {v : Value} {e : Operand → Value} (h : Cons (upd ε (some d) v) e) (hd : ε d = none) : Cons ε e := fun y u hy => h y u (by
  cases y with
  | tmp t =>
    simp only [evε, upd] at hy ⊢
    cases hb : Nat.beq t d with
    | true => rw [Nat.eq_of_beq_eq_true hb, hd] at hy; cases hy
    | false => exact hy
  | _ => exact hy)

section rules
variable {x : Cx} {Q : Post} {ρ : Env} {ds : List Deferred} {F : Frag} {ops : Array Oper} {L : Frag} {fuel listed : Nat}
theorem Adds.of {i d : Nat} {P : Value → Frag → Prop} {op : Op} {ty : TypeId} {pos : String} {aft : Array Edge} (ho : nthO ops.toList i = some ⟨some d, op, ty, pos, aft, none⟩) (hd : Nat.blt d x.n = true) (hn : noDefer op = true) (H : ∀ F, Ef x ρ ⟨some d, op, ty, pos, aft, none⟩ F fun v F' => ∃ A, P v A ∧ F' = A ++ F) : Adds x ops (look ρ) (i, d, P) :=
  ⟨_, nthO_get ho, rfl, hd, noDefer_spec hn, rfl, fun e he F => (H F e fun y v hy => he y v (by rw [ev_look]; exact hy)).mono fun v F' ⟨F'', p, A, hv, e⟩ => ⟨A, F'', p, hv, e⟩⟩
theorem Adds.call {i d f : Nat} {P : Value → Frag → Prop} {args : List Operand} {ts : Array TypeId} {vs : List Value} {ty : TypeId} {pos : String} {aft : Array Edge} (H : ∀ h', Ext x.h h' → Fnc x.P x.main f vs.toArray h' [] P) (ho : nthO ops.toList i = some ⟨some d, .call ⟨.value (.func f), args.toArray, ts⟩, ty, pos, aft, none⟩ := by rfl) [FB x.P f] (hv : evs ρ args = some vs := by rfl) (hd : Nat.blt d x.n = true := by rfl) : Adds x ops (look ρ) (i, d, P) :=
  .of ho hd rfl fun F => e_call0 rfl hv (fun h' hE _ => H h' hE) fun v A' hv => ⟨A', hv, rfl⟩
def NewP (t : TypeId) (zc : Array Value) (v : Value) (A : Frag) : Prop := ∃ β, v = .pointer (some ⟨β, 0, none⟩) ∧ A = [(β, .cells zc t (0, 0))]
theorem Adds.new {i d t s b : Nat} {z : Value} {zc : Array Value} {ty : TypeId} {pos : String} {aft : Array Edge} (ho : nthO ops.toList i = some ⟨some d, .alloc t, ty, pos, aft, none⟩ := by rfl) [TI x.P t s b z zc] (hd : Nat.blt d x.n = true := by rfl) : Adds x ops (look ρ) (i, d, NewP t zc) :=
  .of ho hd rfl fun F => e_alloc rfl fun β _ _ => ⟨_, ⟨β, rfl, rfl⟩, rfl⟩
end rules
end Go.Mus
namespace Go.Mus
section
variable {α : Type} {row : α → List Value} {w : Nat} [rw' : Rw row w]
section
variable {x : Cx} {ρ : Env} {F : Frag} {o : Oper} {R : Value → Frag → Prop}
end
end
section
variable {x : Cx} {S : Frag → Prop} {ρ : Env} {o : Oper}
end
end Go.Mus
namespace Go.Mus
section
variable {x : Cx} {Q : Post} {ρ : Env} {ds : List Deferred} {ops : Array Oper} {G : Frag} {y₁ y₂ y₃ y₄ y₅ y₆ : Nat × Obj} {id n : Nat}
end
/-- The same, in another order. -/
theorem perm_cnt {α : Type} {l l' : List α} (h : ∀ [DecidableEq α] (a : α), l.count a = l'.count a) : l.Perm l' := by
  classical
  exact List.perm_iff_count.2 fun a => h a
end Go.Mus
namespace Go.Mus
/-- A slice of one's own is put by, wherever it stands. -/
theorem freezeAt {x : Cx} {c : Code} {Q : Post} {ρ : Env} {ds : List Deferred} {A F : Frag} {U : Frag → Frag} {α : Type} {row : α → List Value} {w : Nat} [Rw row w] {E : TypeId} {v : Value} {l : List α} (hs : Os E row v l A) (hg : Seg A F U)
    (H : ∀ h', Ext x.h h' → Sl h' row v l → Zs h' v → W { x with h := h' } c Q ρ ds (U [])) : W x c Q ρ ds F :=
  W.perm hg.perm.1 (freezeOs hs H)
theorem Os.open {α : Type} {row : α → List Value} {w : Nat} [Rw row w] {E : TypeId} {a : Option Addr} {n cap : Nat} {l : List α} {A : Frag} (h : Os E row (.slice a n cap) l A) (hne : 0 < l.length) : ∃ β c J, a = some ⟨β, 0, none⟩ ∧ A = (β, .cells c E (0, 0)) :: J ∧ n = l.length ∧ c.size = cap * w ∧ l.length ≤ cap ∧ Part c 0 (flat row l) ∧ Shut J := by
  rcases h with ⟨rfl, _, _⟩ | ⟨β, c, cp, J, hv, rfl, h1, h2, h3, h4⟩
  · simp at hne
  · injection hv with e1 e2 e3
    subst e1 e2 e3
    exact ⟨β, c, J, rfl, rfl, rfl, h1, h2, h3, h4⟩
end Go.Mus

/- Plants a little changed. Conditions: none. -/
namespace Go.Mus
end Go.Mus

/- What shows in a heat, and what is wrong. Conditions: none. -/
namespace Go.Mus
def spanOf (fs : List Fl) (b : Be) : Int × Int := if 0 ≤ b.fl then ((flAt fs b.fl).lo, (flAt fs b.fl).hi) else (0, 0)
def stepH (fs : List Fl) (out : List (List Int)) (b : Be) : List (List Int) := out.flatMap fun h => (nums (spanOf fs b).1 (spanOf fs b).2).map fun n => h ++ [n]
/-- All heats of a plan. -/
def heatsF (fs : List Fl) (l : List Be) : List (List Int) := l.foldl (stepH fs) [[]]
def IsHeat (fs : List Fl) (l : List Be) (h : List Int) : Prop := h.length = l.length ∧ ∀ i b, l[i]? = some b → (spanOf fs b).1 ≤ h.getD i 0 ∧ h.getD i 0 ≤ (spanOf fs b).2
theorem mem_nums {a lo hi : Int} : a ∈ nums lo hi ↔ lo ≤ a ∧ a ≤ hi := by
  unfold nums; rw [mem_numsN]; omega
theorem getD_left {g : List Int} {n : Int} {i : Nat} (h : i < g.length) : (g ++ [n]).getD i 0 = g.getD i 0 := by simp only [List.getD]; rw [List.getElem?_append_left h]
theorem getD_end {g : List Int} {n : Int} : (g ++ [n]).getD g.length 0 = n := by simp [List.getD]
theorem isHeat_snoc {fs : List Fl} {l : List Be} {b : Be} {h : List Int} : IsHeat fs (l ++ [b]) h ↔ ∃ g n, h = g ++ [n] ∧ IsHeat fs l g ∧ (spanOf fs b).1 ≤ n ∧ n ≤ (spanOf fs b).2 := by
  constructor
  · rintro ⟨h1, h2⟩
    have hne : h ≠ [] := by rintro rfl; simp at h1
    have e : h = h.dropLast ++ [h.getLast hne] := (List.dropLast_concat_getLast hne).symm
    have hl : h.dropLast.length = l.length := by simp at h1 ⊢; omega
    generalize h.dropLast = g at e hl
    generalize h.getLast hne = n at e
    subst e
    refine ⟨g, n, rfl, ⟨hl, fun i c hc => ?_⟩, ?_⟩
    · have hi := lt_of_get hc
      have := h2 i c (by rw [List.getElem?_append_left hi]; exact hc)
      rwa [getD_left (by omega)] at this
    · have := h2 l.length b (by simp)
      rwa [← hl, getD_end] at this
  · rintro ⟨g, n, rfl, ⟨h1, h2⟩, h3⟩
    refine ⟨by simp [h1], fun i c hc => ?_⟩
    rcases Nat.lt_or_ge i l.length with hi | hi
    · rw [List.getElem?_append_left hi] at hc
      rw [getD_left (by omega)]
      exact h2 i c hc
    · have hil := lt_of_get hc
      simp at hil
      have e : i = l.length := by omega
      subst e
      rw [← h1, getD_end]
      have : c = b := by simpa using hc.symm
      subst this
      exact h3
theorem mem_heatsK {fs : List Fl} {l : List Be} : ∀ (k : Nat), k ≤ l.length → ∀ h, h ∈ heatsF fs (l.take k) ↔ IsHeat fs (l.take k) h
  | 0, _, h => by
    simp only [List.take_zero, heatsF, List.foldl_nil, List.mem_singleton]
    constructor
    · rintro rfl; exact ⟨rfl, fun i b hb => by simp at hb⟩
    · rintro ⟨h1, -⟩; exact List.eq_nil_of_length_eq_zero h1
  | k + 1, hk, h => by
    obtain ⟨b, hb, -⟩ := has (show k < l.length by omega)
    have e : l.take (k + 1) = l.take k ++ [b] := by rw [List.take_add_one, hb]; rfl
    rw [e, isHeat_snoc]
    have e2 : heatsF fs (l.take k ++ [b]) = stepH fs (heatsF fs (l.take k)) b := by simp [heatsF, List.foldl_append]
    rw [e2, stepH, List.mem_flatMap]
    constructor
    · rintro ⟨g, hg, hm⟩
      obtain ⟨n, hn, rfl⟩ := List.mem_map.1 hm
      exact ⟨g, n, rfl, (mem_heatsK k (by omega) g).1 hg, mem_nums.1 hn⟩
    · rintro ⟨g, n, rfl, hg, hn⟩
      exact ⟨g, (mem_heatsK k (by omega) g).2 hg, List.mem_map.2 ⟨n, mem_nums.2 hn, rfl⟩⟩
theorem mem_heats {fs : List Fl} {l : List Be} {h : List Int} : h ∈ heatsF fs l ↔ IsHeat fs l h := by
  have := mem_heatsK (fs := fs) (l := l) l.length (Nat.le_refl _) h
  rwa [List.take_length] at this

/-! Days on which something shows -/
def heG (ss : List St) (l : List Be) (h : List Int) (f d : Int) (i : Nat) : Int := if (beAt l i).fl = f ∧ (beAt l i).day ≤ d ∧ d < (beAt l i).day + h.getD i 0 then (stAt ss i).co else 0
def conesF (ss : List St) (l : List Be) (h : List Int) (f d : Int) : Int := sumK (heG ss l h f d) l.length
def Btw (l : List Be) (f d : Int) : Prop := (∃ i, i < l.length ∧ (beAt l i).fl = f ∧ (beAt l i).day < d) ∧ ∃ i, i < l.length ∧ (beAt l i).fl = f ∧ d < (beAt l i).day
def Idl (ss : List St) (l : List Be) (h : List Int) (f d : Int) : Prop := conesF ss l h f d = 0 ∧ Btw l f d
open Classical in
noncomputable def idleN (ss : List St) (l : List Be) (h : List Int) (f : Int) : Nat → Int
  | 0 => 0
  | d + 1 => if Idl ss l h f d then idleN ss l h f d + 1 else 0
def Shw (fs : List Fl) (ss : List St) (l : List Be) (h : List Int) (f d : Nat) : Prop := d < 22 ∧ f < fs.length ∧ ((flAt fs f).pl < conesF ss l h f d ∨ (flAt fs f).co < idleN ss l h f (d + 1))

theorem idle_nn {ss : List St} {l : List Be} {h : List Int} {f : Int} : ∀ d, 0 ≤ idleN ss l h f d ∧ idleN ss l h f d ≤ d
  | 0 => ⟨Int.le_refl _, Int.le_refl _⟩
  | d + 1 => by
    have := idle_nn (ss := ss) (l := l) (h := h) (f := f) d
    rw [idleN]
    split <;> omega
theorem idle_run {ss : List St} {l : List Be} {h : List Int} {f : Int} : ∀ (d k : Nat), (k : Int) < idleN ss l h f (d + 1) → k ≤ d ∧ Idl ss l h f ((d - k : Nat) : Int)
  | 0, k, hk => by
    rw [idleN] at hk
    split at hk
    · rename_i h1
      rw [idleN] at hk
      have : k = 0 := by omega
      subst this
      exact ⟨Nat.le_refl _, h1⟩
    · omega
  | d + 1, k, hk => by
    rw [idleN] at hk
    split at hk
    · rename_i h1
      rcases k with _ | k
      · exact ⟨by omega, h1⟩
      · have := idle_run (ss := ss) (l := l) (h := h) (f := f) d k (by omega)
        refine ⟨by omega, ?_⟩
        rw [Nat.add_sub_add_right]; exact this.2
    · omega
theorem idle_ge {ss : List St} {l : List Be} {h : List Int} {f : Int} (s : Nat) : ∀ (m : Nat), (∀ d : Nat, s ≤ d → d < s + m → Idl ss l h f d) → (m : Int) ≤ idleN ss l h f (s + m)
  | 0, _ => (idle_nn _).1
  | m + 1, H => by
    have h1 := idle_ge s m fun d a b => H d a (by omega)
    rw [← Nat.add_assoc, idleN, if_pos (H (s + m) (by omega) (by omega))]
    omega

theorem be_pad {l : List Be} {i : Nat} : beAt (padB l) i = beAt l i := by
  simp only [beAt, padB, List.getD]
  rcases Nat.lt_or_ge i l.length with h | h
  · rw [List.getElem?_append_left h]
  · rw [List.getElem?_append_right h, List.getElem?_eq_none (l := l) h]
    cases hx : (List.replicate (4 - l.length) bnone)[i - l.length]? with
    | none => rfl
    | some b => rw [List.eq_of_mem_replicate (List.mem_of_getElem? hx)]; rfl
theorem be_out {l : List Be} {i : Nat} (h : l.length ≤ i) : beAt l i = bnone := by simp [beAt, List.getD, List.getElem?_eq_none h]
theorem sumK_ext {g : Nat → Int} {k : Nat} : ∀ {m : Nat}, k ≤ m → (∀ i, k ≤ i → i < m → g i = 0) → sumK g m = sumK g k
  | 0, h, _ => by rw [Nat.le_zero.1 h]
  | m + 1, h, H => by
    rcases Nat.lt_or_ge k (m + 1) with h' | h'
    · rw [sumK, sumK_ext (by omega) fun i a b => H i a (by omega), H m (by omega) (by omega), Int.add_zero]
    · rw [Nat.le_antisymm h h']
theorem sumK_zero {g : Nat → Int} : ∀ {k : Nat}, (∀ i, i < k → 0 ≤ g i) → sumK g k = 0 → ∀ i, i < k → g i = 0
  | 0, _, _, i, hi => by omega
  | k + 1, h, he, i, hi => by
    have h1 := sumK_nn (g := g) (k := k) fun i hi => h i (by omega)
    have h2 := h k (by omega)
    rw [sumK] at he
    rcases (by omega : i < k ∨ i = k) with h' | rfl
    · exact sumK_zero (fun i hi => h i (by omega)) (by omega) i h'
    · omega

section
variable {fs : List Fl} {ss : List St} {l : List Be} (hall : HallOK fs ss) (hp : PlanOf fs ss (padB l)) (hn : l.length = ss.length)
include hall hp hn
theorem on_iff {f a : Int} (h0 : 0 ≤ f) : OnDay (padB l) f a ↔ ∃ i, i < l.length ∧ (beAt l i).fl = f ∧ (beAt l i).day = a := by
  have h4 := hall.ns
  constructor
  · rintro ⟨i, hi, h1, h2⟩
    rw [be_pad] at h1 h2
    refine ⟨i, ?_, h1, h2⟩
    rcases Nat.lt_or_ge i l.length with h | h
    · exact h
    · rw [be_out h] at h1; simp [bnone] at h1; omega
  · rintro ⟨i, hi, h1, h2⟩
    exact ⟨i, by omega, by rw [be_pad]; exact h1, by rw [be_pad]; exact h2⟩
theorem hi_sum {f d : Int} (h0 : 0 ≤ f) : hiAt fs ss (padB l) f d = sumK (hiG fs ss l f d) l.length := by
  have h4 := hall.ns
  have e : hiAt fs ss (padB l) f d = sumK (hiG fs ss l f d) 4 := sumK_congr fun i _ => by simp only [hiG, be_pad]
  rw [e]
  refine sumK_ext (by omega) fun i hi _ => ?_
  simp only [hiG, be_out hi, bnone]
  rw [if_neg (by omega)]
theorem be_some {i : Nat} (hi : i < l.length) : l[i]? = some (beAt l i) := by simp [beAt, List.getD, List.getElem?_eq_getElem hi]
theorem heat_at {h : List Int} (hh : IsHeat fs l h) {i : Nat} {f : Int} (hi : i < l.length) (h0 : 0 ≤ f) (hf : (beAt l i).fl = f) : (flAt fs f).lo ≤ h.getD i 0 ∧ h.getD i 0 ≤ (flAt fs f).hi := by
  have := hh.2 i _ (be_some hall hp hn hi)
  simp only [spanOf, hf, if_pos h0] at this
  exact this
theorem cones_le {h : List Int} (hh : IsHeat fs l h) {f d : Int} (h0 : 0 ≤ f) : conesF ss l h f d ≤ hiAt fs ss (padB l) f d := by
  rw [hi_sum hall hp hn h0]
  refine sumK_le fun i hi => ?_
  have hc := (co_ok hall i).1
  simp only [heG, hiG]
  by_cases c : (beAt l i).fl = f ∧ (beAt l i).day ≤ d ∧ d < (beAt l i).day + h.getD i 0
  · have := heat_at hall hp hn hh hi h0 c.1
    rw [if_pos c, if_pos (by omega)]; exact Int.le_refl _
  · rw [if_neg c]; split <;> omega
theorem isHeat_map {g : Be → Int} (hg : ∀ b, b ∈ l → (spanOf fs b).1 ≤ g b ∧ g b ≤ (spanOf fs b).2) : IsHeat fs l (l.map g) := by
  refine ⟨by simp, fun i b hb => ?_⟩
  have e : (l.map g).getD i 0 = g b := by simp [List.getD, hb]
  rw [e]
  exact hg b (List.mem_of_getElem? hb)
theorem span_ok {b : Be} (hb : b ∈ l) : (spanOf fs b).1 ≤ (spanOf fs b).2 := by
  unfold spanOf
  split
  · rename_i h0
    have := fl_ok hall h0 (hp.fl b (List.mem_append_left _ hb))
    exact this.2.2.2.1
  · exact Int.le_refl _
theorem map_at {g : Be → Int} {i : Nat} (hi : i < l.length) : (l.map g).getD i 0 = g (beAt l i) := by simp [List.getD, be_some hall hp hn hi]
theorem cones_nn {h : List Int} {f d : Int} : ∀ i, i < l.length → 0 ≤ heG ss l h f d i := fun i _ => by
  have := (co_ok hall i).1
  simp only [heG]; split <;> omega

/-- What shows in a heat, is wrong no later. -/
theorem shw_bad {h : List Int} (hh : IsHeat fs l h) {f d : Nat} (hs : Shw fs ss l h f d) : ∃ n : Int, n ≤ d ∧ Bad fs ss (padB l) f n := by
  obtain ⟨hd, hf, hs⟩ := hs
  have h0 : (0 : Int) ≤ f := by omega
  have hfo := fl_ok hall h0 (by omega : (f : Int) < fs.length)
  rcases hs with hs | hs
  · exact ⟨d, Int.le_refl _, .inl ⟨by omega, by omega, by have := cones_le hall hp hn hh (f := f) (d := d) h0; omega⟩⟩
  · have hrun : ∀ k : Nat, (k : Int) ≤ (flAt fs f).co → k ≤ d ∧ Idl ss l h f ((d - k : Nat) : Int) := fun k hk => idle_run d k (by omega)
    obtain ⟨c, hc⟩ : ∃ c : Nat, (flAt fs f).co = c := ⟨(flAt fs f).co.toNat, by omega⟩
    obtain ⟨hcd, hE⟩ := hrun c (by omega)
    obtain ⟨hE0, ⟨i0, hi0, hf0, hd0⟩, -⟩ := hE
    obtain ⟨-, -, -, ⟨i1, hi1, hf1, hd1⟩⟩ := (hrun 0 (by omega))
    have hno : ∀ i, i < l.length → (beAt l i).fl = f → ((d - c : Nat) : Int) ≤ (beAt l i).day → (beAt l i).day ≤ d → False := by
      intro i hi hfi ha hb
      obtain ⟨-, hz, -⟩ := hrun (d - (beAt l i).day.toNat) (by omega)
      have hz' := sumK_zero (cones_nn hall hp hn) hz i hi
      have hhe := heat_at hall hp hn hh hi h0 hfi
      have hco : 1 ≤ (stAt ss i).co := by
        obtain ⟨s, hs, -⟩ := has (show i < ss.length by omega)
        have e : stAt ss i = s := by simp [stAt, List.getD, hs]
        rw [e]; have := hall.st s (List.mem_of_getElem? hs); omega
      simp only [heG] at hz'
      rw [if_pos ⟨hfi, by omega, by omega⟩] at hz'
      omega
    have hmax : ∀ (m : Nat) (a : Int), OnDay (padB l) f a → a < ((d - c : Nat) : Int) → ((d - c : Nat) : Int) - a ≤ m → ∃ a', OnDay (padB l) f a' ∧ a' < ((d - c : Nat) : Int) ∧ ∀ b, OnDay (padB l) f b → b < ((d - c : Nat) : Int) → b ≤ a' := by
      intro m
      induction m with
      | zero => intro a _ h1 h2; omega
      | succ m ih =>
        intro a ha h1 h2
        by_cases hx : ∃ b, OnDay (padB l) f b ∧ b < ((d - c : Nat) : Int) ∧ a < b
        · obtain ⟨b, hb, hb1, hb2⟩ := hx
          exact ih b hb hb1 (by omega)
        · refine ⟨a, ha, h1, fun b hb hb1 => ?_⟩
          rcases Int.lt_or_le a b with h' | h'
          · exact absurd ⟨b, hb, hb1, h'⟩ hx
          · exact h'
    have hon0 := (on_iff hall hp hn h0).2 ⟨i0, hi0, hf0, rfl⟩
    obtain ⟨a, ha, ha1, ha2⟩ := hmax (((d - c : Nat) : Int) - (beAt l i0).day).toNat _ hon0 hd0 (by omega)
    obtain ⟨i, hi, hfi, hdi⟩ := (on_iff hall hp hn h0).1 ha
    have hz' := sumK_zero (cones_nn hall hp hn) hE0 i hi
    have hhe := heat_at hall hp hn hh hi h0 hfi
    have hco : 1 ≤ (stAt ss i).co := by
      obtain ⟨s, hs, -⟩ := has (show i < ss.length by omega)
      have e : stAt ss i = s := by simp [stAt, List.getD, hs]
      rw [e]; have := hall.st s (List.mem_of_getElem? hs); omega
    have hle : a + h.getD i 0 ≤ ((d - c : Nat) : Int) := by
      rcases Int.lt_or_le ((d - c : Nat) : Int) (a + h.getD i 0) with h' | h'
      · simp only [heG] at hz'
        rw [if_pos ⟨hfi, by omega, by omega⟩] at hz'
        omega
      · exact h'
    refine ⟨a + (flAt fs f).lo + (flAt fs f).co, by omega, .inr ⟨a, ha, rfl, ⟨_, (on_iff hall hp hn h0).2 ⟨i1, hi1, hf1, rfl⟩, by omega⟩, fun b hb => ?_⟩⟩
    rcases Int.lt_or_le b ((d - c : Nat) : Int) with h' | h'
    · exact .inl (ha2 b hb h')
    · obtain ⟨j, hj, hfj, hdj⟩ := (on_iff hall hp hn h0).1 hb
      rcases Int.lt_or_le (d : Int) b with h'' | h''
      · exact .inr (by omega)
      · exact absurd (hno j hj hfj (by omega) (by omega)) id

/-- What is wrong, shows in some heat. -/
theorem bad_shw {f : Nat} {n : Int} (hf : f < fs.length) (hb : Bad fs ss (padB l) f n) : 0 ≤ n ∧ ∃ h, IsHeat fs l h ∧ Shw fs ss l h f n.toNat := by
  have h0 : (0 : Int) ≤ f := by omega
  have hfo := fl_ok hall h0 (by omega : (f : Int) < fs.length)
  rcases hb with ⟨b0, b1, b2⟩ | ⟨a, ha, rfl, ⟨b, hb, hlt⟩, hno⟩
  · refine ⟨b0, l.map (fun b => (spanOf fs b).2), isHeat_map hall hp hn fun b hb => ⟨span_ok hall hp hn hb, Int.le_refl _⟩, by omega, hf, .inl ?_⟩
    rw [hi_sum hall hp hn h0] at b2
    have e : ((n.toNat : Nat) : Int) = n := by omega
    rw [e]
    have : conesF ss l (l.map fun b => (spanOf fs b).2) f n = sumK (hiG fs ss l f n) l.length := sumK_congr fun i hi => by
      simp only [heG, hiG, map_at hall hp hn hi, spanOf]
      by_cases c : (beAt l i).fl = f
      · rw [c, if_pos h0]
      · rw [if_neg (fun x => c x.1), if_neg (fun x => c x.1)]
    rw [this]; exact b2
  · have ha' := onDay_ge hp.ok ha
    have hb' := onDay_ge hp.ok hb
    obtain ⟨i, hi, hfi, hdi⟩ := (on_iff hall hp hn h0).1 ha
    obtain ⟨j, hj, hfj, hdj⟩ := (on_iff hall hp hn h0).1 hb
    have hk := idle_ge (ss := ss) (l := l) (h := l.map fun b => (spanOf fs b).1) (f := f) (a + (flAt fs f).lo).toNat ((flAt fs f).co.toNat + 1) (fun d hd1 hd2 => by
      refine ⟨?_, ⟨i, hi, hfi, by omega⟩, ⟨j, hj, hfj, by omega⟩⟩
      have : conesF ss l (l.map fun b => (spanOf fs b).1) f d = sumK (fun _ => 0) l.length := sumK_congr fun k hk => by
        simp only [heG, map_at hall hp hn hk]
        refine if_neg fun hx => ?_
        obtain ⟨x1, x2, x3⟩ := hx
        simp only [spanOf, x1, if_pos h0] at x3
        rcases hno _ ((on_iff hall hp hn h0).2 ⟨k, hk, x1, rfl⟩) with h' | h' <;> omega
      rw [this, sumK_0])
    refine ⟨by omega, _, isHeat_map hall hp hn (g := fun b => (spanOf fs b).1) fun b hb => ⟨Int.le_refl _, span_ok hall hp hn hb⟩, by omega, hf, .inr ?_⟩
    have e : (a + (flAt fs f).lo).toNat + ((flAt fs f).co.toNat + 1) = (a + (flAt fs f).lo + (flAt fs f).co).toNat + 1 := by omega
    rw [e] at hk
    omega
end
/-! The first of all -/
def MinS (R : Nat → Nat → Prop) (on first : Int) : Prop := (on = -1 ∧ first = -1 ∧ ∀ f d, ¬ R f d) ∨ ∃ f d : Nat, on = f ∧ first = d ∧ R f d ∧ ∀ f' d', R f' d' → d < d' ∨ d = d' ∧ f ≤ f'
theorem MinS.eq {R : Nat → Nat → Prop} {a b c d : Int} (h : MinS R a b) (h' : MinS R c d) : a = c ∧ b = d := by
  rcases h with ⟨rfl, rfl, h⟩ | ⟨f, n, rfl, rfl, h, hm⟩ <;> rcases h' with ⟨rfl, rfl, h'⟩ | ⟨f', n', rfl, rfl, h', hm'⟩
  · exact ⟨rfl, rfl⟩
  · exact absurd h' (h _ _)
  · exact absurd h (h' _ _)
  · have := hm _ _ h'
    have := hm' _ _ h
    omega
theorem MinS.new {R R' : Nat → Nat → Prop} {on first g day : Int} (h : MinS R on first) (h' : MinS R' g day) (hc : 0 ≤ day ∧ (first < 0 ∨ day < first ∨ day = first ∧ g < on)) : MinS (fun f d => R f d ∨ R' f d) g day := by
  rcases h' with ⟨rfl, rfl, h'⟩ | ⟨f', n', rfl, rfl, h', hm'⟩
  · omega
  · refine .inr ⟨f', n', rfl, rfl, .inr h', fun x y hxy => ?_⟩
    rcases hxy with hxy | hxy
    · rcases h with ⟨rfl, rfl, h⟩ | ⟨f, n, rfl, rfl, h, hm⟩
      · exact absurd hxy (h _ _)
      · have := hm _ _ hxy
        omega
    · exact hm' _ _ hxy
theorem MinS.old {R R' : Nat → Nat → Prop} {on first g day : Int} (h : MinS R on first) (h' : MinS R' g day) (hc : ¬ (0 ≤ day ∧ (first < 0 ∨ day < first ∨ day = first ∧ g < on))) : MinS (fun f d => R f d ∨ R' f d) on first := by
  rcases h' with ⟨rfl, rfl, h'⟩ | ⟨f', n', rfl, rfl, h', hm'⟩
  · rcases h with ⟨rfl, rfl, h⟩ | ⟨f, n, rfl, rfl, h, hm⟩
    · exact .inl ⟨rfl, rfl, fun f d hx => hx.elim (h _ _) (h' _ _)⟩
    · exact .inr ⟨f, n, rfl, rfl, .inl h, fun x y hxy => hxy.elim (hm _ _) (fun hx => absurd hx (h' _ _))⟩
  · rcases h with ⟨rfl, rfl, h⟩ | ⟨f, n, rfl, rfl, h, hm⟩
    · omega
    · refine .inr ⟨f, n, rfl, rfl, .inl h, fun x y hxy => ?_⟩
      rcases hxy with hxy | hxy
      · exact hm _ _ hxy
      · have := hm' _ _ hxy
        omega
/-- ████ What is wrong, and what shows in all heats. -/
theorem wrong_min {fs : List Fl} {ss : List St} {l : List Be} (h : ckPlan fs ss l = 0) : ∃ f d, wrongV fs ss l = (f, d, 0) ∧ MinS (fun f d => ∃ h ∈ heatsF fs l, Shw fs ss l h f d) f d := by
  obtain ⟨hall, hp, -⟩ := plan_ck h
  obtain ⟨-, hn, -⟩ := ckPlan0 h
  have e1 : wrongV fs ss l = errW (inspF fs ss (padB l)) := by
    have : askE fs ss l [] = 0 := by unfold askE; rw [if_neg (by simp [h]), if_neg (by simp [badF])]
    rw [wrongV, if_neg (by rw [this]; decide)]
  rw [e1]
  cases hi : inspF fs ss (padB l) with
  | none =>
    refine ⟨-1, -1, rfl, .inl ⟨rfl, rfl, fun f d ⟨h, hh, hs⟩ => ?_⟩⟩
    obtain ⟨n, -, hb⟩ := shw_bad hall hp hn (mem_heats.1 hh) hs
    exact (insp_none hall hp.ok).1 hi f (by omega) (by have := hs.2.1; omega) n hb
  | some w =>
    obtain ⟨⟨c, n⟩, f⟩ := w
    obtain ⟨y0, y1, hb, hmin⟩ := insp_some hall hp.ok hi
    obtain ⟨f, rfl⟩ : ∃ f' : Nat, f = f' := ⟨f.toNat, by omega⟩
    obtain ⟨h0, h, hh, hs⟩ := bad_shw hall hp hn (by omega) hb
    refine ⟨f, n, rfl, .inr ⟨f, n.toNat, rfl, by omega, ⟨h, mem_heats.2 hh, hs⟩, fun f' d' ⟨h', hh', hs'⟩ => ?_⟩⟩
    obtain ⟨n', hn', hb'⟩ := shw_bad hall hp hn (mem_heats.1 hh') hs'
    have := hmin f' n' (by omega) (by have := hs'.2.1; omega) hb'
    omega
end Go.Mus

/- Slices of slices; makeSlice. Conditions: none; over any program. -/
namespace Go.Mus
/-- A slice as an element. -/
structure Sv where
  a : Option Addr
  n : Nat
  cap : Nat
abbrev Sv.val (s : Sv) : Value := .slice s.a s.n s.cap
def rowS (s : Sv) : List Value := [.slice s.a s.n s.cap]
instance : Rw rowS 1 := ⟨fun _ => rfl, fun _ => rfl⟩

section
variable {α : Type} {row : α → List Value} {w : Nat} [rw' : Rw row w] {E : TypeId}
/-- Slices of one's own, one by one. -/
inductive Oss (E : TypeId) (row : α → List Value) [Rw row w] : List Sv → List (List α) → Frag → Prop
  | nil : Oss E row [] [] []
  | cons {s : Sv} {l : List α} {A B : Frag} {vs : List Sv} {ls : List (List α)} : Os E row s.val l A → Oss E row vs ls B → Oss E row (s :: vs) (l :: ls) (A ++ B)
theorem Oss.len {vs : List Sv} {ls : List (List α)} {A : Frag} (h : Oss E row vs ls A) : vs.length = ls.length := by
  induction h with
  | nil => rfl
  | cons _ _ ih => simp [ih]
theorem Oss.shut {vs : List Sv} {ls : List (List α)} {A : Frag} (h : Oss E row vs ls A) : Shut A := by
  induction h with
  | nil => exact .nil
  | cons h _ ih => exact h.shut.app ih
theorem Oss.snoc {vs : List Sv} {ls : List (List α)} {A B : Frag} {s : Sv} {l : List α} (h : Oss E row vs ls A) (hs : Os E row s.val l B) : Oss E row (vs ++ [s]) (ls ++ [l]) (A ++ B) := by
  induction h with
  | nil => have := Oss.cons hs .nil; simpa using this
  | cons h1 _ ih => have := Oss.cons h1 ih; rw [← List.append_assoc] at this; exact this
theorem Oss.sl {vs : List Sv} {ls : List (List α)} {A : Frag} {h' : Hp} (h : Oss E row vs ls A) (hL : ∀ b o, (b, o) ∈ A → h' b = some o) : ∀ {k : Nat} {s : Sv} {l : List α}, vs[k]? = some s → ls[k]? = some l → Sl h' row s.val l := by
  induction h with
  | nil => intro k s l hs; simp at hs
  | cons h1 _ ih =>
    intro k s l hs hl
    rcases k with _ | k
    · simp at hs hl; subst hs hl
      exact h1.sl fun b o hb => hL b o (List.mem_append_left _ hb)
    · simp at hs hl
      exact ih (fun b o hb => hL b o (List.mem_append_right _ hb)) hs hl
/-- They are put by. -/
theorem freezeOss {x : Cx} {c : Code} {Q : Post} {ρ : Env} {ds : List Deferred} {A F : Frag} {vs : List Sv} {ls : List (List α)} (hs : Oss E row vs ls A)
    (H : ∀ h', Ext x.h h' → (∀ (k : Nat) (s : Sv) (l : List α), vs[k]? = some s → ls[k]? = some l → Sl h' row s.val l ∧ Zs h' s.val) → W { x with h := h' } c Q ρ ds F) : W x c Q ρ ds (A ++ F) := by
  induction hs generalizing x with
  | nil => exact H x.h ⟨fun _ _ q => q, fun _ q => q⟩ fun k s l hk => by simp at hk
  | cons h1 h2 ih =>
    rw [List.append_assoc]
    refine freezeOs h1 fun h' hE hsl hz => ih (x := { x with h := h' }) fun h'' hE' hall => H h'' (hE.trans hE') fun k s l hk hl => ?_
    rcases k with _ | k
    · simp at hk hl; subst hk hl
      exact ⟨hsl.ext hE', hz.ext hE'⟩
    · simp at hk hl
      exact hall k s l hk hl
theorem Sv.eta {v : Value} {l : List α} {A : Frag} (h : Os E row v l A) : ∃ s : Sv, v = s.val := by
  obtain ⟨a, cap, rfl⟩ := h.isSl
  exact ⟨⟨a, _, cap⟩, rfl⟩
end
/-! makeSlice -/
section
variable {x : Cx} {ρ : Env} {F : Frag} {o : Oper} {R : Value → Frag → Prop}
/-- A slice of zeros, each of one cell. -/
theorem e_makeSlice {t E by' n : Nat} {z : Value} {y y' : Operand} (ho : o.op = .makeSlice t y y') [TD x.P t (.slice E)] [TI x.P E 1 by' z #[z]] (hy : ev ρ y = some (.int .i64 (n : Int))) (hy' : ev ρ y' = some (.int .i64 (n : Int))) (hb : by' * n ≤ 2 ^ 48 ∧ n ≤ 1000000)
    (K : ∀ β, R (.slice (some ⟨β, 0, none⟩) n n) ((β, .cells (List.replicate n z).toArray E (0, 0)) :: F)) : Ef x ρ o F R :=
  Ef.of_tr fun e he h' hE => by
    obtain ⟨j, hj, hj1, hj2, hj3, hj4⟩ := TI.out (inferInstance : TI x.P E 1 by' z #[z])
    have hw : IntKind.i64.wrap (n : Int) = n := wrap_id (by omega) (by omega)
    have c1 : ¬ ((n : Int) < 0) := by omega
    have c2 : ¬ ((by' : Int) * (n : Int) > 2 ^ 48) := by have : ((by' * n : Nat) : Int) ≤ 2 ^ 48 := by exact_mod_cast hb.1
                                                         rw [Int.natCast_mul] at this; omega
    have c3 : ¬ ((n : Int) > n) := by omega
    simp only [execOp, ho, he y _ hy, he y' _ hy', Instr.makeSlice, asInt, asIntOf, bind_eq, pure_eq, bind_assoc, bind_pure, trb_underlying, trb_typeInfo hj, hj2, hw]
    simp only [c1, c2, c3, decide_false, Bool.or_false, Bool.false_eq_true, if_false]
    have room : ∀ {β : Type} {f : Unit → Sem β} {Q' : β → Frag → Prop}, tr x.P h' (f ()) F Q' → tr x.P h' ((askRoom (((n : Int).toNat) * by')).bind f) F Q' := by
      intro β f Q' H
      unfold askRoom
      split
      · exact ⟨rfl, H⟩
      · exact H
    refine tr_bind (room ?_)
    simp only [trb_sizeOf, Int.toNat_natCast, Nat.mul_one]
    have harr : (Array.range n).map (fun i => (#[z] : Array Value)[i % (#[z] : Array Value).size]!) = (List.replicate n z).toArray := by
      apply Array.ext
      · simp
      · intro i h1 h2
        simp [Nat.mod_one]
    by_cases h0 : n = 0
    · subst h0
      have e0 : (Array.range 0).map (fun x => (#[] : Array Value)[x % (#[] : Array Value).size]!) = (List.replicate 0 z).toArray := by simp
      simp only [if_true, newRow, bind_eq, pure_eq, bind_assoc, bind_pure, e0]
      exact tr_new fun r h1 h2 => ⟨_, .inl rfl, K r⟩
    · simp only [if_neg h0, trb_zeroValue, hj4, newRow, bind_eq, pure_eq, bind_assoc, bind_pure, harr]
      exact tr_new fun r h1 h2 => ⟨_, .inl rfl, K r⟩
end
end Go.Mus

/- All heats of a plan. Conditions: none; over the given program. -/
namespace Go.Mus
set_option maxRecDepth 100000
set_option maxHeartbeats 4000000
theorem DupInts_fn (main : Side) (h : Hp) (l : List Int) (v : Value) (hl : Sl h rowI v l) (hn : l.length ≤ 1000) : Fnc prog main n_kit_DupInts #[v] h [] (fun v A => ∃ S, Os t_int rowI v l S ∧ Sb S A) := by
  obtain ⟨a, cap, rfl⟩ := hl.isSl
  refine Fnc.of_body at_kit_DupInts rfl (by show 1 ≤ 6; decide) [(0, .slice a l.length cap)] ⟨rfl, trivial⟩ ?_
  refine W.seq <| W.region rfl <| qs rfl rfl rfl <| Ops.nil <| thn_n <| W.seq <| W.region rfl ?_
  refine Ops.bsl0 (fun β3 => ?_)
  refine qm rfl rfl rfl ?_
  have hO : Os t_int rowI (.slice (some ⟨β3, 0, none⟩) 0 0) ([] : List Int) [(β3, .cells #[] t_int (0, 0))] := .inr ⟨β3, #[], 0, [], rfl, rfl, rfl, Nat.le_refl _, Part.all [], .nil⟩
  refine oe rfl wn rfl rfl (e_append (row := rowI) (l := []) (l' := l) rfl rfl rfl hO .all (fun h2 hE _ => hl.ext hE) (by simp; omega) (by decide) rfl (fun v' S' hS' => ?_))
  rw [List.nil_append] at hS'
  refine qs rfl rfl rfl <| Ops.nil <| thn_n <| W.ret ?_
  exact lvt (vs := [v']) ⟨S', hS', .refl⟩

/-- The first k numbers from lo on, behind each of the first j heats. -/
def stepJ (lo hi : Int) (out : List (List Int)) (j : Nat) : List (List Int) := (out.take j).flatMap fun h => (nums lo hi).map fun n => h ++ [n]
theorem stepJ_succ {lo hi : Int} {out : List (List Int)} {j : Nat} {g : List Int} (h : out[j]? = some g) : stepJ lo hi out (j + 1) = stepJ lo hi out j ++ (nums lo hi).map fun n => g ++ [n] := by
  rw [stepJ, List.take_add_one, List.flatMap_append, h]; simp [stepJ]
theorem stepJ_len {lo hi : Int} {out : List (List Int)} (h : hi - lo ≤ 5) : ∀ j, (stepJ lo hi out j).length ≤ 6 * j
  | 0 => by simp [stepJ]
  | j + 1 => by
    have ih := stepJ_len (out := out) h j
    cases e : out[j]? with
    | none =>
      have : stepJ lo hi out (j + 1) = stepJ lo hi out j := by rw [stepJ, List.take_add_one, e]; simp [stepJ]
      rw [this]; omega
    | some g =>
      rw [stepJ_succ e, List.length_append, List.length_map, nums, numsN_len]
      omega
theorem heats_step {fs : List Fl} {l : List Be} {i : Nat} {b : Be} (h : l[i]? = some b) : heatsF fs (l.take (i + 1)) = stepJ (spanOf fs b).1 (spanOf fs b).2 (heatsF fs (l.take i)) (heatsF fs (l.take i)).length := by
  rw [List.take_add_one, h, stepJ, List.take_length]
  simp [heatsF, List.foldl_append, stepH]
theorem heats_each {fs : List Fl} {l : List Be} {i : Nat} {g : List Int} (hi : i ≤ l.length) (hg : g ∈ heatsF fs (l.take i)) : g.length = i := by
  have := ((mem_heatsK i hi g).1 hg).1
  rw [this, List.length_take]; omega

theorem span_le {fs : List Fl} {ss : List St} {l : List Be} (hall : HallOK fs ss) (hp : PlanOf fs ss (padB l)) (hn : l.length = ss.length) {b : Be} (hb : b ∈ l) : 0 ≤ (spanOf fs b).1 ∧ (spanOf fs b).1 ≤ 6 ∧ (spanOf fs b).1 ≤ (spanOf fs b).2 ∧ (spanOf fs b).2 ≤ 6 ∧ (spanOf fs b).2 - (spanOf fs b).1 ≤ 5 := by
  unfold spanOf
  split
  · rename_i h0
    have := fl_ok hall h0 (hp.fl b (List.mem_append_left _ hb))
    exact ⟨by omega, by omega, by omega, by omega, by omega⟩
  · exact ⟨by decide, by decide, by decide, by decide, by decide⟩
theorem heats_len {fs : List Fl} {ss : List St} {l : List Be} (hall : HallOK fs ss) (hp : PlanOf fs ss (padB l)) (hn : l.length = ss.length) : ∀ i, i ≤ l.length → (heatsF fs (l.take i)).length ≤ 6 ^ i
  | 0, _ => by simp [heatsF]
  | i + 1, h => by
    obtain ⟨b, hb, -⟩ := has (show i < l.length by omega)
    have ih := heats_len hall hp hn i (by omega)
    have := stepJ_len (out := heatsF fs (l.take i)) (span_le hall hp hn (List.mem_of_getElem? hb)).2.2.2.2 (heatsF fs (l.take i)).length
    rw [heats_step hb, Nat.pow_succ]
    omega
theorem pow6 {i : Nat} (h : i ≤ 4) : 6 ^ i ≤ 1296 := by
  rcases (by omega : i = 0 ∨ i = 1 ∨ i = 2 ∨ i = 3 ∨ i = 4) with rfl | rfl | rfl | rfl | rfl <;> decide
theorem ext2 {c : Array Value} {o : Nat} {u v w y : Value} (h : c.extract o (o + 4) = #[u, v, w, y]) : c.extract (o + 1) (o + 1 + 2) = #[v, w] := by
  have e : (c.extract o (o + 4)).extract 1 3 = c.extract (o + 1) (o + 1 + 2) := by
    rw [Array.extract_extract, show min (o + 3) (o + 4) = o + 1 + 2 by omega]
  rw [← e, h]; rfl

theorem heats_fn (main : Side) (h : Hp) (fs : List Fl) (ss : List St) (l : List Be) (vf vs vl : Value) (hf : Sl h Fl.row vf fs) (hl : Sl h Be.row vl l) (hck : ckPlan fs ss l = 0) : Fnc prog main n_law_heats #[.agg #[vf, vs], vl] h [] (fun v A => ∃ O us B, Os t_sl_int rowS v us O ∧ Oss t_int rowI us (heatsF fs l) B ∧ (heatsF fs l).length ≤ 1296 ∧ Sb (O ++ B) A) := by
  obtain ⟨hall, hp, hn⟩ := plan_ck hck
  have hns := hall.ns
  obtain ⟨a, cap, rfl⟩ := hf.isSl
  obtain ⟨al, lc, rfl⟩ := hl.isSl
  refine Fnc.of_body at_law_heats rfl (by show 2 ≤ 62; decide) [(0, .agg #[.slice a fs.length cap, vs]), (1, .slice al l.length lc)] ⟨rfl, rfl, trivial⟩ ?_
  refine W.seq <| W.region rfl ?_
  refine Ops.box (cs := #[.slice a fs.length cap, vs]) (fun β2 => ?_) rfl rfl rfl
  refine qs rfl rfl rfl <| Ops.nil <| thn_n <| W.seq <| W.region rfl ?_
  refine Ops.bsl (cs := #[.slice none 0 0]) (fun β11 => ?_) rfl
  refine qs rfl rfl rfl <| Ops.nil <| thn_n <| W.seq <| W.seq <| W.region rfl <| qs rfl rfl rfl <| Ops.nil <| thn_n <| W.block ?_
  have hO0 : Os t_sl_int rowS (.slice (some ⟨β11, 0, none⟩) 1 1) [(⟨none, 0, 0⟩ : Sv)] [(β11, .cells #[.slice none 0 0] t_sl_int (0, 0))] := .inr ⟨β11, _, 1, [], rfl, rfl, rfl, Nat.le_refl _, Part.all _, .nil⟩
  have hB0 : Oss t_int rowI [(⟨none, 0, 0⟩ : Sv)] (heatsF fs (l.take 0)) [] := by
    have := Oss.cons (E := t_int) (row := rowI) (s := (⟨none, 0, 0⟩ : Sv)) (l := []) (.nil .nil) .nil
    exact this
  refine W.loop (σ := Nat × List Sv × Option Addr × Nat × Frag × Frag) (fun q => q.1 ≤ l.length ∧ Os t_sl_int rowS (.slice q.2.2.1 q.2.1.length q.2.2.2.1) q.2.1 q.2.2.2.2.1 ∧ Oss t_int rowI q.2.1 (heatsF fs (l.take q.1)) q.2.2.2.2.2) (fun q => [(6, I q.1), (5, .slice q.2.2.1 q.2.1.length q.2.2.2.1), (2, .pointer (some ⟨β2, 0, none⟩)), (1, .slice al l.length lc)]) (fun q => (β2, .cells #[.slice a fs.length cap, vs] t_Plant (0, 0)) :: (q.2.2.2.2.1 ++ q.2.2.2.2.2)) (fun q => l.length - q.1) (0, [⟨none, 0, 0⟩], some ⟨β11, 0, none⟩, 1, [(β11, .cells #[.slice none 0 0] t_sl_int (0, 0))], []) ⟨Nat.zero_le _, hO0, hB0⟩ ⟨rfl, rfl, rfl, rfl, trivial⟩ (.of_perm (List.perm_append_comm (l₁ := [_]))) ?_
  rintro ⟨i, us, sa, sc, O, B⟩ ⟨hi, hO, hB⟩
  simp only at hi hO hB
  refine W.seq <| W.seq <| W.region rfl <| qm rfl rfl rfl <| qm rfl rfl rfl ?_
  refine oq (y_len rfl rfl) rfl wn rfl rfl ?_
  refine oq (y_lss rfl rfl rfl) rfl wn rfl rfl ?_
  refine Ops.nil <| thn_n ?_
  refine W.condp rfl (fun c15 => ?_) (fun c15 => ?_)
  · have hi1 : i < l.length := by omega
    obtain ⟨b, hb0, -⟩ := has hi1
    have hbm := List.mem_of_getElem? hb0
    have hsp := span_le hall hp hn hbm
    have hst := heats_step (fs := fs) hb0
    have hHl := Nat.le_trans (heats_len hall hp hn i (by omega)) (pow6 (by omega))
    have hul := hB.len
    obtain ⟨bl, offl, cl, El, fzl, rfl, hbl, -, hyl, hzl⟩ := hl.at hb0
    have hfl0 : cl[offl + i * 2 + 0]? = some (I b.fl) := hzl 0 (by decide)
    clear hzl
    refine W.skip <| thn_n <| W.seq <| W.block <| W.seq <| W.region rfl ?_
    refine oq (y_build (parts := []) (cs := #[I 0, I 0]) rfl rfl rfl) rfl wn rfl rfl ?_
    refine Ops.new (fun β7 => ?_)
    first | refine Ops.stoW ?_ | refine Ops.stoA ?_
    refine Ops.nil <| thn_n <| W.seq <| W.seq <| W.region rfl <| qm rfl rfl rfl <| qm rfl rfl rfl ?_
    first | refine oq (yix rfl rfl rfl) rfl wn rfl rfl ?_ | refine oq (yixI rfl rfl rfl) rfl wn rfl rfl ?_
    refine oq (y_fieldAddr rfl rfl) rfl wn rfl rfl ?_
    refine oq (yld rfl rfl) rfl wn rfl rfl ?_
    refine oq (y_geq rfl rfl rfl) rfl wn rfl rfl ?_
    refine Ops.nil <| thn_n ?_
    refine W.condp rfl (fun c24 => ?_) (fun c24 => ?_)
    · have hbf := hp.fl b (List.mem_append_left _ hbm)
      obtain ⟨⟨pl, lo, hi', co⟩, hx0, -⟩ := has (show b.fl.toNat < fs.length by omega)
      have hfa : flAt fs b.fl = ⟨pl, lo, hi', co⟩ := by simp [flAt, List.getD, hx0]
      have hspan : spanOf fs b = (lo, hi') := by unfold spanOf; rw [if_pos c24, hfa]
      obtain ⟨bf, off, c, E, fz, rfl, hbk, hx1, hy1, hz1⟩ := hf.at hx0
      have hx2 := ext2 hx1
      clear hx1 hz1
      refine W.drawP2 (n := 11) rfl ?_
      refine aq (i := 0) (y_fieldAddr rfl rfl) rfl an rfl rfl ?_
      refine aq (i := 1) (yld rfl rfl) rfl an rfl rfl ?_
      refine aq (i := 2) (y_move rfl rfl) rfl an rfl rfl ?_
      refine aq (i := 3) (y_move rfl rfl) rfl an rfl rfl ?_
      first | refine aq (i := 4) (yix rfl rfl rfl) rfl an rfl rfl ?_ | refine aq (i := 4) (yixI rfl rfl rfl) rfl an rfl rfl ?_
      refine aq (i := 5) (y_fieldAddr rfl rfl) rfl an rfl rfl ?_
      refine aq (i := 6) (yld rfl rfl) rfl an rfl rfl ?_
      first | refine aq (i := 7) (yixI rfl rfl rfl) rfl an rfl rfl ?_ | refine aq (i := 7) (yix rfl rfl rfl) rfl an rfl rfl ?_
      refine aq (i := 8) (y_fieldAddr rfl rfl) rfl an rfl rfl ?_
      first | refine aq (i := 9) (yldW rfl rfl) rfl an rfl rfl ?_ | refine aq (i := 9) (yldA rfl rfl) rfl an rfl rfl ?_
      first | refine ae (i := 10) rfl an rfl rfl (eSW rfl rfl rfl ?_) | refine ae (i := 10) rfl an rfl rfl (eSA rfl rfl rfl ?_)
      refine ⟨.inl (by kernel_rfl), ?_⟩
      refine az ?_
      refine thn_n ?_
      rw [hspan] at hsp hst
      simp only at hsp hst
      generalize hHe : heatsF fs (l.take i) = H at hst hHl hul hB
      refine W.seq <| W.region rfl <| qs rfl rfl rfl <| Ops.nil <| thn_n <| W.seq <| W.seq <| W.region rfl <| qs rfl rfl rfl <| Ops.nil ?_
      refine thn_n <| W.block ?_
      refine W.loop (σ := Nat × List Sv × Option Addr × Nat × Frag × Frag) (fun q => q.1 ≤ us.length ∧ Os t_sl_int rowS (.slice q.2.2.1 q.2.1.length q.2.2.2.1) q.2.1 q.2.2.2.2.1 ∧ Oss t_int rowI q.2.1 (stepJ lo hi' H q.1) q.2.2.2.2.2) (fun q => [(9, I q.1), (8, .slice q.2.2.1 q.2.1.length q.2.2.2.1), (7, .pointer (some ⟨β7, 0, none⟩)), (6, I i), (5, .slice sa us.length sc), (2, .pointer (some ⟨β2, 0, none⟩)), (1, .slice (some ⟨bl, offl, none⟩) l.length lc)]) (fun q => (β7, .cells #[I lo, I hi'] t_Span (0, 0)) :: (β2, .cells #[.slice _ fs.length cap, vs] t_Plant (0, 0)) :: ((O ++ B) ++ (q.2.2.2.2.1 ++ q.2.2.2.2.2))) (fun q => us.length - q.1) (0, [], none, 0, [], []) ⟨Nat.zero_le _, .nil .nil, .nil⟩ ⟨rfl, rfl, rfl, rfl, rfl, rfl, rfl, trivial⟩ (by simp only [List.append_nil]; exact .refl) ?_
      rintro ⟨k, ns, na, nc, N, C⟩ ⟨hk, hN, hC⟩
      simp only at hk hN hC
      refine W.seq <| W.seq <| W.region rfl <| qm rfl rfl rfl <| qm rfl rfl rfl ?_
      refine oq (y_len rfl rfl) rfl wn rfl rfl ?_
      refine oq (y_lss rfl rfl rfl) rfl wn rfl rfl ?_
      refine Ops.nil <| thn_n ?_
      refine W.condp rfl (fun c38 => ?_) (fun c38 => ?_)
      · have hk1 : k < us.length := by omega
        obtain ⟨g, hg, -⟩ := has (show k < H.length by omega)
        obtain ⟨s, hs, -⟩ := has hk1
        have hgl : g.length = i := heats_each (by omega) (hHe ▸ List.mem_of_getElem? hg)
        have hss := stepJ_succ (lo := lo) (hi := hi') hg
        have hsl6 := stepJ_len (out := H) hsp.2.2.2.2 k
        refine W.skip <| thn_n <| W.seq <| W.block <| W.seq <| W.region rfl ?_
        refine oq (y_fieldAddr rfl rfl) rfl wn rfl rfl ?_
        refine oq (yld rfl rfl) rfl wn rfl rfl ?_
        refine qs rfl rfl rfl <| Ops.nil <| thn_n <| W.block ?_
        refine W.loop (σ := Nat × List Sv × Option Addr × Nat × Frag × Frag) (fun q => q.1 ≤ (hi' + 1 - lo).toNat ∧ Os t_sl_int rowS (.slice q.2.2.1 q.2.1.length q.2.2.2.1) q.2.1 q.2.2.2.2.1 ∧ Oss t_int rowI q.2.1 (stepJ lo hi' H k ++ (numsN lo q.1).map fun n => g ++ [n]) q.2.2.2.2.2) (fun q => [(10, I (lo + q.1)), (9, I k), (8, .slice q.2.2.1 q.2.1.length q.2.2.2.1), (7, .pointer (some ⟨β7, 0, none⟩)), (6, I i), (5, .slice sa us.length sc), (2, .pointer (some ⟨β2, 0, none⟩)), (1, .slice (some ⟨bl, offl, none⟩) l.length lc)]) (fun q => (β7, .cells #[I lo, I hi'] t_Span (0, 0)) :: (β2, .cells #[.slice _ fs.length cap, vs] t_Plant (0, 0)) :: ((O ++ B) ++ (q.2.2.2.2.1 ++ q.2.2.2.2.2))) (fun q => (hi' + 1 - lo).toNat - q.1) (0, ns, na, nc, N, C) ⟨Nat.zero_le _, hN, by simpa [numsN] using hC⟩ ⟨lk rfl (show I _ = I _ by congr 1; omega), rfl, rfl, rfl, rfl, rfl, rfl, rfl, trivial⟩ .refl ?_
        rintro ⟨m, ns, na, nc, N, C⟩ ⟨hm, hN, hC⟩
        simp only at hm hN hC
        refine W.seq <| W.seq <| W.region rfl <| qm rfl rfl rfl ?_
        refine oq (y_fieldAddr rfl rfl) rfl wn rfl rfl ?_
        refine oq (yld rfl rfl) rfl wn rfl rfl ?_
        refine oq (y_leq rfl rfl rfl) rfl wn rfl rfl ?_
        refine Ops.nil <| thn_n ?_
        refine W.condp rfl (fun c46 => ?_) (fun c46 => ?_)
        · have hnl : ns.length ≤ 6 * k + 6 := by
            rw [hC.len, List.length_append, List.length_map, numsN_len]; omega
          have hlt : lo + m ≤ hi' := c46
          obtain ⟨βo, co', Jo, hsa, hOe, -, -, -, hPo, -⟩ := hO.open (by omega)
          subst hsa
          have hcell : co'[0 + k * 1 + 0]? = some (.slice s.a s.n s.cap) := hPo.rowG hs 0 (by decide)
          refine W.skip <| thn_n <| W.seq <| W.block <| W.region rfl <| qm rfl rfl rfl <| qm rfl rfl rfl <| qm rfl rfl rfl ?_
          first | refine oq (yix rfl rfl rfl) rfl wn rfl rfl ?_ | refine oq (yixI rfl rfl rfl) rfl wn rfl rfl ?_
          refine oq (yld rfl rfl (.inr (fun _ e => by subst e; exact .tail _ (.tail _ (List.mem_append_left _ (List.mem_append_left _ (by rw [hOe]; exact .head _)))))) hcell) rfl wn rfl rfl ?_
          refine c0 (fun h' hE hL => DupInts_fn _ h' g s.val (hB.sl (fun b o hb => hL b o (.tail _ (.tail _ (List.mem_append_left _ (List.mem_append_right _ hb))))) hs hg) (by omega)) (fun v A' hv => ?_)
          obtain ⟨S, hS, hsb⟩ := hv
          refine Ops.sb (hsb.app .refl) ?_
          refine qm rfl rfl rfl ?_
          refine Ops.bsl (cs := #[I (lo + m)]) (fun β56 => ?_) rfl
          refine oe rfl wn rfl rfl (e_append (row := rowI) (l' := [lo + m]) rfl rfl rfl hS (.tail .head) (fun h2 _ hl => Sl.mk (hl β56 _ (.head _)) rfl (Part.all [I (lo + m)])) (by simp; omega) (by decide) rfl (fun v2 S2 hS2 => ?_))
          obtain ⟨s2, rfl⟩ := Sv.eta hS2
          refine Ops.bsl (cs := #[.slice s2.a s2.n s2.cap]) (fun β58 => ?_) rfl
          refine oe rfl wn rfl rfl (e_append (row := rowS) (l' := [s2]) rfl rfl rfl hN (.tail (.tail (.app (.tail (.tail (.app .head)))))) (fun h2 _ hl => Sl.mk (hl β58 _ (.head _)) rfl (Part.all (rowS s2))) (by simp; omega) (by decide) rfl (fun v3 N3 hN3 => ?_))
          obtain ⟨na3, nc3, rfl⟩ := hN3.isSl
          refine qs rfl rfl rfl <| Ops.nil <| blk_n <| thn_n <| W.region rfl <| qm rfl rfl rfl ?_
          first | refine oq (yadd rfl rfl rfl) rfl wn rfl rfl ?_ | refine oq (y_addw rfl rfl rfl) rfl wn rfl rfl ?_
          refine qs rfl rfl rfl <| Ops.nil <| thn_n ?_
          refine ⟨rfl, (m + 1, ns ++ [s2], na3, nc3, N3, C ++ S2), ⟨by simp only; omega, hN3, ?_⟩, by simp only; omega, ⟨lk rfl (show I _ = I _ by congr 1; omega), rfl, rfl, rfl, rfl, rfl, rfl, rfl, trivial⟩, .skip rfl (.skip rfl (.of_perm (perm_cnt fun y => ?_)))⟩
          · have := hC.snoc hS2
            simp only [numsN, List.map_append, List.map_cons, List.map_nil]
            rwa [← List.append_assoc]
          · simp only [List.count_append, List.count_cons, List.count_nil]; omega
        · refine W.exit <| thn_x <| thn_x <| blk_x <| blk_n <| thn_n <| W.region rfl <| qm rfl rfl rfl ?_
          first | refine oq (yadd rfl rfl rfl) rfl wn rfl rfl ?_ | refine oq (y_addw rfl rfl rfl) rfl wn rfl rfl ?_
          refine qs rfl rfl rfl <| Ops.nil <| thn_n ?_
          have hme : m = (hi' + 1 - lo).toNat := by omega
          subst hme
          exact ⟨rfl, (k + 1, ns, na, nc, N, C), ⟨by simp only; omega, hN, by simp only; rw [hss]; exact hC⟩, by simp only; omega, ⟨rfl, rfl, rfl, rfl, rfl, rfl, rfl, trivial⟩, .refl⟩
      · refine W.exit <| thn_x <| thn_x <| blk_x <| thn_n <| W.region rfl <| qm rfl rfl rfl <| qs rfl rfl rfl <| Ops.nil <| blk_n ?_
        refine thn_n <| W.region rfl <| qm rfl rfl rfl ?_
        first | refine oq (yadd rfl rfl rfl) rfl wn rfl rfl ?_ | refine oq (y_addw rfl rfl rfl) rfl wn rfl rfl ?_
        refine qs rfl rfl rfl <| Ops.nil <| thn_n ?_
        have hke : k = us.length := by omega
        subst hke
        rw [hul] at hC
        refine ⟨rfl, (i + 1, ns, na, nc, N, C), ⟨by simp only; omega, hN, by simp only; rw [hst]; exact hC⟩, by simp only; omega, ⟨rfl, rfl, rfl, rfl, trivial⟩, .skip rfl (.cons (Sb.left .refl (hO.shut.app hB.shut)))⟩
    · have hspan : spanOf fs b = (0, 0) := if_neg c24
      obtain ⟨lo, hlo⟩ : ∃ n : Int, n = 0 := ⟨0, rfl⟩
      obtain ⟨hi', hhi⟩ : ∃ n : Int, n = 0 := ⟨0, rfl⟩
      rw [← hlo] at hspan
      have hspan : spanOf fs b = (lo, hi') := by rw [hspan, hlo, hhi]
      refine W.sb (F' := (β7, .cells #[I lo, I hi'] t_Span (0, 0)) :: (β2, .cells #[.slice a fs.length cap, vs] t_Plant (0, 0)) :: (O ++ B)) (by rw [hlo, hhi]; exact .refl) ?_
      refine W.skip <| thn_n ?_
      rw [hspan] at hsp hst
      simp only at hsp hst
      generalize hHe : heatsF fs (l.take i) = H at hst hHl hul hB
      refine W.seq <| W.region rfl <| qs rfl rfl rfl <| Ops.nil <| thn_n <| W.seq <| W.seq <| W.region rfl <| qs rfl rfl rfl <| Ops.nil ?_
      refine thn_n <| W.block ?_
      refine W.loop (σ := Nat × List Sv × Option Addr × Nat × Frag × Frag) (fun q => q.1 ≤ us.length ∧ Os t_sl_int rowS (.slice q.2.2.1 q.2.1.length q.2.2.2.1) q.2.1 q.2.2.2.2.1 ∧ Oss t_int rowI q.2.1 (stepJ lo hi' H q.1) q.2.2.2.2.2) (fun q => [(9, I q.1), (8, .slice q.2.2.1 q.2.1.length q.2.2.2.1), (7, .pointer (some ⟨β7, 0, none⟩)), (6, I i), (5, .slice sa us.length sc), (2, .pointer (some ⟨β2, 0, none⟩)), (1, .slice (some ⟨bl, offl, none⟩) l.length lc)]) (fun q => (β7, .cells #[I lo, I hi'] t_Span (0, 0)) :: (β2, .cells #[.slice _ fs.length cap, vs] t_Plant (0, 0)) :: ((O ++ B) ++ (q.2.2.2.2.1 ++ q.2.2.2.2.2))) (fun q => us.length - q.1) (0, [], none, 0, [], []) ⟨Nat.zero_le _, .nil .nil, .nil⟩ ⟨rfl, rfl, rfl, rfl, rfl, rfl, rfl, trivial⟩ (by simp only [List.append_nil]; exact .refl) ?_
      rintro ⟨k, ns, na, nc, N, C⟩ ⟨hk, hN, hC⟩
      simp only at hk hN hC
      refine W.seq <| W.seq <| W.region rfl <| qm rfl rfl rfl <| qm rfl rfl rfl ?_
      refine oq (y_len rfl rfl) rfl wn rfl rfl ?_
      refine oq (y_lss rfl rfl rfl) rfl wn rfl rfl ?_
      refine Ops.nil <| thn_n ?_
      refine W.condp rfl (fun c38 => ?_) (fun c38 => ?_)
      · have hk1 : k < us.length := by omega
        obtain ⟨g, hg, -⟩ := has (show k < H.length by omega)
        obtain ⟨s, hs, -⟩ := has hk1
        have hgl : g.length = i := heats_each (by omega) (hHe ▸ List.mem_of_getElem? hg)
        have hss := stepJ_succ (lo := lo) (hi := hi') hg
        have hsl6 := stepJ_len (out := H) hsp.2.2.2.2 k
        refine W.skip <| thn_n <| W.seq <| W.block <| W.seq <| W.region rfl ?_
        refine oq (y_fieldAddr rfl rfl) rfl wn rfl rfl ?_
        refine oq (yld rfl rfl) rfl wn rfl rfl ?_
        refine qs rfl rfl rfl <| Ops.nil <| thn_n <| W.block ?_
        refine W.loop (σ := Nat × List Sv × Option Addr × Nat × Frag × Frag) (fun q => q.1 ≤ (hi' + 1 - lo).toNat ∧ Os t_sl_int rowS (.slice q.2.2.1 q.2.1.length q.2.2.2.1) q.2.1 q.2.2.2.2.1 ∧ Oss t_int rowI q.2.1 (stepJ lo hi' H k ++ (numsN lo q.1).map fun n => g ++ [n]) q.2.2.2.2.2) (fun q => [(10, I (lo + q.1)), (9, I k), (8, .slice q.2.2.1 q.2.1.length q.2.2.2.1), (7, .pointer (some ⟨β7, 0, none⟩)), (6, I i), (5, .slice sa us.length sc), (2, .pointer (some ⟨β2, 0, none⟩)), (1, .slice (some ⟨bl, offl, none⟩) l.length lc)]) (fun q => (β7, .cells #[I lo, I hi'] t_Span (0, 0)) :: (β2, .cells #[.slice _ fs.length cap, vs] t_Plant (0, 0)) :: ((O ++ B) ++ (q.2.2.2.2.1 ++ q.2.2.2.2.2))) (fun q => (hi' + 1 - lo).toNat - q.1) (0, ns, na, nc, N, C) ⟨Nat.zero_le _, hN, by simpa [numsN] using hC⟩ ⟨lk rfl (show I _ = I _ by congr 1; omega), rfl, rfl, rfl, rfl, rfl, rfl, rfl, trivial⟩ .refl ?_
        rintro ⟨m, ns, na, nc, N, C⟩ ⟨hm, hN, hC⟩
        simp only at hm hN hC
        refine W.seq <| W.seq <| W.region rfl <| qm rfl rfl rfl ?_
        refine oq (y_fieldAddr rfl rfl) rfl wn rfl rfl ?_
        refine oq (yld rfl rfl) rfl wn rfl rfl ?_
        refine oq (y_leq rfl rfl rfl) rfl wn rfl rfl ?_
        refine Ops.nil <| thn_n ?_
        refine W.condp rfl (fun c46 => ?_) (fun c46 => ?_)
        · have hnl : ns.length ≤ 6 * k + 6 := by
            rw [hC.len, List.length_append, List.length_map, numsN_len]; omega
          have hlt : lo + m ≤ hi' := c46
          obtain ⟨βo, co', Jo, hsa, hOe, -, -, -, hPo, -⟩ := hO.open (by omega)
          subst hsa
          have hcell : co'[0 + k * 1 + 0]? = some (.slice s.a s.n s.cap) := hPo.rowG hs 0 (by decide)
          refine W.skip <| thn_n <| W.seq <| W.block <| W.region rfl <| qm rfl rfl rfl <| qm rfl rfl rfl <| qm rfl rfl rfl ?_
          first | refine oq (yix rfl rfl rfl) rfl wn rfl rfl ?_ | refine oq (yixI rfl rfl rfl) rfl wn rfl rfl ?_
          refine oq (yld rfl rfl (.inr (fun _ e => by subst e; exact .tail _ (.tail _ (List.mem_append_left _ (List.mem_append_left _ (by rw [hOe]; exact .head _)))))) hcell) rfl wn rfl rfl ?_
          refine c0 (fun h' hE hL => DupInts_fn _ h' g s.val (hB.sl (fun b o hb => hL b o (.tail _ (.tail _ (List.mem_append_left _ (List.mem_append_right _ hb))))) hs hg) (by omega)) (fun v A' hv => ?_)
          obtain ⟨S, hS, hsb⟩ := hv
          refine Ops.sb (hsb.app .refl) ?_
          refine qm rfl rfl rfl ?_
          refine Ops.bsl (cs := #[I (lo + m)]) (fun β56 => ?_) rfl
          refine oe rfl wn rfl rfl (e_append (row := rowI) (l' := [lo + m]) rfl rfl rfl hS (.tail .head) (fun h2 _ hl => Sl.mk (hl β56 _ (.head _)) rfl (Part.all [I (lo + m)])) (by simp; omega) (by decide) rfl (fun v2 S2 hS2 => ?_))
          obtain ⟨s2, rfl⟩ := Sv.eta hS2
          refine Ops.bsl (cs := #[.slice s2.a s2.n s2.cap]) (fun β58 => ?_) rfl
          refine oe rfl wn rfl rfl (e_append (row := rowS) (l' := [s2]) rfl rfl rfl hN (.tail (.tail (.app (.tail (.tail (.app .head)))))) (fun h2 _ hl => Sl.mk (hl β58 _ (.head _)) rfl (Part.all (rowS s2))) (by simp; omega) (by decide) rfl (fun v3 N3 hN3 => ?_))
          obtain ⟨na3, nc3, rfl⟩ := hN3.isSl
          refine qs rfl rfl rfl <| Ops.nil <| blk_n <| thn_n <| W.region rfl <| qm rfl rfl rfl ?_
          first | refine oq (yadd rfl rfl rfl) rfl wn rfl rfl ?_ | refine oq (y_addw rfl rfl rfl) rfl wn rfl rfl ?_
          refine qs rfl rfl rfl <| Ops.nil <| thn_n ?_
          refine ⟨rfl, (m + 1, ns ++ [s2], na3, nc3, N3, C ++ S2), ⟨by simp only; omega, hN3, ?_⟩, by simp only; omega, ⟨lk rfl (show I _ = I _ by congr 1; omega), rfl, rfl, rfl, rfl, rfl, rfl, rfl, trivial⟩, .skip rfl (.skip rfl (.of_perm (perm_cnt fun y => ?_)))⟩
          · have := hC.snoc hS2
            simp only [numsN, List.map_append, List.map_cons, List.map_nil]
            rwa [← List.append_assoc]
          · simp only [List.count_append, List.count_cons, List.count_nil]; omega
        · refine W.exit <| thn_x <| thn_x <| blk_x <| blk_n <| thn_n <| W.region rfl <| qm rfl rfl rfl ?_
          first | refine oq (yadd rfl rfl rfl) rfl wn rfl rfl ?_ | refine oq (y_addw rfl rfl rfl) rfl wn rfl rfl ?_
          refine qs rfl rfl rfl <| Ops.nil <| thn_n ?_
          have hme : m = (hi' + 1 - lo).toNat := by omega
          subst hme
          exact ⟨rfl, (k + 1, ns, na, nc, N, C), ⟨by simp only; omega, hN, by simp only; rw [hss]; exact hC⟩, by simp only; omega, ⟨rfl, rfl, rfl, rfl, rfl, rfl, rfl, trivial⟩, .refl⟩
      · refine W.exit <| thn_x <| thn_x <| blk_x <| thn_n <| W.region rfl <| qm rfl rfl rfl <| qs rfl rfl rfl <| Ops.nil <| blk_n ?_
        refine thn_n <| W.region rfl <| qm rfl rfl rfl ?_
        first | refine oq (yadd rfl rfl rfl) rfl wn rfl rfl ?_ | refine oq (y_addw rfl rfl rfl) rfl wn rfl rfl ?_
        refine qs rfl rfl rfl <| Ops.nil <| thn_n ?_
        have hke : k = us.length := by omega
        subst hke
        rw [hul] at hC
        refine ⟨rfl, (i + 1, ns, na, nc, N, C), ⟨by simp only; omega, hN, by simp only; rw [hst]; exact hC⟩, by simp only; omega, ⟨rfl, rfl, rfl, rfl, trivial⟩, .skip rfl (.cons (Sb.left .refl (hO.shut.app hB.shut)))⟩
  · have hie : i = l.length := by omega
    subst hie
    rw [List.take_length] at hB
    have hHl := Nat.le_trans (heats_len hall hp hn l.length (Nat.le_refl _)) (pow6 (by omega))
    rw [List.take_length] at hHl
    refine W.exit <| thn_x <| thn_x <| blk_x <| thn_n <| W.seq <| W.region rfl <| qm rfl rfl rfl <| qs rfl rfl rfl <| Ops.nil ?_
    refine thn_n <| W.ret ?_
    exact lvt (vs := [_]) ⟨O, us, B, hO, hB, hHl, .skip rfl .refl⟩
end Go.Mus
