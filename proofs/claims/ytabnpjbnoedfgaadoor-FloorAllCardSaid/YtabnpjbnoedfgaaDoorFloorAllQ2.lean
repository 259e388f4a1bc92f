/- The best plans; when all strikes can be set; the first that can't. Conditions: none. (And 27 texts more.) -/
import Derived.Test.YtabnpjbnoedfgaaDoorFloorAllQ1
import Derived.Test.YtabnpjbnoedfgaaDoorR09
import Derived.Test.YtabnpjbnoedfgaaDoorR06
set_option linter.unusedVariables false
set_option linter.unusedSimpArgs false
set_option linter.unusedSectionVars false

/- The best plans; when all strikes can be set; the first that can't. Conditions: none. -/
namespace Go.Mus
/-! Each plan once -/
theorem daysFrom_nodup {f : Int} : ∀ (m : Nat) (d : Int), (daysFrom f d m).Nodup
  | 0, _ => .nil
  | m + 1, d => by
    rw [daysFrom, List.nodup_cons]
    refine ⟨fun h => ?_, daysFrom_nodup m (d + 1)⟩
    have := (mem_daysFrom h).2.1
    simp only at this; omega
theorem floorsFrom_nodup {s : St} : ∀ (m : Nat) (f : Int), (floorsFrom s f m).Nodup
  | 0, _ => .nil
  | m + 1, f => by
    rw [floorsFrom, List.nodup_append]
    refine ⟨daysFrom_nodup _ _, floorsFrom_nodup m (f + 1), fun a ha b hb e => ?_⟩
    subst e
    have h1 := (mem_daysFrom ha).1
    have h2 := (mem_floorsFrom hb).1
    omega
theorem berthsK_nodup {fs : List Fl} {ss : List St} {may : May} {k : Nat} : (berthsK fs ss may k).Nodup := by
  rw [berthsK, List.nodup_append]
  refine ⟨by split <;> simp, ?_, fun a ha b hb e => ?_⟩
  · split
    · exact floorsFrom_nodup _ _
    · exact .nil
  subst e
  split at ha
  · have : a = bnone := by simpa using ha
    subst this
    split at hb
    · have := (mem_floorsFrom hb).1; simp [bnone] at this
    · cases hb
  · cases ha
theorem rights_at {fs : List Fl} {ss : List St} {may : May} (hall : HallOK fs ss) {m k : Nat} {q p : List Be} {b : Be} (hk : k + 1 + m = ss.length) (hq : PlanOf fs ss q) (hn : ∀ i, k ≤ i → beAt q i = bnone) (hb : b ∈ berthsK fs ss may k) (h : p ∈ rights fs ss may m (k + 1) (q.set k b)) : beAt p k = b := by
  have hk4 : k < q.length := by have := hall.ns; have := hq.ok.len; omega
  have := ((mem_rights hall m (k + 1) (q.set k b) p (by omega) (plan_set hq (by omega) (berth_ok hall (by omega) hb)) (fun i hi => by rw [beAt_set hk4, if_neg (by omega)]; exact hn i (by omega))).1 h).2.1 k (by omega)
  rw [this, beAt_set hk4, if_pos rfl]
theorem rights_nodup {fs : List Fl} {ss : List St} {may : May} (hall : HallOK fs ss) : ∀ (m k : Nat) (q : List Be), k + m = ss.length → PlanOf fs ss q → (∀ i, k ≤ i → beAt q i = bnone) → (rights fs ss may m k q).Nodup
  | 0, k, q, _, _, _ => by
    rw [rights]; split <;> simp
  | m + 1, k, q, hk, hq, hn => by
    have hk4 : k < q.length := by have := hall.ns; have := hq.ok.len; omega
    rw [rights, List.Nodup, List.pairwise_flatMap]
    refine ⟨fun b hb => ?_, ?_⟩
    · split
      · exact .nil
      · exact rights_nodup hall m (k + 1) _ (by omega) (plan_set hq (by omega) (berth_ok hall (by omega) hb)) (fun i hi => by rw [beAt_set hk4, if_neg (by omega)]; exact hn i (by omega))
    · refine (berthsK_nodup (fs := fs) (ss := ss) (may := may) (k := k)).imp_of_mem fun {a b} ha hb hab x hx y hy e => ?_
      subst e
      split at hx
      · cases hx
      · split at hy
        · cases hy
        · exact hab ((rights_at hall (by omega) hq hn ha hx).symm.trans (rights_at hall (by omega) hq hn hb hy))
theorem allF_nodup {fs : List Fl} {ss : List St} {may : May} (hall : HallOK fs ss) : (allF fs ss may).Nodup := by
  unfold allF
  split
  · exact rights_nodup hall _ _ _ (by simp) (pad_nil hall.nf.1) (fun i _ => beAt_nil i)
  · rename_i hs
    have hall1 : ∀ b, b ∈ berthsK fs ss may 0 → ∀ i, 1 ≤ i → beAt ((padB []).set 0 b) i = bnone := fun b _ i hi => by rw [beAt_set (by decide), if_neg (by omega)]; exact beAt_nil i
    rw [List.Nodup, List.pairwise_flatMap]
    refine ⟨fun b hb => ?_, ?_⟩
    · rw [rightsOf, List.length_singleton, pad_one]
      exact rights_nodup hall _ _ _ (by omega) (plan_set (pad_nil hall.nf.1) (by omega) (berth_ok hall (by omega) hb)) (hall1 b hb)
    · refine (berthsK_nodup (fs := fs) (ss := ss) (may := may) (k := 0)).imp_of_mem fun {a b} ha hb hab x hx y hy e => ?_
      subst e
      rw [rightsOf, List.length_singleton, pad_one] at hx hy
      exact hab ((rights_at hall (by omega) (pad_nil hall.nf.1) (fun i _ => beAt_nil i) ha hx).symm.trans (rights_at hall (by omega) (pad_nil hall.nf.1) (fun i _ => beAt_nil i) hb hy))

/-! The best -/
theorem filter_none {α : Type} {l : List α} {f : α → Bool} (h : ∀ q ∈ l, f q = false) : l.filter f = [] := List.filter_eq_nil_iff.2 fun q hq => by rw [h q hq]; simp
/-- What is kept while plans are looked at. -/
structure BInv (ss : List St) (l : List (List Be)) (s : (Int × List (List Be)) × List (List Be)) : Prop where
  met : s.2 = l
  top : l ≠ [] → (∃ q ∈ l, loavesF ss q = s.1.1) ∧ ∀ q ∈ l, loavesF ss q ≤ s.1.1
  out : s.1.2 = l.filter fun q => decide (loavesF ss q = s.1.1)
theorem BInv.step {ss : List St} {l : List (List Be)} {s : (Int × List (List Be)) × List (List Be)} {p : List Be} (H : BInv ss l s) (hp : p ∉ l) : BInv ss (l ++ [p]) (bstep ss s p) := by
  obtain ⟨⟨m, out⟩, met⟩ := s
  obtain ⟨h1, h2, h3⟩ := H
  simp only at h1 h2 h3
  subst h1
  obtain ⟨n, hn⟩ : ∃ n, loavesF ss p = n := ⟨_, rfl⟩
  simp only [bstep, if_neg hp, addM, hn]
  have hpf : ∀ c, [p].filter (fun q => decide (loavesF ss q = c)) = if n = c then [p] else [] := fun c => by
    rw [List.filter_cons]; simp [hn]
  rcases met with _ | ⟨q0, r0⟩
  · have h0 : out = [] := h3
    subst h0
    simp only [true_or, if_true, List.nil_append]
    refine ⟨rfl, fun _ => ⟨⟨p, by simp, hn⟩, fun q hq => ?_⟩, by simp only; rw [hpf, if_pos rfl]⟩
    have : q = p := by simpa using hq
    subst this; simp only; omega
  · obtain ⟨⟨q1, hq1, hq2⟩, htop⟩ := h2 (by simp)
    have hne : (q0 :: r0).filter (fun q => decide (loavesF ss q = m)) ≠ [] := fun e => by
      have := List.filter_eq_nil_iff.1 e q1 hq1
      simp [hq2] at this
    rw [← h3] at hne
    generalize q0 :: r0 = l at *
    by_cases hlt : m < n
    · have hc : out = [] ∨ m < n := .inr hlt
      simp only [if_pos hc, if_true, List.nil_append]
      refine ⟨rfl, fun _ => ⟨⟨p, by simp, hn⟩, fun q hq => ?_⟩, ?_⟩
      · rcases List.mem_append.1 hq with hq | hq
        · have := htop q hq; simp only; omega
        · have : q = p := by simpa using hq
          subst this; simp only; omega
      · simp only
        rw [List.filter_append, hpf, if_pos rfl, filter_none fun q hq => ?_]
        · rfl
        · have := htop q hq
          exact decide_eq_false (by omega)
    · have hc : ¬ (out = [] ∨ m < n) := not_or.2 ⟨hne, hlt⟩
      simp only [if_neg hc]
      by_cases he : n = m
      · rw [if_pos he]
        refine ⟨rfl, fun _ => ⟨⟨p, by simp, hn.trans he⟩, fun q hq => ?_⟩, ?_⟩
        · rcases List.mem_append.1 hq with hq | hq
          · exact htop q hq
          · have : q = p := by simpa using hq
            subst this; simp only; omega
        · simp only
          rw [List.filter_append, hpf, if_pos he, h3]
      · rw [if_neg he]
        refine ⟨rfl, fun _ => ⟨⟨q1, by simp [hq1], hq2⟩, fun q hq => ?_⟩, ?_⟩
        · rcases List.mem_append.1 hq with hq | hq
          · exact htop q hq
          · have : q = p := by simpa using hq
            subst this; simp only; omega
        · simp only
          rw [List.filter_append, hpf, if_neg he, List.append_nil, h3]
theorem BInv.run {ss : List St} : ∀ (r l : List (List Be)) (s : (Int × List (List Be)) × List (List Be)), BInv ss l s → (l ++ r).Nodup → BInv ss (l ++ r) (r.foldl (bstep ss) s)
  | [], l, s, h, _ => by rw [List.append_nil]; exact h
  | p :: r, l, s, h, hnd => by
    rw [List.foldl_cons, show l ++ p :: r = (l ++ [p]) ++ r by simp]
    refine BInv.run r (l ++ [p]) _ (h.step fun hm => ?_) (by simpa using hnd)
    exact (List.nodup_append.1 hnd).2.2 p hm p (by simp) rfl
/-- ████ THE BEST PLANS: of the right ones those with the most loaves, in order. -/
theorem best_spec {fs : List Fl} {ss : List St} (hall : HallOK fs ss) : (∃ q ∈ allF fs ss freeM, loavesF ss q = (bestF fs ss).1) ∧ (∀ q ∈ allF fs ss freeM, loavesF ss q ≤ (bestF fs ss).1) ∧ (bestF fs ss).2 = (allF fs ss freeM).filter fun q => decide (loavesF ss q = (bestF fs ss).1) := by
  have h := BInv.run (ss := ss) (allF fs ss freeM) [] ((0, []), []) ⟨rfl, fun h => absurd rfl h, rfl⟩ (allF_nodup hall)
  rw [List.nil_append] at h
  have hne : allF fs ss freeM ≠ [] := fun e => by have := allF_p0 hall; rw [e] at this; cases this
  exact ⟨(h.top hne).1, (h.top hne).2, h.out⟩

/-! Loaves -/
/-! Whether all can be set -/
theorem some_iff {fs : List Fl} {ss : List St} {may : May} (hall : HallOK fs ss) : someR fs ss may = true ↔ ∃ p, Valid fs ss may p ∧ inspF fs ss p = none := by
  have : someR fs ss may = true ↔ ∃ p, p ∈ rightsOf fs ss may [] := by
    simp only [someR, Bool.not_eq_true', List.isEmpty_eq_false_iff_exists_mem]
  rw [this]
  exact exists_congr fun p => mem_rightsOf hall
end Go.Mus

/- The first strikes of a plant alone; which strike is late. Conditions: none. -/
namespace Go.Mus
end Go.Mus

/- A plant without its last strike. Conditions: none; over the given program. -/
namespace Go.Mus
set_option maxRecDepth 100000
set_option maxHeartbeats 4000000
end Go.Mus

/- The strike that is late, and the best plan's length. Conditions: none. -/
namespace Go.Mus
end Go.Mus

/- Whether all strikes of a plant are set in its best plan; the strike that is late, asked of the best plans. Conditions: none; over the given program. -/
namespace Go.Mus
set_option maxRecDepth 100000
set_option maxHeartbeats 4000000
end Go.Mus

/- Strikes that wait longer; with which patience all can be set. Conditions: none; over the given program. -/
namespace Go.Mus
set_option maxRecDepth 100000
set_option maxHeartbeats 4000000
theorem Ops.freezeOs {x : Cx} {ops : Array Oper} {td : List Nat} {Q : Post} {ρ : Env} {ds : List Deferred} {A F : Frag} {α : Type} {row : α → List Value} {w : Nat} [Rw row w] {E : TypeId} {v : Value} {l : List α} (hs : Os E row v l A)
    (H : ∀ h', Ext x.h h' → Sl h' row v l → Zs h' v → Ops { x with h := h' } ops td Q ρ ds F) : Ops x ops td Q ρ ds (A ++ F) := by
  rcases hs with ⟨rfl, rfl, hsh⟩ | ⟨β, cc, cap, J, rfl, rfl, h1, h2, h3, hsh⟩
  · exact Ops.sb (Sb.left .refl hsh) (H x.h ⟨fun _ _ q => q, fun _ q => q⟩ .nil (fun b off n cap e => by cases e))
  · refine Ops.freeze (b := β) rfl fun h' hE hb hz => ?_
    refine Ops.sb (F' := F) (Sb.left .refl hsh) (H h' hE (.mk hb rfl h3) (fun b off n cap e => by cases e; exact hz))
end Go.Mus

/- A floor with other places; how many it needs. Conditions: none; over the given program. -/
namespace Go.Mus
set_option maxRecDepth 100000
set_option maxHeartbeats 4000000
/-! Places -/
end Go.Mus

/- How many places a floor needs. Conditions: none; over the given program. -/
namespace Go.Mus
set_option maxRecDepth 100000
set_option maxHeartbeats 4000000
theorem flAt_some {fs : List Fl} {f : Int} (h0 : 0 ≤ f) (h1 : f < fs.length) : fs[f.toNat]? = some (flAt fs f) := by
  obtain ⟨x, hx, -⟩ := has (show f.toNat < fs.length by omega)
  simp [flAt, List.getD, hx]
end Go.Mus

/- What makes plans right more easily, and so the loaves no fewer. Conditions: none. -/
namespace Go.Mus
/-- Where each right plan has one that is as good, the best are as good. -/
theorem best_le {fs fs' : List Fl} {ss ss' : List St} (hall : HallOK fs ss) (hall' : HallOK fs' ss') (H : ∀ p, Valid fs ss freeM p → inspF fs ss p = none → ∃ p', Valid fs' ss' freeM p' ∧ inspF fs' ss' p' = none ∧ loavesF ss p ≤ loavesF ss' p') : (bestF fs ss).1 ≤ (bestF fs' ss').1 := by
  obtain ⟨⟨q, hq, hql⟩, -, -⟩ := best_spec hall
  obtain ⟨-, htop, -⟩ := best_spec hall'
  obtain ⟨hv, hi⟩ := (mem_allF hall).1 hq
  obtain ⟨p', h1, h2, h3⟩ := H q hv hi
  have := htop p' ((mem_allF hall').2 ⟨h1, h2⟩)
  omega
/-! Without a strike -/
end Go.Mus

/- How much slower a floor may be. Conditions: none; over the given program. -/
namespace Go.Mus
set_option maxRecDepth 100000
set_option maxHeartbeats 4000000
/-! Turning a list round -/
end Go.Mus

/- How much slower a floor may be. Conditions: none; over the given program. -/
namespace Go.Mus
set_option maxRecDepth 100000
set_option maxHeartbeats 4000000
end Go.Mus

/- How much slower a floor may be, and that it is so. Conditions: none; over the given program. -/
namespace Go.Mus
set_option maxRecDepth 100000
set_option maxHeartbeats 4000000
theorem mem_numsN {lo a : Int} : ∀ {m : Nat}, a ∈ numsN lo m ↔ lo ≤ a ∧ a < lo + m
  | 0 => by
    constructor
    · intro h; simp [numsN] at h
    · intro h; omega
  | m + 1 => by
    rw [numsN, List.mem_append, mem_numsN]
    simp; omega
end Go.Mus

/- Whether a strike is in the best plans. Conditions: none; over the given program. -/
namespace Go.Mus
set_option maxRecDepth 100000
set_option maxHeartbeats 4000000
end Go.Mus

/- Whether two plants have the same answers. Conditions: none; over the given program. -/
namespace Go.Mus
set_option maxRecDepth 100000
set_option maxHeartbeats 4000000
end Go.Mus

/- Plants whose plans answer to each other; floors with other numbers. Conditions: none. -/
namespace Go.Mus
theorem perm_of_mem {α : Type} [DecidableEq α] {l l' : List α} (h : l.Nodup) (h' : l'.Nodup) (hm : ∀ a, a ∈ l ↔ a ∈ l') : l.Perm l' := by
  rw [List.perm_iff_count]
  intro a
  by_cases ha : a ∈ l
  · have h1 := List.count_pos_iff.2 ha
    have h2 := List.count_pos_iff.2 ((hm a).1 ha)
    have h3 := List.nodup_iff_count.1 h a
    have h4 := List.nodup_iff_count.1 h' a
    omega
  · rw [List.count_eq_zero.2 ha, List.count_eq_zero.2 fun h => ha ((hm a).2 h)]

theorem valid_free {fs : List Fl} {ss : List St} {may : May} {p : List Be} (h : Valid fs ss may p) : Valid fs ss freeM p := by
  refine ⟨h.len, fun i hi => ?_, h.out⟩
  have := h.at_ i hi
  rw [mem_berths] at this ⊢
  rcases this with ⟨_, h1⟩ | ⟨_, h1⟩
  · exact .inl ⟨rfl, h1⟩
  · exact .inr ⟨rfl, h1⟩
/-- Each right plan of the one answers to one of the other. -/
structure Sym (fs fs' : List Fl) (ss ss' : List St) (σ τ : List Be → List Be) : Prop where
  hall : HallOK fs ss
  hall' : HallOK fs' ss'
  len : ss'.length = ss.length
  val : ∀ may p, Valid fs ss may p → Valid fs' ss' may (σ p)
  val' : ∀ may p, Valid fs' ss' may p → Valid fs ss may (τ p)
  rgt : ∀ p, Valid fs ss freeM p → inspF fs ss p = none → inspF fs' ss' (σ p) = none
  rgt' : ∀ p, Valid fs' ss' freeM p → inspF fs' ss' p = none → inspF fs ss (τ p) = none
  inv : ∀ p, Valid fs ss freeM p → τ (σ p) = p
  inv' : ∀ p, Valid fs' ss' freeM p → σ (τ p) = p
  lo : ∀ p, Valid fs ss freeM p → loavesF ss' (σ p) = loavesF ss p
  on : ∀ p i, Valid fs ss freeM p → (0 ≤ (beAt (σ p) i).fl ↔ 0 ≤ (beAt p i).fl)
section
variable {fs fs' : List Fl} {ss ss' : List St} {σ τ : List Be → List Be} (Y : Sym fs fs' ss ss' σ τ)
include Y
theorem Sym.lo' {p : List Be} (h : Valid fs' ss' freeM p) : loavesF ss (τ p) = loavesF ss' p := by
  rw [← Y.lo _ (Y.val' _ _ h), Y.inv' p h]
theorem Sym.top : (bestF fs' ss').1 = (bestF fs ss).1 := by
  have h1 := best_le Y.hall Y.hall' fun p hv hi => ⟨σ p, Y.val _ _ hv, Y.rgt p hv hi, by rw [Y.lo p hv]; exact Int.le_refl _⟩
  have h2 := best_le Y.hall' Y.hall fun p hv hi => ⟨τ p, Y.val' _ _ hv, Y.rgt' p hv hi, by rw [Y.lo' hv]; exact Int.le_refl _⟩
  omega
theorem Sym.all : (allF fs' ss' freeM).Perm ((allF fs ss freeM).map σ) := by
  refine perm_of_mem (allF_nodup Y.hall') ?_ fun p => ?_
  · rw [List.Nodup, List.pairwise_map]
    refine (allF_nodup Y.hall).imp_of_mem fun {a b} ha hb hab e => hab ?_
    rw [← Y.inv a ((mem_allF Y.hall).1 ha).1, e, Y.inv b ((mem_allF Y.hall).1 hb).1]
  · rw [mem_allF Y.hall', List.mem_map]
    constructor
    · rintro ⟨h1, h2⟩
      exact ⟨τ p, (mem_allF Y.hall).2 ⟨Y.val' _ _ h1, Y.rgt' p h1 h2⟩, Y.inv' p h1⟩
    · rintro ⟨q, hq, rfl⟩
      obtain ⟨h1, h2⟩ := (mem_allF Y.hall).1 hq
      exact ⟨Y.val _ _ h1, Y.rgt q h1 h2⟩
theorem Sym.best : (bestF fs' ss').2.Perm ((bestF fs ss).2.map σ) := by
  rw [(best_spec Y.hall').2.2, (best_spec Y.hall).2.2, Y.top]
  refine (Y.all.filter _).trans (.of_eq ?_)
  rw [List.filter_map]
  congr 1
  refine List.filter_congr fun p hp => ?_
  show decide (loavesF ss' (σ p) = _) = _
  rw [Y.lo p ((mem_allF Y.hall).1 hp).1]
theorem Sym.count : (bestF fs' ss').2.length = (bestF fs ss).2.length := by rw [Y.best.length_eq, List.length_map]
theorem Sym.someR (may : May) : someR fs' ss' may = Go.Mus.someR fs ss may := by
  refine Bool.eq_iff_iff.2 ?_
  rw [some_iff Y.hall', some_iff Y.hall]
  constructor
  · rintro ⟨p, h1, h2⟩; exact ⟨τ p, Y.val' _ _ h1, Y.rgt' p (valid_free h1) h2⟩
  · rintro ⟨p, h1, h2⟩; exact ⟨σ p, Y.val _ _ h1, Y.rgt p (valid_free h1) h2⟩
theorem Sym.late : lateF fs' ss' = lateF fs ss := by
  have key : ∀ m n, lateFrom fs' ss' m n = lateFrom fs ss m n := by
    intro m
    induction m with
    | zero => intro n; rfl
    | succ m ih => intro n; rw [lateFrom, lateFrom, Y.someR, ih]
  rw [lateF, lateF, Y.len, key]
end
/-! Floors with other numbers -/
end Go.Mus

/- Floors with other numbers. Conditions: none; over the given program. -/
namespace Go.Mus
set_option maxRecDepth 100000
set_option maxHeartbeats 4000000
end Go.Mus

/- Plans out of a hat; copies of plans. Conditions: none; over the given program. -/
namespace Go.Mus
set_option maxRecDepth 100000
set_option maxHeartbeats 4000000
theorem ckBerths_app {nf : Int} : ∀ {ss : List St} {l : List Be} {s : St} {b : Be}, ckBerths nf (ss.take l.length) l = 0 → ss[l.length]? = some s → ckBerth nf s b = 0 → ckBerths nf (ss.take (l.length + 1)) (l ++ [b]) = 0
  | [], l, s, b, _, h, _ => by simp at h
  | t :: ss, [], s, b, _, h, hb => by
    simp at h; subst h
    simp [ckBerths, hb]
  | t :: ss, c :: l, s, b, h, hs, hb => by
    simp only [List.length_cons, List.take_succ_cons, List.cons_append, ckBerths] at h ⊢
    split at h
    · rename_i h1
      rw [if_pos h1]
      exact ckBerths_app h (by simpa using hs) hb
    · rename_i h1; exact absurd h h1
theorem ckBerth_ok {nf : Int} {s : St} {b : Be} (hnf : 1 ≤ nf) (h : b = ⟨-1, 0⟩ ∨ 0 ≤ b.fl ∧ b.fl < nf ∧ s.day ≤ b.day ∧ b.day ≤ s.day + s.wa) : ckBerth nf s b = 0 := by
  unfold ckBerth
  rcases h with rfl | h
  · rw [if_neg (by unfold outs; simp only; omega), if_neg (by simp), if_neg (by simp only; omega)]
  · rw [if_neg (by unfold outs; omega), if_neg (by omega), if_neg (by unfold outs; omega)]

theorem BerthsOf_fn (main : Side) (h : Hp) (nums : List Int) (lv : Value) (b k : Nat) (s : Int) (fs : List Fl) (ss : List St) (vf vs : Value) (hl : Sl h rowI lv nums) (hf : Sl h Fl.row vf fs) (hs : Sl h St.row vs ss) (hck : ckPlant fs ss = 0) (hk : k < 2000000000) : Fnc prog main n_kit_BerthsOf #[.pointer (some ⟨b, 0, none⟩), .agg #[vf, vs]] h [(b, hatO lv k s)]
    (fun v A => ∃ l S k' s', Os t_Berth Be.row v l S ∧ ckPlan fs ss l = 0 ∧ k' ≤ k + 100 ∧ Sb ((b, hatO lv k' s') :: S) A) := by
  have hall := hall_ck hck
  have hnf := hall.nf
  have hns := hall.ns
  obtain ⟨a, cap, rfl⟩ := hf.isSl
  obtain ⟨a', cap', rfl⟩ := hs.isSl
  refine Fnc.of_body at_kit_BerthsOf rfl (by show 2 ≤ 46; decide) [(0, .pointer (some ⟨b, 0, none⟩)), (1, .agg #[.slice a fs.length cap, .slice a' ss.length cap'])] ⟨rfl, rfl, trivial⟩ ?_
  refine W.seq <| W.region rfl ?_
  refine Ops.box (cs := #[.slice a fs.length cap, .slice a' ss.length cap']) (fun β3 => ?_) rfl rfl rfl
  refine qs rfl rfl rfl <| Ops.nil <| thn_n <| W.seq <| W.region rfl <| qs rfl rfl rfl <| Ops.nil <| thn_n <| W.seq <| W.seq ?_
  refine W.region rfl <| qs rfl rfl rfl <| Ops.nil <| thn_n <| W.block ?_
  refine W.loop3 (σ := Nat) (τ := List Be × Value × Frag) (υ := Nat × Int) (fun i t u => i ≤ ss.length ∧ t.1.length = i ∧ Os t_Berth Be.row t.2.1 t.1 t.2.2 ∧ ckBerths fs.length (ss.take i) t.1 = 0 ∧ u.1 ≤ k + 3 * i) (fun i t _ => [(6, I i), (5, t.2.1), (3, .pointer (some ⟨β3, 0, none⟩)), (0, .pointer (some ⟨b, 0, none⟩))])
    (fun _ t u => (β3, .cells #[.slice a fs.length cap, .slice a' ss.length cap'] t_Plant (0, 0)) :: (b, hatO lv u.1 u.2) :: t.2.2) (fun i _ _ => ss.length - i) 0 ([], .slice none 0 0, []) (k, s) ⟨Nat.zero_le _, rfl, .nil .nil, by simp [ckBerths], by omega⟩ ⟨rfl, rfl, rfl, rfl, trivial⟩ .refl ?_
  rintro i ⟨l, v, S⟩ ⟨k1, s1⟩ ⟨hi, hlen, hO, hcb, hk1⟩
  simp only at hlen hO hcb hk1 ⊢
  refine W.seq <| W.seq <| W.region rfl <| qm rfl rfl rfl ?_
  refine oq (y_fieldAddr rfl rfl) rfl wn rfl rfl ?_
  refine oq (yld rfl rfl) rfl wn rfl rfl ?_
  refine oq (y_len rfl rfl) rfl wn rfl rfl ?_
  refine oq (y_lss rfl rfl rfl) rfl wn rfl rfl ?_
  refine Ops.nil <| thn_n ?_
  refine W.condp rfl (fun c11 => ?_) (fun c11 => ?_)
  · have hi1 : i < ss.length := by omega
    obtain ⟨t, ht, -⟩ := has hi1
    have hto := hall.st t (List.mem_of_getElem? ht)
    have hto2 := strike_ok hck ht
    obtain ⟨bs, off, c, E, fz, rfl, hb, hx1, hy1, hz1⟩ := hs.at ht
    have hc0 : c[off + i * 3 + 0]? = some (I t.day) := hz1 0 (by decide)
    have hc2 : c[off + i * 3 + 2]? = some (I t.wa) := hz1 2 (by decide)
    clear hx1 hz1
    obtain ⟨va, vc, rfl⟩ := hO.isSl
    refine W.skip <| thn_n <| W.seq <| W.block <| W.seq <| W.seq <| W.region rfl <| qm rfl rfl rfl ?_
    refine cg (A := [(b, _)]) (.tail .head) (fun h' hE hL => Seldom_fn _ h' nums lv b k1 s1 5 (hl.ext hE) (by omega) (by decide)) (fun v A' hv => ?_)
    obtain ⟨r, s2, rfl, hsb⟩ := hv
    refine Ops.sb (.cons (hsb.app .refl)) ?_
    refine Ops.nil <| thn_n ?_
    refine W.cond rfl (fun c15 => ?_) (fun c15 => ?_)
    · refine W.seq <| W.region rfl <| qm rfl rfl rfl ?_
      refine oq (y_build (cs := #[I (-1), I 0]) rfl rfl rfl) rfl wn rfl rfl ?_
      refine Ops.bsl (cs := #[I (-1), I 0]) (fun β18 => ?_) rfl (hf := by kernel_rfl)
      refine oe rfl wn rfl rfl (e_append (row := Be.row) (l' := [⟨-1, 0⟩]) rfl rfl rfl hO (.tail (.tail (.tail .all))) (fun h2 _ hl => Sl.mk (hl β18 _ (.head _)) rfl (Part.all (flat Be.row [⟨-1, 0⟩]))) (by simp; omega) (by decide) rfl (fun v' S' hO' => ?_))
      refine qs rfl rfl rfl <| Ops.nil <| thn_n <| W.exit <| thn_x <| blk_x <| thn_n <| W.region rfl <| qm rfl rfl rfl ?_
      first | refine oq (yadd rfl rfl rfl) rfl wn rfl rfl ?_ | refine oq (y_addw rfl rfl rfl) rfl wn rfl rfl ?_
      refine qs rfl rfl rfl <| Ops.nil <| thn_n ?_
      first
      | exact ⟨rfl, i + 1, (l ++ [⟨-1, 0⟩], v', S'), (k1 + 1, s2), ⟨by omega, by simp [hlen], hO', by subst hlen; exact ckBerths_app hcb ht (ckBerth_ok (by omega) (.inl rfl)), by simp only; omega⟩, by omega, ⟨rfl, rfl, rfl, rfl, trivial⟩, .skip rfl .refl⟩
      | exact ⟨rfl, i + 1, (l ++ [⟨f, t.day + w⟩], _, S'), (k1 + 3, s4), ⟨by omega, by simp [hlen], hO', by subst hlen; exact ckBerths_app hcb ht (ckBerth_ok (by omega) (.inr ⟨by simp only; omega, by simp only; omega, by simp only; omega, by simp only; omega⟩)), by simp only; omega⟩, by omega, ⟨rfl, rfl, rfl, rfl, trivial⟩, .skip rfl .refl⟩
    · refine W.skip <| thn_n ?_
      refine W.drawP1 (n := 26) rfl ?_
      refine aq (i := 0) (y_move rfl rfl) rfl an rfl rfl ?_
      refine aq (i := 1) (y_move rfl rfl) rfl an rfl rfl ?_
      refine aq (i := 2) (y_fieldAddr rfl rfl) rfl an rfl rfl ?_
      refine aq (i := 3) (yld rfl rfl) rfl an rfl rfl ?_
      refine aq (i := 4) (y_len rfl rfl) rfl an rfl rfl ?_
      first | refine aq (i := 5) (ysub rfl rfl rfl) rfl an rfl rfl ?_ | refine aq (i := 5) (y_subw rfl rfl rfl) rfl an rfl rfl ?_
      refine aq (i := 7) (y_fieldAddr rfl rfl) rfl an rfl rfl ?_
      refine aq (i := 8) (yld rfl rfl) rfl an rfl rfl ?_
      refine aq (i := 9) (y_move rfl rfl) rfl an rfl rfl ?_
      first | refine aq (i := 10) (yix rfl rfl rfl) rfl an rfl rfl ?_ | refine aq (i := 10) (yixI rfl rfl rfl) rfl an rfl rfl ?_
      refine aq (i := 11) (y_fieldAddr rfl rfl) rfl an rfl rfl ?_
      refine aq (i := 12) (yld rfl rfl) rfl an rfl rfl ?_
      refine aq (i := 13) (y_move rfl rfl) rfl an rfl rfl ?_
      refine aq (i := 14) (y_fieldAddr rfl rfl) rfl an rfl rfl ?_
      refine aq (i := 15) (yld rfl rfl) rfl an rfl rfl ?_
      refine aq (i := 16) (y_move rfl rfl) rfl an rfl rfl ?_
      first | refine aq (i := 17) (yix rfl rfl rfl) rfl an rfl rfl ?_ | refine aq (i := 17) (yixI rfl rfl rfl) rfl an rfl rfl ?_
      refine aq (i := 18) (y_fieldAddr rfl rfl) rfl an rfl rfl ?_
      refine aq (i := 19) (yld rfl rfl) rfl an rfl rfl ?_
      refine ae (i := 6) rfl an rfl rfl (e_call (A := [(b, _)]) (args := [_, _]) rfl rfl (.tail .head) (fun h' hE hL => To_fn _ h' nums lv b (k1 + 1) s2 ((fs.length : Int) - 1) (hl.ext hE) (by omega) (by omega)) (fun v A' hv => ?_))
      refine ⟨.inr (Keeps.one (.head _) Keeps.nil), ?_⟩
      obtain ⟨f, s3, rfl, hf0, hsb3⟩ := hv
      refine Any.sb (.cons (hsb3.app .refl)) ?_
      refine ae (i := 20) rfl an rfl rfl (e_call (A := [(b, _)]) (args := [_, _]) rfl rfl (.tail .head) (fun h' hE hL => To_fn _ h' nums lv b (k1 + 2) s3 t.wa (hl.ext hE) (by omega) (by omega)) (fun v A' hv => ?_))
      refine ⟨.inr (Keeps.one (.head _) Keeps.nil), ?_⟩
      obtain ⟨w, s4, rfl, hw0, hsb4⟩ := hv
      refine Any.sb (.cons (hsb4.app .refl)) ?_
      refine aq (i := 21) (yadd rfl rfl rfl) rfl an rfl rfl ?_
      refine aq (i := 22) (y_build (cs := #[I f, I (t.day + w)]) rfl rfl rfl) rfl an rfl rfl ?_
      refine abl (i := 23) (cs := #[I f, I (t.day + w)]) (fun β43 => ?_) rfl
      refine ae (i := 24) rfl an rfl rfl (e_append (row := Be.row) (l' := [⟨f, t.day + w⟩]) rfl rfl rfl hO (.tail (.tail (.tail .all))) (fun h2 _ hl => Sl.mk (hl β43 _ (.head _)) rfl (Part.all (flat Be.row [⟨f, t.day + w⟩]))) (by simp; omega) (by decide) rfl (fun v' S' hO' => ?_))
      refine ⟨.inr (Keeps.one (.tail _ (.head _)) Keeps.nil), ?_⟩
      obtain ⟨asl, csl, rfl⟩ := hO'.isSl
      refine aq (i := 25) (y_assign rfl rfl) rfl an rfl rfl ?_
      refine az ?_
      refine blk_n <| thn_n <| W.region rfl <| qm rfl rfl rfl ?_
      first | refine oq (yadd rfl rfl rfl) rfl wn rfl rfl ?_ | refine oq (y_addw rfl rfl rfl) rfl wn rfl rfl ?_
      refine qs rfl rfl rfl <| Ops.nil <| thn_n ?_
      first
      | exact ⟨rfl, i + 1, (l ++ [⟨-1, 0⟩], v', S'), (k1 + 1, s2), ⟨by omega, by simp [hlen], hO', by subst hlen; exact ckBerths_app hcb ht (ckBerth_ok (by omega) (.inl rfl)), by simp only; omega⟩, by omega, ⟨rfl, rfl, rfl, rfl, trivial⟩, .skip rfl .refl⟩
      | exact ⟨rfl, i + 1, (l ++ [⟨f, t.day + w⟩], _, S'), (k1 + 3, s4), ⟨by omega, by simp [hlen], hO', by subst hlen; exact ckBerths_app hcb ht (ckBerth_ok (by omega) (.inr ⟨by simp only; omega, by simp only; omega, by simp only; omega, by simp only; omega⟩)), by simp only; omega⟩, by omega, ⟨rfl, rfl, rfl, rfl, trivial⟩, .skip rfl .refl⟩
  · have hil : i = ss.length := by omega
    refine W.exit <| thn_x <| thn_x <| blk_x <| thn_n <| W.seq <| W.region rfl <| qm rfl rfl rfl <| qs rfl rfl rfl <| Ops.nil ?_
    refine thn_n <| W.ret ?_
    refine lvt (vs := [_]) ⟨l, S, k1, s1, hO, ?_, by omega, .skip rfl .refl⟩
    subst hil
    rw [List.take_length] at hcb
    unfold ckPlan
    rw [if_neg (by simp [hck]), if_neg (by omega), if_neg (by omega)]
    exact hcb
end Go.Mus

/- Small plants and plans out of a hat; plans a day later. Conditions: none; over the given program. -/
namespace Go.Mus
set_option maxRecDepth 100000
set_option maxHeartbeats 4000000
theorem tiny_fn (main : Side) (h : Hp) (nums : List Int) (lv : Value) (b : Nat) (s : Int) (hl : Sl h rowI lv nums) : Fnc prog main n_law_tiny #[.pointer (some ⟨b, 0, none⟩)] h [(b, hatO lv 0 s)]
    (fun v A => ∃ vf vs vl fs ss l Sf Ss Sp, v = .tuple #[.agg #[vf, vs], vl] ∧ (Os t_Floor Fl.row vf fs Sf ∧ Os t_Strike St.row vs ss Ss ∧ Os t_Berth Be.row vl l Sp) ∧ (ckPlant fs ss = 0 ∧ ckPlan fs ss l = 0 ∧ ss.length ≤ 3 ∧ ∀ t ∈ ss, t.wa ≤ 1) ∧ Sb (Sp ++ (Sf ++ Ss)) A) := by
  refine Fnc.of_body at_law_tiny rfl (by show 1 ≤ 11; decide) [(0, .pointer (some ⟨b, 0, none⟩))] ⟨rfl, trivial⟩ ?_
  refine W.seq <| W.region rfl ?_
  refine Ops.new (fun β2 => ?_)
  refine qs rfl rfl rfl <| Ops.nil <| thn_n <| W.seq <| W.region rfl <| qm rfl rfl rfl ?_
  refine cg (A := [(b, _)]) (.tail .head) (fun h' hE hL => PlantOf_fn _ h' nums lv b s 3 1 (hl.ext hE) (by decide) (by decide)) (fun v A' hv => ?_)
  obtain ⟨vf, vs, fs, ss, Sf, Ss, k1, s1, rfl, ⟨hOf, hOs⟩, ⟨hck, hn4, hw⟩, hk100, hsb⟩ := hv
  refine Ops.sb (F' := (β2, .cells #[.slice none 0 0, .slice none 0 0] t_Plant (0, 0)) :: (b, hatO lv k1 s1) :: (Sf ++ Ss)) (.cons (hsb.trans (Sb.right .refl .nil))) ?_
  obtain ⟨a, cap, rfl⟩ := hOf.isSl
  obtain ⟨a', cap', rfl⟩ := hOs.isSl
  refine Ops.new (fun β4 => ?_)
  first | refine Ops.stoW ?_ | refine Ops.stoA ?_
  refine Ops.nil <| thn_n <| W.seq ?_
  refine W.drawP1 (n := 6) rfl ?_
  first | refine aq (i := 0) (yldW rfl rfl) rfl an rfl rfl ?_ | refine aq (i := 0) (yldA rfl rfl) rfl an rfl rfl ?_
  refine aq (i := 1) (y_move rfl rfl) rfl an rfl rfl ?_
  first | refine aq (i := 2) (yldW rfl rfl) rfl an rfl rfl ?_ | refine aq (i := 2) (yldA rfl rfl) rfl an rfl rfl ?_
  refine ae (i := 3) rfl an rfl rfl (e_call (A := [(b, _)]) (args := [_, _]) rfl rfl (.tail (.tail .head)) (fun h' hE hL => BerthsOf_fn _ h' nums lv b k1 s1 fs ss _ _ (hl.ext hE) (hOf.sl fun c o hb => hL c o (.tail _ (.tail _ (List.mem_append_right [] (List.mem_append_left _ hb))))) (hOs.sl fun c o hb => hL c o (.tail _ (.tail _ (List.mem_append_right [] (List.mem_append_right _ hb))))) hck (by omega)) (fun v A' hv => ?_))
  refine ⟨.inr (Keeps.one (.head _) Keeps.nil), ?_⟩
  obtain ⟨l, Sp, k2, s2, hOp, hcp, hk2, hsb2⟩ := hv
  obtain ⟨al, lc, rfl⟩ := hOp.isSl
  refine Any.sb (F' := (β4, .cells #[.slice a fs.length cap, .slice a' ss.length cap'] t_Plant (0, 0)) :: (β2, .cells #[.slice none 0 0, .slice none 0 0] t_Plant (0, 0)) :: (Sp ++ (Sf ++ Ss))) (.cons (.cons (.trans (.skip rfl .refl) (hsb2.app .refl)))) ?_
  first | refine ae (i := 4) rfl an rfl rfl (eSW rfl rfl rfl ?_) | refine ae (i := 4) rfl an rfl rfl (eSA rfl rfl rfl ?_)
  refine ⟨.inr (by first | exact Keeps.refl | exact Keeps.nil | ((repeat (first | exact fun _ h => h | apply Keeps.cons | apply Keeps.app)) <;> fail) | (repeat (first | exact Keeps.nil | refine Keeps.one (by repeat (first | exact List.Mem.head _ | apply List.Mem.tail)) ?_))), ?_⟩
  refine aq (i := 5) (y_assign rfl rfl) rfl an rfl rfl ?_
  refine az ?_
  refine thn_n <| W.ret ?_
  refine lvc (hv := rAgg (rTmp rNil)) ⟨_, _, _, fs, ss, l, Sf, Ss, Sp, rfl, ⟨hOf, hOs, hOp⟩, ⟨hck, hcp, hn4, hw⟩, .skip rfl (.skip rfl .refl)⟩

end Go.Mus

/- All strikes a day later. Conditions: none. -/
namespace Go.Mus
section
variable {fs : List Fl} {ss : List St}
/-! The searches -/
end
end Go.Mus

/- All strikes a day later: the same answers, a day later. Conditions: none. -/
namespace Go.Mus
section
variable {fs : List Fl} {ss : List St}
variable (hck : ckPlant fs ss = 0) (h11 : ∀ s ∈ ss, s.day ≤ 11)
include hck h11
end
/-! A plan a day later -/
theorem ask_ok {fs : List Fl} {ss : List St} {l : List Be} {ns : List Int} (h : ckPlan fs ss l = 0) (hb : badF fs.length ns = false) : askE fs ss l ns = 0 := by
  unfold askE; rw [if_neg (by simp [h]), if_neg (by simp [hb])]
end Go.Mus

/- Operations that come up in any order and only add to what is owned. Conditions: none; over any program. -/
namespace Go.Mus
/-- What is said of one that adds: its number, its slot, what it bears with what it adds. -/
abbrev Spc := Nat × Nat × (Value → Frag → Prop)
def waits (ops : Array Oper) : Nat → Nat → Nat → Bool
  | 0, _, _ => false
  | n + 1, k, b => match ops[k]? with | some o => o.after.any fun e => bindsTo e && (Nat.beq e.on b || waits ops n e.on b) | none => false
structure BagI (ops : Array Oper) (listed : Nat) (B : List Nat) : Prop where
  cl : Closed ops listed
  low : ∀ k o, ops[k]? = some o → ∀ e ∈ o.after, bindsTo e = true → e.on < k
  or : ∀ k, k < ops.size → listed.testBit k = false → k ∈ B ∨ ∀ b ∈ B, waits ops 6 k b = true
  un : ∀ b ∈ B, b < ops.size ∧ listed.testBit b = false
  nd : B.Nodup

theorem BagI.some {ops : Array Oper} {listed : Nat} {B : List Nat} (h : BagI ops listed B) {b : Nat} (hb : b ∈ B) : rdys ops listed ≠ [] := by
  have key : ∀ (n k : Nat), k < n → k < ops.size → listed.testBit k = false → ∃ i, rdy ops listed i = true := by
    intro n
    induction n with
    | zero => intro k hk; omega
    | succ n ih =>
      intro k hk hlt hl
      by_cases hr : rdy ops listed k = true
      · exact ⟨k, hr⟩
      · simp only [rdy, Array.getElem?_eq_getElem hlt, hl, Bool.not_false, Bool.true_and, Array.all_eq_true_iff_forall_mem, Bool.or_eq_true, Bool.not_eq_true'] at hr
        have : ∃ e ∈ (ops[k]).after, bindsTo e = true ∧ listed.testBit e.on = false := by
          refine Classical.byContradiction fun hn => hr fun e he => ?_
          cases hbe : bindsTo e with
          | false => exact .inl rfl
          | true =>
            cases ht : listed.testBit e.on with
            | true => exact .inr rfl
            | false => exact absurd ⟨e, he, hbe, ht⟩ hn
        obtain ⟨e, he, h1, h2⟩ := this
        have := h.low k _ (Array.getElem?_eq_getElem hlt) e he h1
        exact ih e.on (by omega) (by omega) h2
  obtain ⟨i, hi⟩ := key (b + 1) b (by omega) (h.un b hb).1 (h.un b hb).2
  intro e
  have := mem_rdys.2 hi
  rw [e] at this
  cases this

theorem BagI.step {ops : Array Oper} {listed j : Nat} {B1 B2 : List Nat} (h : BagI ops listed (B1 ++ j :: B2)) (hj : rdy ops listed j = true) : BagI ops (listed ||| 2 ^ j) (B1 ++ B2) := by
  have hnd : j ∉ B1 ++ B2 := by
    have := (List.perm_middle (a := j) (l₁ := B1) (l₂ := B2)).nodup_iff.1 h.nd
    exact (List.nodup_cons.1 this).1
  refine ⟨h.cl.step hj, h.low, fun k hk hl => ?_, fun b hb => ?_, ?_⟩
  · rw [testBit_or, Bool.or_eq_false_iff] at hl
    have hne : j ≠ k := by simpa using hl.2
    rcases h.or k hk hl.1 with h' | h'
    · left
      rcases List.mem_append.1 h' with h' | h'
      · exact List.mem_append_left _ h'
      · rcases List.mem_cons.1 h' with h' | h'
        · exact absurd h'.symm hne
        · exact List.mem_append_right _ h'
    · right
      intro b hb
      refine h' b ?_
      rcases List.mem_append.1 hb with hb | hb
      · exact List.mem_append_left _ hb
      · exact List.mem_append_right _ (List.mem_cons_of_mem _ hb)
  · have hb' : b ∈ B1 ++ j :: B2 := by
      rcases List.mem_append.1 hb with hb | hb
      · exact List.mem_append_left _ hb
      · exact List.mem_append_right _ (List.mem_cons_of_mem _ hb)
    refine ⟨(h.un b hb').1, ?_⟩
    rw [testBit_or, (h.un b hb').2, Bool.false_or, decide_eq_false_iff_not]
    rintro rfl
    exact hnd hb
  · have := (List.perm_middle (a := j) (l₁ := B1) (l₂ := B2)).nodup_iff.1 h.nd
    exact (List.nodup_cons.1 this).2

/-- One that adds. -/
def Adds (x : Cx) (ops : Array Oper) (ε : Ev) (s : Spc) : Prop :=
  ∃ o, ops[s.1]? = some o ∧ o.dst = some s.2.1 ∧ slotOK o.dst x.n = true ∧ (∀ c, o.op ≠ .defer c) ∧ o.guard = none ∧ ∀ e, Cons ε e → ∀ F, Run1 x o e F fun v F' => ∃ A F'', F''.Perm F' ∧ s.2.2 v A ∧ F'' = A ++ F

theorem Cons.back {ε : Ev} {d : Nat} {v : Value} {e : Operand → Value} (h : Cons (upd ε (some d) v) e) (hd : ε d = none) : Cons ε e := fun y u hy => h y u (by
  cases y with
  | tmp t =>
    simp only [evε, upd] at hy ⊢
    cases hb : Nat.beq t d with
    | true => rw [Nat.eq_of_beq_eq_true hb, hd] at hy; cases hy
    | false => exact hy
  | _ => exact hy)

section rules
variable {x : Cx} {Q : Post} {ρ : Env} {ds : List Deferred} {F : Frag} {ops : Array Oper} {L : Frag} {fuel listed : Nat}
theorem Adds.of {i d : Nat} {P : Value → Frag → Prop} {op : Op} {ty : TypeId} {pos : String} {aft : Array Edge} (ho : nthO ops.toList i = some ⟨some d, op, ty, pos, aft, none⟩) (hd : Nat.blt d x.n = true) (hn : noDefer op = true) (H : ∀ F, Ef x ρ ⟨some d, op, ty, pos, aft, none⟩ F fun v F' => ∃ A, P v A ∧ F' = A ++ F) : Adds x ops (look ρ) (i, d, P) :=
  ⟨_, nthO_get ho, rfl, hd, noDefer_spec hn, rfl, fun e he F => (H F e fun y v hy => he y v (by rw [ev_look]; exact hy)).mono fun v F' ⟨F'', p, A, hv, e⟩ => ⟨A, F'', p, hv, e⟩⟩
theorem Adds.call {i d f : Nat} {P : Value → Frag → Prop} {args : List Operand} {ts : Array TypeId} {vs : List Value} {ty : TypeId} {pos : String} {aft : Array Edge} (H : ∀ h', Ext x.h h' → Fnc x.P x.main f vs.toArray h' [] P) (ho : nthO ops.toList i = some ⟨some d, .call ⟨.value (.func f), args.toArray, ts⟩, ty, pos, aft, none⟩ := by rfl) [FB x.P f] (hv : evs ρ args = some vs := by rfl) (hd : Nat.blt d x.n = true := by rfl) : Adds x ops (look ρ) (i, d, P) :=
  .of ho hd rfl fun F => e_call0 rfl hv (fun h' hE _ => H h' hE) fun v A' hv => ⟨A', hv, rfl⟩
def NewP (t : TypeId) (zc : Array Value) (v : Value) (A : Frag) : Prop := ∃ β, v = .pointer (some ⟨β, 0, none⟩) ∧ A = [(β, .cells zc t (0, 0))]
theorem Adds.new {i d t s b : Nat} {z : Value} {zc : Array Value} {ty : TypeId} {pos : String} {aft : Array Edge} (ho : nthO ops.toList i = some ⟨some d, .alloc t, ty, pos, aft, none⟩ := by rfl) [TI x.P t s b z zc] (hd : Nat.blt d x.n = true := by rfl) : Adds x ops (look ρ) (i, d, NewP t zc) :=
  .of ho hd rfl fun F => e_alloc rfl fun β _ _ => ⟨_, ⟨β, rfl, rfl⟩, rfl⟩
end rules
end Go.Mus
namespace Go.Mus
section
variable {α : Type} {row : α → List Value} {w : Nat} [rw' : Rw row w]
section
variable {x : Cx} {ρ : Env} {F : Frag} {o : Oper} {R : Value → Frag → Prop}
end
end
section
variable {x : Cx} {S : Frag → Prop} {ρ : Env} {o : Oper}
end
end Go.Mus
namespace Go.Mus
section
variable {x : Cx} {Q : Post} {ρ : Env} {ds : List Deferred} {ops : Array Oper} {G : Frag} {y₁ y₂ y₃ y₄ y₅ y₆ : Nat × Obj} {id n : Nat}
end
/-- The same, in another order. -/
theorem perm_cnt {α : Type} {l l' : List α} (h : ∀ [DecidableEq α] (a : α), l.count a = l'.count a) : l.Perm l' := by
  classical
  exact List.perm_iff_count.2 fun a => h a
end Go.Mus
namespace Go.Mus
/-- A slice of one's own is put by, wherever it stands. -/
theorem freezeAt {x : Cx} {c : Code} {Q : Post} {ρ : Env} {ds : List Deferred} {A F : Frag} {U : Frag → Frag} {α : Type} {row : α → List Value} {w : Nat} [Rw row w] {E : TypeId} {v : Value} {l : List α} (hs : Os E row v l A) (hg : Seg A F U)
    (H : ∀ h', Ext x.h h' → Sl h' row v l → Zs h' v → W { x with h := h' } c Q ρ ds (U [])) : W x c Q ρ ds F :=
  W.perm hg.perm.1 (freezeOs hs H)
theorem Os.open {α : Type} {row : α → List Value} {w : Nat} [Rw row w] {E : TypeId} {a : Option Addr} {n cap : Nat} {l : List α} {A : Frag} (h : Os E row (.slice a n cap) l A) (hne : 0 < l.length) : ∃ β c J, a = some ⟨β, 0, none⟩ ∧ A = (β, .cells c E (0, 0)) :: J ∧ n = l.length ∧ c.size = cap * w ∧ l.length ≤ cap ∧ Part c 0 (flat row l) ∧ Shut J := by
  rcases h with ⟨rfl, _, _⟩ | ⟨β, c, cp, J, hv, rfl, h1, h2, h3, h4⟩
  · simp at hne
  · injection hv with e1 e2 e3
    subst e1 e2 e3
    exact ⟨β, c, J, rfl, rfl, rfl, h1, h2, h3, h4⟩
end Go.Mus

/- Plants a little changed. Conditions: none. -/
namespace Go.Mus
end Go.Mus

/- What shows in a heat, and what is wrong. Conditions: none. -/
namespace Go.Mus
set_option linter.unusedSectionVars false
def spanOf (fs : List Fl) (b : Be) : Int × Int := if 0 ≤ b.fl then ((flAt fs b.fl).lo, (flAt fs b.fl).hi) else (0, 0)
def stepH (fs : List Fl) (out : List (List Int)) (b : Be) : List (List Int) := out.flatMap fun h => (nums (spanOf fs b).1 (spanOf fs b).2).map fun n => h ++ [n]
/-- All heats of a plan. -/
def heatsF (fs : List Fl) (l : List Be) : List (List Int) := l.foldl (stepH fs) [[]]
def IsHeat (fs : List Fl) (l : List Be) (h : List Int) : Prop := h.length = l.length ∧ ∀ i b, l[i]? = some b → (spanOf fs b).1 ≤ h.getD i 0 ∧ h.getD i 0 ≤ (spanOf fs b).2
theorem mem_nums {a lo hi : Int} : a ∈ nums lo hi ↔ lo ≤ a ∧ a ≤ hi := by
  unfold nums; rw [mem_numsN]; omega
theorem getD_left {g : List Int} {n : Int} {i : Nat} (h : i < g.length) : (g ++ [n]).getD i 0 = g.getD i 0 := by simp only [List.getD]; rw [List.getElem?_append_left h]
theorem getD_end {g : List Int} {n : Int} : (g ++ [n]).getD g.length 0 = n := by simp [List.getD]
theorem isHeat_snoc {fs : List Fl} {l : List Be} {b : Be} {h : List Int} : IsHeat fs (l ++ [b]) h ↔ ∃ g n, h = g ++ [n] ∧ IsHeat fs l g ∧ (spanOf fs b).1 ≤ n ∧ n ≤ (spanOf fs b).2 := by
  constructor
  · rintro ⟨h1, h2⟩
    have hne : h ≠ [] := by rintro rfl; simp at h1
    have e : h = h.dropLast ++ [h.getLast hne] := (List.dropLast_concat_getLast hne).symm
    have hl : h.dropLast.length = l.length := by simp at h1 ⊢; omega
    generalize h.dropLast = g at e hl
    generalize h.getLast hne = n at e
    subst e
    refine ⟨g, n, rfl, ⟨hl, fun i c hc => ?_⟩, ?_⟩
    · have hi := lt_of_get hc
      have := h2 i c (by rw [List.getElem?_append_left hi]; exact hc)
      rwa [getD_left (by omega)] at this
    · have := h2 l.length b (by simp)
      rwa [← hl, getD_end] at this
  · rintro ⟨g, n, rfl, ⟨h1, h2⟩, h3⟩
    refine ⟨by simp [h1], fun i c hc => ?_⟩
    rcases Nat.lt_or_ge i l.length with hi | hi
    · rw [List.getElem?_append_left hi] at hc
      rw [getD_left (by omega)]
      exact h2 i c hc
    · have hil := lt_of_get hc
      simp at hil
      have e : i = l.length := by omega
      subst e
      rw [← h1, getD_end]
      have : c = b := by simpa using hc.symm
      subst this
      exact h3
theorem mem_heatsK {fs : List Fl} {l : List Be} : ∀ (k : Nat), k ≤ l.length → ∀ h, h ∈ heatsF fs (l.take k) ↔ IsHeat fs (l.take k) h
  | 0, _, h => by
    simp only [List.take_zero, heatsF, List.foldl_nil, List.mem_singleton]
    constructor
    · rintro rfl; exact ⟨rfl, fun i b hb => by simp at hb⟩
    · rintro ⟨h1, -⟩; exact List.eq_nil_of_length_eq_zero h1
  | k + 1, hk, h => by
    obtain ⟨b, hb, -⟩ := has (show k < l.length by omega)
    have e : l.take (k + 1) = l.take k ++ [b] := by rw [List.take_add_one, hb]; rfl
    rw [e, isHeat_snoc]
    have e2 : heatsF fs (l.take k ++ [b]) = stepH fs (heatsF fs (l.take k)) b := by simp [heatsF, List.foldl_append]
    rw [e2, stepH, List.mem_flatMap]
    constructor
    · rintro ⟨g, hg, hm⟩
      obtain ⟨n, hn, rfl⟩ := List.mem_map.1 hm
      exact ⟨g, n, rfl, (mem_heatsK k (by omega) g).1 hg, mem_nums.1 hn⟩
    · rintro ⟨g, n, rfl, hg, hn⟩
      exact ⟨g, (mem_heatsK k (by omega) g).2 hg, List.mem_map.2 ⟨n, mem_nums.2 hn, rfl⟩⟩
theorem mem_heats {fs : List Fl} {l : List Be} {h : List Int} : h ∈ heatsF fs l ↔ IsHeat fs l h := by
  have := mem_heatsK (fs := fs) (l := l) l.length (Nat.le_refl _) h
  rwa [List.take_length] at this

/-! Days on which something shows -/
def heG (ss : List St) (l : List Be) (h : List Int) (f d : Int) (i : Nat) : Int := if (beAt l i).fl = f ∧ (beAt l i).day ≤ d ∧ d < (beAt l i).day + h.getD i 0 then (stAt ss i).co else 0
def conesF (ss : List St) (l : List Be) (h : List Int) (f d : Int) : Int := sumK (heG ss l h f d) l.length
theorem be_pad {l : List Be} {i : Nat} : beAt (padB l) i = beAt l i := by
  simp only [beAt, padB, List.getD]
  rcases Nat.lt_or_ge i l.length with h | h
  · rw [List.getElem?_append_left h]
  · rw [List.getElem?_append_right h, List.getElem?_eq_none (l := l) h]
    cases hx : (List.replicate (4 - l.length) bnone)[i - l.length]? with
    | none => rfl
    | some b => rw [List.eq_of_mem_replicate (List.mem_of_getElem? hx)]; rfl
theorem be_out {l : List Be} {i : Nat} (h : l.length ≤ i) : beAt l i = bnone := by simp [beAt, List.getD, List.getElem?_eq_none h]
theorem sumK_ext {g : Nat → Int} {k : Nat} : ∀ {m : Nat}, k ≤ m → (∀ i, k ≤ i → i < m → g i = 0) → sumK g m = sumK g k
  | 0, h, _ => by rw [Nat.le_zero.1 h]
  | m + 1, h, H => by
    rcases Nat.lt_or_ge k (m + 1) with h' | h'
    · rw [sumK, sumK_ext (by omega) fun i a b => H i a (by omega), H m (by omega) (by omega), Int.add_zero]
    · rw [Nat.le_antisymm h h']
section
variable {fs : List Fl} {ss : List St} {l : List Be} (hall : HallOK fs ss) (hp : PlanOf fs ss (padB l)) (hn : l.length = ss.length)
include hall hp hn
theorem hi_sum {f d : Int} (h0 : 0 ≤ f) : hiAt fs ss (padB l) f d = sumK (hiG fs ss l f d) l.length := by
  have h4 := hall.ns
  have e : hiAt fs ss (padB l) f d = sumK (hiG fs ss l f d) 4 := sumK_congr fun i _ => by simp only [hiG, be_pad]
  rw [e]
  refine sumK_ext (by omega) fun i hi _ => ?_
  simp only [hiG, be_out hi, bnone]
  rw [if_neg (by omega)]
theorem be_some {i : Nat} (hi : i < l.length) : l[i]? = some (beAt l i) := by simp [beAt, List.getD, List.getElem?_eq_getElem hi]
theorem heat_at {h : List Int} (hh : IsHeat fs l h) {i : Nat} {f : Int} (hi : i < l.length) (h0 : 0 ≤ f) (hf : (beAt l i).fl = f) : (flAt fs f).lo ≤ h.getD i 0 ∧ h.getD i 0 ≤ (flAt fs f).hi := by
  have := hh.2 i _ (be_some hall hp hn hi)
  simp only [spanOf, hf, if_pos h0] at this
  exact this
theorem cones_le {h : List Int} (hh : IsHeat fs l h) {f d : Int} (h0 : 0 ≤ f) : conesF ss l h f d ≤ hiAt fs ss (padB l) f d := by
  rw [hi_sum hall hp hn h0]
  refine sumK_le fun i hi => ?_
  have hc := (co_ok hall i).1
  simp only [heG, hiG]
  by_cases c : (beAt l i).fl = f ∧ (beAt l i).day ≤ d ∧ d < (beAt l i).day + h.getD i 0
  · have := heat_at hall hp hn hh hi h0 c.1
    rw [if_pos c, if_pos (by omega)]; exact Int.le_refl _
  · rw [if_neg c]; split <;> omega
theorem fl_lt {i : Nat} (hi : i < l.length) : (beAt l i).fl < fs.length := hp.fl _ (by
  have := be_some hall hp hn hi
  exact List.mem_append_left _ (List.mem_of_getElem? this))
theorem isHeat_map {g : Be → Int} (hg : ∀ b, b ∈ l → (spanOf fs b).1 ≤ g b ∧ g b ≤ (spanOf fs b).2) : IsHeat fs l (l.map g) := by
  refine ⟨by simp, fun i b hb => ?_⟩
  have e : (l.map g).getD i 0 = g b := by simp [List.getD, hb]
  rw [e]
  exact hg b (List.mem_of_getElem? hb)
theorem span_ok {b : Be} (hb : b ∈ l) : (spanOf fs b).1 ≤ (spanOf fs b).2 := by
  unfold spanOf
  split
  · rename_i h0
    have := fl_ok hall h0 (hp.fl b (List.mem_append_left _ hb))
    exact this.2.2.2.1
  · exact Int.le_refl _
theorem map_at {g : Be → Int} {i : Nat} (hi : i < l.length) : (l.map g).getD i 0 = g (beAt l i) := by simp [List.getD, be_some hall hp hn hi]
end
/-! The first of all -/
def MinS (R : Nat → Nat → Prop) (on first : Int) : Prop := (on = -1 ∧ first = -1 ∧ ∀ f d, ¬ R f d) ∨ ∃ f d : Nat, on = f ∧ first = d ∧ R f d ∧ ∀ f' d', R f' d' → d < d' ∨ d = d' ∧ f ≤ f'
theorem MinS.eq {R : Nat → Nat → Prop} {a b c d : Int} (h : MinS R a b) (h' : MinS R c d) : a = c ∧ b = d := by
  rcases h with ⟨rfl, rfl, h⟩ | ⟨f, n, rfl, rfl, h, hm⟩ <;> rcases h' with ⟨rfl, rfl, h'⟩ | ⟨f', n', rfl, rfl, h', hm'⟩
  · exact ⟨rfl, rfl⟩
  · exact absurd h' (h _ _)
  · exact absurd h (h' _ _)
  · have := hm _ _ h'
    have := hm' _ _ h
    omega
theorem MinS.new {R R' : Nat → Nat → Prop} {on first g day : Int} (h : MinS R on first) (h' : MinS R' g day) (hc : 0 ≤ day ∧ (first < 0 ∨ day < first ∨ day = first ∧ g < on)) : MinS (fun f d => R f d ∨ R' f d) g day := by
  rcases h' with ⟨rfl, rfl, h'⟩ | ⟨f', n', rfl, rfl, h', hm'⟩
  · omega
  · refine .inr ⟨f', n', rfl, rfl, .inr h', fun x y hxy => ?_⟩
    rcases hxy with hxy | hxy
    · rcases h with ⟨rfl, rfl, h⟩ | ⟨f, n, rfl, rfl, h, hm⟩
      · exact absurd hxy (h _ _)
      · have := hm _ _ hxy
        omega
    · exact hm' _ _ hxy
theorem MinS.old {R R' : Nat → Nat → Prop} {on first g day : Int} (h : MinS R on first) (h' : MinS R' g day) (hc : ¬ (0 ≤ day ∧ (first < 0 ∨ day < first ∨ day = first ∧ g < on))) : MinS (fun f d => R f d ∨ R' f d) on first := by
  rcases h' with ⟨rfl, rfl, h'⟩ | ⟨f', n', rfl, rfl, h', hm'⟩
  · rcases h with ⟨rfl, rfl, h⟩ | ⟨f, n, rfl, rfl, h, hm⟩
    · exact .inl ⟨rfl, rfl, fun f d hx => hx.elim (h _ _) (h' _ _)⟩
    · exact .inr ⟨f, n, rfl, rfl, .inl h, fun x y hxy => hxy.elim (hm _ _) (fun hx => absurd hx (h' _ _))⟩
  · rcases h with ⟨rfl, rfl, h⟩ | ⟨f, n, rfl, rfl, h, hm⟩
    · omega
    · refine .inr ⟨f, n, rfl, rfl, .inl h, fun x y hxy => ?_⟩
      rcases hxy with hxy | hxy
      · exact hm _ _ hxy
      · have := hm' _ _ hxy
        omega
end Go.Mus

/- Slices of slices; makeSlice. Conditions: none; over any program. -/
namespace Go.Mus
/-- A slice as an element. -/
structure Sv where
  a : Option Addr
  n : Nat
  cap : Nat
abbrev Sv.val (s : Sv) : Value := .slice s.a s.n s.cap
def rowS (s : Sv) : List Value := [.slice s.a s.n s.cap]
instance : Rw rowS 1 := ⟨fun _ => rfl, fun _ => rfl⟩

section
variable {α : Type} {row : α → List Value} {w : Nat} [rw' : Rw row w] {E : TypeId}
/-- Slices of one's own, one by one. -/
inductive Oss (E : TypeId) (row : α → List Value) [Rw row w] : List Sv → List (List α) → Frag → Prop
  | nil : Oss E row [] [] []
  | cons {s : Sv} {l : List α} {A B : Frag} {vs : List Sv} {ls : List (List α)} : Os E row s.val l A → Oss E row vs ls B → Oss E row (s :: vs) (l :: ls) (A ++ B)
theorem Oss.len {vs : List Sv} {ls : List (List α)} {A : Frag} (h : Oss E row vs ls A) : vs.length = ls.length := by
  induction h with
  | nil => rfl
  | cons _ _ ih => simp [ih]
theorem Oss.shut {vs : List Sv} {ls : List (List α)} {A : Frag} (h : Oss E row vs ls A) : Shut A := by
  induction h with
  | nil => exact .nil
  | cons h _ ih => exact h.shut.app ih
theorem Oss.snoc {vs : List Sv} {ls : List (List α)} {A B : Frag} {s : Sv} {l : List α} (h : Oss E row vs ls A) (hs : Os E row s.val l B) : Oss E row (vs ++ [s]) (ls ++ [l]) (A ++ B) := by
  induction h with
  | nil => have := Oss.cons hs .nil; simpa using this
  | cons h1 _ ih => have := Oss.cons h1 ih; rw [← List.append_assoc] at this; exact this
theorem Oss.sl {vs : List Sv} {ls : List (List α)} {A : Frag} {h' : Hp} (h : Oss E row vs ls A) (hL : ∀ b o, (b, o) ∈ A → h' b = some o) : ∀ {k : Nat} {s : Sv} {l : List α}, vs[k]? = some s → ls[k]? = some l → Sl h' row s.val l := by
  induction h with
  | nil => intro k s l hs; simp at hs
  | cons h1 _ ih =>
    intro k s l hs hl
    rcases k with _ | k
    · simp at hs hl; subst hs hl
      exact h1.sl fun b o hb => hL b o (List.mem_append_left _ hb)
    · simp at hs hl
      exact ih (fun b o hb => hL b o (List.mem_append_right _ hb)) hs hl
/-- They are put by. -/
theorem freezeOss {x : Cx} {c : Code} {Q : Post} {ρ : Env} {ds : List Deferred} {A F : Frag} {vs : List Sv} {ls : List (List α)} (hs : Oss E row vs ls A)
    (H : ∀ h', Ext x.h h' → (∀ (k : Nat) (s : Sv) (l : List α), vs[k]? = some s → ls[k]? = some l → Sl h' row s.val l ∧ Zs h' s.val) → W { x with h := h' } c Q ρ ds F) : W x c Q ρ ds (A ++ F) := by
  induction hs generalizing x with
  | nil => exact H x.h ⟨fun _ _ q => q, fun _ q => q⟩ fun k s l hk => by simp at hk
  | cons h1 h2 ih =>
    rw [List.append_assoc]
    refine freezeOs h1 fun h' hE hsl hz => ih (x := { x with h := h' }) fun h'' hE' hall => H h'' (hE.trans hE') fun k s l hk hl => ?_
    rcases k with _ | k
    · simp at hk hl; subst hk hl
      exact ⟨hsl.ext hE', hz.ext hE'⟩
    · simp at hk hl
      exact hall k s l hk hl
theorem Sv.eta {v : Value} {l : List α} {A : Frag} (h : Os E row v l A) : ∃ s : Sv, v = s.val := by
  obtain ⟨a, cap, rfl⟩ := h.isSl
  exact ⟨⟨a, _, cap⟩, rfl⟩
end
/-! makeSlice -/
section
variable {x : Cx} {ρ : Env} {F : Frag} {o : Oper} {R : Value → Frag → Prop}
end
end Go.Mus

/- All heats of a plan. Conditions: none; over the given program. -/
namespace Go.Mus
set_option maxRecDepth 100000
set_option maxHeartbeats 4000000
theorem DupInts_fn (main : Side) (h : Hp) (l : List Int) (v : Value) (hl : Sl h rowI v l) (hn : l.length ≤ 1000) : Fnc prog main n_kit_DupInts #[v] h [] (fun v A => ∃ S, Os t_int rowI v l S ∧ Sb S A) := by
  obtain ⟨a, cap, rfl⟩ := hl.isSl
  refine Fnc.of_body at_kit_DupInts rfl (by show 1 ≤ 6; decide) [(0, .slice a l.length cap)] ⟨rfl, trivial⟩ ?_
  refine W.seq <| W.region rfl <| qs rfl rfl rfl <| Ops.nil <| thn_n <| W.seq <| W.region rfl ?_
  refine Ops.bsl0 (fun β3 => ?_)
  refine qm rfl rfl rfl ?_
  have hO : Os t_int rowI (.slice (some ⟨β3, 0, none⟩) 0 0) ([] : List Int) [(β3, .cells #[] t_int (0, 0))] := .inr ⟨β3, #[], 0, [], rfl, rfl, rfl, Nat.le_refl _, Part.all [], .nil⟩
  refine oe rfl wn rfl rfl (e_append (row := rowI) (l := []) (l' := l) rfl rfl rfl hO .all (fun h2 hE _ => hl.ext hE) (by simp; omega) (by decide) rfl (fun v' S' hS' => ?_))
  rw [List.nil_append] at hS'
  refine qs rfl rfl rfl <| Ops.nil <| thn_n <| W.ret ?_
  exact lvt (vs := [v']) ⟨S', hS', .refl⟩

/-- The first k numbers from lo on, behind each of the first j heats. -/
def stepJ (lo hi : Int) (out : List (List Int)) (j : Nat) : List (List Int) := (out.take j).flatMap fun h => (nums lo hi).map fun n => h ++ [n]
theorem stepJ_succ {lo hi : Int} {out : List (List Int)} {j : Nat} {g : List Int} (h : out[j]? = some g) : stepJ lo hi out (j + 1) = stepJ lo hi out j ++ (nums lo hi).map fun n => g ++ [n] := by
  rw [stepJ, List.take_add_one, List.flatMap_append, h]; simp [stepJ]
theorem stepJ_len {lo hi : Int} {out : List (List Int)} (h : hi - lo ≤ 5) : ∀ j, (stepJ lo hi out j).length ≤ 6 * j
  | 0 => by simp [stepJ]
  | j + 1 => by
    have ih := stepJ_len (out := out) h j
    cases e : out[j]? with
    | none =>
      have : stepJ lo hi out (j + 1) = stepJ lo hi out j := by rw [stepJ, List.take_add_one, e]; simp [stepJ]
      rw [this]; omega
    | some g =>
      rw [stepJ_succ e, List.length_append, List.length_map, nums, numsN_len]
      omega
theorem heats_step {fs : List Fl} {l : List Be} {i : Nat} {b : Be} (h : l[i]? = some b) : heatsF fs (l.take (i + 1)) = stepJ (spanOf fs b).1 (spanOf fs b).2 (heatsF fs (l.take i)) (heatsF fs (l.take i)).length := by
  rw [List.take_add_one, h, stepJ, List.take_length]
  simp [heatsF, List.foldl_append, stepH]
theorem heats_each {fs : List Fl} {l : List Be} {i : Nat} {g : List Int} (hi : i ≤ l.length) (hg : g ∈ heatsF fs (l.take i)) : g.length = i := by
  have := ((mem_heatsK i hi g).1 hg).1
  rw [this, List.length_take]; omega

theorem span_le {fs : List Fl} {ss : List St} {l : List Be} (hall : HallOK fs ss) (hp : PlanOf fs ss (padB l)) (hn : l.length = ss.length) {b : Be} (hb : b ∈ l) : 0 ≤ (spanOf fs b).1 ∧ (spanOf fs b).1 ≤ 6 ∧ (spanOf fs b).1 ≤ (spanOf fs b).2 ∧ (spanOf fs b).2 ≤ 6 ∧ (spanOf fs b).2 - (spanOf fs b).1 ≤ 5 := by
  unfold spanOf
  split
  · rename_i h0
    have := fl_ok hall h0 (hp.fl b (List.mem_append_left _ hb))
    exact ⟨by omega, by omega, by omega, by omega, by omega⟩
  · exact ⟨by decide, by decide, by decide, by decide, by decide⟩
theorem heats_len {fs : List Fl} {ss : List St} {l : List Be} (hall : HallOK fs ss) (hp : PlanOf fs ss (padB l)) (hn : l.length = ss.length) : ∀ i, i ≤ l.length → (heatsF fs (l.take i)).length ≤ 6 ^ i
  | 0, _ => by simp [heatsF]
  | i + 1, h => by
    obtain ⟨b, hb, -⟩ := has (show i < l.length by omega)
    have ih := heats_len hall hp hn i (by omega)
    have := stepJ_len (out := heatsF fs (l.take i)) (span_le hall hp hn (List.mem_of_getElem? hb)).2.2.2.2 (heatsF fs (l.take i)).length
    rw [heats_step hb, Nat.pow_succ]
    omega
theorem pow6 {i : Nat} (h : i ≤ 4) : 6 ^ i ≤ 1296 := by
  rcases (by omega : i = 0 ∨ i = 1 ∨ i = 2 ∨ i = 3 ∨ i = 4) with rfl | rfl | rfl | rfl | rfl <;> decide
theorem ext2 {c : Array Value} {o : Nat} {u v w y : Value} (h : c.extract o (o + 4) = #[u, v, w, y]) : c.extract (o + 1) (o + 1 + 2) = #[v, w] := by
  have e : (c.extract o (o + 4)).extract 1 3 = c.extract (o + 1) (o + 1 + 2) := by
    rw [Array.extract_extract, show min (o + 3) (o + 4) = o + 1 + 2 by omega]
  rw [← e, h]; rfl

theorem heats_fn (main : Side) (h : Hp) (fs : List Fl) (ss : List St) (l : List Be) (vf vs vl : Value) (hf : Sl h Fl.row vf fs) (hl : Sl h Be.row vl l) (hck : ckPlan fs ss l = 0) : Fnc prog main n_law_heats #[.agg #[vf, vs], vl] h [] (fun v A => ∃ O us B, Os t_sl_int rowS v us O ∧ Oss t_int rowI us (heatsF fs l) B ∧ (heatsF fs l).length ≤ 1296 ∧ Sb (O ++ B) A) := by
  obtain ⟨hall, hp, hn⟩ := plan_ck hck
  have hns := hall.ns
  obtain ⟨a, cap, rfl⟩ := hf.isSl
  obtain ⟨al, lc, rfl⟩ := hl.isSl
  refine Fnc.of_body at_law_heats rfl (by show 2 ≤ 62; decide) [(0, .agg #[.slice a fs.length cap, vs]), (1, .slice al l.length lc)] ⟨rfl, rfl, trivial⟩ ?_
  refine W.seq <| W.region rfl ?_
  refine Ops.box (cs := #[.slice a fs.length cap, vs]) (fun β2 => ?_) rfl rfl rfl
  refine qs rfl rfl rfl <| Ops.nil <| thn_n <| W.seq <| W.region rfl ?_
  refine Ops.bsl (cs := #[.slice none 0 0]) (fun β11 => ?_) rfl
  refine qs rfl rfl rfl <| Ops.nil <| thn_n <| W.seq <| W.seq <| W.region rfl <| qs rfl rfl rfl <| Ops.nil <| thn_n <| W.block ?_
  have hO0 : Os t_sl_int rowS (.slice (some ⟨β11, 0, none⟩) 1 1) [(⟨none, 0, 0⟩ : Sv)] [(β11, .cells #[.slice none 0 0] t_sl_int (0, 0))] := .inr ⟨β11, _, 1, [], rfl, rfl, rfl, Nat.le_refl _, Part.all _, .nil⟩
  have hB0 : Oss t_int rowI [(⟨none, 0, 0⟩ : Sv)] (heatsF fs (l.take 0)) [] := by
    have := Oss.cons (E := t_int) (row := rowI) (s := (⟨none, 0, 0⟩ : Sv)) (l := []) (.nil .nil) .nil
    exact this
  refine W.loop (σ := Nat × List Sv × Option Addr × Nat × Frag × Frag) (fun q => q.1 ≤ l.length ∧ Os t_sl_int rowS (.slice q.2.2.1 q.2.1.length q.2.2.2.1) q.2.1 q.2.2.2.2.1 ∧ Oss t_int rowI q.2.1 (heatsF fs (l.take q.1)) q.2.2.2.2.2) (fun q => [(6, I q.1), (5, .slice q.2.2.1 q.2.1.length q.2.2.2.1), (2, .pointer (some ⟨β2, 0, none⟩)), (1, .slice al l.length lc)]) (fun q => (β2, .cells #[.slice a fs.length cap, vs] t_Plant (0, 0)) :: (q.2.2.2.2.1 ++ q.2.2.2.2.2)) (fun q => l.length - q.1) (0, [⟨none, 0, 0⟩], some ⟨β11, 0, none⟩, 1, [(β11, .cells #[.slice none 0 0] t_sl_int (0, 0))], []) ⟨Nat.zero_le _, hO0, hB0⟩ ⟨rfl, rfl, rfl, rfl, trivial⟩ (.of_perm (List.perm_append_comm (l₁ := [_]))) ?_
  rintro ⟨i, us, sa, sc, O, B⟩ ⟨hi, hO, hB⟩
  simp only at hi hO hB
  refine W.seq <| W.seq <| W.region rfl <| qm rfl rfl rfl <| qm rfl rfl rfl ?_
  refine oq (y_len rfl rfl) rfl wn rfl rfl ?_
  refine oq (y_lss rfl rfl rfl) rfl wn rfl rfl ?_
  refine Ops.nil <| thn_n ?_
  refine W.condp rfl (fun c15 => ?_) (fun c15 => ?_)
  · have hi1 : i < l.length := by omega
    obtain ⟨b, hb0, -⟩ := has hi1
    have hbm := List.mem_of_getElem? hb0
    have hsp := span_le hall hp hn hbm
    have hst := heats_step (fs := fs) hb0
    have hHl := Nat.le_trans (heats_len hall hp hn i (by omega)) (pow6 (by omega))
    have hul := hB.len
    obtain ⟨bl, offl, cl, El, fzl, rfl, hbl, -, hyl, hzl⟩ := hl.at hb0
    have hfl0 : cl[offl + i * 2 + 0]? = some (I b.fl) := hzl 0 (by decide)
    clear hzl
    refine W.skip <| thn_n <| W.seq <| W.block <| W.seq <| W.region rfl ?_
    refine oq (y_build (parts := []) (cs := #[I 0, I 0]) rfl rfl rfl) rfl wn rfl rfl ?_
    refine Ops.new (fun β7 => ?_)
    first | refine Ops.stoW ?_ | refine Ops.stoA ?_
    refine Ops.nil <| thn_n <| W.seq <| W.seq <| W.region rfl <| qm rfl rfl rfl <| qm rfl rfl rfl ?_
    first | refine oq (yix rfl rfl rfl) rfl wn rfl rfl ?_ | refine oq (yixI rfl rfl rfl) rfl wn rfl rfl ?_
    refine oq (y_fieldAddr rfl rfl) rfl wn rfl rfl ?_
    refine oq (yld rfl rfl) rfl wn rfl rfl ?_
    refine oq (y_geq rfl rfl rfl) rfl wn rfl rfl ?_
    refine Ops.nil <| thn_n ?_
    refine W.condp rfl (fun c24 => ?_) (fun c24 => ?_)
    · have hbf := hp.fl b (List.mem_append_left _ hbm)
      obtain ⟨⟨pl, lo, hi', co⟩, hx0, -⟩ := has (show b.fl.toNat < fs.length by omega)
      have hfa : flAt fs b.fl = ⟨pl, lo, hi', co⟩ := by simp [flAt, List.getD, hx0]
      have hspan : spanOf fs b = (lo, hi') := by unfold spanOf; rw [if_pos c24, hfa]
      obtain ⟨bf, off, c, E, fz, rfl, hbk, hx1, hy1, hz1⟩ := hf.at hx0
      have hx2 := ext2 hx1
      clear hx1 hz1
      refine W.drawP2 (n := 11) rfl ?_
      refine aq (i := 0) (y_fieldAddr rfl rfl) rfl an rfl rfl ?_
      refine aq (i := 1) (yld rfl rfl) rfl an rfl rfl ?_
      refine aq (i := 2) (y_move rfl rfl) rfl an rfl rfl ?_
      refine aq (i := 3) (y_move rfl rfl) rfl an rfl rfl ?_
      first | refine aq (i := 4) (yix rfl rfl rfl) rfl an rfl rfl ?_ | refine aq (i := 4) (yixI rfl rfl rfl) rfl an rfl rfl ?_
      refine aq (i := 5) (y_fieldAddr rfl rfl) rfl an rfl rfl ?_
      refine aq (i := 6) (yld rfl rfl) rfl an rfl rfl ?_
      first | refine aq (i := 7) (yixI rfl rfl rfl) rfl an rfl rfl ?_ | refine aq (i := 7) (yix rfl rfl rfl) rfl an rfl rfl ?_
      refine aq (i := 8) (y_fieldAddr rfl rfl) rfl an rfl rfl ?_
      first | refine aq (i := 9) (yldW rfl rfl) rfl an rfl rfl ?_ | refine aq (i := 9) (yldA rfl rfl) rfl an rfl rfl ?_
      first | refine ae (i := 10) rfl an rfl rfl (eSW rfl rfl rfl ?_) | refine ae (i := 10) rfl an rfl rfl (eSA rfl rfl rfl ?_)
      refine ⟨.inl (by kernel_rfl), ?_⟩
      refine az ?_
      refine thn_n ?_
      rw [hspan] at hsp hst
      simp only at hsp hst
      generalize hHe : heatsF fs (l.take i) = H at hst hHl hul hB
      refine W.seq <| W.region rfl <| qs rfl rfl rfl <| Ops.nil <| thn_n <| W.seq <| W.seq <| W.region rfl <| qs rfl rfl rfl <| Ops.nil ?_
      refine thn_n <| W.block ?_
      refine W.loop (σ := Nat × List Sv × Option Addr × Nat × Frag × Frag) (fun q => q.1 ≤ us.length ∧ Os t_sl_int rowS (.slice q.2.2.1 q.2.1.length q.2.2.2.1) q.2.1 q.2.2.2.2.1 ∧ Oss t_int rowI q.2.1 (stepJ lo hi' H q.1) q.2.2.2.2.2) (fun q => [(9, I q.1), (8, .slice q.2.2.1 q.2.1.length q.2.2.2.1), (7, .pointer (some ⟨β7, 0, none⟩)), (6, I i), (5, .slice sa us.length sc), (2, .pointer (some ⟨β2, 0, none⟩)), (1, .slice (some ⟨bl, offl, none⟩) l.length lc)]) (fun q => (β7, .cells #[I lo, I hi'] t_Span (0, 0)) :: (β2, .cells #[.slice _ fs.length cap, vs] t_Plant (0, 0)) :: ((O ++ B) ++ (q.2.2.2.2.1 ++ q.2.2.2.2.2))) (fun q => us.length - q.1) (0, [], none, 0, [], []) ⟨Nat.zero_le _, .nil .nil, .nil⟩ ⟨rfl, rfl, rfl, rfl, rfl, rfl, rfl, trivial⟩ (by simp only [List.append_nil]; exact .refl) ?_
      rintro ⟨k, ns, na, nc, N, C⟩ ⟨hk, hN, hC⟩
      simp only at hk hN hC
      refine W.seq <| W.seq <| W.region rfl <| qm rfl rfl rfl <| qm rfl rfl rfl ?_
      refine oq (y_len rfl rfl) rfl wn rfl rfl ?_
      refine oq (y_lss rfl rfl rfl) rfl wn rfl rfl ?_
      refine Ops.nil <| thn_n ?_
      refine W.condp rfl (fun c38 => ?_) (fun c38 => ?_)
      · have hk1 : k < us.length := by omega
        obtain ⟨g, hg, -⟩ := has (show k < H.length by omega)
        obtain ⟨s, hs, -⟩ := has hk1
        have hgl : g.length = i := heats_each (by omega) (hHe ▸ List.mem_of_getElem? hg)
        have hss := stepJ_succ (lo := lo) (hi := hi') hg
        have hsl6 := stepJ_len (out := H) hsp.2.2.2.2 k
        refine W.skip <| thn_n <| W.seq <| W.block <| W.seq <| W.region rfl ?_
        refine oq (y_fieldAddr rfl rfl) rfl wn rfl rfl ?_
        refine oq (yld rfl rfl) rfl wn rfl rfl ?_
        refine qs rfl rfl rfl <| Ops.nil <| thn_n <| W.block ?_
        refine W.loop (σ := Nat × List Sv × Option Addr × Nat × Frag × Frag) (fun q => q.1 ≤ (hi' + 1 - lo).toNat ∧ Os t_sl_int rowS (.slice q.2.2.1 q.2.1.length q.2.2.2.1) q.2.1 q.2.2.2.2.1 ∧ Oss t_int rowI q.2.1 (stepJ lo hi' H k ++ (numsN lo q.1).map fun n => g ++ [n]) q.2.2.2.2.2) (fun q => [(10, I (lo + q.1)), (9, I k), (8, .slice q.2.2.1 q.2.1.length q.2.2.2.1), (7, .pointer (some ⟨β7, 0, none⟩)), (6, I i), (5, .slice sa us.length sc), (2, .pointer (some ⟨β2, 0, none⟩)), (1, .slice (some ⟨bl, offl, none⟩) l.length lc)]) (fun q => (β7, .cells #[I lo, I hi'] t_Span (0, 0)) :: (β2, .cells #[.slice _ fs.length cap, vs] t_Plant (0, 0)) :: ((O ++ B) ++ (q.2.2.2.2.1 ++ q.2.2.2.2.2))) (fun q => (hi' + 1 - lo).toNat - q.1) (0, ns, na, nc, N, C) ⟨Nat.zero_le _, hN, by simpa [numsN] using hC⟩ ⟨lk rfl (show I _ = I _ by congr 1; omega), rfl, rfl, rfl, rfl, rfl, rfl, rfl, trivial⟩ .refl ?_
        rintro ⟨m, ns, na, nc, N, C⟩ ⟨hm, hN, hC⟩
        simp only at hm hN hC
        refine W.seq <| W.seq <| W.region rfl <| qm rfl rfl rfl ?_
        refine oq (y_fieldAddr rfl rfl) rfl wn rfl rfl ?_
        refine oq (yld rfl rfl) rfl wn rfl rfl ?_
        refine oq (y_leq rfl rfl rfl) rfl wn rfl rfl ?_
        refine Ops.nil <| thn_n ?_
        refine W.condp rfl (fun c46 => ?_) (fun c46 => ?_)
        · have hnl : ns.length ≤ 6 * k + 6 := by
            rw [hC.len, List.length_append, List.length_map, numsN_len]; omega
          have hlt : lo + m ≤ hi' := c46
          obtain ⟨βo, co', Jo, hsa, hOe, -, -, -, hPo, -⟩ := hO.open (by omega)
          subst hsa
          have hcell : co'[0 + k * 1 + 0]? = some (.slice s.a s.n s.cap) := hPo.rowG hs 0 (by decide)
          refine W.skip <| thn_n <| W.seq <| W.block <| W.region rfl <| qm rfl rfl rfl <| qm rfl rfl rfl <| qm rfl rfl rfl ?_
          first | refine oq (yix rfl rfl rfl) rfl wn rfl rfl ?_ | refine oq (yixI rfl rfl rfl) rfl wn rfl rfl ?_
          refine oq (yld rfl rfl (.inr (fun _ e => by subst e; exact .tail _ (.tail _ (List.mem_append_left _ (List.mem_append_left _ (by rw [hOe]; exact .head _)))))) hcell) rfl wn rfl rfl ?_
          refine c0 (fun h' hE hL => DupInts_fn _ h' g s.val (hB.sl (fun b o hb => hL b o (.tail _ (.tail _ (List.mem_append_left _ (List.mem_append_right _ hb))))) hs hg) (by omega)) (fun v A' hv => ?_)
          obtain ⟨S, hS, hsb⟩ := hv
          refine Ops.sb (hsb.app .refl) ?_
          refine qm rfl rfl rfl ?_
          refine Ops.bsl (cs := #[I (lo + m)]) (fun β56 => ?_) rfl
          refine oe rfl wn rfl rfl (e_append (row := rowI) (l' := [lo + m]) rfl rfl rfl hS (.tail .head) (fun h2 _ hl => Sl.mk (hl β56 _ (.head _)) rfl (Part.all [I (lo + m)])) (by simp; omega) (by decide) rfl (fun v2 S2 hS2 => ?_))
          obtain ⟨s2, rfl⟩ := Sv.eta hS2
          refine Ops.bsl (cs := #[.slice s2.a s2.n s2.cap]) (fun β58 => ?_) rfl
          refine oe rfl wn rfl rfl (e_append (row := rowS) (l' := [s2]) rfl rfl rfl hN (.tail (.tail (.app (.tail (.tail (.app .head)))))) (fun h2 _ hl => Sl.mk (hl β58 _ (.head _)) rfl (Part.all (rowS s2))) (by simp; omega) (by decide) rfl (fun v3 N3 hN3 => ?_))
          obtain ⟨na3, nc3, rfl⟩ := hN3.isSl
          refine qs rfl rfl rfl <| Ops.nil <| blk_n <| thn_n <| W.region rfl <| qm rfl rfl rfl ?_
          first | refine oq (yadd rfl rfl rfl) rfl wn rfl rfl ?_ | refine oq (y_addw rfl rfl rfl) rfl wn rfl rfl ?_
          refine qs rfl rfl rfl <| Ops.nil <| thn_n ?_
          refine ⟨rfl, (m + 1, ns ++ [s2], na3, nc3, N3, C ++ S2), ⟨by simp only; omega, hN3, ?_⟩, by simp only; omega, ⟨lk rfl (show I _ = I _ by congr 1; omega), rfl, rfl, rfl, rfl, rfl, rfl, rfl, trivial⟩, .skip rfl (.skip rfl (.of_perm (perm_cnt fun y => ?_)))⟩
          · have := hC.snoc hS2
            simp only [numsN, List.map_append, List.map_cons, List.map_nil]
            rwa [← List.append_assoc]
          · simp only [List.count_append, List.count_cons, List.count_nil]; omega
        · refine W.exit <| thn_x <| thn_x <| blk_x <| blk_n <| thn_n <| W.region rfl <| qm rfl rfl rfl ?_
          first | refine oq (yadd rfl rfl rfl) rfl wn rfl rfl ?_ | refine oq (y_addw rfl rfl rfl) rfl wn rfl rfl ?_
          refine qs rfl rfl rfl <| Ops.nil <| thn_n ?_
          have hme : m = (hi' + 1 - lo).toNat := by omega
          subst hme
          exact ⟨rfl, (k + 1, ns, na, nc, N, C), ⟨by simp only; omega, hN, by simp only; rw [hss]; exact hC⟩, by simp only; omega, ⟨rfl, rfl, rfl, rfl, rfl, rfl, rfl, trivial⟩, .refl⟩
      · refine W.exit <| thn_x <| thn_x <| blk_x <| thn_n <| W.region rfl <| qm rfl rfl rfl <| qs rfl rfl rfl <| Ops.nil <| blk_n ?_
        refine thn_n <| W.region rfl <| qm rfl rfl rfl ?_
        first | refine oq (yadd rfl rfl rfl) rfl wn rfl rfl ?_ | refine oq (y_addw rfl rfl rfl) rfl wn rfl rfl ?_
        refine qs rfl rfl rfl <| Ops.nil <| thn_n ?_
        have hke : k = us.length := by omega
        subst hke
        rw [hul] at hC
        refine ⟨rfl, (i + 1, ns, na, nc, N, C), ⟨by simp only; omega, hN, by simp only; rw [hst]; exact hC⟩, by simp only; omega, ⟨rfl, rfl, rfl, rfl, trivial⟩, .skip rfl (.cons (Sb.left .refl (hO.shut.app hB.shut)))⟩
    · have hspan : spanOf fs b = (0, 0) := if_neg c24
      obtain ⟨lo, hlo⟩ : ∃ n : Int, n = 0 := ⟨0, rfl⟩
      obtain ⟨hi', hhi⟩ : ∃ n : Int, n = 0 := ⟨0, rfl⟩
      rw [← hlo] at hspan
      have hspan : spanOf fs b = (lo, hi') := by rw [hspan, hlo, hhi]
      refine W.sb (F' := (β7, .cells #[I lo, I hi'] t_Span (0, 0)) :: (β2, .cells #[.slice a fs.length cap, vs] t_Plant (0, 0)) :: (O ++ B)) (by rw [hlo, hhi]; exact .refl) ?_
      refine W.skip <| thn_n ?_
      rw [hspan] at hsp hst
      simp only at hsp hst
      generalize hHe : heatsF fs (l.take i) = H at hst hHl hul hB
      refine W.seq <| W.region rfl <| qs rfl rfl rfl <| Ops.nil <| thn_n <| W.seq <| W.seq <| W.region rfl <| qs rfl rfl rfl <| Ops.nil ?_
      refine thn_n <| W.block ?_
      refine W.loop (σ := Nat × List Sv × Option Addr × Nat × Frag × Frag) (fun q => q.1 ≤ us.length ∧ Os t_sl_int rowS (.slice q.2.2.1 q.2.1.length q.2.2.2.1) q.2.1 q.2.2.2.2.1 ∧ Oss t_int rowI q.2.1 (stepJ lo hi' H q.1) q.2.2.2.2.2) (fun q => [(9, I q.1), (8, .slice q.2.2.1 q.2.1.length q.2.2.2.1), (7, .pointer (some ⟨β7, 0, none⟩)), (6, I i), (5, .slice sa us.length sc), (2, .pointer (some ⟨β2, 0, none⟩)), (1, .slice (some ⟨bl, offl, none⟩) l.length lc)]) (fun q => (β7, .cells #[I lo, I hi'] t_Span (0, 0)) :: (β2, .cells #[.slice _ fs.length cap, vs] t_Plant (0, 0)) :: ((O ++ B) ++ (q.2.2.2.2.1 ++ q.2.2.2.2.2))) (fun q => us.length - q.1) (0, [], none, 0, [], []) ⟨Nat.zero_le _, .nil .nil, .nil⟩ ⟨rfl, rfl, rfl, rfl, rfl, rfl, rfl, trivial⟩ (by simp only [List.append_nil]; exact .refl) ?_
      rintro ⟨k, ns, na, nc, N, C⟩ ⟨hk, hN, hC⟩
      simp only at hk hN hC
      refine W.seq <| W.seq <| W.region rfl <| qm rfl rfl rfl <| qm rfl rfl rfl ?_
      refine oq (y_len rfl rfl) rfl wn rfl rfl ?_
      refine oq (y_lss rfl rfl rfl) rfl wn rfl rfl ?_
      refine Ops.nil <| thn_n ?_
      refine W.condp rfl (fun c38 => ?_) (fun c38 => ?_)
      · have hk1 : k < us.length := by omega
        obtain ⟨g, hg, -⟩ := has (show k < H.length by omega)
        obtain ⟨s, hs, -⟩ := has hk1
        have hgl : g.length = i := heats_each (by omega) (hHe ▸ List.mem_of_getElem? hg)
        have hss := stepJ_succ (lo := lo) (hi := hi') hg
        have hsl6 := stepJ_len (out := H) hsp.2.2.2.2 k
        refine W.skip <| thn_n <| W.seq <| W.block <| W.seq <| W.region rfl ?_
        refine oq (y_fieldAddr rfl rfl) rfl wn rfl rfl ?_
        refine oq (yld rfl rfl) rfl wn rfl rfl ?_
        refine qs rfl rfl rfl <| Ops.nil <| thn_n <| W.block ?_
        refine W.loop (σ := Nat × List Sv × Option Addr × Nat × Frag × Frag) (fun q => q.1 ≤ (hi' + 1 - lo).toNat ∧ Os t_sl_int rowS (.slice q.2.2.1 q.2.1.length q.2.2.2.1) q.2.1 q.2.2.2.2.1 ∧ Oss t_int rowI q.2.1 (stepJ lo hi' H k ++ (numsN lo q.1).map fun n => g ++ [n]) q.2.2.2.2.2) (fun q => [(10, I (lo + q.1)), (9, I k), (8, .slice q.2.2.1 q.2.1.length q.2.2.2.1), (7, .pointer (some ⟨β7, 0, none⟩)), (6, I i), (5, .slice sa us.length sc), (2, .pointer (some ⟨β2, 0, none⟩)), (1, .slice (some ⟨bl, offl, none⟩) l.length lc)]) (fun q => (β7, .cells #[I lo, I hi'] t_Span (0, 0)) :: (β2, .cells #[.slice _ fs.length cap, vs] t_Plant (0, 0)) :: ((O ++ B) ++ (q.2.2.2.2.1 ++ q.2.2.2.2.2))) (fun q => (hi' + 1 - lo).toNat - q.1) (0, ns, na, nc, N, C) ⟨Nat.zero_le _, hN, by simpa [numsN] using hC⟩ ⟨lk rfl (show I _ = I _ by congr 1; omega), rfl, rfl, rfl, rfl, rfl, rfl, rfl, trivial⟩ .refl ?_
        rintro ⟨m, ns, na, nc, N, C⟩ ⟨hm, hN, hC⟩
        simp only at hm hN hC
        refine W.seq <| W.seq <| W.region rfl <| qm rfl rfl rfl ?_
        refine oq (y_fieldAddr rfl rfl) rfl wn rfl rfl ?_
        refine oq (yld rfl rfl) rfl wn rfl rfl ?_
        refine oq (y_leq rfl rfl rfl) rfl wn rfl rfl ?_
        refine Ops.nil <| thn_n ?_
        refine W.condp rfl (fun c46 => ?_) (fun c46 => ?_)
        · have hnl : ns.length ≤ 6 * k + 6 := by
            rw [hC.len, List.length_append, List.length_map, numsN_len]; omega
          have hlt : lo + m ≤ hi' := c46
          obtain ⟨βo, co', Jo, hsa, hOe, -, -, -, hPo, -⟩ := hO.open (by omega)
          subst hsa
          have hcell : co'[0 + k * 1 + 0]? = some (.slice s.a s.n s.cap) := hPo.rowG hs 0 (by decide)
          refine W.skip <| thn_n <| W.seq <| W.block <| W.region rfl <| qm rfl rfl rfl <| qm rfl rfl rfl <| qm rfl rfl rfl ?_
          first | refine oq (yix rfl rfl rfl) rfl wn rfl rfl ?_ | refine oq (yixI rfl rfl rfl) rfl wn rfl rfl ?_
          refine oq (yld rfl rfl (.inr (fun _ e => by subst e; exact .tail _ (.tail _ (List.mem_append_left _ (List.mem_append_left _ (by rw [hOe]; exact .head _)))))) hcell) rfl wn rfl rfl ?_
          refine c0 (fun h' hE hL => DupInts_fn _ h' g s.val (hB.sl (fun b o hb => hL b o (.tail _ (.tail _ (List.mem_append_left _ (List.mem_append_right _ hb))))) hs hg) (by omega)) (fun v A' hv => ?_)
          obtain ⟨S, hS, hsb⟩ := hv
          refine Ops.sb (hsb.app .refl) ?_
          refine qm rfl rfl rfl ?_
          refine Ops.bsl (cs := #[I (lo + m)]) (fun β56 => ?_) rfl
          refine oe rfl wn rfl rfl (e_append (row := rowI) (l' := [lo + m]) rfl rfl rfl hS (.tail .head) (fun h2 _ hl => Sl.mk (hl β56 _ (.head _)) rfl (Part.all [I (lo + m)])) (by simp; omega) (by decide) rfl (fun v2 S2 hS2 => ?_))
          obtain ⟨s2, rfl⟩ := Sv.eta hS2
          refine Ops.bsl (cs := #[.slice s2.a s2.n s2.cap]) (fun β58 => ?_) rfl
          refine oe rfl wn rfl rfl (e_append (row := rowS) (l' := [s2]) rfl rfl rfl hN (.tail (.tail (.app (.tail (.tail (.app .head)))))) (fun h2 _ hl => Sl.mk (hl β58 _ (.head _)) rfl (Part.all (rowS s2))) (by simp; omega) (by decide) rfl (fun v3 N3 hN3 => ?_))
          obtain ⟨na3, nc3, rfl⟩ := hN3.isSl
          refine qs rfl rfl rfl <| Ops.nil <| blk_n <| thn_n <| W.region rfl <| qm rfl rfl rfl ?_
          first | refine oq (yadd rfl rfl rfl) rfl wn rfl rfl ?_ | refine oq (y_addw rfl rfl rfl) rfl wn rfl rfl ?_
          refine qs rfl rfl rfl <| Ops.nil <| thn_n ?_
          refine ⟨rfl, (m + 1, ns ++ [s2], na3, nc3, N3, C ++ S2), ⟨by simp only; omega, hN3, ?_⟩, by simp only; omega, ⟨lk rfl (show I _ = I _ by congr 1; omega), rfl, rfl, rfl, rfl, rfl, rfl, rfl, trivial⟩, .skip rfl (.skip rfl (.of_perm (perm_cnt fun y => ?_)))⟩
          · have := hC.snoc hS2
            simp only [numsN, List.map_append, List.map_cons, List.map_nil]
            rwa [← List.append_assoc]
          · simp only [List.count_append, List.count_cons, List.count_nil]; omega
        · refine W.exit <| thn_x <| thn_x <| blk_x <| blk_n <| thn_n <| W.region rfl <| qm rfl rfl rfl ?_
          first | refine oq (yadd rfl rfl rfl) rfl wn rfl rfl ?_ | refine oq (y_addw rfl rfl rfl) rfl wn rfl rfl ?_
          refine qs rfl rfl rfl <| Ops.nil <| thn_n ?_
          have hme : m = (hi' + 1 - lo).toNat := by omega
          subst hme
          exact ⟨rfl, (k + 1, ns, na, nc, N, C), ⟨by simp only; omega, hN, by simp only; rw [hss]; exact hC⟩, by simp only; omega, ⟨rfl, rfl, rfl, rfl, rfl, rfl, rfl, trivial⟩, .refl⟩
      · refine W.exit <| thn_x <| thn_x <| blk_x <| thn_n <| W.region rfl <| qm rfl rfl rfl <| qs rfl rfl rfl <| Ops.nil <| blk_n ?_
        refine thn_n <| W.region rfl <| qm rfl rfl rfl ?_
        first | refine oq (yadd rfl rfl rfl) rfl wn rfl rfl ?_ | refine oq (y_addw rfl rfl rfl) rfl wn rfl rfl ?_
        refine qs rfl rfl rfl <| Ops.nil <| thn_n ?_
        have hke : k = us.length := by omega
        subst hke
        rw [hul] at hC
        refine ⟨rfl, (i + 1, ns, na, nc, N, C), ⟨by simp only; omega, hN, by simp only; rw [hst]; exact hC⟩, by simp only; omega, ⟨rfl, rfl, rfl, rfl, trivial⟩, .skip rfl (.cons (Sb.left .refl (hO.shut.app hB.shut)))⟩
  · have hie : i = l.length := by omega
    subst hie
    rw [List.take_length] at hB
    have hHl := Nat.le_trans (heats_len hall hp hn l.length (Nat.le_refl _)) (pow6 (by omega))
    rw [List.take_length] at hHl
    refine W.exit <| thn_x <| thn_x <| blk_x <| thn_n <| W.seq <| W.region rfl <| qm rfl rfl rfl <| qs rfl rfl rfl <| Ops.nil ?_
    refine thn_n <| W.ret ?_
    exact lvt (vs := [_]) ⟨O, us, B, hO, hB, hHl, .skip rfl .refl⟩
end Go.Mus

/- Cones on a day, days between, what shows in a heat. Conditions: none; over the given program. -/
namespace Go.Mus
set_option maxRecDepth 100000
set_option maxHeartbeats 4000000
theorem heG_co {ss : List St} {l : List Be} {ht : List Int} {fs : List Fl} (hall : HallOK fs ss) {f d : Int} : ∀ k, 0 ≤ sumK (heG ss l ht f d) k ∧ sumK (heG ss l ht f d) k ≤ 6 * k
  | 0 => ⟨Int.le_refl _, Int.le_refl _⟩
  | k + 1 => by
    have := heG_co (ss := ss) (l := l) (ht := ht) hall (f := f) (d := d) k
    have hc := co_ok hall k
    have : 0 ≤ heG ss l ht f d k ∧ heG ss l ht f d k ≤ 6 := by simp only [heG]; split <;> omega
    rw [sumK]; omega
theorem cones_fn (main : Side) (h : Hp) (fs : List Fl) (ss : List St) (l : List Be) (ht : List Int) (f d : Int) (vf vs vl vh : Value) (hs : Sl h St.row vs ss) (hl : Sl h Be.row vl l) (hh : Sl h rowI vh ht) (hck : ckPlan fs ss l = 0) (hht : IsHeat fs l ht) : Pu prog main n_law_cones #[.agg #[vf, vs], vl, vh, I f, I d] h (I (conesF ss l ht f d)) := by
  obtain ⟨hall, hp, hn⟩ := plan_ck hck
  have hns := hall.ns
  obtain ⟨a', cap', rfl⟩ := hs.isSl
  obtain ⟨al, lc, rfl⟩ := hl.isSl
  obtain ⟨ah, hc, rfl⟩ := hh.isSl
  refine Fnc.of_body at_law_cones rfl (by show 5 ≤ 58; decide) [(0, .agg #[vf, .slice a' ss.length cap']), (1, .slice al l.length lc), (2, .slice ah ht.length hc), (3, I f), (4, I d)] ⟨rfl, rfl, rfl, rfl, rfl, trivial⟩ ?_
  refine W.seq <| W.region rfl ?_
  refine Ops.box (cs := #[vf, .slice a' ss.length cap']) (fun β5 => ?_) rfl rfl rfl
  refine qs rfl rfl rfl <| Ops.nil <| thn_n <| W.seq <| W.region rfl <| qs rfl rfl rfl <| Ops.nil <| thn_n <| W.seq <| W.seq ?_
  refine W.region rfl <| qs rfl rfl rfl <| Ops.nil <| thn_n <| W.block ?_
  refine W.loop (σ := Nat) (fun k => k ≤ l.length) (fun k => [(12, I k), (11, I (sumK (heG ss l ht f d) k)), (5, .pointer (some ⟨β5, 0, none⟩)), (1, .slice al l.length lc), (2, .slice ah ht.length hc), (3, I f), (4, I d)]) (fun _ => [(β5, .cells #[vf, .slice a' ss.length cap'] t_Plant (0, 0))]) (fun k => l.length - k) 0 (Nat.zero_le _) ⟨rfl, rfl, rfl, rfl, rfl, rfl, rfl, trivial⟩ .refl ?_
  rintro k hk
  refine W.seq <| W.seq <| W.region rfl <| qm rfl rfl rfl <| qm rfl rfl rfl ?_
  refine oq (y_len rfl rfl) rfl wn rfl rfl ?_
  refine oq (y_lss rfl rfl rfl) rfl wn rfl rfl ?_
  refine Ops.nil <| thn_n ?_
  refine W.condp rfl (fun c16 => ?_) (fun c16 => ?_)
  · have hk1 : k < l.length := by omega
    have hb0 := be_some hall hp hn hk1
    have hpo := hp.ok.ok _ (List.mem_append_left _ (List.mem_of_getElem? hb0))
    have hsp := span_le hall hp hn (List.mem_of_getElem? hb0)
    have hhk := hht.2 k _ hb0
    have hhl := hht.1
    have hh0 : ht[k]? = some (ht.getD k 0) := by
      have := hht.1
      simp [List.getD, List.getElem?_eq_getElem (show k < ht.length by omega)]
    obtain ⟨s, hs0, -⟩ := has (show k < ss.length by omega)
    have hsa : stAt ss k = s := by simp [stAt, List.getD, hs0]
    have hco := co_ok hall k
    have hsum := heG_co (l := l) (ht := ht) hall (f := f) (d := d) k
    rw [hsa] at hco
    obtain ⟨bl, offl, cl, El, fzl, rfl, hbl, -, hyl, hzl⟩ := hl.at hb0
    have hfl0 : cl[offl + k * 2 + 0]? = some (I (beAt l k).fl) := hzl 0 (by decide)
    have hfl1 : cl[offl + k * 2 + 1]? = some (I (beAt l k).day) := hzl 1 (by decide)
    clear hzl
    obtain ⟨bh, offh, ch, Eh, fzh, rfl, hbh, -, hyh, hzh⟩ := hh.at hh0
    have hfh : ch[offh + k * 1 + 0]? = some (I (ht.getD k 0)) := hzh 0 (by decide)
    clear hzh
    obtain ⟨bs, offs, cs, Es, fzs, rfl, hbs, -, hys, hzs⟩ := hs.at hs0
    have hfs : cs[offs + k * 3 + 1]? = some (I s.co) := hzs 1 (by decide)
    clear hzs
    generalize hb : beAt l k = b at *
    generalize hq : ht.getD k 0 = q at *
    refine W.skip <| thn_n <| W.seq <| W.block <| W.seq ?_
    refine W.drawF (n := 30) rfl ?_
    refine aq (i := 0) (y_move rfl rfl) rfl an rfl rfl ?_
    refine aq (i := 1) (y_move rfl rfl) rfl an rfl rfl ?_
    first | refine aq (i := 2) (yix rfl rfl rfl) rfl an rfl rfl ?_ | refine aq (i := 2) (yixI rfl rfl rfl) rfl an rfl rfl ?_
    refine aq (i := 3) (y_fieldAddr rfl rfl) rfl an rfl rfl ?_
    refine aq (i := 4) (yld rfl rfl) rfl an rfl rfl ?_
    refine aq (i := 5) (y_move rfl rfl) rfl an rfl rfl ?_
    refine aq (i := 6) (y_eql rfl rfl rfl) rfl an rfl rfl ?_
    refine aq (i := 7) (y_move rfl rfl) rfl an rfl rfl ?_
    refine Any.ask (d' := 26) (fun a5_8 => ?_) (fun a5_8 => ?_)
    · refine aq (i := 8) (y_move rfl rfl) rfl (wantε_some rfl rfl rfl rfl) rfl rfl ?_
      refine aq (i := 9) (y_move rfl rfl) rfl (wantε_some rfl rfl rfl rfl) rfl rfl ?_
      refine aq (i := 10) (y_move rfl rfl) rfl (wantε_some rfl rfl rfl rfl) rfl rfl ?_
      first | refine aq (i := 11) (yix rfl rfl rfl) rfl (wantε_some rfl rfl rfl rfl) rfl rfl ?_ | refine aq (i := 11) (yixI rfl rfl rfl) rfl (wantε_some rfl rfl rfl rfl) rfl rfl ?_
      refine aq (i := 12) (y_fieldAddr rfl rfl) rfl (wantε_some rfl rfl rfl rfl) rfl rfl ?_
      refine aq (i := 13) (yld rfl rfl) rfl (wantε_some rfl rfl rfl rfl) rfl rfl ?_
      refine aq (i := 14) (y_geq rfl rfl rfl) rfl (wantε_some rfl rfl rfl rfl) rfl rfl ?_
      refine aq (i := 15) (y_pickT rfl rfl rfl) rfl an rfl rfl ?_
      refine aq (i := 16) (y_move rfl rfl) rfl an rfl rfl ?_
      refine Any.ask (d' := 35) (fun a5_17 => ?_) (fun a5_17 => ?_)
      · refine aq (i := 17) (y_move rfl rfl) rfl (wantε_some rfl rfl rfl rfl) rfl rfl ?_
        refine aq (i := 18) (y_move rfl rfl) rfl (wantε_some rfl rfl rfl rfl) rfl rfl ?_
        refine aq (i := 19) (y_move rfl rfl) rfl (wantε_some rfl rfl rfl rfl) rfl rfl ?_
        first | refine aq (i := 20) (yix rfl rfl rfl) rfl (wantε_some rfl rfl rfl rfl) rfl rfl ?_ | refine aq (i := 20) (yixI rfl rfl rfl) rfl (wantε_some rfl rfl rfl rfl) rfl rfl ?_
        refine aq (i := 21) (y_fieldAddr rfl rfl) rfl (wantε_some rfl rfl rfl rfl) rfl rfl ?_
        refine aq (i := 22) (yld rfl rfl) rfl (wantε_some rfl rfl rfl rfl) rfl rfl ?_
        refine aq (i := 23) (y_move rfl rfl) rfl (wantε_some rfl rfl rfl rfl) rfl rfl ?_
        refine aq (i := 24) (y_move rfl rfl) rfl (wantε_some rfl rfl rfl rfl) rfl rfl ?_
        first | refine aq (i := 25) (yix rfl rfl rfl) rfl (wantε_some rfl rfl rfl rfl) rfl rfl ?_ | refine aq (i := 25) (yixI rfl rfl rfl) rfl (wantε_some rfl rfl rfl rfl) rfl rfl ?_
        refine aq (i := 26) (yld rfl rfl) rfl (wantε_some rfl rfl rfl rfl) rfl rfl ?_
        refine aq (i := 27) (yadd rfl rfl rfl) rfl (wantε_some rfl rfl rfl rfl) rfl rfl ?_
        refine aq (i := 28) (y_lss rfl rfl rfl) rfl (wantε_some rfl rfl rfl rfl) rfl rfl ?_
        refine aq (i := 29) (y_pickT rfl rfl rfl) rfl an rfl rfl ?_
        refine az ?_
        refine thn_n ?_
        refine W.condp rfl (fun c48 => ?_) (fun c48 => ?_)
        · refine W.region rfl <| qm rfl rfl rfl ?_
          refine oq (y_fieldAddr rfl rfl) rfl wn rfl rfl ?_
          refine oq (yld rfl rfl) rfl wn rfl rfl ?_
          refine qm rfl rfl rfl ?_
          first | refine oq (yix rfl rfl rfl) rfl wn rfl rfl ?_ | refine oq (yixI rfl rfl rfl) rfl wn rfl rfl ?_
          refine oq (y_fieldAddr rfl rfl) rfl wn rfl rfl ?_
          refine oq (yld rfl rfl) rfl wn rfl rfl ?_
          refine oq (yadd rfl rfl rfl) rfl wn rfl rfl ?_
          refine qs rfl rfl rfl <| Ops.nil <| blk_n <| thn_n <| W.region rfl <| qm rfl rfl rfl ?_
          first | refine oq (yadd rfl rfl rfl) rfl wn rfl rfl ?_ | refine oq (y_addw rfl rfl rfl) rfl wn rfl rfl ?_
          refine qs rfl rfl rfl <| Ops.nil <| thn_n ?_
          have hg : heG ss l ht f d k = s.co := by simp only [heG, hb, hq, hsa]; exact if_pos (by omega)
          exact ⟨rfl, k + 1, by omega, by omega, ⟨rfl, lk rfl (show I _ = I _ by rw [sumK, hg]), rfl, rfl, rfl, rfl, rfl, trivial⟩, .refl⟩
        · refine W.skip <| blk_n <| thn_n <| W.region rfl <| qm rfl rfl rfl ?_
          first | refine oq (yadd rfl rfl rfl) rfl wn rfl rfl ?_ | refine oq (y_addw rfl rfl rfl) rfl wn rfl rfl ?_
          refine qs rfl rfl rfl <| Ops.nil <| thn_n ?_
          have hg : heG ss l ht f d k = 0 := by simp only [heG, hb, hq]; exact if_neg (by omega)
          exact ⟨rfl, k + 1, by omega, by omega, ⟨rfl, lk rfl (show I _ = I _ by rw [sumK, hg, Int.add_zero]), rfl, rfl, rfl, rfl, rfl, trivial⟩, .refl⟩
      · refine ap (i := 17) rfl rfl rfl rfl rfl rfl ?_
        refine ap (i := 18) rfl rfl rfl rfl rfl rfl ?_
        refine ap (i := 19) rfl rfl rfl rfl rfl rfl ?_
        refine ap (i := 20) rfl rfl rfl rfl rfl rfl ?_
        refine ap (i := 21) rfl rfl rfl rfl rfl rfl ?_
        refine ap (i := 22) rfl rfl rfl rfl rfl rfl ?_
        refine ap (i := 23) rfl rfl rfl rfl rfl rfl ?_
        refine ap (i := 24) rfl rfl rfl rfl rfl rfl ?_
        refine ap (i := 25) rfl rfl rfl rfl rfl rfl ?_
        refine ap (i := 26) rfl rfl rfl rfl rfl rfl ?_
        refine ap (i := 27) rfl rfl rfl rfl rfl rfl ?_
        refine ap (i := 28) rfl rfl rfl rfl rfl rfl ?_
        refine aq (i := 29) (y_pickF rfl rfl rfl) rfl an rfl rfl ?_
        refine az ?_
        refine thn_n ?_
        refine W.condF ?_
        refine W.skip <| blk_n <| thn_n <| W.region rfl <| qm rfl rfl rfl ?_
        first | refine oq (yadd rfl rfl rfl) rfl wn rfl rfl ?_ | refine oq (y_addw rfl rfl rfl) rfl wn rfl rfl ?_
        refine qs rfl rfl rfl <| Ops.nil <| thn_n ?_
        have hg : heG ss l ht f d k = 0 := by simp only [heG, hb, hq]; exact if_neg (by omega)
        exact ⟨rfl, k + 1, by omega, by omega, ⟨rfl, lk rfl (show I _ = I _ by rw [sumK, hg, Int.add_zero]), rfl, rfl, rfl, rfl, rfl, trivial⟩, .refl⟩
    · refine ap (i := 8) rfl rfl rfl rfl rfl rfl ?_
      refine ap (i := 9) rfl rfl rfl rfl rfl rfl ?_
      refine ap (i := 10) rfl rfl rfl rfl rfl rfl ?_
      refine ap (i := 11) rfl rfl rfl rfl rfl rfl ?_
      refine ap (i := 12) rfl rfl rfl rfl rfl rfl ?_
      refine ap (i := 13) rfl rfl rfl rfl rfl rfl ?_
      refine ap (i := 14) rfl rfl rfl rfl rfl rfl ?_
      refine aq (i := 15) (y_pickF rfl rfl rfl) rfl an rfl rfl ?_
      refine aq (i := 16) (y_move rfl rfl) rfl an rfl rfl ?_
      refine ap (i := 17) rfl rfl rfl rfl rfl rfl ?_
      refine ap (i := 18) rfl rfl rfl rfl rfl rfl ?_
      refine ap (i := 19) rfl rfl rfl rfl rfl rfl ?_
      refine ap (i := 20) rfl rfl rfl rfl rfl rfl ?_
      refine ap (i := 21) rfl rfl rfl rfl rfl rfl ?_
      refine ap (i := 22) rfl rfl rfl rfl rfl rfl ?_
      refine ap (i := 23) rfl rfl rfl rfl rfl rfl ?_
      refine ap (i := 24) rfl rfl rfl rfl rfl rfl ?_
      refine ap (i := 25) rfl rfl rfl rfl rfl rfl ?_
      refine ap (i := 26) rfl rfl rfl rfl rfl rfl ?_
      refine ap (i := 27) rfl rfl rfl rfl rfl rfl ?_
      refine ap (i := 28) rfl rfl rfl rfl rfl rfl ?_
      refine aq (i := 29) (y_pickF rfl rfl rfl) rfl an rfl rfl ?_
      refine az ?_
      refine thn_n ?_
      refine W.condF ?_
      refine W.skip <| blk_n <| thn_n <| W.region rfl <| qm rfl rfl rfl ?_
      first | refine oq (yadd rfl rfl rfl) rfl wn rfl rfl ?_ | refine oq (y_addw rfl rfl rfl) rfl wn rfl rfl ?_
      refine qs rfl rfl rfl <| Ops.nil <| thn_n ?_
      have hg : heG ss l ht f d k = 0 := by simp only [heG, hb, hq]; exact if_neg (by omega)
      exact ⟨rfl, k + 1, by omega, by omega, ⟨rfl, lk rfl (show I _ = I _ by rw [sumK, hg, Int.add_zero]), rfl, rfl, rfl, rfl, rfl, trivial⟩, .refl⟩
  · have hke : k = l.length := by omega
    subst hke
    refine W.exit <| thn_x <| thn_x <| blk_x <| thn_n <| W.seq <| W.region rfl <| qm rfl rfl rfl <| qs rfl rfl rfl <| Ops.nil ?_
    refine thn_n <| W.ret ?_
    exact lvp (hs := .cons rfl .nil) rfl

end Go.Mus

/- Whatever the heat is. Conditions: none; over the given program. -/
namespace Go.Mus
set_option maxRecDepth 100000
set_option maxHeartbeats 4000000
end Go.Mus

/- When a floor is empty, when cones are done, days of doubt; what is said of them by all heats. Conditions: none. -/
namespace Go.Mus
def emptyS (s : Sp) : Int := if s.lo = 0 ∧ s.hi = 0 then 1 else if 0 < s.lo then 2 else 3
def emptyV (fs : List Fl) (ss : List St) (l : List Be) (f d : Int) : Int × Int :=
  if (standsV fs ss l f d).2 ≠ 0 then (0, (standsV fs ss l f d).2) else (emptyS (standsV fs ss l f d).1, 0)
def readyV (fs : List Fl) (ss : List St) (l : List Be) (i : Int) : Sp × Int :=
  if askE fs ss l [] ≠ 0 then (⟨0, 0⟩, askE fs ss l []) else if outs i 0 (ss.length - 1) then (⟨0, 0⟩, 3) else if (beAt l i.toNat).fl < 0 then (⟨0, 0⟩, 8)
  else (⟨(beAt l i.toNat).day + (flAt fs (beAt l i.toNat).fl).lo, (beAt l i.toNat).day + (flAt fs (beAt l i.toNat).fl).hi⟩, 0)
def dbK (f : Nat) (D : List Sp) : Nat → List (List Int)
  | 0 => []
  | d + 1 => if (D.getD d ⟨0, 0⟩).lo ≠ (D.getD d ⟨0, 0⟩).hi then dbK f D d ++ [[(f : Int), (d : Int)]] else dbK f D d
def dbF (fs : List Fl) (ss : List St) (p : List Be) : Nat → List (List Int)
  | 0 => []
  | f + 1 => dbF fs ss p f ++ dbK f (standsD fs ss p f) 22
def doubtV (fs : List Fl) (ss : List St) (l : List Be) : List (List Int) × Int :=
  if askE fs ss l [] ≠ 0 then ([], askE fs ss l []) else (dbF fs ss (padB l) fs.length, 0)
theorem dbK_len {f : Nat} {D : List Sp} : ∀ k, (dbK f D k).length ≤ k
  | 0 => Nat.le_refl _
  | k + 1 => by
    have := dbK_len (f := f) (D := D) k
    rw [dbK]; split
    · rw [List.length_append, List.length_singleton]; omega
    · omega
theorem dbF_len {fs : List Fl} {ss : List St} {p : List Be} : ∀ k, (dbF fs ss p k).length ≤ 22 * k
  | 0 => Nat.le_refl _
  | k + 1 => by
    have := dbF_len (fs := fs) (ss := ss) (p := p) k
    have := dbK_len (f := k) (D := standsD fs ss p k) 22
    rw [dbF, List.length_append]; omega
theorem dbK_zero {f : Nat} : ∀ k, dbK f days0 k = []
  | 0 => rfl
  | k + 1 => by
    have e : days0.getD k (⟨0, 0⟩ : Sp) = ⟨0, 0⟩ := by
      simp only [days0, List.getD, List.getElem?_replicate]; split <;> rfl
    rw [dbK, e, if_neg (by simp), dbK_zero k]
theorem dbK_pre {f : Nat} {D : List Sp} {d : Nat} : ∀ k, d ≤ k → ∃ R, dbK f D k = dbK f D d ++ R
  | 0, h => by obtain rfl : d = 0 := by omega
               exact ⟨[], rfl⟩
  | k + 1, h => by
    rcases Nat.lt_or_ge d (k + 1) with h' | h'
    · obtain ⟨R, hR⟩ := dbK_pre (f := f) (D := D) (d := d) k (by omega)
      rw [dbK, hR]
      split
      · exact ⟨R ++ [[(f : Int), (k : Int)]], by rw [List.append_assoc]⟩
      · exact ⟨R, rfl⟩
    · obtain rfl : d = k + 1 := by omega
      exact ⟨[], (List.append_nil _).symm⟩
theorem dbF_pre {fs : List Fl} {ss : List St} {p : List Be} {f : Nat} : ∀ k, f ≤ k → ∃ R, dbF fs ss p k = dbF fs ss p f ++ R
  | 0, h => by obtain rfl : f = 0 := by omega
               exact ⟨[], rfl⟩
  | k + 1, h => by
    rcases Nat.lt_or_ge f (k + 1) with h' | h'
    · obtain ⟨R, hR⟩ := dbF_pre (fs := fs) (ss := ss) (p := p) (f := f) k (by omega)
      rw [dbF, hR]
      exact ⟨R ++ _, by rw [List.append_assoc]⟩
    · obtain rfl : f = k + 1 := by omega
      exact ⟨[], (List.append_nil _).symm⟩
/-- The place of a day of doubt among all. -/
theorem db_at {fs : List Fl} {ss : List St} {p : List Be} {n f d : Nat} (hf : f < n) (hd : d < 22) (hne : ((standsD fs ss p f).getD d ⟨0, 0⟩).lo ≠ ((standsD fs ss p f).getD d ⟨0, 0⟩).hi) : (dbF fs ss p n)[(dbF fs ss p f).length + (dbK f (standsD fs ss p f) d).length]? = some [(f : Int), (d : Int)] := by
  obtain ⟨R, hR⟩ := dbF_pre (fs := fs) (ss := ss) (p := p) (f := f + 1) n (by omega)
  obtain ⟨R2, hR2⟩ := dbK_pre (f := f) (D := standsD fs ss p f) (d := d + 1) 22 (by omega)
  rw [hR, dbF, hR2, dbK, if_pos hne]
  simp only [List.append_assoc]
  rw [← List.append_assoc, List.getElem?_append_right (by rw [List.length_append]; omega), List.length_append, Nat.sub_self]
  rfl

/-! Counted over all heats -/
def cntZ (g : Nat → Int) : Nat → Int
  | 0 => 0
  | k + 1 => if g k = 0 then cntZ g k + 1 else cntZ g k
theorem cntZ_le {g : Nat → Int} : ∀ k, 0 ≤ cntZ g k ∧ cntZ g k ≤ k
  | 0 => ⟨Int.le_refl _, Int.le_refl _⟩
  | k + 1 => by
    have := cntZ_le (g := g) k
    rw [cntZ]; split <;> omega
theorem cntZ_0 {g : Nat → Int} : ∀ {k : Nat}, cntZ g k = 0 ↔ ∀ i, i < k → g i ≠ 0
  | 0 => ⟨fun _ i hi => by omega, fun _ => rfl⟩
  | k + 1 => by
    have h1 := cntZ_le (g := g) k
    have ih := cntZ_0 (g := g) (k := k)
    rw [cntZ]
    split
    · rename_i h
      exact ⟨fun h' => by omega, fun h' => absurd h (h' k (by omega))⟩
    · rename_i h
      rw [ih]
      refine ⟨fun h' i hi => ?_, fun h' i hi => h' i (by omega)⟩
      rcases (by omega : i < k ∨ i = k) with h2 | rfl
      · exact h' i h2
      · exact h
theorem cntZ_all {g : Nat → Int} : ∀ {k : Nat}, cntZ g k = k ↔ ∀ i, i < k → g i = 0
  | 0 => ⟨fun _ i hi => by omega, fun _ => rfl⟩
  | k + 1 => by
    have h1 := cntZ_le (g := g) k
    have ih := cntZ_all (g := g) (k := k)
    rw [cntZ]
    split
    · rename_i h
      constructor
      · intro h' i hi
        rcases (by omega : i < k ∨ i = k) with h2 | rfl
        · exact ih.1 (by omega) i h2
        · exact h
      · intro h'
        have := ih.2 fun i hi => h' i (by omega)
        omega
    · rename_i h
      exact ⟨fun h' => by omega, fun h' => absurd (h' k (by omega)) h⟩
def hcone (ss : List St) (l : List Be) (H : List (List Int)) (f d : Int) (k : Nat) : Int := conesF ss l (H.getD k []) f d
def MmS (g : Nat → Int) (k : Nat) (lo hi : Int) : Prop := (k = 0 ∧ lo = 0 ∧ hi = 0) ∨ (0 < k ∧ (∀ i, i < k → lo ≤ g i ∧ g i ≤ hi) ∧ (∃ i, i < k ∧ g i = lo) ∧ ∃ i, i < k ∧ g i = hi)
theorem MmS.first {g : Nat → Int} {lo hi : Int} (h : MmS g 0 lo hi) : MmS g 1 (min (g 0) (g 0)) (max (g 0) (g 0)) := by
  refine .inr ⟨by omega, fun i hi => ?_, ⟨0, by omega, by omega⟩, ⟨0, by omega, by omega⟩⟩
  obtain rfl : i = 0 := by omega
  omega
theorem MmS.next {g : Nat → Int} {k : Nat} {lo hi : Int} (h : MmS g k lo hi) (hk : k ≠ 0) : MmS g (k + 1) (min lo (g k)) (max hi (g k)) := by
  rcases h with ⟨rfl, -, -⟩ | ⟨h0, h1, ⟨i, hi1, hi2⟩, ⟨j, hj1, hj2⟩⟩
  · exact absurd rfl hk
  refine .inr ⟨by omega, fun x hx => ?_, ?_, ?_⟩
  · rcases (by omega : x < k ∨ x = k) with h | rfl
    · have := h1 x h; omega
    · omega
  · rcases Int.le_total lo (g k) with h | h
    · exact ⟨i, by omega, by omega⟩
    · exact ⟨k, by omega, by omega⟩
  · rcases Int.le_total hi (g k) with h | h
    · exact ⟨k, by omega, by omega⟩
    · exact ⟨j, by omega, by omega⟩
theorem all_empty {g : Nat → Int} {n : Nat} {lo hi : Int} (h : MmS g n lo hi) (hn : 0 < n) (hg : ∀ i, i < n → 0 ≤ g i) : emptyS ⟨lo, hi⟩ = if cntZ g n = 0 then 2 else if cntZ g n = n then 1 else 3 := by
  rcases h with ⟨h, -⟩ | ⟨-, h1, ⟨i, hi1, hi2⟩, ⟨j, hj1, hj2⟩⟩
  · omega
  have q0 := cntZ_0 (g := g) (k := n)
  have q1 := cntZ_all (g := g) (k := n)
  unfold emptyS
  simp only
  have gi := hg i hi1
  have gj := hg j hj1
  by_cases c1 : lo = 0 ∧ hi = 0
  · have : cntZ g n = n := q1.2 fun x hx => by have := h1 x hx; omega
    rw [if_pos c1, if_neg (by omega), if_pos this]
  · have hne : cntZ g n ≠ n := fun h => by
      have := q1.1 h j hj1
      have := q1.1 h i hi1
      omega
    rw [if_neg c1, if_neg hne]
    by_cases c2 : 0 < lo
    · rw [if_pos c2, if_pos (q0.2 fun x hx => by have := h1 x hx; omega)]
    · rw [if_neg c2, if_neg fun h => q0.1 h i hi1 (by omega)]
theorem MmS.eq {g : Nat → Int} {n : Nat} {lo hi lo' hi' : Int} (h : MmS g n lo hi) (h' : MmS g n lo' hi') : lo = lo' ∧ hi = hi' := by
  rcases h with ⟨rfl, rfl, rfl⟩ | ⟨h0, h1, ⟨i, hi1, hi2⟩, ⟨j, hj1, hj2⟩⟩ <;> rcases h' with ⟨h0', rfl, rfl⟩ | ⟨h0', h1', ⟨i', hi1', hi2'⟩, ⟨j', hj1', hj2'⟩⟩
  · exact ⟨rfl, rfl⟩
  · omega
  · omega
  · have := h1 i' hi1'
    have := h1 j' hj1'
    have := h1' i hi1
    have := h1' j hj1
    omega
theorem lo_sum {fs : List Fl} {ss : List St} {l : List Be} (hall : HallOK fs ss) (hn : l.length = ss.length) {f d : Int} (h0 : 0 ≤ f) : loAt fs ss (padB l) f d = sumK (loG fs ss l f d) l.length := by
  have h4 := hall.ns
  have e : loAt fs ss (padB l) f d = sumK (loG fs ss l f d) 4 := sumK_congr fun i _ => by simp only [loG, be_pad]
  rw [e]
  refine sumK_ext (by omega) fun i hi _ => ?_
  simp only [loG, be_out hi, bnone]
  rw [if_neg (by omega)]
theorem cones_ge {fs : List Fl} {ss : List St} {l : List Be} (hall : HallOK fs ss) (hp : PlanOf fs ss (padB l)) (hn : l.length = ss.length) {h : List Int} (hh : IsHeat fs l h) {f d : Int} (h0 : 0 ≤ f) : loAt fs ss (padB l) f d ≤ conesF ss l h f d := by
  rw [lo_sum hall hn h0]
  refine sumK_le fun i hi => ?_
  have hc := (co_ok hall i).1
  simp only [heG, loG]
  by_cases c : (beAt l i).fl = f ∧ (beAt l i).day ≤ d ∧ d < (beAt l i).day + (flAt fs f).lo
  · have := heat_at hall hp hn hh hi h0 c.1
    rw [if_pos c, if_pos (by omega)]; exact Int.le_refl _
  · rw [if_neg c]; split <;> omega
/-- ████ What stands is what all heats say. -/
theorem all_stands {fs : List Fl} {ss : List St} {l : List Be} (hall : HallOK fs ss) (hp : PlanOf fs ss (padB l)) (hn : l.length = ss.length) {f d : Int} (h0 : 0 ≤ f) : MmS (hcone ss l (heatsF fs l) f d) (heatsF fs l).length (loAt fs ss (padB l) f d) (hiAt fs ss (padB l) f d) := by
  have hlo : (l.map fun b => (spanOf fs b).1) ∈ heatsF fs l := mem_heats.2 (isHeat_map hall hp hn fun b hb => ⟨Int.le_refl _, span_ok hall hp hn hb⟩)
  have hhi : (l.map fun b => (spanOf fs b).2) ∈ heatsF fs l := mem_heats.2 (isHeat_map hall hp hn fun b hb => ⟨span_ok hall hp hn hb, Int.le_refl _⟩)
  have hat : ∀ (i : Nat) (g : List Int), (heatsF fs l)[i]? = some g → hcone ss l (heatsF fs l) f d i = conesF ss l g f d := fun i g hi => by simp [hcone, List.getD, hi]
  have e1 : conesF ss l (l.map fun b => (spanOf fs b).1) f d = loAt fs ss (padB l) f d := by
    rw [lo_sum hall hn h0]
    exact sumK_congr fun i hi => by
      simp only [heG, loG, map_at hall hp hn hi, spanOf]
      by_cases c : (beAt l i).fl = f
      · rw [c, if_pos h0]
      · rw [if_neg (fun x => c x.1), if_neg (fun x => c x.1)]
  have e2 : conesF ss l (l.map fun b => (spanOf fs b).2) f d = hiAt fs ss (padB l) f d := by
    rw [hi_sum hall hp hn h0]
    exact sumK_congr fun i hi => by
      simp only [heG, hiG, map_at hall hp hn hi, spanOf]
      by_cases c : (beAt l i).fl = f
      · rw [c, if_pos h0]
      · rw [if_neg (fun x => c x.1), if_neg (fun x => c x.1)]
  obtain ⟨i, hi⟩ := List.mem_iff_getElem?.1 hlo
  obtain ⟨j, hj⟩ := List.mem_iff_getElem?.1 hhi
  refine .inr ⟨by have := lt_of_get hi; omega, fun k hk => ?_, ⟨i, lt_of_get hi, by rw [hat _ _ hi, e1]⟩, ⟨j, lt_of_get hj, by rw [hat _ _ hj, e2]⟩⟩
  obtain ⟨g, hg, -⟩ := has hk
  have hm := mem_heats.1 (List.mem_of_getElem? hg)
  rw [hat _ _ hg]
  exact ⟨cones_ge hall hp hn hm h0, cones_le hall hp hn hm h0⟩
theorem ask_nil {fs : List Fl} {ss : List St} {l : List Be} (h : ckPlan fs ss l = 0) : askE fs ss l [] = 0 := by
  unfold askE; rw [if_neg (by simp [h]), if_neg (by simp [badF])]
theorem stands_val {fs : List Fl} {ss : List St} {l : List Be} (h : ckPlan fs ss l = 0) {f d : Nat} (hf : f < fs.length) (hd : d < 22) : standsV fs ss l f d = (⟨loAt fs ss (padB l) f d, hiAt fs ss (padB l) f d⟩, 0) := by
  obtain ⟨hall, hp, hn⟩ := plan_ck h
  have hbf : badF fs.length [(f : Int)] = false := by
    simp only [badF]; rw [if_neg (by unfold outs; omega)]
  rw [standsV, if_neg (by rw [ask_ok h hbf]; decide), if_neg (by unfold outs; omega), Int.toNat_natCast, List.getD, standsD_at hall hp.ok (by omega) (by omega) hd]
  rfl
theorem stands_get {fs : List Fl} {ss : List St} {l : List Be} (h : ckPlan fs ss l = 0) {f d : Nat} (hf : f < fs.length) (hd : d < 22) : (standsD fs ss (padB l) f).getD d ⟨0, 0⟩ = ⟨loAt fs ss (padB l) f d, hiAt fs ss (padB l) f d⟩ := by
  obtain ⟨hall, hp, hn⟩ := plan_ck h
  rw [List.getD, standsD_at hall hp.ok (by omega) (by omega) hd]
  rfl
end Go.Mus
