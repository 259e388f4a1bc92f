/- The best plans; when all strikes can be set; the first that can't. Conditions: none. (And 30 texts more.) -/
import Derived.Test.YtabnpjbnoedfgaaDoorFloorBestQ1
import Derived.Test.YtabnpjbnoedfgaaDoorR09
import Derived.Test.YtabnpjbnoedfgaaDoorR06
set_option linter.unusedVariables false
set_option linter.unusedSimpArgs false
set_option linter.unusedSectionVars false

/- The best plans; when all strikes can be set; the first that can't. Conditions: none. -/
namespace Go.Mus
/-! Each plan once -/
theorem daysFrom_nodup {f : Int} : ∀ (m : Nat) (d : Int), (daysFrom f d m).Nodup
  | 0, _ => .nil
  | m + 1, d => by
    rw [daysFrom, List.nodup_cons]
    refine ⟨fun h => ?_, daysFrom_nodup m (d + 1)⟩
    have := (mem_daysFrom h).2.1
    simp only at this; omega
theorem floorsFrom_nodup {s : St} : ∀ (m : Nat) (f : Int), (floorsFrom s f m).Nodup
  | 0, _ => .nil
  | m + 1, f => by
    rw [floorsFrom, List.nodup_append]
    refine ⟨daysFrom_nodup _ _, floorsFrom_nodup m (f + 1), fun a ha b hb e => ?_⟩
    subst e
    have h1 := (mem_daysFrom ha).1
    have h2 := (mem_floorsFrom hb).1
    omega
theorem berthsK_nodup {fs : List Fl} {ss : List St} {may : May} {k : Nat} : (berthsK fs ss may k).Nodup := by
  rw [berthsK, List.nodup_append]
  refine ⟨by split <;> simp, ?_, fun a ha b hb e => ?_⟩
  · split
    · exact floorsFrom_nodup _ _
    · exact .nil
  subst e
  split at ha
  · have : a = bnone := by simpa using ha
    subst this
    split at hb
    · have := (mem_floorsFrom hb).1; simp [bnone] at this
    · cases hb
  · cases ha
theorem rights_at {fs : List Fl} {ss : List St} {may : May} (hall : HallOK fs ss) {m k : Nat} {q p : List Be} {b : Be} (hk : k + 1 + m = ss.length) (hq : PlanOf fs ss q) (hn : ∀ i, k ≤ i → beAt q i = bnone) (hb : b ∈ berthsK fs ss may k) (h : p ∈ rights fs ss may m (k + 1) (q.set k b)) : beAt p k = b := by
  have hk4 : k < q.length := by have := hall.ns; have := hq.ok.len; omega
  have := ((mem_rights hall m (k + 1) (q.set k b) p (by omega) (plan_set hq (by omega) (berth_ok hall (by omega) hb)) (fun i hi => by rw [beAt_set hk4, if_neg (by omega)]; exact hn i (by omega))).1 h).2.1 k (by omega)
  rw [this, beAt_set hk4, if_pos rfl]
theorem rights_nodup {fs : List Fl} {ss : List St} {may : May} (hall : HallOK fs ss) : ∀ (m k : Nat) (q : List Be), k + m = ss.length → PlanOf fs ss q → (∀ i, k ≤ i → beAt q i = bnone) → (rights fs ss may m k q).Nodup
  | 0, k, q, _, _, _ => by
    rw [rights]; split <;> simp
  | m + 1, k, q, hk, hq, hn => by
    have hk4 : k < q.length := by have := hall.ns; have := hq.ok.len; omega
    rw [rights, List.Nodup, List.pairwise_flatMap]
    refine ⟨fun b hb => ?_, ?_⟩
    · split
      · exact .nil
      · exact rights_nodup hall m (k + 1) _ (by omega) (plan_set hq (by omega) (berth_ok hall (by omega) hb)) (fun i hi => by rw [beAt_set hk4, if_neg (by omega)]; exact hn i (by omega))
    · refine (berthsK_nodup (fs := fs) (ss := ss) (may := may) (k := k)).imp_of_mem fun {a b} ha hb hab x hx y hy e => ?_
      subst e
      split at hx
      · cases hx
      · split at hy
        · cases hy
        · exact hab ((rights_at hall (by omega) hq hn ha hx).symm.trans (rights_at hall (by omega) hq hn hb hy))
theorem allF_nodup {fs : List Fl} {ss : List St} {may : May} (hall : HallOK fs ss) : (allF fs ss may).Nodup := by
  unfold allF
  split
  · exact rights_nodup hall _ _ _ (by simp) (pad_nil hall.nf.1) (fun i _ => beAt_nil i)
  · rename_i hs
    have hall1 : ∀ b, b ∈ berthsK fs ss may 0 → ∀ i, 1 ≤ i → beAt ((padB []).set 0 b) i = bnone := fun b _ i hi => by rw [beAt_set (by decide), if_neg (by omega)]; exact beAt_nil i
    rw [List.Nodup, List.pairwise_flatMap]
    refine ⟨fun b hb => ?_, ?_⟩
    · rw [rightsOf, List.length_singleton, pad_one]
      exact rights_nodup hall _ _ _ (by omega) (plan_set (pad_nil hall.nf.1) (by omega) (berth_ok hall (by omega) hb)) (hall1 b hb)
    · refine (berthsK_nodup (fs := fs) (ss := ss) (may := may) (k := 0)).imp_of_mem fun {a b} ha hb hab x hx y hy e => ?_
      subst e
      rw [rightsOf, List.length_singleton, pad_one] at hx hy
      exact hab ((rights_at hall (by omega) (pad_nil hall.nf.1) (fun i _ => beAt_nil i) ha hx).symm.trans (rights_at hall (by omega) (pad_nil hall.nf.1) (fun i _ => beAt_nil i) hb hy))

/-! The best -/
theorem filter_none {α : Type} {l : List α} {f : α → Bool} (h : ∀ q ∈ l, f q = false) : l.filter f = [] := List.filter_eq_nil_iff.2 fun q hq => by rw [h q hq]; simp
/-- What is kept while plans are looked at. -/
structure BInv (ss : List St) (l : List (List Be)) (s : (Int × List (List Be)) × List (List Be)) : Prop where
  met : s.2 = l
  top : l ≠ [] → (∃ q ∈ l, loavesF ss q = s.1.1) ∧ ∀ q ∈ l, loavesF ss q ≤ s.1.1
  out : s.1.2 = l.filter fun q => decide (loavesF ss q = s.1.1)
theorem BInv.step {ss : List St} {l : List (List Be)} {s : (Int × List (List Be)) × List (List Be)} {p : List Be} (H : BInv ss l s) (hp : p ∉ l) : BInv ss (l ++ [p]) (bstep ss s p) := by
  obtain ⟨⟨m, out⟩, met⟩ := s
  obtain ⟨h1, h2, h3⟩ := H
  simp only at h1 h2 h3
  subst h1
  obtain ⟨n, hn⟩ : ∃ n, loavesF ss p = n := ⟨_, rfl⟩
  simp only [bstep, if_neg hp, addM, hn]
  have hpf : ∀ c, [p].filter (fun q => decide (loavesF ss q = c)) = if n = c then [p] else [] := fun c => by
    rw [List.filter_cons]; simp [hn]
  rcases met with _ | ⟨q0, r0⟩
  · have h0 : out = [] := h3
    subst h0
    simp only [true_or, if_true, List.nil_append]
    refine ⟨rfl, fun _ => ⟨⟨p, by simp, hn⟩, fun q hq => ?_⟩, by simp only; rw [hpf, if_pos rfl]⟩
    have : q = p := by simpa using hq
    subst this; simp only; omega
  · obtain ⟨⟨q1, hq1, hq2⟩, htop⟩ := h2 (by simp)
    have hne : (q0 :: r0).filter (fun q => decide (loavesF ss q = m)) ≠ [] := fun e => by
      have := List.filter_eq_nil_iff.1 e q1 hq1
      simp [hq2] at this
    rw [← h3] at hne
    generalize q0 :: r0 = l at *
    by_cases hlt : m < n
    · have hc : out = [] ∨ m < n := .inr hlt
      simp only [if_pos hc, if_true, List.nil_append]
      refine ⟨rfl, fun _ => ⟨⟨p, by simp, hn⟩, fun q hq => ?_⟩, ?_⟩
      · rcases List.mem_append.1 hq with hq | hq
        · have := htop q hq; simp only; omega
        · have : q = p := by simpa using hq
          subst this; simp only; omega
      · simp only
        rw [List.filter_append, hpf, if_pos rfl, filter_none fun q hq => ?_]
        · rfl
        · have := htop q hq
          exact decide_eq_false (by omega)
    · have hc : ¬ (out = [] ∨ m < n) := not_or.2 ⟨hne, hlt⟩
      simp only [if_neg hc]
      by_cases he : n = m
      · rw [if_pos he]
        refine ⟨rfl, fun _ => ⟨⟨p, by simp, hn.trans he⟩, fun q hq => ?_⟩, ?_⟩
        · rcases List.mem_append.1 hq with hq | hq
          · exact htop q hq
          · have : q = p := by simpa using hq
            subst this; simp only; omega
        · simp only
          rw [List.filter_append, hpf, if_pos he, h3]
      · rw [if_neg he]
        refine ⟨rfl, fun _ => ⟨⟨q1, by simp [hq1], hq2⟩, fun q hq => ?_⟩, ?_⟩
        · rcases List.mem_append.1 hq with hq | hq
          · exact htop q hq
          · have : q = p := by simpa using hq
            subst this; simp only; omega
        · simp only
          rw [List.filter_append, hpf, if_neg he, List.append_nil, h3]
theorem BInv.run {ss : List St} : ∀ (r l : List (List Be)) (s : (Int × List (List Be)) × List (List Be)), BInv ss l s → (l ++ r).Nodup → BInv ss (l ++ r) (r.foldl (bstep ss) s)
  | [], l, s, h, _ => by rw [List.append_nil]; exact h
  | p :: r, l, s, h, hnd => by
    rw [List.foldl_cons, show l ++ p :: r = (l ++ [p]) ++ r by simp]
    refine BInv.run r (l ++ [p]) _ (h.step fun hm => ?_) (by simpa using hnd)
    exact (List.nodup_append.1 hnd).2.2 p hm p (by simp) rfl
/-- ████ THE BEST PLANS: of the right ones those with the most loaves, in order. -/
theorem best_spec {fs : List Fl} {ss : List St} (hall : HallOK fs ss) : (∃ q ∈ allF fs ss freeM, loavesF ss q = (bestF fs ss).1) ∧ (∀ q ∈ allF fs ss freeM, loavesF ss q ≤ (bestF fs ss).1) ∧ (bestF fs ss).2 = (allF fs ss freeM).filter fun q => decide (loavesF ss q = (bestF fs ss).1) := by
  have h := BInv.run (ss := ss) (allF fs ss freeM) [] ((0, []), []) ⟨rfl, fun h => absurd rfl h, rfl⟩ (allF_nodup hall)
  rw [List.nil_append] at h
  have hne : allF fs ss freeM ≠ [] := fun e => by have := allF_p0 hall; rw [e] at this; cases this
  exact ⟨(h.top hne).1, (h.top hne).2, h.out⟩

/-! Loaves -/
def coG (ss : List St) (p : List Be) (i : Nat) : Int := if 0 ≤ (beAt p i).fl then (stAt ss i).co else 0
theorem loavesK_eq {fs : List Fl} {ss : List St} {p : List Be} (hall : HallOK fs ss) : ∀ k, k ≤ 1000 → loavesK ss p k = sumK (coG ss p) k ∧ 0 ≤ sumK (coG ss p) k ∧ sumK (coG ss p) k ≤ 6 * k
  | 0, _ => ⟨rfl, Int.le_refl _, Int.le_refl _⟩
  | k + 1, hk => by
    obtain ⟨h1, h2, h3⟩ := loavesK_eq (p := p) hall k (by omega)
    have hc := co_ok hall k
    simp only [loavesK, sumK, coG]
    split
    · rw [h1, wadd_small h2 (by omega) hc.1 (by omega)]
      exact ⟨rfl, by omega, by omega⟩
    · exact ⟨by omega, by omega, by omega⟩
theorem loavesF_eq {fs : List Fl} {ss : List St} {p : List Be} (hall : HallOK fs ss) : loavesF ss p = sumK (coG ss p) ss.length := (loavesK_eq hall _ (by have := hall.ns; omega)).1
/-! Whether all can be set -/
theorem some_iff {fs : List Fl} {ss : List St} {may : May} (hall : HallOK fs ss) : someR fs ss may = true ↔ ∃ p, Valid fs ss may p ∧ inspF fs ss p = none := by
  have : someR fs ss may = true ↔ ∃ p, p ∈ rightsOf fs ss may [] := by
    simp only [someR, Bool.not_eq_true', List.isEmpty_eq_false_iff_exists_mem]
  rw [this]
  exact exists_congr fun p => mem_rightsOf hall
end Go.Mus

/- The first strikes of a plant alone; which strike is late. Conditions: none. -/
namespace Go.Mus
end Go.Mus

/- A plant without its last strike. Conditions: none; over the given program. -/
namespace Go.Mus
set_option maxRecDepth 100000
set_option maxHeartbeats 4000000
end Go.Mus

/- The strike that is late, and the best plan's length. Conditions: none. -/
namespace Go.Mus
end Go.Mus

/- Whether all strikes of a plant are set in its best plan; the strike that is late, asked of the best plans. Conditions: none; over the given program. -/
namespace Go.Mus
set_option maxRecDepth 100000
set_option maxHeartbeats 4000000
end Go.Mus

/- Strikes that wait longer; with which patience all can be set. Conditions: none; over the given program. -/
namespace Go.Mus
set_option maxRecDepth 100000
set_option maxHeartbeats 4000000
theorem Ops.freezeOs {x : Cx} {ops : Array Oper} {td : List Nat} {Q : Post} {ρ : Env} {ds : List Deferred} {A F : Frag} {α : Type} {row : α → List Value} {w : Nat} [Rw row w] {E : TypeId} {v : Value} {l : List α} (hs : Os E row v l A)
    (H : ∀ h', Ext x.h h' → Sl h' row v l → Zs h' v → Ops { x with h := h' } ops td Q ρ ds F) : Ops x ops td Q ρ ds (A ++ F) := by
  rcases hs with ⟨rfl, rfl, hsh⟩ | ⟨β, cc, cap, J, rfl, rfl, h1, h2, h3, hsh⟩
  · exact Ops.sb (Sb.left .refl hsh) (H x.h ⟨fun _ _ q => q, fun _ q => q⟩ .nil (fun b off n cap e => by cases e))
  · refine Ops.freeze (b := β) rfl fun h' hE hb hz => ?_
    refine Ops.sb (F' := F) (Sb.left .refl hsh) (H h' hE (.mk hb rfl h3) (fun b off n cap e => by cases e; exact hz))
end Go.Mus

/- A floor with other places; how many it needs. Conditions: none; over the given program. -/
namespace Go.Mus
set_option maxRecDepth 100000
set_option maxHeartbeats 4000000
/-- A floor's cells. -/
theorem Part.setR {α : Type} {row : α → List Value} {w : Nat} [Rw row w] {c : Array Value} {l : List α} {j : Nat} {p : α} (q : α) (k : Nat) (x : Value) (hk : k < w) (h : Part c 0 (flat row l)) (hj : l[j]? = some p) (hq : row q = (row p).set k x) : Part (c.setIfInBounds (j * w + k) x) 0 (flat row (l.set j q)) := by
  obtain ⟨pre, post, h1, h2⟩ := h
  have : pre = [] := List.length_eq_zero_iff.1 h2
  subst this
  refine ⟨[], post, ?_, rfl⟩
  have hlt : j < l.length := lt_of_get hj
  have hlen : j * w + k < (flat row l).length := by
    rw [flat_len]
    have : (j + 1) * w ≤ l.length * w := Nat.mul_le_mul_right _ hlt
    rw [Nat.succ_mul] at this; omega
  simp only [Array.toList_setIfInBounds, h1, List.nil_append]
  rw [List.set_append_left _ _ hlen]
  congr 1
  clear h1 h2 hlen
  induction l generalizing j with
  | nil => simp at hj
  | cons a l ih =>
    cases j with
    | zero =>
      simp only [List.getElem?_cons_zero, Option.some.injEq] at hj
      subst hj
      simp only [flat_cons, List.set_cons_zero, Nat.zero_mul, Nat.zero_add]
      rw [List.set_append_left _ _ (by rw [Rw.len]; exact hk), hq]
    | succ j =>
      have := ih (j := j) (by simpa using hj) (by simpa using hlt)
      simp only [List.set_cons_succ, flat_cons]
      rw [← this, List.set_append_right _ _ (by rw [Rw.len, Nat.succ_mul]; omega)]
      congr 2
      rw [Rw.len, Nat.succ_mul]; omega

/-! Places -/
end Go.Mus

/- How many places a floor needs. Conditions: none; over the given program. -/
namespace Go.Mus
set_option maxRecDepth 100000
set_option maxHeartbeats 4000000
end Go.Mus

/- What makes plans right more easily, and so the loaves no fewer. Conditions: none. -/
namespace Go.Mus
/-- Where each right plan has one that is as good, the best are as good. -/
theorem best_le {fs fs' : List Fl} {ss ss' : List St} (hall : HallOK fs ss) (hall' : HallOK fs' ss') (H : ∀ p, Valid fs ss freeM p → inspF fs ss p = none → ∃ p', Valid fs' ss' freeM p' ∧ inspF fs' ss' p' = none ∧ loavesF ss p ≤ loavesF ss' p') : (bestF fs ss).1 ≤ (bestF fs' ss').1 := by
  obtain ⟨⟨q, hq, hql⟩, -, -⟩ := best_spec hall
  obtain ⟨-, htop, -⟩ := best_spec hall'
  obtain ⟨hv, hi⟩ := (mem_allF hall).1 hq
  obtain ⟨p', h1, h2, h3⟩ := H q hv hi
  have := htop p' ((mem_allF hall').2 ⟨h1, h2⟩)
  omega
/-! Without a strike -/
end Go.Mus

/- How much slower a floor may be. Conditions: none; over the given program. -/
namespace Go.Mus
set_option maxRecDepth 100000
set_option maxHeartbeats 4000000
/-! Turning a list round -/
end Go.Mus

/- How much slower a floor may be. Conditions: none; over the given program. -/
namespace Go.Mus
set_option maxRecDepth 100000
set_option maxHeartbeats 4000000
end Go.Mus

/- How much slower a floor may be, and that it is so. Conditions: none; over the given program. -/
namespace Go.Mus
set_option maxRecDepth 100000
set_option maxHeartbeats 4000000
end Go.Mus

/- Whether a strike is in the best plans. Conditions: none; over the given program. -/
namespace Go.Mus
set_option maxRecDepth 100000
set_option maxHeartbeats 4000000
/-- In how many plans a strike is set. -/
def cntF (s : Nat) (l : List (List Be)) : Nat := l.countP fun p => decide (0 ≤ (beAt p s).fl)
def verdF (fs : List Fl) (ss : List St) (s : Nat) : Int := if 0 < cntF s (bestF fs ss).2 ∧ cntF s (bestF fs ss).2 < (bestF fs ss).2.length then 3 else if cntF s (bestF fs ss).2 = 0 then 2 else 1
theorem cntF_next {s i : Nat} {l : List (List Be)} {p : List Be} (h : l[i]? = some p) : cntF s (l.take (i + 1)) = cntF s (l.take i) + if 0 ≤ (beAt p s).fl then 1 else 0 := by
  rw [cntF, take_next h, List.countP_append]
  congr 1
  simp [List.countP_cons]
theorem cntF_le {s i : Nat} {l : List (List Be)} : cntF s (l.take i) ≤ i := Nat.le_trans List.countP_le_length (by simp; omega)

theorem Verdict_fn (main : Side) (hS : ∀ S, main.ok S → ∃ Fin, S = Mn prog Fin) (hmb : main.b = true) (h : Hp) (fs : List Fl) (ss : List St) (s : Nat) (vf vs : Value) (Eg : TypeId) (zg : Nat × Nat) (hf : Sl h Fl.row vf fs) (hs : Sl h St.row vs ss) (zf : Zs h vf) (zs : Zs h vs) (hck : ckPlant fs ss = 0) (hs0 : s < ss.length) (hg : h 0 = some (.cells #[rtV t_error] Eg zg)) (z0 : h.z 0) :
    Pu prog main n_floor_Verdict #[.agg #[vf, vs], I s] h (.tuple #[I (verdF fs ss s), I 0]) := by
  have hall := hall_ck hck
  have hns := hall.ns
  obtain ⟨a, cap, rfl⟩ := hf.isSl
  obtain ⟨a', cap', rfl⟩ := hs.isSl
  obtain ⟨bs, hbs⟩ : ∃ bs, (bestF fs ss).2 = bs := ⟨_, rfl⟩
  have hb4 : ∀ p ∈ bs, p.length = 4 := fun p hp => allF4 (bestF_mem (hbs ▸ hp))
  have hpo : ∀ p ∈ bs, PlanOf fs ss p := fun p hp => allF_PlanOf hall (bestF_mem (hbs ▸ hp))
  have hbl : bs.length ≤ 28561 := by
    rw [← hbs, (best_spec hall).2.2]
    exact Nat.le_trans (List.length_filter_le _ _) (allF_len hall)
  refine Fnc.of_body at_floor_Verdict rfl (by show 2 ≤ 61; decide) [(0, .agg #[.slice a fs.length cap, .slice a' ss.length cap']), (1, I s)] ⟨rfl, rfl, trivial⟩ ?_
  refine W.seq <| W.region rfl ?_
  refine Ops.box (cs := #[.slice a fs.length cap, .slice a' ss.length cap']) (fun β2 => ?_) rfl rfl rfl
  refine qs rfl rfl rfl <| qs rfl rfl rfl <| Ops.nil <| thn_n <| W.seq <| W.seq <| W.region rfl ?_
  first | refine oq (yldW rfl rfl) rfl wn rfl rfl ?_ | refine oq (yldA rfl rfl) rfl wn rfl rfl ?_
  refine cp (u := I 0) (fun h' hE hL => by have := Check_fn main h' fs ss _ _ (hf.ext hE) (hs.ext hE); rw [hck] at this; exact this) ?_
  refine qs rfl rfl rfl <| Ops.nil <| thn_n <| W.seq <| W.region rfl <| qm rfl rfl rfl ?_
  refine oq ((y_neq rfl rfl rfl).eq (u := .bool false) rfl) rfl wn rfl rfl ?_
  refine Ops.nil <| thn_n ?_
  refine W.condF ?_
  refine W.skip <| thn_n <| W.seq <| W.seq <| W.region rfl <| qm rfl rfl rfl ?_
  refine oq (y_fieldAddr rfl rfl) rfl wn rfl rfl ?_
  refine oq (yld rfl rfl) rfl wn rfl rfl ?_
  refine oq (y_len rfl rfl) rfl wn rfl rfl ?_
  first | refine oq (ysub rfl rfl rfl) rfl wn rfl rfl ?_ | refine oq (y_subw rfl rfl rfl) rfl wn rfl rfl ?_
  refine cp (u := .bool false) (fun h' hE hL => ?_) ?_
  · have := outside_fn main h' s 0 ((ss.length : Int) - 1)
    rw [decide_eq_false (show ¬ outs s 0 ((ss.length : Int) - 1) by unfold outs; omega)] at this
    exact this
  refine Ops.nil <| thn_n ?_
  refine W.condF ?_
  refine W.skip <| thn_n <| W.seq <| W.region rfl ?_
  first | refine oq (yldW rfl rfl) rfl wn rfl rfl ?_ | refine oq (yldA rfl rfl) rfl wn rfl rfl ?_
  refine oq (y_build (cs := #[.slice a fs.length cap, .slice a' ss.length cap']) rfl rfl rfl) rfl wn rfl rfl ?_
  refine c0 (fun h' hE hL => best_fn _ hS hmb h' fs ss (.slice a fs.length cap) (.slice a' ss.length cap') Eg zg (hf.ext hE) (hs.ext hE) (zf.ext hE) (zs.ext hE) hall (hE.1 _ _ hg) (hE.2 _ z0)) (fun v A' hv => ?_)
  rw [hbs] at hv
  obtain ⟨u, S, rfl, hO, hsb⟩ := hv
  obtain ⟨ua, uc, rfl⟩ := hO.isSl
  refine Ops.sb (F' := S ++ [(β2, .cells #[.slice a fs.length cap, .slice a' ss.length cap'] t_Plant (0, 0))]) (hsb.app .refl) ?_
  refine Ops.new (fun β7 => ?_)
  first | refine Ops.stoW ?_ | refine Ops.stoA ?_
  refine Ops.nil <| thn_n ?_
  refine W.sb (F' := S ++ [(β7, .cells #[I (bestF fs ss).1, .slice ua bs.length uc] t_most (0, 0)), (β2, .cells #[.slice a fs.length cap, .slice a' ss.length cap'] t_Plant (0, 0))]) (.of_perm List.perm_middle) ?_
  refine freezeOs hO (fun hx hEx hsl hzl => ?_)
  refine W.seq <| W.region rfl <| qs rfl rfl rfl <| Ops.nil <| thn_n <| W.seq <| W.seq <| W.region rfl ?_
  refine oq (y_fieldAddr rfl rfl) rfl wn rfl rfl ?_
  refine oq (yld rfl rfl) rfl wn rfl rfl ?_
  refine oq (y_len rfl rfl) rfl wn rfl rfl ?_
  refine qm rfl rfl rfl <| Ops.nil <| thn_n <| W.block ?_
  refine W.loop (σ := Nat) (fun k => k ≤ bs.length) (fun k => [(29, I k), (28, I bs.length), (27, .slice ua bs.length uc), (8, I (cntF s (bs.take k))), (7, .pointer (some ⟨β7, 0, none⟩)), (1, I s)]) (fun _ => [(β7, .cells #[I (bestF fs ss).1, .slice ua bs.length uc] t_most (0, 0))]) (fun k => bs.length - k) 0 (Nat.zero_le _) ⟨rfl, rfl, rfl, lk rfl (by simp [cntF]), rfl, rfl, trivial⟩ (.cons (.skip rfl .refl)) ?_
  rintro k hk
  have hck' := cntF_le (s := s) (i := k) (l := bs)
  refine W.seq <| W.region rfl ?_
  refine oq (y_lss rfl rfl rfl) rfl wn rfl rfl ?_
  refine Ops.nil <| thn_n <| W.seq ?_
  refine W.condp rfl (fun c30 => ?_) (fun c30 => ?_)
  · obtain ⟨p, hp, -⟩ := has (show k < bs.length by omega)
    have hp4 := hb4 p (List.mem_of_getElem? hp)
    have hpk := (hpo p (List.mem_of_getElem? hp)).ok
    obtain ⟨b, off, c, E, fz, rfl, hb, hx1, hy1, hz1⟩ := hsl.at hp
    have hx2 : c.extract (off + k * 8) (off + k * 8 + 8) = (flat Be.row p).toArray := by rw [hx1, rowP_eq hp4]
    clear hx1 hz1
    have hsz := plan_sz hpk
    have hon : ones (flat Be.row p).toArray.toList = true := plan_ones
    have hpa : (flat Be.row p).toArray[0 + s * 2 + 0]? = some (I (beAt p s).fl) := by simpa using (plan_at hpk (show s < 4 by omega)).1
    have hnx := cntF_next (s := s) hp
    refine W.skip <| thn_n <| W.seq <| W.block <| W.seq <| W.region rfl ?_
    first | refine oq (yix rfl rfl rfl) rfl wn rfl rfl ?_ | refine oq (yixI rfl rfl rfl) rfl wn rfl rfl ?_
    first | refine oq (yldW rfl rfl) rfl wn rfl rfl ?_ | refine oq (yldA rfl rfl) rfl wn rfl rfl ?_
    refine Ops.new (fun β10 => ?_)
    first | refine Ops.stoW ?_ | refine Ops.stoA ?_
    refine Ops.nil <| thn_n <| W.seq <| W.region rfl <| qm rfl rfl rfl ?_
    first | refine oq (yixA rfl rfl rfl) rfl wn rfl rfl ?_ | refine oq (yixAI rfl rfl rfl) rfl wn rfl rfl ?_
    refine oq (y_fieldAddr rfl rfl) rfl wn rfl rfl ?_
    refine oq (yld rfl rfl) rfl wn rfl rfl ?_
    refine oq (y_geq rfl rfl rfl) rfl wn rfl rfl ?_
    refine Ops.nil <| thn_n ?_
    refine W.condp rfl (fun c37 => ?_) (fun c37 => ?_)
    · refine W.region rfl <| qm rfl rfl rfl ?_
      first | refine oq (yadd rfl rfl rfl) rfl wn rfl rfl ?_ | refine oq (y_addw rfl rfl rfl) rfl wn rfl rfl ?_
      refine qs rfl rfl rfl <| Ops.nil <| blk_n <| thn_n <| W.region rfl ?_
      first | refine oq (yadd rfl rfl rfl) rfl wn rfl rfl ?_ | refine oq (y_addw rfl rfl rfl) rfl wn rfl rfl ?_
      refine qm rfl rfl rfl <| Ops.nil <| thn_n ?_
      first
      | exact ⟨rfl, k + 1, by omega, by omega, ⟨rfl, rfl, rfl, lk rfl (show I _ = I _ by congr 1; rw [hnx, if_pos c37]; omega), rfl, rfl, trivial⟩, .skip rfl .refl⟩
      | exact ⟨rfl, k + 1, by omega, by omega, ⟨rfl, rfl, rfl, lk rfl (show I _ = I _ by congr 1; rw [hnx, if_neg c37]; omega), rfl, rfl, trivial⟩, .skip rfl .refl⟩
    · refine W.skip <| blk_n <| thn_n <| W.region rfl ?_
      first | refine oq (yadd rfl rfl rfl) rfl wn rfl rfl ?_ | refine oq (y_addw rfl rfl rfl) rfl wn rfl rfl ?_
      refine qm rfl rfl rfl <| Ops.nil <| thn_n ?_
      first
      | exact ⟨rfl, k + 1, by omega, by omega, ⟨rfl, rfl, rfl, lk rfl (show I _ = I _ by congr 1; rw [hnx, if_pos c37]; omega), rfl, rfl, trivial⟩, .skip rfl .refl⟩
      | exact ⟨rfl, k + 1, by omega, by omega, ⟨rfl, rfl, rfl, lk rfl (show I _ = I _ by congr 1; rw [hnx, if_neg c37]; omega), rfl, rfl, trivial⟩, .skip rfl .refl⟩
  · have hkl : k = bs.length := by omega
    subst hkl
    rw [List.take_length] at hck' ⊢
    have hvd : verdF fs ss s = if 0 < cntF s bs ∧ cntF s bs < bs.length then 3 else if cntF s bs = 0 then 2 else 1 := by rw [verdF, hbs]
    obtain ⟨n, hn⟩ : ∃ n, cntF s bs = n := ⟨_, rfl⟩
    rw [hn] at hck' hvd ⊢
    refine W.exit <| thn_x <| thn_x <| blk_x <| thn_n <| W.seq <| W.region rfl <| qs rfl rfl rfl <| Ops.nil <| thn_n ?_
    refine W.seq <| W.block <| W.seq <| W.block <| W.seq <| W.block <| W.seq <| W.block <| W.seq <| W.seq ?_
    refine W.seq <| W.region rfl <| qm rfl rfl rfl ?_
    refine oq (y_gtr rfl rfl rfl) rfl wn rfl rfl ?_
    refine qm rfl rfl rfl ?_
    refine Ops.ask (fun a15_3 => ?_) (fun a15_3 => ?_)
    · refine oq (y_move rfl rfl) rfl (want_some rfl rfl rfl) rfl rfl ?_
      refine oq (y_fieldAddr rfl rfl) rfl (want_some rfl rfl rfl) rfl rfl ?_
      refine oq (yld rfl rfl) rfl (want_some rfl rfl rfl) rfl rfl ?_
      refine oq (y_len rfl rfl) rfl (want_some rfl rfl rfl) rfl rfl ?_
      refine oq (y_lss rfl rfl rfl) rfl (want_some rfl rfl rfl) rfl rfl ?_
      refine oq (y_pickT rfl rfl rfl) rfl wn rfl rfl ?_
      refine qs rfl rfl rfl <| Ops.nil <| thn_n ?_
      refine W.condp rfl (fun c41 => ?_) (fun c41 => ?_)
      · refine W.exit <| thn_x <| thn_x <| blk_x <| thn_n <| W.region rfl <| qm rfl rfl rfl ?_
        first | refine oq (yadd rfl rfl rfl) rfl wn rfl rfl ?_ | refine oq (y_addw rfl rfl rfl) rfl wn rfl rfl ?_
        refine qs rfl rfl rfl <| Ops.nil <| blk_n <| thn_n <| W.region rfl <| qm rfl rfl rfl ?_
        first | refine oq (yadd rfl rfl rfl) rfl wn rfl rfl ?_ | refine oq (y_addw rfl rfl rfl) rfl wn rfl rfl ?_
        refine qs rfl rfl rfl <| Ops.nil <| blk_n <| thn_n <| W.seq <| W.region rfl <| qm rfl rfl rfl ?_
        first | refine oq (yadd rfl rfl rfl) rfl wn rfl rfl ?_ | refine oq (y_addw rfl rfl rfl) rfl wn rfl rfl ?_
        refine qs rfl rfl rfl <| Ops.nil <| thn_n <| W.exit <| blk_x <| thn_n <| W.seq <| W.region rfl <| qm rfl rfl rfl <| qs rfl rfl rfl ?_
        refine qs rfl rfl rfl <| Ops.nil <| thn_n <| W.ret ?_
        refine lvp ?_
        rw [hvd]
        first
        | (rw [if_pos (by omega)]; rfl)
        | (rw [if_neg (by omega), if_pos (by omega)]; rfl)
        | (rw [if_neg (by omega), if_neg (by omega)]; rfl)
      · refine W.skip <| thn_n <| W.seq <| W.region rfl <| qm rfl rfl rfl ?_
        refine oq (y_eql rfl rfl rfl) rfl wn rfl rfl ?_
        refine qs rfl rfl rfl <| Ops.nil <| thn_n ?_
        refine W.condp rfl (fun c51 => ?_) (fun c51 => ?_)
        · refine W.exit <| thn_x <| blk_o <| thn_x <| blk_x <| thn_n <| W.region rfl <| qm rfl rfl rfl ?_
          first | refine oq (yadd rfl rfl rfl) rfl wn rfl rfl ?_ | refine oq (y_addw rfl rfl rfl) rfl wn rfl rfl ?_
          refine qs rfl rfl rfl <| Ops.nil <| blk_n <| thn_n <| W.seq <| W.region rfl <| qm rfl rfl rfl ?_
          first | refine oq (yadd rfl rfl rfl) rfl wn rfl rfl ?_ | refine oq (y_addw rfl rfl rfl) rfl wn rfl rfl ?_
          refine qs rfl rfl rfl <| Ops.nil <| thn_n <| W.exit <| blk_x <| thn_n <| W.seq <| W.region rfl <| qm rfl rfl rfl <| qs rfl rfl rfl ?_
          refine qs rfl rfl rfl <| Ops.nil <| thn_n <| W.ret ?_
          refine lvp ?_
          rw [hvd]
          first
          | (rw [if_pos (by omega)]; rfl)
          | (rw [if_neg (by omega), if_pos (by omega)]; rfl)
          | (rw [if_neg (by omega), if_neg (by omega)]; rfl)
        · refine W.skip <| thn_n <| W.exit <| blk_o <| thn_x <| blk_o <| thn_x <| blk_x <| thn_n <| W.seq ?_
          refine W.region rfl <| qm rfl rfl rfl ?_
          first | refine oq (yadd rfl rfl rfl) rfl wn rfl rfl ?_ | refine oq (y_addw rfl rfl rfl) rfl wn rfl rfl ?_
          refine qs rfl rfl rfl <| Ops.nil <| thn_n <| W.exit <| blk_x <| thn_n <| W.seq <| W.region rfl <| qm rfl rfl rfl <| qs rfl rfl rfl ?_
          refine qs rfl rfl rfl <| Ops.nil <| thn_n <| W.ret ?_
          refine lvp ?_
          rw [hvd]
          first
          | (rw [if_pos (by omega)]; rfl)
          | (rw [if_neg (by omega), if_pos (by omega)]; rfl)
          | (rw [if_neg (by omega), if_neg (by omega)]; rfl)
    · refine Ops.no ?_
      refine Ops.no ?_
      refine Ops.no ?_
      refine Ops.no ?_
      refine Ops.no ?_
      refine oq (y_pickF rfl rfl rfl) rfl wn rfl rfl ?_
      refine qs rfl rfl rfl <| Ops.nil <| thn_n ?_
      refine W.condF ?_
      refine W.skip <| thn_n <| W.seq <| W.region rfl <| qm rfl rfl rfl ?_
      refine oq (y_eql rfl rfl rfl) rfl wn rfl rfl ?_
      refine qs rfl rfl rfl <| Ops.nil <| thn_n ?_
      refine W.condp rfl (fun c51 => ?_) (fun c51 => ?_)
      · refine W.exit <| thn_x <| blk_o <| thn_x <| blk_x <| thn_n <| W.region rfl <| qm rfl rfl rfl ?_
        first | refine oq (yadd rfl rfl rfl) rfl wn rfl rfl ?_ | refine oq (y_addw rfl rfl rfl) rfl wn rfl rfl ?_
        refine qs rfl rfl rfl <| Ops.nil <| blk_n <| thn_n <| W.seq <| W.region rfl <| qm rfl rfl rfl ?_
        first | refine oq (yadd rfl rfl rfl) rfl wn rfl rfl ?_ | refine oq (y_addw rfl rfl rfl) rfl wn rfl rfl ?_
        refine qs rfl rfl rfl <| Ops.nil <| thn_n <| W.exit <| blk_x <| thn_n <| W.seq <| W.region rfl <| qm rfl rfl rfl <| qs rfl rfl rfl ?_
        refine qs rfl rfl rfl <| Ops.nil <| thn_n <| W.ret ?_
        refine lvp ?_
        rw [hvd]
        first
        | (rw [if_pos (by omega)]; rfl)
        | (rw [if_neg (by omega), if_pos (by omega)]; rfl)
        | (rw [if_neg (by omega), if_neg (by omega)]; rfl)
      · refine W.skip <| thn_n <| W.exit <| blk_o <| thn_x <| blk_o <| thn_x <| blk_x <| thn_n <| W.seq ?_
        refine W.region rfl <| qm rfl rfl rfl ?_
        first | refine oq (yadd rfl rfl rfl) rfl wn rfl rfl ?_ | refine oq (y_addw rfl rfl rfl) rfl wn rfl rfl ?_
        refine qs rfl rfl rfl <| Ops.nil <| thn_n <| W.exit <| blk_x <| thn_n <| W.seq <| W.region rfl <| qm rfl rfl rfl <| qs rfl rfl rfl ?_
        refine qs rfl rfl rfl <| Ops.nil <| thn_n <| W.ret ?_
        refine lvp ?_
        rw [hvd]
        first
        | (rw [if_pos (by omega)]; rfl)
        | (rw [if_neg (by omega), if_pos (by omega)]; rfl)
        | (rw [if_neg (by omega), if_neg (by omega)]; rfl)
end Go.Mus

/- Whether two plants have the same answers. Conditions: none; over the given program. -/
namespace Go.Mus
set_option maxRecDepth 100000
set_option maxHeartbeats 4000000
end Go.Mus

/- Plants whose plans answer to each other; floors with other numbers. Conditions: none. -/
namespace Go.Mus
theorem perm_of_mem {α : Type} [DecidableEq α] {l l' : List α} (h : l.Nodup) (h' : l'.Nodup) (hm : ∀ a, a ∈ l ↔ a ∈ l') : l.Perm l' := by
  rw [List.perm_iff_count]
  intro a
  by_cases ha : a ∈ l
  · have h1 := List.count_pos_iff.2 ha
    have h2 := List.count_pos_iff.2 ((hm a).1 ha)
    have h3 := List.nodup_iff_count.1 h a
    have h4 := List.nodup_iff_count.1 h' a
    omega
  · rw [List.count_eq_zero.2 ha, List.count_eq_zero.2 fun h => ha ((hm a).2 h)]

theorem valid_free {fs : List Fl} {ss : List St} {may : May} {p : List Be} (h : Valid fs ss may p) : Valid fs ss freeM p := by
  refine ⟨h.len, fun i hi => ?_, h.out⟩
  have := h.at_ i hi
  rw [mem_berths] at this ⊢
  rcases this with ⟨_, h1⟩ | ⟨_, h1⟩
  · exact .inl ⟨rfl, h1⟩
  · exact .inr ⟨rfl, h1⟩
/-- Each right plan of the one answers to one of the other. -/
structure Sym (fs fs' : List Fl) (ss ss' : List St) (σ τ : List Be → List Be) : Prop where
  hall : HallOK fs ss
  hall' : HallOK fs' ss'
  len : ss'.length = ss.length
  val : ∀ may p, Valid fs ss may p → Valid fs' ss' may (σ p)
  val' : ∀ may p, Valid fs' ss' may p → Valid fs ss may (τ p)
  rgt : ∀ p, Valid fs ss freeM p → inspF fs ss p = none → inspF fs' ss' (σ p) = none
  rgt' : ∀ p, Valid fs' ss' freeM p → inspF fs' ss' p = none → inspF fs ss (τ p) = none
  inv : ∀ p, Valid fs ss freeM p → τ (σ p) = p
  inv' : ∀ p, Valid fs' ss' freeM p → σ (τ p) = p
  lo : ∀ p, Valid fs ss freeM p → loavesF ss' (σ p) = loavesF ss p
  on : ∀ p i, Valid fs ss freeM p → (0 ≤ (beAt (σ p) i).fl ↔ 0 ≤ (beAt p i).fl)
section
variable {fs fs' : List Fl} {ss ss' : List St} {σ τ : List Be → List Be} (Y : Sym fs fs' ss ss' σ τ)
include Y
theorem Sym.lo' {p : List Be} (h : Valid fs' ss' freeM p) : loavesF ss (τ p) = loavesF ss' p := by
  rw [← Y.lo _ (Y.val' _ _ h), Y.inv' p h]
theorem Sym.top : (bestF fs' ss').1 = (bestF fs ss).1 := by
  have h1 := best_le Y.hall Y.hall' fun p hv hi => ⟨σ p, Y.val _ _ hv, Y.rgt p hv hi, by rw [Y.lo p hv]; exact Int.le_refl _⟩
  have h2 := best_le Y.hall' Y.hall fun p hv hi => ⟨τ p, Y.val' _ _ hv, Y.rgt' p hv hi, by rw [Y.lo' hv]; exact Int.le_refl _⟩
  omega
theorem Sym.all : (allF fs' ss' freeM).Perm ((allF fs ss freeM).map σ) := by
  refine perm_of_mem (allF_nodup Y.hall') ?_ fun p => ?_
  · rw [List.Nodup, List.pairwise_map]
    refine (allF_nodup Y.hall).imp_of_mem fun {a b} ha hb hab e => hab ?_
    rw [← Y.inv a ((mem_allF Y.hall).1 ha).1, e, Y.inv b ((mem_allF Y.hall).1 hb).1]
  · rw [mem_allF Y.hall', List.mem_map]
    constructor
    · rintro ⟨h1, h2⟩
      exact ⟨τ p, (mem_allF Y.hall).2 ⟨Y.val' _ _ h1, Y.rgt' p h1 h2⟩, Y.inv' p h1⟩
    · rintro ⟨q, hq, rfl⟩
      obtain ⟨h1, h2⟩ := (mem_allF Y.hall).1 hq
      exact ⟨Y.val _ _ h1, Y.rgt q h1 h2⟩
theorem Sym.best : (bestF fs' ss').2.Perm ((bestF fs ss).2.map σ) := by
  rw [(best_spec Y.hall').2.2, (best_spec Y.hall).2.2, Y.top]
  refine (Y.all.filter _).trans (.of_eq ?_)
  rw [List.filter_map]
  congr 1
  refine List.filter_congr fun p hp => ?_
  show decide (loavesF ss' (σ p) = _) = _
  rw [Y.lo p ((mem_allF Y.hall).1 hp).1]
theorem Sym.count : (bestF fs' ss').2.length = (bestF fs ss).2.length := by rw [Y.best.length_eq, List.length_map]
theorem Sym.someR (may : May) : someR fs' ss' may = Go.Mus.someR fs ss may := by
  refine Bool.eq_iff_iff.2 ?_
  rw [some_iff Y.hall', some_iff Y.hall]
  constructor
  · rintro ⟨p, h1, h2⟩; exact ⟨τ p, Y.val' _ _ h1, Y.rgt' p (valid_free h1) h2⟩
  · rintro ⟨p, h1, h2⟩; exact ⟨σ p, Y.val _ _ h1, Y.rgt p (valid_free h1) h2⟩
theorem Sym.late : lateF fs' ss' = lateF fs ss := by
  have key : ∀ m n, lateFrom fs' ss' m n = lateFrom fs ss m n := by
    intro m
    induction m with
    | zero => intro n; rfl
    | succ m ih => intro n; rw [lateFrom, lateFrom, Y.someR, ih]
  rw [lateF, lateF, Y.len, key]
end
/-! Floors with other numbers -/
end Go.Mus

/- Floors with other numbers. Conditions: none; over the given program. -/
namespace Go.Mus
set_option maxRecDepth 100000
set_option maxHeartbeats 4000000
end Go.Mus

/- Plans out of a hat; copies of plans. Conditions: none; over the given program. -/
namespace Go.Mus
set_option maxRecDepth 100000
set_option maxHeartbeats 4000000
theorem DupBerths_fn (main : Side) (h : Hp) (l : List Be) (v : Value) (hl : Sl h Be.row v l) (hn : l.length ≤ 1000) : Fnc prog main n_kit_DupBerths #[v] h [] (fun v A => ∃ S, Os t_Berth Be.row v l S ∧ Sb S A) := by
  obtain ⟨a, cap, rfl⟩ := hl.isSl
  refine Fnc.of_body at_kit_DupBerths rfl (by show 1 ≤ 6; decide) [(0, .slice a l.length cap)] ⟨rfl, trivial⟩ ?_
  refine W.seq <| W.region rfl <| qs rfl rfl rfl <| Ops.nil <| thn_n <| W.seq <| W.region rfl ?_
  refine Ops.bsl0 (fun β3 => ?_)
  refine qm rfl rfl rfl ?_
  have hO : Os t_Berth Be.row (.slice (some ⟨β3, 0, none⟩) 0 0) ([] : List Be) [(β3, .cells #[] t_Berth (0, 0))] := .inr ⟨β3, #[], 0, [], rfl, rfl, rfl, Nat.le_refl _, Part.all [], .nil⟩
  refine oe rfl wn rfl rfl (e_append (row := Be.row) (l := []) (l' := l) rfl rfl rfl hO .all (fun h2 hE _ => hl.ext hE) (by simp; omega) (by decide) rfl (fun v' S' hS' => ?_))
  rw [List.nil_append] at hS'
  refine qs rfl rfl rfl <| Ops.nil <| thn_n <| W.ret ?_
  exact lvt (vs := [v']) ⟨S', hS', .refl⟩

theorem ckBerths_app {nf : Int} : ∀ {ss : List St} {l : List Be} {s : St} {b : Be}, ckBerths nf (ss.take l.length) l = 0 → ss[l.length]? = some s → ckBerth nf s b = 0 → ckBerths nf (ss.take (l.length + 1)) (l ++ [b]) = 0
  | [], l, s, b, _, h, _ => by simp at h
  | t :: ss, [], s, b, _, h, hb => by
    simp at h; subst h
    simp [ckBerths, hb]
  | t :: ss, c :: l, s, b, h, hs, hb => by
    simp only [List.length_cons, List.take_succ_cons, List.cons_append, ckBerths] at h ⊢
    split at h
    · rename_i h1
      rw [if_pos h1]
      exact ckBerths_app h (by simpa using hs) hb
    · rename_i h1; exact absurd h h1
theorem ckBerth_ok {nf : Int} {s : St} {b : Be} (hnf : 1 ≤ nf) (h : b = ⟨-1, 0⟩ ∨ 0 ≤ b.fl ∧ b.fl < nf ∧ s.day ≤ b.day ∧ b.day ≤ s.day + s.wa) : ckBerth nf s b = 0 := by
  unfold ckBerth
  rcases h with rfl | h
  · rw [if_neg (by unfold outs; simp only; omega), if_neg (by simp), if_neg (by simp only; omega)]
  · rw [if_neg (by unfold outs; omega), if_neg (by omega), if_neg (by unfold outs; omega)]

theorem BerthsOf_fn (main : Side) (h : Hp) (nums : List Int) (lv : Value) (b k : Nat) (s : Int) (fs : List Fl) (ss : List St) (vf vs : Value) (hl : Sl h rowI lv nums) (hf : Sl h Fl.row vf fs) (hs : Sl h St.row vs ss) (hck : ckPlant fs ss = 0) (hk : k < 2000000000) : Fnc prog main n_kit_BerthsOf #[.pointer (some ⟨b, 0, none⟩), .agg #[vf, vs]] h [(b, hatO lv k s)]
    (fun v A => ∃ l S k' s', Os t_Berth Be.row v l S ∧ ckPlan fs ss l = 0 ∧ k' ≤ k + 100 ∧ Sb ((b, hatO lv k' s') :: S) A) := by
  have hall := hall_ck hck
  have hnf := hall.nf
  have hns := hall.ns
  obtain ⟨a, cap, rfl⟩ := hf.isSl
  obtain ⟨a', cap', rfl⟩ := hs.isSl
  refine Fnc.of_body at_kit_BerthsOf rfl (by show 2 ≤ 46; decide) [(0, .pointer (some ⟨b, 0, none⟩)), (1, .agg #[.slice a fs.length cap, .slice a' ss.length cap'])] ⟨rfl, rfl, trivial⟩ ?_
  refine W.seq <| W.region rfl ?_
  refine Ops.box (cs := #[.slice a fs.length cap, .slice a' ss.length cap']) (fun β3 => ?_) rfl rfl rfl
  refine qs rfl rfl rfl <| Ops.nil <| thn_n <| W.seq <| W.region rfl <| qs rfl rfl rfl <| Ops.nil <| thn_n <| W.seq <| W.seq ?_
  refine W.region rfl <| qs rfl rfl rfl <| Ops.nil <| thn_n <| W.block ?_
  refine W.loop3 (σ := Nat) (τ := List Be × Value × Frag) (υ := Nat × Int) (fun i t u => i ≤ ss.length ∧ t.1.length = i ∧ Os t_Berth Be.row t.2.1 t.1 t.2.2 ∧ ckBerths fs.length (ss.take i) t.1 = 0 ∧ u.1 ≤ k + 3 * i) (fun i t _ => [(6, I i), (5, t.2.1), (3, .pointer (some ⟨β3, 0, none⟩)), (0, .pointer (some ⟨b, 0, none⟩))])
    (fun _ t u => (β3, .cells #[.slice a fs.length cap, .slice a' ss.length cap'] t_Plant (0, 0)) :: (b, hatO lv u.1 u.2) :: t.2.2) (fun i _ _ => ss.length - i) 0 ([], .slice none 0 0, []) (k, s) ⟨Nat.zero_le _, rfl, .nil .nil, by simp [ckBerths], by omega⟩ ⟨rfl, rfl, rfl, rfl, trivial⟩ .refl ?_
  rintro i ⟨l, v, S⟩ ⟨k1, s1⟩ ⟨hi, hlen, hO, hcb, hk1⟩
  simp only at hlen hO hcb hk1 ⊢
  refine W.seq <| W.seq <| W.region rfl <| qm rfl rfl rfl ?_
  refine oq (y_fieldAddr rfl rfl) rfl wn rfl rfl ?_
  refine oq (yld rfl rfl) rfl wn rfl rfl ?_
  refine oq (y_len rfl rfl) rfl wn rfl rfl ?_
  refine oq (y_lss rfl rfl rfl) rfl wn rfl rfl ?_
  refine Ops.nil <| thn_n ?_
  refine W.condp rfl (fun c11 => ?_) (fun c11 => ?_)
  · have hi1 : i < ss.length := by omega
    obtain ⟨t, ht, -⟩ := has hi1
    have hto := hall.st t (List.mem_of_getElem? ht)
    have hto2 := strike_ok hck ht
    obtain ⟨bs, off, c, E, fz, rfl, hb, hx1, hy1, hz1⟩ := hs.at ht
    have hc0 : c[off + i * 3 + 0]? = some (I t.day) := hz1 0 (by decide)
    have hc2 : c[off + i * 3 + 2]? = some (I t.wa) := hz1 2 (by decide)
    clear hx1 hz1
    obtain ⟨va, vc, rfl⟩ := hO.isSl
    refine W.skip <| thn_n <| W.seq <| W.block <| W.seq <| W.seq <| W.region rfl <| qm rfl rfl rfl ?_
    refine cg (A := [(b, _)]) (.tail .head) (fun h' hE hL => Seldom_fn _ h' nums lv b k1 s1 5 (hl.ext hE) (by omega) (by decide)) (fun v A' hv => ?_)
    obtain ⟨r, s2, rfl, hsb⟩ := hv
    refine Ops.sb (.cons (hsb.app .refl)) ?_
    refine Ops.nil <| thn_n ?_
    refine W.cond rfl (fun c15 => ?_) (fun c15 => ?_)
    · refine W.seq <| W.region rfl <| qm rfl rfl rfl ?_
      refine oq (y_build (cs := #[I (-1), I 0]) rfl rfl rfl) rfl wn rfl rfl ?_
      refine Ops.bsl (cs := #[I (-1), I 0]) (fun β18 => ?_) rfl (hf := by kernel_rfl)
      refine oe rfl wn rfl rfl (e_append (row := Be.row) (l' := [⟨-1, 0⟩]) rfl rfl rfl hO (.tail (.tail (.tail .all))) (fun h2 _ hl => Sl.mk (hl β18 _ (.head _)) rfl (Part.all (flat Be.row [⟨-1, 0⟩]))) (by simp; omega) (by decide) rfl (fun v' S' hO' => ?_))
      refine qs rfl rfl rfl <| Ops.nil <| thn_n <| W.exit <| thn_x <| blk_x <| thn_n <| W.region rfl <| qm rfl rfl rfl ?_
      first | refine oq (yadd rfl rfl rfl) rfl wn rfl rfl ?_ | refine oq (y_addw rfl rfl rfl) rfl wn rfl rfl ?_
      refine qs rfl rfl rfl <| Ops.nil <| thn_n ?_
      first
      | exact ⟨rfl, i + 1, (l ++ [⟨-1, 0⟩], v', S'), (k1 + 1, s2), ⟨by omega, by simp [hlen], hO', by subst hlen; exact ckBerths_app hcb ht (ckBerth_ok (by omega) (.inl rfl)), by simp only; omega⟩, by omega, ⟨rfl, rfl, rfl, rfl, trivial⟩, .skip rfl .refl⟩
      | exact ⟨rfl, i + 1, (l ++ [⟨f, t.day + w⟩], _, S'), (k1 + 3, s4), ⟨by omega, by simp [hlen], hO', by subst hlen; exact ckBerths_app hcb ht (ckBerth_ok (by omega) (.inr ⟨by simp only; omega, by simp only; omega, by simp only; omega, by simp only; omega⟩)), by simp only; omega⟩, by omega, ⟨rfl, rfl, rfl, rfl, trivial⟩, .skip rfl .refl⟩
    · refine W.skip <| thn_n ?_
      refine W.drawP1 (n := 26) rfl ?_
      refine aq (i := 0) (y_move rfl rfl) rfl an rfl rfl ?_
      refine aq (i := 1) (y_move rfl rfl) rfl an rfl rfl ?_
      refine aq (i := 2) (y_fieldAddr rfl rfl) rfl an rfl rfl ?_
      refine aq (i := 3) (yld rfl rfl) rfl an rfl rfl ?_
      refine aq (i := 4) (y_len rfl rfl) rfl an rfl rfl ?_
      first | refine aq (i := 5) (ysub rfl rfl rfl) rfl an rfl rfl ?_ | refine aq (i := 5) (y_subw rfl rfl rfl) rfl an rfl rfl ?_
      refine aq (i := 7) (y_fieldAddr rfl rfl) rfl an rfl rfl ?_
      refine aq (i := 8) (yld rfl rfl) rfl an rfl rfl ?_
      refine aq (i := 9) (y_move rfl rfl) rfl an rfl rfl ?_
      first | refine aq (i := 10) (yix rfl rfl rfl) rfl an rfl rfl ?_ | refine aq (i := 10) (yixI rfl rfl rfl) rfl an rfl rfl ?_
      refine aq (i := 11) (y_fieldAddr rfl rfl) rfl an rfl rfl ?_
      refine aq (i := 12) (yld rfl rfl) rfl an rfl rfl ?_
      refine aq (i := 13) (y_move rfl rfl) rfl an rfl rfl ?_
      refine aq (i := 14) (y_fieldAddr rfl rfl) rfl an rfl rfl ?_
      refine aq (i := 15) (yld rfl rfl) rfl an rfl rfl ?_
      refine aq (i := 16) (y_move rfl rfl) rfl an rfl rfl ?_
      first | refine aq (i := 17) (yix rfl rfl rfl) rfl an rfl rfl ?_ | refine aq (i := 17) (yixI rfl rfl rfl) rfl an rfl rfl ?_
      refine aq (i := 18) (y_fieldAddr rfl rfl) rfl an rfl rfl ?_
      refine aq (i := 19) (yld rfl rfl) rfl an rfl rfl ?_
      refine ae (i := 6) rfl an rfl rfl (e_call (A := [(b, _)]) (args := [_, _]) rfl rfl (.tail .head) (fun h' hE hL => To_fn _ h' nums lv b (k1 + 1) s2 ((fs.length : Int) - 1) (hl.ext hE) (by omega) (by omega)) (fun v A' hv => ?_))
      refine ⟨.inr (Keeps.one (.head _) Keeps.nil), ?_⟩
      obtain ⟨f, s3, rfl, hf0, hsb3⟩ := hv
      refine Any.sb (.cons (hsb3.app .refl)) ?_
      refine ae (i := 20) rfl an rfl rfl (e_call (A := [(b, _)]) (args := [_, _]) rfl rfl (.tail .head) (fun h' hE hL => To_fn _ h' nums lv b (k1 + 2) s3 t.wa (hl.ext hE) (by omega) (by omega)) (fun v A' hv => ?_))
      refine ⟨.inr (Keeps.one (.head _) Keeps.nil), ?_⟩
      obtain ⟨w, s4, rfl, hw0, hsb4⟩ := hv
      refine Any.sb (.cons (hsb4.app .refl)) ?_
      refine aq (i := 21) (yadd rfl rfl rfl) rfl an rfl rfl ?_
      refine aq (i := 22) (y_build (cs := #[I f, I (t.day + w)]) rfl rfl rfl) rfl an rfl rfl ?_
      refine abl (i := 23) (cs := #[I f, I (t.day + w)]) (fun β43 => ?_) rfl
      refine ae (i := 24) rfl an rfl rfl (e_append (row := Be.row) (l' := [⟨f, t.day + w⟩]) rfl rfl rfl hO (.tail (.tail (.tail .all))) (fun h2 _ hl => Sl.mk (hl β43 _ (.head _)) rfl (Part.all (flat Be.row [⟨f, t.day + w⟩]))) (by simp; omega) (by decide) rfl (fun v' S' hO' => ?_))
      refine ⟨.inr (Keeps.one (.tail _ (.head _)) Keeps.nil), ?_⟩
      obtain ⟨asl, csl, rfl⟩ := hO'.isSl
      refine aq (i := 25) (y_assign rfl rfl) rfl an rfl rfl ?_
      refine az ?_
      refine blk_n <| thn_n <| W.region rfl <| qm rfl rfl rfl ?_
      first | refine oq (yadd rfl rfl rfl) rfl wn rfl rfl ?_ | refine oq (y_addw rfl rfl rfl) rfl wn rfl rfl ?_
      refine qs rfl rfl rfl <| Ops.nil <| thn_n ?_
      first
      | exact ⟨rfl, i + 1, (l ++ [⟨-1, 0⟩], v', S'), (k1 + 1, s2), ⟨by omega, by simp [hlen], hO', by subst hlen; exact ckBerths_app hcb ht (ckBerth_ok (by omega) (.inl rfl)), by simp only; omega⟩, by omega, ⟨rfl, rfl, rfl, rfl, trivial⟩, .skip rfl .refl⟩
      | exact ⟨rfl, i + 1, (l ++ [⟨f, t.day + w⟩], _, S'), (k1 + 3, s4), ⟨by omega, by simp [hlen], hO', by subst hlen; exact ckBerths_app hcb ht (ckBerth_ok (by omega) (.inr ⟨by simp only; omega, by simp only; omega, by simp only; omega, by simp only; omega⟩)), by simp only; omega⟩, by omega, ⟨rfl, rfl, rfl, rfl, trivial⟩, .skip rfl .refl⟩
  · have hil : i = ss.length := by omega
    refine W.exit <| thn_x <| thn_x <| blk_x <| thn_n <| W.seq <| W.region rfl <| qm rfl rfl rfl <| qs rfl rfl rfl <| Ops.nil ?_
    refine thn_n <| W.ret ?_
    refine lvt (vs := [_]) ⟨l, S, k1, s1, hO, ?_, by omega, .skip rfl .refl⟩
    subst hil
    rw [List.take_length] at hcb
    unfold ckPlan
    rw [if_neg (by simp [hck]), if_neg (by omega), if_neg (by omega)]
    exact hcb
end Go.Mus

/- Small plants and plans out of a hat; plans a day later. Conditions: none; over the given program. -/
namespace Go.Mus
set_option maxRecDepth 100000
set_option maxHeartbeats 4000000
theorem tiny_fn (main : Side) (h : Hp) (nums : List Int) (lv : Value) (b : Nat) (s : Int) (hl : Sl h rowI lv nums) : Fnc prog main n_law_tiny #[.pointer (some ⟨b, 0, none⟩)] h [(b, hatO lv 0 s)]
    (fun v A => ∃ vf vs vl fs ss l Sf Ss Sp, v = .tuple #[.agg #[vf, vs], vl] ∧ (Os t_Floor Fl.row vf fs Sf ∧ Os t_Strike St.row vs ss Ss ∧ Os t_Berth Be.row vl l Sp) ∧ (ckPlant fs ss = 0 ∧ ckPlan fs ss l = 0 ∧ ss.length ≤ 3 ∧ ∀ t ∈ ss, t.wa ≤ 1) ∧ Sb (Sp ++ (Sf ++ Ss)) A) := by
  refine Fnc.of_body at_law_tiny rfl (by show 1 ≤ 11; decide) [(0, .pointer (some ⟨b, 0, none⟩))] ⟨rfl, trivial⟩ ?_
  refine W.seq <| W.region rfl ?_
  refine Ops.new (fun β2 => ?_)
  refine qs rfl rfl rfl <| Ops.nil <| thn_n <| W.seq <| W.region rfl <| qm rfl rfl rfl ?_
  refine cg (A := [(b, _)]) (.tail .head) (fun h' hE hL => PlantOf_fn _ h' nums lv b s 3 1 (hl.ext hE) (by decide) (by decide)) (fun v A' hv => ?_)
  obtain ⟨vf, vs, fs, ss, Sf, Ss, k1, s1, rfl, ⟨hOf, hOs⟩, ⟨hck, hn4, hw⟩, hk100, hsb⟩ := hv
  refine Ops.sb (F' := (β2, .cells #[.slice none 0 0, .slice none 0 0] t_Plant (0, 0)) :: (b, hatO lv k1 s1) :: (Sf ++ Ss)) (.cons (hsb.trans (Sb.right .refl .nil))) ?_
  obtain ⟨a, cap, rfl⟩ := hOf.isSl
  obtain ⟨a', cap', rfl⟩ := hOs.isSl
  refine Ops.new (fun β4 => ?_)
  first | refine Ops.stoW ?_ | refine Ops.stoA ?_
  refine Ops.nil <| thn_n <| W.seq ?_
  refine W.drawP1 (n := 6) rfl ?_
  first | refine aq (i := 0) (yldW rfl rfl) rfl an rfl rfl ?_ | refine aq (i := 0) (yldA rfl rfl) rfl an rfl rfl ?_
  refine aq (i := 1) (y_move rfl rfl) rfl an rfl rfl ?_
  first | refine aq (i := 2) (yldW rfl rfl) rfl an rfl rfl ?_ | refine aq (i := 2) (yldA rfl rfl) rfl an rfl rfl ?_
  refine ae (i := 3) rfl an rfl rfl (e_call (A := [(b, _)]) (args := [_, _]) rfl rfl (.tail (.tail .head)) (fun h' hE hL => BerthsOf_fn _ h' nums lv b k1 s1 fs ss _ _ (hl.ext hE) (hOf.sl fun c o hb => hL c o (.tail _ (.tail _ (List.mem_append_right [] (List.mem_append_left _ hb))))) (hOs.sl fun c o hb => hL c o (.tail _ (.tail _ (List.mem_append_right [] (List.mem_append_right _ hb))))) hck (by omega)) (fun v A' hv => ?_))
  refine ⟨.inr (Keeps.one (.head _) Keeps.nil), ?_⟩
  obtain ⟨l, Sp, k2, s2, hOp, hcp, hk2, hsb2⟩ := hv
  obtain ⟨al, lc, rfl⟩ := hOp.isSl
  refine Any.sb (F' := (β4, .cells #[.slice a fs.length cap, .slice a' ss.length cap'] t_Plant (0, 0)) :: (β2, .cells #[.slice none 0 0, .slice none 0 0] t_Plant (0, 0)) :: (Sp ++ (Sf ++ Ss))) (.cons (.cons (.trans (.skip rfl .refl) (hsb2.app .refl)))) ?_
  first | refine ae (i := 4) rfl an rfl rfl (eSW rfl rfl rfl ?_) | refine ae (i := 4) rfl an rfl rfl (eSA rfl rfl rfl ?_)
  refine ⟨.inr (by first | exact Keeps.refl | exact Keeps.nil | ((repeat (first | exact fun _ h => h | apply Keeps.cons | apply Keeps.app)) <;> fail) | (repeat (first | exact Keeps.nil | refine Keeps.one (by repeat (first | exact List.Mem.head _ | apply List.Mem.tail)) ?_))), ?_⟩
  refine aq (i := 5) (y_assign rfl rfl) rfl an rfl rfl ?_
  refine az ?_
  refine thn_n <| W.ret ?_
  refine lvc (hv := rAgg (rTmp rNil)) ⟨_, _, _, fs, ss, l, Sf, Ss, Sp, rfl, ⟨hOf, hOs, hOp⟩, ⟨hck, hcp, hn4, hw⟩, .skip rfl (.skip rfl .refl)⟩

end Go.Mus

/- All strikes a day later. Conditions: none. -/
namespace Go.Mus
theorem fm_congr {α β : Type} {f g : α → List β} : ∀ {l : List α}, (∀ a ∈ l, f a = g a) → l.flatMap f = l.flatMap g
  | [], _ => rfl
  | a :: l, h => by
    rw [List.flatMap_cons, List.flatMap_cons, h a (List.mem_cons_self ..), fm_congr fun b hb => h b (List.mem_cons_of_mem _ hb)]
section
variable {fs : List Fl} {ss : List St}
/-! The searches -/
end
end Go.Mus

/- All strikes a day later: the same answers, a day later. Conditions: none. -/
namespace Go.Mus
section
variable {fs : List Fl} {ss : List St}
variable (hck : ckPlant fs ss = 0) (h11 : ∀ s ∈ ss, s.day ≤ 11)
include hck h11
end
/-! A plan a day later -/
end Go.Mus

/- Operations that come up in any order and only add to what is owned. Conditions: none; over any program. -/
namespace Go.Mus
/-- What is said of one that adds: its number, its slot, what it bears with what it adds. -/
abbrev Spc := Nat × Nat × (Value → Frag → Prop)
def waits (ops : Array Oper) : Nat → Nat → Nat → Bool
  | 0, _, _ => false
  | n + 1, k, b => match ops[k]? with | some o => o.after.any fun e => bindsTo e && (Nat.beq e.on b || waits ops n e.on b) | none => false
structure BagI (ops : Array Oper) (listed : Nat) (B : List Nat) : Prop where
  cl : Closed ops listed
  low : ∀ k o, ops[k]? = some o → ∀ e ∈ o.after, bindsTo e = true → e.on < k
  or : ∀ k, k < ops.size → listed.testBit k = false → k ∈ B ∨ ∀ b ∈ B, waits ops 6 k b = true
  un : ∀ b ∈ B, b < ops.size ∧ listed.testBit b = false
  nd : B.Nodup

theorem BagI.some {ops : Array Oper} {listed : Nat} {B : List Nat} (h : BagI ops listed B) {b : Nat} (hb : b ∈ B) : rdys ops listed ≠ [] := by
  have key : ∀ (n k : Nat), k < n → k < ops.size → listed.testBit k = false → ∃ i, rdy ops listed i = true := by
    intro n
    induction n with
    | zero => intro k hk; omega
    | succ n ih =>
      intro k hk hlt hl
      by_cases hr : rdy ops listed k = true
      · exact ⟨k, hr⟩
      · simp only [rdy, Array.getElem?_eq_getElem hlt, hl, Bool.not_false, Bool.true_and, Array.all_eq_true_iff_forall_mem, Bool.or_eq_true, Bool.not_eq_true'] at hr
        have : ∃ e ∈ (ops[k]).after, bindsTo e = true ∧ listed.testBit e.on = false := by
          refine Classical.byContradiction fun hn => hr fun e he => ?_
          cases hbe : bindsTo e with
          | false => exact .inl rfl
          | true =>
            cases ht : listed.testBit e.on with
            | true => exact .inr rfl
            | false => exact absurd ⟨e, he, hbe, ht⟩ hn
        obtain ⟨e, he, h1, h2⟩ := this
        have := h.low k _ (Array.getElem?_eq_getElem hlt) e he h1
        exact ih e.on (by omega) (by omega) h2
  obtain ⟨i, hi⟩ := key (b + 1) b (by omega) (h.un b hb).1 (h.un b hb).2
  intro e
  have := mem_rdys.2 hi
  rw [e] at this
  cases this

theorem BagI.step {ops : Array Oper} {listed j : Nat} {B1 B2 : List Nat} (h : BagI ops listed (B1 ++ j :: B2)) (hj : rdy ops listed j = true) : BagI ops (listed ||| 2 ^ j) (B1 ++ B2) := by
  have hnd : j ∉ B1 ++ B2 := by
    have := (List.perm_middle (a := j) (l₁ := B1) (l₂ := B2)).nodup_iff.1 h.nd
    exact (List.nodup_cons.1 this).1
  refine ⟨h.cl.step hj, h.low, fun k hk hl => ?_, fun b hb => ?_, ?_⟩
  · rw [testBit_or, Bool.or_eq_false_iff] at hl
    have hne : j ≠ k := by simpa using hl.2
    rcases h.or k hk hl.1 with h' | h'
    · left
      rcases List.mem_append.1 h' with h' | h'
      · exact List.mem_append_left _ h'
      · rcases List.mem_cons.1 h' with h' | h'
        · exact absurd h'.symm hne
        · exact List.mem_append_right _ h'
    · right
      intro b hb
      refine h' b ?_
      rcases List.mem_append.1 hb with hb | hb
      · exact List.mem_append_left _ hb
      · exact List.mem_append_right _ (List.mem_cons_of_mem _ hb)
  · have hb' : b ∈ B1 ++ j :: B2 := by
      rcases List.mem_append.1 hb with hb | hb
      · exact List.mem_append_left _ hb
      · exact List.mem_append_right _ (List.mem_cons_of_mem _ hb)
    refine ⟨(h.un b hb').1, ?_⟩
    rw [testBit_or, (h.un b hb').2, Bool.false_or, decide_eq_false_iff_not]
    rintro rfl
    exact hnd hb
  · have := (List.perm_middle (a := j) (l₁ := B1) (l₂ := B2)).nodup_iff.1 h.nd
    exact (List.nodup_cons.1 this).2

/-- One that adds. -/
def Adds (x : Cx) (ops : Array Oper) (ε : Ev) (s : Spc) : Prop :=
  ∃ o, ops[s.1]? = some o ∧ o.dst = some s.2.1 ∧ slotOK o.dst x.n = true ∧ (∀ c, o.op ≠ .defer c) ∧ o.guard = none ∧ ∀ e, Cons ε e → ∀ F, Run1 x o e F fun v F' => ∃ A F'', F''.Perm F' ∧ s.2.2 v A ∧ F'' = A ++ F

theorem Cons.back {ε : Ev} {d : Nat} {v : Value} {e : Operand → Value} (h : Cons (upd ε (some d) v) e) (hd : ε d = none) : Cons ε e := fun y u hy => h y u (by
  cases y with
  | tmp t =>
    simp only [evε, upd] at hy ⊢
    cases hb : Nat.beq t d with
    | true => rw [Nat.eq_of_beq_eq_true hb, hd] at hy; cases hy
    | false => exact hy
  | _ => exact hy)

section rules
variable {x : Cx} {Q : Post} {ρ : Env} {ds : List Deferred} {F : Frag} {ops : Array Oper} {L : Frag} {fuel listed : Nat}
theorem Adds.of {i d : Nat} {P : Value → Frag → Prop} {op : Op} {ty : TypeId} {pos : String} {aft : Array Edge} (ho : nthO ops.toList i = some ⟨some d, op, ty, pos, aft, none⟩) (hd : Nat.blt d x.n = true) (hn : noDefer op = true) (H : ∀ F, Ef x ρ ⟨some d, op, ty, pos, aft, none⟩ F fun v F' => ∃ A, P v A ∧ F' = A ++ F) : Adds x ops (look ρ) (i, d, P) :=
  ⟨_, nthO_get ho, rfl, hd, noDefer_spec hn, rfl, fun e he F => (H F e fun y v hy => he y v (by rw [ev_look]; exact hy)).mono fun v F' ⟨F'', p, A, hv, e⟩ => ⟨A, F'', p, hv, e⟩⟩
theorem Adds.call {i d f : Nat} {P : Value → Frag → Prop} {args : List Operand} {ts : Array TypeId} {vs : List Value} {ty : TypeId} {pos : String} {aft : Array Edge} (H : ∀ h', Ext x.h h' → Fnc x.P x.main f vs.toArray h' [] P) (ho : nthO ops.toList i = some ⟨some d, .call ⟨.value (.func f), args.toArray, ts⟩, ty, pos, aft, none⟩ := by rfl) [FB x.P f] (hv : evs ρ args = some vs := by rfl) (hd : Nat.blt d x.n = true := by rfl) : Adds x ops (look ρ) (i, d, P) :=
  .of ho hd rfl fun F => e_call0 rfl hv (fun h' hE _ => H h' hE) fun v A' hv => ⟨A', hv, rfl⟩
def NewP (t : TypeId) (zc : Array Value) (v : Value) (A : Frag) : Prop := ∃ β, v = .pointer (some ⟨β, 0, none⟩) ∧ A = [(β, .cells zc t (0, 0))]
theorem Adds.new {i d t s b : Nat} {z : Value} {zc : Array Value} {ty : TypeId} {pos : String} {aft : Array Edge} (ho : nthO ops.toList i = some ⟨some d, .alloc t, ty, pos, aft, none⟩ := by rfl) [TI x.P t s b z zc] (hd : Nat.blt d x.n = true := by rfl) : Adds x ops (look ρ) (i, d, NewP t zc) :=
  .of ho hd rfl fun F => e_alloc rfl fun β _ _ => ⟨_, ⟨β, rfl, rfl⟩, rfl⟩
end rules
end Go.Mus
namespace Go.Mus
section
variable {α : Type} {row : α → List Value} {w : Nat} [rw' : Rw row w]
section
variable {x : Cx} {ρ : Env} {F : Frag} {o : Oper} {R : Value → Frag → Prop}
end
end
section
variable {x : Cx} {S : Frag → Prop} {ρ : Env} {o : Oper}
end
end Go.Mus
namespace Go.Mus
section
variable {x : Cx} {Q : Post} {ρ : Env} {ds : List Deferred} {ops : Array Oper} {G : Frag} {y₁ y₂ y₃ y₄ y₅ y₆ : Nat × Obj} {id n : Nat}
end
/-- The same, in another order. -/
theorem perm_cnt {α : Type} {l l' : List α} (h : ∀ [DecidableEq α] (a : α), l.count a = l'.count a) : l.Perm l' := by
  classical
  exact List.perm_iff_count.2 fun a => h a
end Go.Mus
namespace Go.Mus
/-- A slice of one's own is put by, wherever it stands. -/
theorem freezeAt {x : Cx} {c : Code} {Q : Post} {ρ : Env} {ds : List Deferred} {A F : Frag} {U : Frag → Frag} {α : Type} {row : α → List Value} {w : Nat} [Rw row w] {E : TypeId} {v : Value} {l : List α} (hs : Os E row v l A) (hg : Seg A F U)
    (H : ∀ h', Ext x.h h' → Sl h' row v l → Zs h' v → W { x with h := h' } c Q ρ ds (U [])) : W x c Q ρ ds F :=
  W.perm hg.perm.1 (freezeOs hs H)
theorem Os.open {α : Type} {row : α → List Value} {w : Nat} [Rw row w] {E : TypeId} {a : Option Addr} {n cap : Nat} {l : List α} {A : Frag} (h : Os E row (.slice a n cap) l A) (hne : 0 < l.length) : ∃ β c J, a = some ⟨β, 0, none⟩ ∧ A = (β, .cells c E (0, 0)) :: J ∧ n = l.length ∧ c.size = cap * w ∧ l.length ≤ cap ∧ Part c 0 (flat row l) ∧ Shut J := by
  rcases h with ⟨rfl, _, _⟩ | ⟨β, c, cp, J, hv, rfl, h1, h2, h3, h4⟩
  · simp at hne
  · injection hv with e1 e2 e3
    subst e1 e2 e3
    exact ⟨β, c, J, rfl, rfl, rfl, h1, h2, h3, h4⟩
end Go.Mus

/- Plants a little changed. Conditions: none. -/
namespace Go.Mus
end Go.Mus

/- What shows in a heat, and what is wrong. Conditions: none. -/
namespace Go.Mus
set_option linter.unusedSectionVars false
/-! Days on which something shows -/
theorem be_pad {l : List Be} {i : Nat} : beAt (padB l) i = beAt l i := by
  simp only [beAt, padB, List.getD]
  rcases Nat.lt_or_ge i l.length with h | h
  · rw [List.getElem?_append_left h]
  · rw [List.getElem?_append_right h, List.getElem?_eq_none (l := l) h]
    cases hx : (List.replicate (4 - l.length) bnone)[i - l.length]? with
    | none => rfl
    | some b => rw [List.eq_of_mem_replicate (List.mem_of_getElem? hx)]; rfl
theorem be_out {l : List Be} {i : Nat} (h : l.length ≤ i) : beAt l i = bnone := by simp [beAt, List.getD, List.getElem?_eq_none h]
section
variable {fs : List Fl} {ss : List St} {l : List Be} (hall : HallOK fs ss) (hp : PlanOf fs ss (padB l)) (hn : l.length = ss.length)
include hall hp hn
end
/-! The first of all -/
def MinS (R : Nat → Nat → Prop) (on first : Int) : Prop := (on = -1 ∧ first = -1 ∧ ∀ f d, ¬ R f d) ∨ ∃ f d : Nat, on = f ∧ first = d ∧ R f d ∧ ∀ f' d', R f' d' → d < d' ∨ d = d' ∧ f ≤ f'
theorem MinS.eq {R : Nat → Nat → Prop} {a b c d : Int} (h : MinS R a b) (h' : MinS R c d) : a = c ∧ b = d := by
  rcases h with ⟨rfl, rfl, h⟩ | ⟨f, n, rfl, rfl, h, hm⟩ <;> rcases h' with ⟨rfl, rfl, h'⟩ | ⟨f', n', rfl, rfl, h', hm'⟩
  · exact ⟨rfl, rfl⟩
  · exact absurd h' (h _ _)
  · exact absurd h (h' _ _)
  · have := hm _ _ h'
    have := hm' _ _ h
    omega
theorem MinS.new {R R' : Nat → Nat → Prop} {on first g day : Int} (h : MinS R on first) (h' : MinS R' g day) (hc : 0 ≤ day ∧ (first < 0 ∨ day < first ∨ day = first ∧ g < on)) : MinS (fun f d => R f d ∨ R' f d) g day := by
  rcases h' with ⟨rfl, rfl, h'⟩ | ⟨f', n', rfl, rfl, h', hm'⟩
  · omega
  · refine .inr ⟨f', n', rfl, rfl, .inr h', fun x y hxy => ?_⟩
    rcases hxy with hxy | hxy
    · rcases h with ⟨rfl, rfl, h⟩ | ⟨f, n, rfl, rfl, h, hm⟩
      · exact absurd hxy (h _ _)
      · have := hm _ _ hxy
        omega
    · exact hm' _ _ hxy
theorem MinS.old {R R' : Nat → Nat → Prop} {on first g day : Int} (h : MinS R on first) (h' : MinS R' g day) (hc : ¬ (0 ≤ day ∧ (first < 0 ∨ day < first ∨ day = first ∧ g < on))) : MinS (fun f d => R f d ∨ R' f d) on first := by
  rcases h' with ⟨rfl, rfl, h'⟩ | ⟨f', n', rfl, rfl, h', hm'⟩
  · rcases h with ⟨rfl, rfl, h⟩ | ⟨f, n, rfl, rfl, h, hm⟩
    · exact .inl ⟨rfl, rfl, fun f d hx => hx.elim (h _ _) (h' _ _)⟩
    · exact .inr ⟨f, n, rfl, rfl, .inl h, fun x y hxy => hxy.elim (hm _ _) (fun hx => absurd hx (h' _ _))⟩
  · rcases h with ⟨rfl, rfl, h⟩ | ⟨f, n, rfl, rfl, h, hm⟩
    · omega
    · refine .inr ⟨f, n, rfl, rfl, .inl h, fun x y hxy => ?_⟩
      rcases hxy with hxy | hxy
      · exact hm _ _ hxy
      · have := hm' _ _ hxy
        omega
end Go.Mus

/- Slices of slices; makeSlice. Conditions: none; over any program. -/
namespace Go.Mus
/-- A slice as an element. -/
structure Sv where
  a : Option Addr
  n : Nat
  cap : Nat
abbrev Sv.val (s : Sv) : Value := .slice s.a s.n s.cap
def rowS (s : Sv) : List Value := [.slice s.a s.n s.cap]
instance : Rw rowS 1 := ⟨fun _ => rfl, fun _ => rfl⟩

section
variable {α : Type} {row : α → List Value} {w : Nat} [rw' : Rw row w] {E : TypeId}
/-- Slices of one's own, one by one. -/
inductive Oss (E : TypeId) (row : α → List Value) [Rw row w] : List Sv → List (List α) → Frag → Prop
  | nil : Oss E row [] [] []
  | cons {s : Sv} {l : List α} {A B : Frag} {vs : List Sv} {ls : List (List α)} : Os E row s.val l A → Oss E row vs ls B → Oss E row (s :: vs) (l :: ls) (A ++ B)
theorem Oss.len {vs : List Sv} {ls : List (List α)} {A : Frag} (h : Oss E row vs ls A) : vs.length = ls.length := by
  induction h with
  | nil => rfl
  | cons _ _ ih => simp [ih]
theorem Oss.shut {vs : List Sv} {ls : List (List α)} {A : Frag} (h : Oss E row vs ls A) : Shut A := by
  induction h with
  | nil => exact .nil
  | cons h _ ih => exact h.shut.app ih
theorem Oss.snoc {vs : List Sv} {ls : List (List α)} {A B : Frag} {s : Sv} {l : List α} (h : Oss E row vs ls A) (hs : Os E row s.val l B) : Oss E row (vs ++ [s]) (ls ++ [l]) (A ++ B) := by
  induction h with
  | nil => have := Oss.cons hs .nil; simpa using this
  | cons h1 _ ih => have := Oss.cons h1 ih; rw [← List.append_assoc] at this; exact this
theorem Oss.sl {vs : List Sv} {ls : List (List α)} {A : Frag} {h' : Hp} (h : Oss E row vs ls A) (hL : ∀ b o, (b, o) ∈ A → h' b = some o) : ∀ {k : Nat} {s : Sv} {l : List α}, vs[k]? = some s → ls[k]? = some l → Sl h' row s.val l := by
  induction h with
  | nil => intro k s l hs; simp at hs
  | cons h1 _ ih =>
    intro k s l hs hl
    rcases k with _ | k
    · simp at hs hl; subst hs hl
      exact h1.sl fun b o hb => hL b o (List.mem_append_left _ hb)
    · simp at hs hl
      exact ih (fun b o hb => hL b o (List.mem_append_right _ hb)) hs hl
/-- They are put by. -/
theorem freezeOss {x : Cx} {c : Code} {Q : Post} {ρ : Env} {ds : List Deferred} {A F : Frag} {vs : List Sv} {ls : List (List α)} (hs : Oss E row vs ls A)
    (H : ∀ h', Ext x.h h' → (∀ (k : Nat) (s : Sv) (l : List α), vs[k]? = some s → ls[k]? = some l → Sl h' row s.val l ∧ Zs h' s.val) → W { x with h := h' } c Q ρ ds F) : W x c Q ρ ds (A ++ F) := by
  induction hs generalizing x with
  | nil => exact H x.h ⟨fun _ _ q => q, fun _ q => q⟩ fun k s l hk => by simp at hk
  | cons h1 h2 ih =>
    rw [List.append_assoc]
    refine freezeOs h1 fun h' hE hsl hz => ih (x := { x with h := h' }) fun h'' hE' hall => H h'' (hE.trans hE') fun k s l hk hl => ?_
    rcases k with _ | k
    · simp at hk hl; subst hk hl
      exact ⟨hsl.ext hE', hz.ext hE'⟩
    · simp at hk hl
      exact hall k s l hk hl
theorem Sv.eta {v : Value} {l : List α} {A : Frag} (h : Os E row v l A) : ∃ s : Sv, v = s.val := by
  obtain ⟨a, cap, rfl⟩ := h.isSl
  exact ⟨⟨a, _, cap⟩, rfl⟩
end
/-! makeSlice -/
section
variable {x : Cx} {ρ : Env} {F : Frag} {o : Oper} {R : Value → Frag → Prop}
/-- A slice of zeros, each of one cell. -/
theorem e_makeSlice {t E by' n : Nat} {z : Value} {y y' : Operand} (ho : o.op = .makeSlice t y y') [TD x.P t (.slice E)] [TI x.P E 1 by' z #[z]] (hy : ev ρ y = some (.int .i64 (n : Int))) (hy' : ev ρ y' = some (.int .i64 (n : Int))) (hb : by' * n ≤ 2 ^ 48 ∧ n ≤ 1000000)
    (K : ∀ β, R (.slice (some ⟨β, 0, none⟩) n n) ((β, .cells (List.replicate n z).toArray E (0, 0)) :: F)) : Ef x ρ o F R :=
  Ef.of_tr fun e he h' hE => by
    obtain ⟨j, hj, hj1, hj2, hj3, hj4⟩ := TI.out (inferInstance : TI x.P E 1 by' z #[z])
    have hw : IntKind.i64.wrap (n : Int) = n := wrap_id (by omega) (by omega)
    have c1 : ¬ ((n : Int) < 0) := by omega
    have c2 : ¬ ((by' : Int) * (n : Int) > 2 ^ 48) := by have : ((by' * n : Nat) : Int) ≤ 2 ^ 48 := by exact_mod_cast hb.1
                                                         rw [Int.natCast_mul] at this; omega
    have c3 : ¬ ((n : Int) > n) := by omega
    simp only [execOp, ho, he y _ hy, he y' _ hy', Instr.makeSlice, asInt, asIntOf, bind_eq, pure_eq, bind_assoc, bind_pure, trb_underlying, trb_typeInfo hj, hj2, hw]
    simp only [c1, c2, c3, decide_false, Bool.or_false, Bool.false_eq_true, if_false]
    have room : ∀ {β : Type} {f : Unit → Sem β} {Q' : β → Frag → Prop}, tr x.P h' (f ()) F Q' → tr x.P h' ((askRoom (((n : Int).toNat) * by')).bind f) F Q' := by
      intro β f Q' H
      unfold askRoom
      split
      · exact ⟨rfl, H⟩
      · exact H
    refine tr_bind (room ?_)
    simp only [trb_sizeOf, Int.toNat_natCast, Nat.mul_one]
    have harr : (Array.range n).map (fun i => (#[z] : Array Value)[i % (#[z] : Array Value).size]!) = (List.replicate n z).toArray := by
      apply Array.ext
      · simp
      · intro i h1 h2
        simp [Nat.mod_one]
    by_cases h0 : n = 0
    · subst h0
      have e0 : (Array.range 0).map (fun x => (#[] : Array Value)[x % (#[] : Array Value).size]!) = (List.replicate 0 z).toArray := by simp
      simp only [if_true, newRow, bind_eq, pure_eq, bind_assoc, bind_pure, e0]
      exact tr_new fun r h1 h2 => ⟨_, .inl rfl, K r⟩
    · simp only [if_neg h0, trb_zeroValue, hj4, newRow, bind_eq, pure_eq, bind_assoc, bind_pure, harr]
      exact tr_new fun r h1 h2 => ⟨_, .inl rfl, K r⟩
end
end Go.Mus

/- All heats of a plan. Conditions: none; over the given program. -/
namespace Go.Mus
set_option maxRecDepth 100000
set_option maxHeartbeats 4000000
end Go.Mus

/- Cones on a day, days between, what shows in a heat. Conditions: none; over the given program. -/
namespace Go.Mus
set_option maxRecDepth 100000
set_option maxHeartbeats 4000000
theorem flat_rep {n : Nat} : flat rowI (List.replicate n (0 : Int)) = List.replicate n (I 0) := by
  induction n with
  | zero => rfl
  | succ n ih => rw [List.replicate_succ, List.replicate_succ, ← ih]; rfl
end Go.Mus

/- Whatever the heat is. Conditions: none; over the given program. -/
namespace Go.Mus
set_option maxRecDepth 100000
set_option maxHeartbeats 4000000
end Go.Mus

/- When a floor is empty, when cones are done, days of doubt; what is said of them by all heats. Conditions: none. -/
namespace Go.Mus
/-! Counted over all heats -/
def MmS (g : Nat → Int) (k : Nat) (lo hi : Int) : Prop := (k = 0 ∧ lo = 0 ∧ hi = 0) ∨ (0 < k ∧ (∀ i, i < k → lo ≤ g i ∧ g i ≤ hi) ∧ (∃ i, i < k ∧ g i = lo) ∧ ∃ i, i < k ∧ g i = hi)
theorem MmS.first {g : Nat → Int} {lo hi : Int} (h : MmS g 0 lo hi) : MmS g 1 (min (g 0) (g 0)) (max (g 0) (g 0)) := by
  refine .inr ⟨by omega, fun i hi => ?_, ⟨0, by omega, by omega⟩, ⟨0, by omega, by omega⟩⟩
  obtain rfl : i = 0 := by omega
  omega
theorem MmS.next {g : Nat → Int} {k : Nat} {lo hi : Int} (h : MmS g k lo hi) (hk : k ≠ 0) : MmS g (k + 1) (min lo (g k)) (max hi (g k)) := by
  rcases h with ⟨rfl, -, -⟩ | ⟨h0, h1, ⟨i, hi1, hi2⟩, ⟨j, hj1, hj2⟩⟩
  · exact absurd rfl hk
  refine .inr ⟨by omega, fun x hx => ?_, ?_, ?_⟩
  · rcases (by omega : x < k ∨ x = k) with h | rfl
    · have := h1 x h; omega
    · omega
  · rcases Int.le_total lo (g k) with h | h
    · exact ⟨i, by omega, by omega⟩
    · exact ⟨k, by omega, by omega⟩
  · rcases Int.le_total hi (g k) with h | h
    · exact ⟨k, by omega, by omega⟩
    · exact ⟨j, by omega, by omega⟩
theorem MmS.eq {g : Nat → Int} {n : Nat} {lo hi lo' hi' : Int} (h : MmS g n lo hi) (h' : MmS g n lo' hi') : lo = lo' ∧ hi = hi' := by
  rcases h with ⟨rfl, rfl, rfl⟩ | ⟨h0, h1, ⟨i, hi1, hi2⟩, ⟨j, hj1, hj2⟩⟩ <;> rcases h' with ⟨h0', rfl, rfl⟩ | ⟨h0', h1', ⟨i', hi1', hi2'⟩, ⟨j', hj1', hj2'⟩⟩
  · exact ⟨rfl, rfl⟩
  · omega
  · omega
  · have := h1 i' hi1'
    have := h1 j' hj1'
    have := h1' i hi1
    have := h1' j hj1
    omega
theorem ask_nil {fs : List Fl} {ss : List St} {l : List Be} (h : ckPlan fs ss l = 0) : askE fs ss l [] = 0 := by
  unfold askE; rw [if_neg (by simp [h]), if_neg (by simp [badF])]
end Go.Mus

/- All plans gone through: the right ones among them are those that are found, and what is kept of them. Conditions: none. -/
namespace Go.Mus
/-- All plans of the first strikes, in order. -/
def listF (fs : List Fl) (ss : List St) : Nat → List (List Be)
  | 0 => [[]]
  | i + 1 => (listF fs ss i).flatMap fun l => (berthsK fs ss freeM i).map fun b => l ++ [b]
def extF (fs : List Fl) (ss : List St) : Nat → List Be → List (List Be)
  | 0, l => [l]
  | m + 1, l => (berthsK fs ss freeM l.length).flatMap fun b => extF fs ss m (l ++ [b])
def isR (fs : List Fl) (ss : List St) (l : List Be) : Bool := (inspF fs ss (padB l)).isNone
def loaL (ss : List St) (l : List Be) : Int := loavesF ss (padB l)
theorem listF_len {fs : List Fl} {ss : List St} : ∀ i l, l ∈ listF fs ss i → l.length = i
  | 0, l, h => by have : l = [] := by simpa [listF] using h
                  subst this; rfl
  | i + 1, l, h => by
    obtain ⟨g, hg, hm⟩ := List.mem_flatMap.1 h
    obtain ⟨b, -, rfl⟩ := List.mem_map.1 hm
    rw [List.length_append, listF_len i g hg]; rfl
theorem list_ext {fs : List Fl} {ss : List St} : ∀ m k, (listF fs ss k).flatMap (extF fs ss m) = listF fs ss (k + m)
  | 0, k => by
    have : extF fs ss 0 = fun l => [l] := rfl
    rw [this, List.flatMap_singleton']; rfl
  | m + 1, k => by
    rw [show k + (m + 1) = (k + 1) + m by omega, ← list_ext m (k + 1), listF, List.flatMap_assoc]
    refine fm_congr fun l hl => ?_
    rw [extF, listF_len k l hl, List.flatMap_map]
theorem ext_nil {fs : List Fl} {ss : List St} {n : Nat} : extF fs ss n [] = listF fs ss n := by
  have := list_ext (fs := fs) (ss := ss) n 0
  rw [Nat.zero_add] at this
  rw [← this]; simp [listF]
theorem padB_set {l : List Be} {b : Be} (h : l.length < 4) : (padB l).set l.length b = padB (l ++ [b]) := by
  have e : 4 - l.length = (4 - (l ++ [b]).length) + 1 := by simp; omega
  unfold padB
  rw [e, List.set_append_right _ _ (Nat.le_refl _), Nat.sub_self, List.replicate_succ, List.set_cons_zero, List.append_assoc]
  rfl
theorem ext_pre {fs : List Fl} {ss : List St} : ∀ m l l', l' ∈ extF fs ss m l → ∃ r, l' = l ++ r
  | 0, l, l', h => by
    have : l' = l := by simpa [extF] using h
    exact ⟨[], by rw [this, List.append_nil]⟩
  | m + 1, l, l', h => by
    obtain ⟨b, -, hb⟩ := List.mem_flatMap.1 h
    obtain ⟨r, rfl⟩ := ext_pre m _ l' hb
    exact ⟨b :: r, by simp⟩
theorem ext_plan {fs : List Fl} {ss : List St} (hall : HallOK fs ss) : ∀ m l l', l.length + m = ss.length → PlanOf fs ss (padB l) → l' ∈ extF fs ss m l → PlanOf fs ss (padB l')
  | 0, l, l', _, hp, h => by
    have : l' = l := by simpa [extF] using h
    rw [this]; exact hp
  | m + 1, l, l', hl, hp, h => by
    have h4 := hall.ns
    obtain ⟨b, hb, hb'⟩ := List.mem_flatMap.1 h
    refine ext_plan hall m (l ++ [b]) l' (by simp; omega) ?_ hb'
    rw [← padB_set (by omega)]
    exact plan_set hp (by omega) (berth_ok hall (by omega) hb)
theorem rights_ext {fs : List Fl} {ss : List St} (hall : HallOK fs ss) : ∀ m l, l.length + m = ss.length → PlanOf fs ss (padB l) → rights fs ss freeM m l.length (padB l) = ((extF fs ss m l).filter (isR fs ss)).map padB
  | 0, l, _, _ => by
    rw [rights, extF, List.filter_cons]
    unfold isR
    split <;> rfl
  | m + 1, l, hl, hp => by
    have h4 := hall.ns
    rw [rights, extF, List.filter_flatMap, List.map_flatMap]
    refine fm_congr fun b hb => ?_
    rw [padB_set (by omega)]
    have hp' : PlanOf fs ss (padB (l ++ [b])) := by
      rw [← padB_set (by omega)]
      exact plan_set hp (by omega) (berth_ok hall (by omega) hb)
    have hbk := berth_ok hall (by omega) hb
    have ih := rights_ext hall m (l ++ [b]) (by simp; omega) hp'
    rw [List.length_append, List.length_singleton] at ih
    split
    · rename_i hpr
      have : (extF fs ss m (l ++ [b])).filter (isR fs ss) = [] := by
        refine List.filter_eq_nil_iff.2 fun l' hl' hr => ?_
        obtain ⟨r, rfl⟩ := ext_pre m _ l' hl'
        have hq := ext_plan hall m _ _ (by simp; omega) hp' hl'
        have hn : inspF fs ss (padB (l ++ [b] ++ r)) = none := by simpa [isR] using hr
        have := prune_no (b := b) hall hq.ok hp'.ok hbk.2.2.1 hn fun i hi => by
          rw [be_pad, be_pad]
          rcases Nat.lt_or_ge i (l ++ [b]).length with h | h
          · left; simp only [beAt, List.getD]; rw [List.getElem?_append_left h]
          · right; rw [be_out h]; simp [bnone]
        rw [hpr] at this; cases this
      rw [this]; rfl
    · exact ih
/-- ████ What is found is what is right, of all. -/
theorem allF_list {fs : List Fl} {ss : List St} (hall : HallOK fs ss) : allF fs ss freeM = ((listF fs ss ss.length).filter (isR fs ss)).map padB := by
  have h4 := hall.ns
  unfold allF
  split
  · rename_i h0
    have := rights_ext hall ss.length [] (by simp) (pad_nil hall.nf.1)
    rw [ext_nil] at this
    exact this
  · rename_i h0
    obtain ⟨n, hn⟩ : ∃ n, ss.length = n + 1 := ⟨ss.length - 1, by omega⟩
    have e : listF fs ss ss.length = (berthsK fs ss freeM 0).flatMap fun b => extF fs ss n ([] ++ [b]) := by
      rw [← ext_nil, hn, extF]; rfl
    rw [e, List.filter_flatMap, List.map_flatMap]
    refine fm_congr fun b hb => ?_
    have hp' : PlanOf fs ss (padB [b]) := by
      have := plan_set (pad_nil (ss := ss) hall.nf.1) (k := 0) (by omega) (berth_ok hall (by omega) hb)
      rwa [← pad_one] at this
    have := rights_ext hall n [b] (by simp; omega) hp'
    rw [rightsOf, show ss.length - [b].length = n by simp; omega]
    exact this
theorem berths_ck {fs : List Fl} {ss : List St} {k : Nat} {s : St} {b : Be} (hall : HallOK fs ss) (hs : ss[k]? = some s) (h : b ∈ berthsK fs ss freeM k) : ckBerth fs.length s b = 0 := by
  have hnf := hall.nf
  have hso := hall.st s (List.mem_of_getElem? hs)
  have e : stAt ss k = s := by simp [stAt, List.getD, hs]
  rw [mem_berths, e] at h
  rcases h with ⟨-, rfl⟩ | ⟨-, h⟩
  · exact ckBerth_ok (by omega) (.inl rfl)
  · exact ckBerth_ok (by omega) (.inr ⟨by omega, by omega, by omega, by omega⟩)
theorem list_cks {fs : List Fl} {ss : List St} (hall : HallOK fs ss) : ∀ i l, i ≤ ss.length → l ∈ listF fs ss i → ckBerths fs.length (ss.take i) l = 0
  | 0, l, _, h => by
    have : l = [] := by simpa [listF] using h
    subst this; simp [ckBerths]
  | i + 1, l, hi, h => by
    obtain ⟨g, hg, hm⟩ := List.mem_flatMap.1 h
    obtain ⟨b, hb, rfl⟩ := List.mem_map.1 hm
    have hl := listF_len i g hg
    obtain ⟨s, hs, -⟩ := has (show i < ss.length by omega)
    have := list_cks hall i g (by omega) hg
    subst hl
    exact ckBerths_app this hs (berths_ck hall hs hb)
theorem list_ck {fs : List Fl} {ss : List St} (hck : ckPlant fs ss = 0) {l : List Be} (h : l ∈ listF fs ss ss.length) : ckPlan fs ss l = 0 := by
  have hall := hall_ck hck
  have hl := listF_len _ l h
  have h1 := list_cks hall ss.length l (Nat.le_refl _) h
  rw [List.take_length] at h1
  unfold ckPlan
  rw [if_neg (by simp [hck]), if_neg (by omega), if_neg (by omega)]
  exact h1
theorem wrong_ok {fs : List Fl} {ss : List St} {l : List Be} (h : ckPlan fs ss l = 0) : ∃ f d, wrongV fs ss l = (f, d, 0) ∧ (f < 0 ↔ isR fs ss l = true) := by
  obtain ⟨hall, hp, -⟩ := plan_ck h
  have e1 : wrongV fs ss l = errW (inspF fs ss (padB l)) := by
    rw [wrongV, if_neg (by rw [ask_nil h]; decide)]
  rw [e1, isR]
  cases hi : inspF fs ss (padB l) with
  | none => exact ⟨-1, -1, rfl, by simp⟩
  | some w =>
    obtain ⟨⟨c, n⟩, f⟩ := w
    obtain ⟨y0, y1, -, -⟩ := insp_some hall hp.ok hi
    exact ⟨f, n, rfl, by simp; omega⟩
theorem berths_len {fs : List Fl} {ss : List St} (hall : HallOK fs ss) {k : Nat} (hk : k < ss.length) : (berthsK fs ss freeM k).length ≤ 13 := by
  have hs := hall.st (stAt ss k) (by simp [stAt, List.getD, List.getElem?_eq_getElem hk])
  have hd : ∀ (m : Nat) (f d : Int), (daysFrom f d m).length = m := by
    intro m; induction m with
    | zero => intros; rfl
    | succ m ih => intro f d; rw [daysFrom, List.length_cons, ih]
  have hf : ∀ (m : Nat) (f : Int), (floorsFrom (stAt ss k) f m).length = m * ((stAt ss k).wa + 1).toNat := by
    intro m; induction m with
    | zero => intro f; simp [floorsFrom]
    | succ m ih => intro f; rw [floorsFrom, List.length_append, hd, ih, Nat.succ_mul]; omega
  have hn := hall.nf.2
  have hw : ((stAt ss k).wa + 1).toNat ≤ 6 := by omega
  have : fs.length * ((stAt ss k).wa + 1).toNat ≤ 2 * 6 := Nat.mul_le_mul hn hw
  simp only [berthsK, freeM, if_true, List.length_append, hf, List.length_singleton]
  omega
theorem fm_len {α β : Type} {l : List α} {f : α → List β} {n : Nat} (h : ∀ x ∈ l, (f x).length ≤ n) : (l.flatMap f).length ≤ l.length * n := by
  induction l with
  | nil => simp
  | cons a l ih =>
    rw [List.flatMap_cons, List.length_append, List.length_cons, Nat.succ_mul]
    have := ih fun x hx => h x (List.mem_cons_of_mem _ hx)
    have := h a (List.mem_cons_self ..)
    omega
theorem listF_le {fs : List Fl} {ss : List St} (hall : HallOK fs ss) : ∀ i, i ≤ ss.length → (listF fs ss i).length ≤ 13 ^ i
  | 0, _ => by simp [listF]
  | i + 1, hi => by
    have ih := listF_le hall i (by omega)
    have := fm_len (l := listF fs ss i) (f := fun l => (berthsK fs ss freeM i).map fun b => l ++ [b]) (n := 13) fun x _ => by rw [List.length_map]; exact berths_len hall (by omega)
    rw [listF, Nat.pow_succ]
    exact Nat.le_trans this (Nat.mul_le_mul_right _ ih)
theorem pow13 {i : Nat} (h : i ≤ 4) : 13 ^ i ≤ 28561 := by
  rcases (by omega : i = 0 ∨ i = 1 ∨ i = 2 ∨ i = 3 ∨ i = 4) with rfl | rfl | rfl | rfl | rfl <;> decide

/-! What is kept of those that are gone through -/
structure BI (ss : List St) (R B : List (List Be)) (most : Int) : Prop where
  eq : B = R.filter fun l => decide (loaL ss l = most)
  top : ∀ l ∈ R, loaL ss l ≤ most
  ne : R ≠ [] → B ≠ []
  em : R = [] → most = -1
theorem BI.nil {ss : List St} : BI ss [] [] (-1) := ⟨rfl, fun l h => by simp at h, fun h => absurd rfl h, fun _ => rfl⟩
theorem BI.less {ss : List St} {R B : List (List Be)} {most : Int} {l : List Be} (h : BI ss R B most) (hl : loaL ss l < most) (h0 : 0 ≤ loaL ss l) : BI ss (R ++ [l]) B most := by
  have hR : R ≠ [] := fun e => by have := h.em e; omega
  refine ⟨?_, fun x hx => ?_, fun _ => h.ne hR, fun e => by simp at e⟩
  · rw [List.filter_append, ← h.eq, List.filter_cons, if_neg (by simp; omega)]; simp
  · rcases List.mem_append.1 hx with hx | hx
    · exact h.top x hx
    · have : x = l := by simpa using hx
      subst this; omega
theorem BI.same {ss : List St} {R B : List (List Be)} {most : Int} {l : List Be} (h : BI ss R B most) (hl : loaL ss l = most) (h0 : 0 ≤ loaL ss l) : BI ss (R ++ [l]) (B ++ [l]) most := by
  refine ⟨?_, fun x hx => ?_, fun _ e => by simp at e, fun e => by simp at e⟩
  · rw [List.filter_append, ← h.eq, List.filter_cons, if_pos (by simpa using hl)]; simp
  · rcases List.mem_append.1 hx with hx | hx
    · exact h.top x hx
    · have : x = l := by simpa using hx
      subst this; omega
theorem BI.more {ss : List St} {R B : List (List Be)} {most : Int} {l : List Be} (h : BI ss R B most) (hl : most < loaL ss l) : BI ss (R ++ [l]) [l] (loaL ss l) := by
  refine ⟨?_, fun x hx => ?_, fun _ e => by simp at e, fun e => by simp at e⟩
  · rw [List.filter_append, filter_none fun q hq => ?_, List.filter_cons, if_pos (by simp)]
    · simp
    · have := h.top q hq
      exact decide_eq_false (by omega)
  · rcases List.mem_append.1 hx with hx | hx
    · have := h.top x hx; omega
    · have : x = l := by simpa using hx
      subst this; omega
/-- ████ What is kept is what Best says. -/
theorem BI.best {fs : List Fl} {ss : List St} (hall : HallOK fs ss) {B : List (List Be)} {most : Int} (h : BI ss ((listF fs ss ss.length).filter (isR fs ss)) B most) : (bestF fs ss).1 = most ∧ (bestF fs ss).2 = B.map padB ∧ B ≠ [] ∧ ∀ l ∈ B, l ∈ listF fs ss ss.length := by
  obtain ⟨⟨q, hq, hq1⟩, htop, hout⟩ := best_spec hall
  rw [allF_list hall] at hq htop hout
  obtain ⟨l, hl, rfl⟩ := List.mem_map.1 hq
  have hne : (listF fs ss ss.length).filter (isR fs ss) ≠ [] := fun e => by rw [e] at hl; simp at hl
  have hB := h.ne hne
  have e : (bestF fs ss).1 = most := by
    obtain ⟨x, hx⟩ := List.exists_mem_of_ne_nil _ hB
    have hx' := hx
    rw [h.eq, List.mem_filter] at hx'
    have h1 : loaL ss x = most := by simpa using hx'.2
    have h2 := htop (padB x) (List.mem_map.2 ⟨x, hx'.1, rfl⟩)
    have h3 := h.top l hl
    simp only [loaL] at h1 h3
    omega
  refine ⟨e, ?_, hB, fun x hx => ?_⟩
  · rw [hout, List.filter_map, e, h.eq]
    rfl
  · rw [h.eq] at hx
    exact (List.mem_filter.1 (List.mem_filter.1 hx).1).1
def cntB (B : List (List Be)) (s : Nat) : Int := (cntF s B : Nat)
theorem cntB_snoc {B : List (List Be)} {l : List Be} {s : Nat} : cntB (B ++ [l]) s = cntB B s + if 0 ≤ (beAt l s).fl then 1 else 0 := by
  unfold cntB cntF
  rw [List.countP_append, List.countP_cons]
  simp only [List.countP_nil, Nat.zero_add, decide_eq_true_eq]
  split <;> simp
theorem cntF_pad {B : List (List Be)} {s : Nat} : cntF s (B.map padB) = cntF s B := by
  unfold cntF
  rw [List.countP_map]
  congr 1
  funext l
  simp only [Function.comp_def, be_pad]
/-- What is counted of each strike; of the first k one more. -/
def metJ (B : List (List Be)) (l : List Be) (n k : Nat) : List Int := (List.range n).map fun j => if j < k then cntB (B ++ [l]) j else cntB B j
theorem metJ_at {B : List (List Be)} {l : List Be} {n k j : Nat} (h : j < n) : (metJ B l n k)[j]? = some (if j < k then cntB (B ++ [l]) j else cntB B j) := by
  simp [metJ, h]
theorem metJ_set {B : List (List Be)} {l : List Be} {n k : Nat} : (metJ B l n k).set k (cntB (B ++ [l]) k) = metJ B l n (k + 1) := by
  refine List.ext_getElem? fun i => ?_
  rw [List.getElem?_set]
  by_cases hi : i < n
  · by_cases e : k = i
    · subst e; rw [if_pos rfl, if_pos (by simpa [metJ] using hi), metJ_at hi, if_pos (by omega)]
    · rw [if_neg e, metJ_at hi, metJ_at hi]
      by_cases h' : i < k
      · rw [if_pos h', if_pos (by omega)]
      · rw [if_neg h', if_neg (by omega)]
  · have h1 : (metJ B l n k)[i]? = none := by simp [metJ]; omega
    have h2 : (metJ B l n (k + 1))[i]? = none := by simp [metJ]; omega
    rw [h1, h2]
    split
    · rename_i e; subst e; rw [if_neg (by simp [metJ]; omega)]
    · rfl
theorem metJ_skip {B : List (List Be)} {l : List Be} {n k : Nat} (h : ¬ 0 ≤ (beAt l k).fl) : metJ B l n k = metJ B l n (k + 1) := by
  refine List.map_congr_left fun j _ => ?_
  by_cases e : j = k
  · subst e; rw [if_neg (by omega), if_pos (by omega), cntB_snoc, if_neg h, Int.add_zero]
  · by_cases h' : j < k
    · rw [if_pos h', if_pos (by omega)]
    · rw [if_neg h', if_neg (by omega)]
def metB (B : List (List Be)) (n : Nat) : List Int := (List.range n).map (cntB B)
theorem metJ_0 {B : List (List Be)} {l : List Be} {n : Nat} : metJ B l n 0 = metB B n := List.map_congr_left fun j _ => by rw [if_neg (by omega)]
theorem metJ_n {B : List (List Be)} {l : List Be} {n : Nat} : metJ B l n n = metB (B ++ [l]) n := List.map_congr_left fun j hj => by rw [if_pos (List.mem_range.1 hj)]
theorem metB_nil {n : Nat} : metB [] n = List.replicate n 0 := by
  refine List.ext_getElem? fun i => ?_
  by_cases hi : i < n
  · simp [metB, hi, cntB, cntF, List.getElem?_replicate]
  · simp [metB, hi, List.getElem?_replicate]
theorem metB_at {B : List (List Be)} {n s : Nat} (h : s < n) : (metB B n)[s]? = some (cntB B s) := by simp [metB, h]
theorem verd_met {fs : List Fl} {ss : List St} {B : List (List Be)} {s : Nat} (h : (bestF fs ss).2 = B.map padB) : verdF fs ss s = if cntB B s = 0 then 2 else if cntB B s = B.length then 1 else 3 := by
  have h1 : cntF s B ≤ B.length := List.countP_le_length
  rw [verdF, h, cntF_pad, List.length_map]
  unfold cntB
  by_cases c0 : cntF s B = 0
  · rw [if_neg (by omega), if_pos c0, if_pos (by omega)]
  · by_cases c1 : cntF s B = B.length
    · rw [if_neg (by omega), if_neg c0, if_neg (by omega), if_pos (by omega)]
    · rw [if_pos (by omega), if_neg (by omega), if_neg (by omega)]
end Go.Mus

/- When a floor is empty, when cones are done, days of doubt. Conditions: none; over the given program. -/
namespace Go.Mus
set_option maxRecDepth 100000
set_option maxHeartbeats 4000000
/-! Days, beside each other -/
theorem eqv_days : EqV prog t_days 44 3 := EqV.array (n := 22) (w := 2) (K := 2) eqv_span.at
instance : EV prog t_days 44 := ⟨eqv_days.le (by decide)⟩
instance : NS prog t_days := ⟨by kernel_rfl, by kernel_rfl⟩
end Go.Mus

/- All plans of a plant, in their order; the loaves of a plan. Conditions: none; over the given program. -/
namespace Go.Mus
set_option maxRecDepth 100000
set_option maxHeartbeats 40000000
theorem daysFrom_snoc {f : Int} : ∀ {m : Nat} {d : Int}, daysFrom f d (m + 1) = daysFrom f d m ++ [⟨f, d + m⟩]
  | 0, d => by simp [daysFrom]
  | m + 1, d => by
    rw [daysFrom, daysFrom_snoc, daysFrom, List.cons_append]
    rw [show d + 1 + (m : Int) = d + ((m + 1 : Nat) : Int) by omega]
theorem floorsFrom_snoc {s : St} : ∀ {m : Nat} {f : Int}, floorsFrom s f (m + 1) = floorsFrom s f m ++ daysFrom (f + m) s.day (s.wa + 1).toNat
  | 0, f => by simp [floorsFrom]
  | m + 1, f => by
    rw [floorsFrom, floorsFrom_snoc, floorsFrom, List.append_assoc]
    rw [show f + 1 + (m : Int) = f + ((m + 1 : Nat) : Int) by omega]
theorem floors_le {s : St} {m : Nat} {f : Int} (hm : m ≤ 2) (hw : s.wa ≤ 5) : (floorsFrom s f m).length ≤ 12 := by
  rw [floorsFrom_len]
  exact Nat.mul_le_mul hm (show (s.wa + 1).toNat ≤ 6 by omega)
theorem berths_eq {fs : List Fl} {ss : List St} {k : Nat} : berthsK fs ss freeM k = bnone :: floorsFrom (stAt ss k) 0 fs.length := by
  simp [berthsK, freeM]
/-- Each berth behind each of the first j plans. -/
def stepP (bs : List Be) (out : List (List Be)) (j : Nat) : List (List Be) := (out.take j).flatMap fun l => bs.map fun b => l ++ [b]
theorem stepP_succ {bs : List Be} {out : List (List Be)} {j : Nat} {g : List Be} (h : out[j]? = some g) : stepP bs out (j + 1) = stepP bs out j ++ bs.map fun b => g ++ [b] := by
  rw [stepP, List.take_add_one, List.flatMap_append, h]; simp [stepP]
theorem stepP_len {bs : List Be} {out : List (List Be)} (h : bs.length ≤ 13) : ∀ j, (stepP bs out j).length ≤ 13 * j
  | 0 => by simp [stepP]
  | j + 1 => by
    have ih := stepP_len (out := out) h j
    cases e : out[j]? with
    | none =>
      have : stepP bs out (j + 1) = stepP bs out j := by rw [stepP, List.take_add_one, e]; simp [stepP]
      rw [this]; omega
    | some g =>
      rw [stepP_succ e, List.length_append, List.length_map]
      omega
theorem listF_step {fs : List Fl} {ss : List St} {i : Nat} : listF fs ss (i + 1) = stepP (berthsK fs ss freeM i) (listF fs ss i) (listF fs ss i).length := by
  rw [listF, stepP, List.take_length]
def mapS (g : List Be) (bs : List Be) : List (List Be) := bs.map fun b => g ++ [b]
theorem mapS_snoc {g bs : List Be} {b : Be} : mapS g (bs ++ [b]) = mapS g bs ++ [g ++ [b]] := by simp [mapS]

theorem lists_fn (main : Side) (h : Hp) (fs : List Fl) (ss : List St) (vf vs : Value) (hf : Sl h Fl.row vf fs) (hs : Sl h St.row vs ss) (hck : ckPlant fs ss = 0) : Fnc prog main n_law_lists #[.agg #[vf, vs]] h [] (fun v A => ∃ O us B, Os t_sl_Berth rowS v us O ∧ Oss t_Berth Be.row us (listF fs ss ss.length) B ∧ Sb (O ++ B) A) := by
  have hall := hall_ck hck
  have hns := hall.ns
  have hnf := hall.nf
  obtain ⟨a, cap, rfl⟩ := hf.isSl
  obtain ⟨a', cap', rfl⟩ := hs.isSl
  refine Fnc.of_body at_law_lists rfl (by show 1 ≤ 79; decide) [(0, .agg #[.slice a fs.length cap, .slice a' ss.length cap'])] ⟨rfl, trivial⟩ ?_
  refine W.seq <| W.region rfl ?_
  refine Ops.box (cs := #[.slice a fs.length cap, .slice a' ss.length cap']) (fun β1 => ?_) rfl rfl rfl
  refine qs rfl rfl rfl <| Ops.nil <| thn_n <| W.seq <| W.region rfl ?_
  refine Ops.bsl (cs := #[.slice none 0 0]) (fun β9 => ?_) rfl
  refine qs rfl rfl rfl <| Ops.nil <| thn_n <| W.seq <| W.seq <| W.region rfl <| qs rfl rfl rfl <| Ops.nil <| thn_n <| W.block ?_
  have hO0 : Os t_sl_Berth rowS (.slice (some ⟨β9, 0, none⟩) 1 1) [(⟨none, 0, 0⟩ : Sv)] [(β9, .cells #[.slice none 0 0] t_sl_Berth (0, 0))] := .inr ⟨β9, _, 1, [], rfl, rfl, rfl, Nat.le_refl _, Part.all _, .nil⟩
  have hB0 : Oss t_Berth Be.row [(⟨none, 0, 0⟩ : Sv)] (listF fs ss 0) [] := by
    have := Oss.cons (E := t_Berth) (row := Be.row) (s := (⟨none, 0, 0⟩ : Sv)) (l := []) (.nil .nil) .nil
    exact this
  refine W.loop (σ := Nat × List Sv × Option Addr × Nat × Frag × Frag) (fun q => q.1 ≤ ss.length ∧ Os t_sl_Berth rowS (.slice q.2.2.1 q.2.1.length q.2.2.2.1) q.2.1 q.2.2.2.2.1 ∧ Oss t_Berth Be.row q.2.1 (listF fs ss q.1) q.2.2.2.2.2) (fun q => [(4, I q.1), (3, .slice q.2.2.1 q.2.1.length q.2.2.2.1), (1, .pointer (some ⟨β1, 0, none⟩))]) (fun q => (β1, .cells #[.slice a fs.length cap, .slice a' ss.length cap'] t_Plant (0, 0)) :: (q.2.2.2.2.1 ++ q.2.2.2.2.2)) (fun q => ss.length - q.1) (0, [⟨none, 0, 0⟩], some ⟨β9, 0, none⟩, 1, [(β9, .cells #[.slice none 0 0] t_sl_Berth (0, 0))], []) ⟨Nat.zero_le _, hO0, hB0⟩ ⟨rfl, rfl, rfl, trivial⟩ (.of_perm (List.perm_append_comm (l₁ := [_]))) ?_
  rintro ⟨i, us, sa, sc, O, B⟩ ⟨hi, hO, hB⟩
  dsimp only at *
  refine W.seq <| W.seq <| W.region rfl <| qm rfl rfl rfl ?_
  refine oq (y_fieldAddr rfl rfl) rfl wn rfl rfl ?_
  refine oq (yld rfl rfl) rfl wn rfl rfl ?_
  refine oq (y_len rfl rfl) rfl wn rfl rfl ?_
  refine oq (y_lss rfl rfl rfl) rfl wn rfl rfl ?_
  refine Ops.nil <| thn_n ?_
  refine W.condp rfl (fun c14 => ?_) (fun c14 => ?_)
  · have hi1 : i < ss.length := by omega
    obtain ⟨t, ht0, -⟩ := has hi1
    have hto := hall.st t (List.mem_of_getElem? ht0)
    have hta : stAt ss i = t := by simp [stAt, List.getD, ht0]
    have hHl := Nat.le_trans (listF_le hall i (by omega)) (pow13 (by omega))
    have hbl := berths_len hall hi1
    have hbe := berths_eq (fs := fs) (ss := ss) (k := i)
    have hst := listF_step (fs := fs) (ss := ss) (i := i)
    rw [hta] at hbe
    have hul := hB.len
    generalize hHe : listF fs ss i = H at hst hHl hul hB
    generalize berthsK fs ss freeM i = bs at hbl hbe hst
    refine W.skip <| thn_n <| W.seq <| W.block <| W.seq <| W.region rfl <| qs rfl rfl rfl <| Ops.nil <| thn_n <| W.seq ?_
    refine W.seq <| W.region rfl <| qs rfl rfl rfl <| Ops.nil <| thn_n <| W.block ?_
    refine W.loop (σ := Nat × List Sv × Option Addr × Nat × Frag × Frag) (fun q => q.1 ≤ us.length ∧ Os t_sl_Berth rowS (.slice q.2.2.1 q.2.1.length q.2.2.2.1) q.2.1 q.2.2.2.2.1 ∧ Oss t_Berth Be.row q.2.1 (stepP bs H q.1) q.2.2.2.2.2) (fun q => [(6, I q.1), (5, .slice q.2.2.1 q.2.1.length q.2.2.2.1), (4, I i), (3, .slice sa us.length sc), (1, .pointer (some ⟨β1, 0, none⟩))]) (fun q => (β1, .cells #[.slice a fs.length cap, .slice a' ss.length cap'] t_Plant (0, 0)) :: ((O ++ B) ++ (q.2.2.2.2.1 ++ q.2.2.2.2.2))) (fun q => us.length - q.1) (0, [], none, 0, [], []) ⟨Nat.zero_le _, .nil .nil, .nil⟩ ⟨rfl, rfl, rfl, rfl, rfl, trivial⟩ (by simp only [List.append_nil]; exact .refl) ?_
    rintro ⟨k, ns, na, nc, N, C⟩ ⟨hk, hN, hC⟩
    dsimp only at *
    refine W.seq <| W.seq <| W.region rfl <| qm rfl rfl rfl <| qm rfl rfl rfl ?_
    refine oq (y_len rfl rfl) rfl wn rfl rfl ?_
    refine oq (y_lss rfl rfl rfl) rfl wn rfl rfl ?_
    refine Ops.nil <| thn_n ?_
    refine W.condp rfl (fun c20 => ?_) (fun c20 => ?_)
    · have hk1 : k < us.length := by omega
      obtain ⟨g, hg, -⟩ := has (show k < H.length by omega)
      obtain ⟨s, hs0, -⟩ := has hk1
      have hgl : g.length = i := listF_len i g (hHe ▸ List.mem_of_getElem? hg)
      have hss := stepP_succ (bs := bs) hg
      have hsl13 := stepP_len (out := H) hbl k
      have hnl : ns.length ≤ 13 * k := by rw [hC.len]; exact hsl13
      obtain ⟨βo, co', Jo, hsa, hOe, -, -, -, hPo, -⟩ := hO.open (by omega)
      subst hsa
      have hcell : co'[0 + k * 1 + 0]? = some (.slice s.a s.n s.cap) := hPo.rowG hs0 0 (by decide)
      refine W.skip <| thn_n <| W.seq <| W.block <| W.seq <| W.region rfl <| qm rfl rfl rfl <| qm rfl rfl rfl <| qm rfl rfl rfl ?_
      first | refine oq (yix rfl rfl rfl) rfl wn rfl rfl ?_ | refine oq (yixI rfl rfl rfl) rfl wn rfl rfl ?_
      refine oq (yld rfl rfl (.inr (fun _ e => by subst e; exact .tail _ (List.mem_append_left _ (List.mem_append_left _ (by rw [hOe]; exact .head _))))) hcell) rfl wn rfl rfl ?_
      refine c0 (fun h' hE hL => DupBerths_fn _ h' g s.val (hB.sl (fun b o hb => hL b o (.tail _ (List.mem_append_left _ (List.mem_append_right _ hb)))) hs0 hg) (by omega)) (fun v A' hv => ?_)
      obtain ⟨S, hS, hsb⟩ := hv
      refine Ops.sb (hsb.app .refl) ?_
      refine cp (u := .agg #[I (-1), I 0]) (fun h' hE hL => none_fn _ h') ?_
      refine Ops.bsl (cs := #[I (-1), I 0]) (fun β30 => ?_) rfl (hf := by kernel_rfl)
      refine oe rfl wn rfl rfl (e_append (row := Be.row) (l' := [bnone]) rfl rfl rfl hS (.tail .head) (fun h2 _ hl => Sl.mk (hl β30 _ (.head _)) rfl (Part.all (Be.row bnone))) (by simp; omega) (by decide) rfl (fun v2 S2 hS2 => ?_))
      obtain ⟨s2, rfl⟩ := Sv.eta hS2
      refine Ops.bsl (cs := #[.slice s2.a s2.n s2.cap]) (fun β32 => ?_) rfl
      refine oe rfl wn rfl rfl (e_append (row := rowS) (l' := [s2]) rfl rfl rfl hN (.tail (.tail (.app (.tail (.app .head))))) (fun h2 _ hl => Sl.mk (hl β32 _ (.head _)) rfl (Part.all (rowS s2))) (by simp; omega) (by decide) rfl (fun v3 N3 hN3 => ?_))
      obtain ⟨na3, nc3, rfl⟩ := hN3.isSl
      refine qs rfl rfl rfl <| Ops.nil <| thn_n <| W.seq <| W.region rfl <| qs rfl rfl rfl <| Ops.nil <| thn_n <| W.block ?_
      have hC3 : Oss t_Berth Be.row (ns ++ [s2]) (stepP bs H k ++ mapS g (bnone :: floorsFrom t 0 0)) (C ++ S2) := hC.snoc hS2
      refine W.loop (σ := Nat × List Sv × Option Addr × Nat × Frag × Frag) (fun q => q.1 ≤ fs.length ∧ Os t_sl_Berth rowS (.slice q.2.2.1 q.2.1.length q.2.2.2.1) q.2.1 q.2.2.2.2.1 ∧ Oss t_Berth Be.row q.2.1 (stepP bs H k ++ mapS g (bnone :: floorsFrom t 0 q.1)) q.2.2.2.2.2) (fun q => [(7, I q.1), (6, I k), (5, .slice q.2.2.1 q.2.1.length q.2.2.2.1), (4, I i), (3, .slice (some ⟨βo, 0, none⟩) us.length sc), (1, .pointer (some ⟨β1, 0, none⟩))]) (fun q => (β1, .cells #[.slice a fs.length cap, .slice a' ss.length cap'] t_Plant (0, 0)) :: ((O ++ B) ++ (q.2.2.2.2.1 ++ q.2.2.2.2.2))) (fun q => fs.length - q.1) (0, ns ++ [s2], na3, nc3, N3, C ++ S2) ⟨Nat.zero_le _, hN3, hC3⟩ ⟨rfl, rfl, rfl, rfl, rfl, rfl, trivial⟩ (by
        dsimp only
        show Sb _ ((β32, .cells #[.slice s2.a s2.n s2.cap] t_sl_Berth (0, 0)) :: (β30, .cells #[I (-1), I 0] t_Berth (0, 0)) :: _)
        refine ⟨[(β32, .cells #[.slice s2.a s2.n s2.cap] t_sl_Berth (0, 0)), (β30, .cells #[I (-1), I 0] t_Berth (0, 0))], perm_cnt fun y => ?_, .cons rfl (.cons rfl .nil)⟩
        simp only [List.count_append, List.count_cons, List.count_nil]; omega) ?_
      clear hC3 hN3 hN hC hnl
      rintro ⟨f, ns, na, nc, N, C⟩ ⟨hf0, hN, hC⟩
      dsimp only at *
      refine W.seq <| W.seq <| W.region rfl <| qm rfl rfl rfl ?_
      refine oq (y_fieldAddr rfl rfl) rfl wn rfl rfl ?_
      refine oq (yld rfl rfl) rfl wn rfl rfl ?_
      refine oq (y_len rfl rfl) rfl wn rfl rfl ?_
      refine oq (y_lss rfl rfl rfl) rfl wn rfl rfl ?_
      refine Ops.nil <| thn_n ?_
      refine W.condp rfl (fun c38 => ?_) (fun c38 => ?_)
      · have hf1 : f < fs.length := by omega
        obtain ⟨bs', offs, cs, Es, fzs, rfl, hbs, -, hys, hzs⟩ := hs.at ht0
        have hsd : cs[offs + i * 3 + 0]? = some (I t.day) := hzs 0 (by decide)
        have hsw : cs[offs + i * 3 + 2]? = some (I t.wa) := hzs 2 (by decide)
        clear hzs
        refine W.skip <| thn_n <| W.seq <| W.block <| W.seq <| W.region rfl ?_
        refine oq (y_fieldAddr rfl rfl) rfl wn rfl rfl ?_
        refine oq (yld rfl rfl) rfl wn rfl rfl ?_
        refine qm rfl rfl rfl ?_
        first | refine oq (yix rfl rfl rfl) rfl wn rfl rfl ?_ | refine oq (yixI rfl rfl rfl) rfl wn rfl rfl ?_
        refine oq (y_fieldAddr rfl rfl) rfl wn rfl rfl ?_
        refine oq (yld rfl rfl) rfl wn rfl rfl ?_
        refine qs rfl rfl rfl <| Ops.nil <| thn_n <| W.block ?_
        refine W.loop (σ := Nat × List Sv × Option Addr × Nat × Frag × Frag) (fun q => q.1 ≤ (t.wa + 1).toNat ∧ Os t_sl_Berth rowS (.slice q.2.2.1 q.2.1.length q.2.2.2.1) q.2.1 q.2.2.2.2.1 ∧ Oss t_Berth Be.row q.2.1 (stepP bs H k ++ mapS g (bnone :: floorsFrom t 0 f ++ daysFrom f t.day q.1)) q.2.2.2.2.2) (fun q => [(8, I (t.day + q.1)), (7, I f), (6, I k), (5, .slice q.2.2.1 q.2.1.length q.2.2.2.1), (4, I i), (3, .slice (some ⟨βo, 0, none⟩) us.length sc), (1, .pointer (some ⟨β1, 0, none⟩))]) (fun q => (β1, .cells #[.slice a fs.length cap, .slice _ ss.length cap'] t_Plant (0, 0)) :: ((O ++ B) ++ (q.2.2.2.2.1 ++ q.2.2.2.2.2))) (fun q => (t.wa + 1).toNat - q.1) (0, ns, na, nc, N, C) ⟨Nat.zero_le _, hN, by simpa [daysFrom] using hC⟩ ⟨lk rfl (show I _ = I _ by congr 1; omega), rfl, rfl, rfl, rfl, rfl, rfl, trivial⟩ .refl ?_
        clear hN hC
        rintro ⟨m, ns, na, nc, N, C⟩ ⟨hm, hN, hC⟩
        dsimp only at *
        refine W.seq <| W.seq ?_
        refine W.drawF (n := 15) rfl ?_
        refine aq (i := 0) (y_move rfl rfl) rfl an rfl rfl ?_
        refine aq (i := 1) (y_fieldAddr rfl rfl) rfl an rfl rfl ?_
        refine aq (i := 2) (yld rfl rfl) rfl an rfl rfl ?_
        refine aq (i := 3) (y_move rfl rfl) rfl an rfl rfl ?_
        first | refine aq (i := 4) (yix rfl rfl rfl) rfl an rfl rfl ?_ | refine aq (i := 4) (yixI rfl rfl rfl) rfl an rfl rfl ?_
        refine aq (i := 5) (y_fieldAddr rfl rfl) rfl an rfl rfl ?_
        refine aq (i := 6) (yld rfl rfl) rfl an rfl rfl ?_
        refine aq (i := 7) (y_fieldAddr rfl rfl) rfl an rfl rfl ?_
        refine aq (i := 8) (yld rfl rfl) rfl an rfl rfl ?_
        refine aq (i := 9) (y_move rfl rfl) rfl an rfl rfl ?_
        first | refine aq (i := 10) (yix rfl rfl rfl) rfl an rfl rfl ?_ | refine aq (i := 10) (yixI rfl rfl rfl) rfl an rfl rfl ?_
        refine aq (i := 11) (y_fieldAddr rfl rfl) rfl an rfl rfl ?_
        refine aq (i := 12) (yld rfl rfl) rfl an rfl rfl ?_
        first | refine aq (i := 13) (yadd rfl rfl rfl) rfl an rfl rfl ?_ | refine aq (i := 13) (y_addw rfl rfl rfl) rfl an rfl rfl ?_
        refine aq (i := 14) (y_leq rfl rfl rfl) rfl an rfl rfl ?_
        refine az ?_
        refine thn_n ?_
        refine W.condp rfl (fun c61 => ?_) (fun c61 => ?_)
        · have hm1 : m < (t.wa + 1).toNat := by omega
          have hfl := floors_le (s := t) (m := f) (f := 0) (by omega) (by omega)
          have hnl : ns.length ≤ 13 * k + 20 := by
            rw [hC.len, List.length_append, mapS, List.length_map, List.length_append, List.length_cons, daysFrom_len]; omega
          refine W.skip <| thn_n <| W.seq <| W.block <| W.region rfl <| qm rfl rfl rfl <| qm rfl rfl rfl <| qm rfl rfl rfl ?_
          first | refine oq (yix rfl rfl rfl) rfl wn rfl rfl ?_ | refine oq (yixI rfl rfl rfl) rfl wn rfl rfl ?_
          refine oq (yld rfl rfl (.inr (fun _ e => by subst e; exact .tail _ (List.mem_append_left _ (List.mem_append_left _ (by rw [hOe]; exact .head _))))) hcell) rfl wn rfl rfl ?_
          refine c0 (fun h' hE hL => DupBerths_fn _ h' g s.val (hB.sl (fun b o hb => hL b o (.tail _ (List.mem_append_left _ (List.mem_append_right _ hb)))) hs0 hg) (by omega)) (fun v A' hv => ?_)
          obtain ⟨S, hS, hsb⟩ := hv
          refine Ops.sb (hsb.app .refl) ?_
          refine qm rfl rfl rfl <| qm rfl rfl rfl ?_
          refine oq (y_build (parts := [⟨_, _⟩, ⟨_, _⟩]) (cs := #[I f, I (t.day + m)]) rfl rfl rfl) rfl wn rfl rfl ?_
          refine Ops.bsl (cs := #[I f, I (t.day + m)]) (fun β73 => ?_) rfl (hf := by kernel_rfl)
          refine oe rfl wn rfl rfl (e_append (row := Be.row) (l' := [(⟨f, t.day + m⟩ : Be)]) rfl rfl rfl hS (.tail .head) (fun h2 _ hl => Sl.mk (hl β73 _ (.head _)) rfl (Part.all (Be.row ⟨f, t.day + m⟩))) (by simp; omega) (by decide) rfl (fun v2 S2 hS2 => ?_))
          obtain ⟨s2, rfl⟩ := Sv.eta hS2
          refine Ops.bsl (cs := #[.slice s2.a s2.n s2.cap]) (fun β75 => ?_) rfl
          refine oe rfl wn rfl rfl (e_append (row := rowS) (l' := [s2]) rfl rfl rfl hN (.tail (.tail (.app (.tail (.app .head))))) (fun h2 _ hl => Sl.mk (hl β75 _ (.head _)) rfl (Part.all (rowS s2))) (by simp; omega) (by decide) rfl (fun v3 N3 hN3 => ?_))
          obtain ⟨na3, nc3, rfl⟩ := hN3.isSl
          refine qs rfl rfl rfl <| Ops.nil <| blk_n <| thn_n <| W.region rfl <| qm rfl rfl rfl ?_
          first | refine oq (yadd rfl rfl rfl) rfl wn rfl rfl ?_ | refine oq (y_addw rfl rfl rfl) rfl wn rfl rfl ?_
          refine qs rfl rfl rfl <| Ops.nil <| thn_n ?_
          refine ⟨rfl, (m + 1, ns ++ [s2], na3, nc3, N3, C ++ S2), ⟨by simp only; omega, hN3, ?_⟩, by simp only; omega, ⟨lk rfl (show I _ = I _ by congr 1; omega), rfl, rfl, rfl, rfl, rfl, rfl, trivial⟩, (by
            dsimp only
            show Sb _ ((β75, .cells #[.slice s2.a s2.n s2.cap] t_sl_Berth (0, 0)) :: (β73, .cells #[I f, I (t.day + m)] t_Berth (0, 0)) :: _)
            refine ⟨[(β75, .cells #[.slice s2.a s2.n s2.cap] t_sl_Berth (0, 0)), (β73, .cells #[I f, I (t.day + m)] t_Berth (0, 0))], perm_cnt fun y => ?_, .cons rfl (.cons rfl .nil)⟩
            simp only [List.count_append, List.count_cons, List.count_nil]; omega)⟩
          have := hC.snoc hS2
          dsimp only
          rw [daysFrom_snoc, ← List.append_assoc, mapS_snoc, ← List.append_assoc]
          exact this
        · refine W.exit <| thn_x <| thn_x <| blk_x <| blk_n <| thn_n <| W.region rfl <| qm rfl rfl rfl ?_
          first | refine oq (yadd rfl rfl rfl) rfl wn rfl rfl ?_ | refine oq (y_addw rfl rfl rfl) rfl wn rfl rfl ?_
          refine qs rfl rfl rfl <| Ops.nil <| thn_n ?_
          have hme : m = (t.wa + 1).toNat := by omega
          subst hme
          refine ⟨rfl, (f + 1, ns, na, nc, N, C), ⟨by simp only; omega, hN, ?_⟩, by simp only; omega, ⟨rfl, rfl, rfl, rfl, rfl, rfl, trivial⟩, .refl⟩
          dsimp only
          rw [floorsFrom_snoc, Int.zero_add, ← List.cons_append]
          exact hC
      · refine W.exit <| thn_x <| thn_x <| blk_x <| blk_n <| thn_n <| W.region rfl <| qm rfl rfl rfl ?_
        first | refine oq (yadd rfl rfl rfl) rfl wn rfl rfl ?_ | refine oq (y_addw rfl rfl rfl) rfl wn rfl rfl ?_
        refine qs rfl rfl rfl <| Ops.nil <| thn_n ?_
        have hfe : f = fs.length := by omega
        subst hfe
        rw [← hbe] at hC
        exact ⟨rfl, (k + 1, ns, na, nc, N, C), ⟨by simp only; omega, hN, by simp only; rw [hss]; exact hC⟩, by simp only; omega, ⟨rfl, rfl, rfl, rfl, rfl, trivial⟩, .refl⟩
    · refine W.exit <| thn_x <| thn_x <| blk_x <| thn_n <| W.region rfl <| qm rfl rfl rfl <| qs rfl rfl rfl <| Ops.nil <| blk_n ?_
      refine thn_n <| W.region rfl <| qm rfl rfl rfl ?_
      first | refine oq (yadd rfl rfl rfl) rfl wn rfl rfl ?_ | refine oq (y_addw rfl rfl rfl) rfl wn rfl rfl ?_
      refine qs rfl rfl rfl <| Ops.nil <| thn_n ?_
      have hke : k = us.length := by omega
      subst hke
      rw [hul] at hC
      exact ⟨rfl, (i + 1, ns, na, nc, N, C), ⟨by simp only; omega, hN, by simp only; rw [hst]; exact hC⟩, by simp only; omega, ⟨rfl, rfl, rfl, trivial⟩, .cons (Sb.left .refl (hO.shut.app hB.shut))⟩
  · have hie : i = ss.length := by omega
    subst hie
    refine W.exit <| thn_x <| thn_x <| blk_x <| thn_n <| W.seq <| W.region rfl <| qm rfl rfl rfl <| qs rfl rfl rfl <| Ops.nil ?_
    refine thn_n <| W.ret ?_
    exact lvt (vs := [_]) ⟨O, us, B, hO, hB, .skip rfl .refl⟩

theorem loaves_sum {ss : List St} {l : List Be} {fs : List Fl} (hall : HallOK fs ss) : loaL ss l = sumK (coG ss l) ss.length := by
  rw [loaL, loavesF_eq hall]
  exact sumK_congr fun i _ => by simp only [coG, be_pad]
theorem Loaves_fn (main : Side) (h : Hp) (fs : List Fl) (ss : List St) (l : List Be) (vf vs vl : Value) (hs : Sl h St.row vs ss) (hl : Sl h Be.row vl l) (hall : HallOK fs ss) (hn : l.length = ss.length) : Pu prog main n_ref_Loaves #[.agg #[vf, vs], vl] h (I (loaL ss l)) := by
  have hns := hall.ns
  obtain ⟨a', cap', rfl⟩ := hs.isSl
  obtain ⟨al, lc, rfl⟩ := hl.isSl
  rw [loaves_sum hall]
  refine Fnc.of_body at_ref_Loaves rfl (by show 2 ≤ 28; decide) [(0, .agg #[vf, .slice a' ss.length cap']), (1, .slice al l.length lc)] ⟨rfl, rfl, trivial⟩ ?_
  refine W.seq <| W.region rfl ?_
  refine Ops.box (cs := #[vf, .slice a' ss.length cap']) (fun β2 => ?_) rfl rfl rfl
  refine qs rfl rfl rfl <| Ops.nil <| thn_n <| W.seq <| W.region rfl <| qs rfl rfl rfl <| Ops.nil <| thn_n <| W.seq <| W.seq ?_
  refine W.region rfl <| qs rfl rfl rfl <| Ops.nil <| thn_n <| W.block ?_
  refine W.loop (σ := Nat) (fun k => k ≤ l.length) (fun k => [(6, I k), (5, I (sumK (coG ss l) k)), (2, .pointer (some ⟨β2, 0, none⟩)), (1, .slice al l.length lc)]) (fun _ => [(β2, .cells #[vf, .slice a' ss.length cap'] t_Plant (0, 0))]) (fun k => l.length - k) 0 (Nat.zero_le _) ⟨rfl, rfl, rfl, rfl, trivial⟩ .refl ?_
  rintro k hk
  refine W.seq <| W.seq <| W.region rfl <| qm rfl rfl rfl <| qm rfl rfl rfl ?_
  refine oq (y_len rfl rfl) rfl wn rfl rfl ?_
  refine oq (y_lss rfl rfl rfl) rfl wn rfl rfl ?_
  refine Ops.nil <| thn_n ?_
  refine W.condp rfl (fun c10 => ?_) (fun c10 => ?_)
  · have hk1 : k < l.length := by omega
    have hb0 : l[k]? = some (beAt l k) := by simp [beAt, List.getD, List.getElem?_eq_getElem hk1]
    obtain ⟨s, hs0, -⟩ := has (show k < ss.length by omega)
    have hsa : stAt ss k = s := by simp [stAt, List.getD, hs0]
    have hco := co_ok hall k
    rw [hsa] at hco
    have hsum := (loavesK_eq (p := l) hall k (by omega)).2
    have hg : coG ss l k = if 0 ≤ (beAt l k).fl then s.co else 0 := by rw [coG, hsa]
    obtain ⟨bl, offl, cl, El, fzl, rfl, hbl, -, hyl, hzl⟩ := hl.at hb0
    have hfl0 : cl[offl + k * 2 + 0]? = some (I (beAt l k).fl) := hzl 0 (by decide)
    clear hzl
    obtain ⟨bs, offs, cs, Es, fzs, rfl, hbs, -, hys, hzs⟩ := hs.at hs0
    have hfs : cs[offs + k * 3 + 1]? = some (I s.co) := hzs 1 (by decide)
    clear hzs
    refine W.skip <| thn_n <| W.seq <| W.block <| W.seq <| W.region rfl <| qm rfl rfl rfl <| qm rfl rfl rfl ?_
    first | refine oq (yix rfl rfl rfl) rfl wn rfl rfl ?_ | refine oq (yixI rfl rfl rfl) rfl wn rfl rfl ?_
    refine oq (y_fieldAddr rfl rfl) rfl wn rfl rfl ?_
    refine oq (yld rfl rfl) rfl wn rfl rfl ?_
    refine oq (y_geq rfl rfl rfl) rfl wn rfl rfl ?_
    refine Ops.nil <| thn_n ?_
    refine W.condp rfl (fun c18 => ?_) (fun c18 => ?_)
    · refine W.region rfl <| qm rfl rfl rfl ?_
      refine oq (y_fieldAddr rfl rfl) rfl wn rfl rfl ?_
      refine oq (yld rfl rfl) rfl wn rfl rfl ?_
      refine qm rfl rfl rfl ?_
      first | refine oq (yix rfl rfl rfl) rfl wn rfl rfl ?_ | refine oq (yixI rfl rfl rfl) rfl wn rfl rfl ?_
      refine oq (y_fieldAddr rfl rfl) rfl wn rfl rfl ?_
      refine oq (yld rfl rfl) rfl wn rfl rfl ?_
      first | refine oq (yadd rfl rfl rfl) rfl wn rfl rfl ?_ | refine oq (y_addw rfl rfl rfl) rfl wn rfl rfl ?_
      refine qs rfl rfl rfl <| Ops.nil <| blk_n <| thn_n <| W.region rfl <| qm rfl rfl rfl ?_
      first | refine oq (yadd rfl rfl rfl) rfl wn rfl rfl ?_ | refine oq (y_addw rfl rfl rfl) rfl wn rfl rfl ?_
      refine qs rfl rfl rfl <| Ops.nil <| thn_n ?_
      exact ⟨rfl, k + 1, by omega, by omega, ⟨rfl, lk rfl (show I _ = I _ by rw [sumK, hg, if_pos c18]), rfl, rfl, trivial⟩, .refl⟩
    · refine W.skip <| blk_n <| thn_n <| W.region rfl <| qm rfl rfl rfl ?_
      first | refine oq (yadd rfl rfl rfl) rfl wn rfl rfl ?_ | refine oq (y_addw rfl rfl rfl) rfl wn rfl rfl ?_
      refine qs rfl rfl rfl <| Ops.nil <| thn_n ?_
      exact ⟨rfl, k + 1, by omega, by omega, ⟨rfl, lk rfl (show I _ = I _ by rw [sumK, hg, if_neg c18, Int.add_zero]), rfl, rfl, trivial⟩, .refl⟩
  · have hke : k = ss.length := by omega
    subst hke
    refine W.exit <| thn_x <| thn_x <| blk_x <| thn_n <| W.seq <| W.region rfl <| qm rfl rfl rfl <| qs rfl rfl rfl <| Ops.nil ?_
    refine thn_n <| W.ret ?_
    exact lvp (hs := .cons rfl .nil) rfl
end Go.Mus
