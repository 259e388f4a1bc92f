/- The best plans; when all strikes can be set; the first that can't. Conditions: none. (And 31 texts more.) -/
import Derived.Test.YtnffnndmilpnoaaGreatDoorFloorLatesQ1
import Derived.Test.YtnffnndmilpnoaaGreatDoorR09
import Derived.Test.YtnffnndmilpnoaaGreatDoorR06
set_option linter.unusedVariables false
set_option linter.unusedSimpArgs false
set_option linter.unusedSectionVars false

/- The best plans; when all strikes can be set; the first that can't. Conditions: none. -/
namespace Go.Mus
/-! Each plan once -/
theorem daysFrom_nodup {f : Int} : ∀ (m : Nat) (d : Int), (daysFrom f d m).Nodup
 | 0, _ => .nil
 | m + 1, d => by
  rw [daysFrom, List.nodup_cons]
  refine ⟨fun h => ?_, daysFrom_nodup m (d + 1)⟩
  have := (mem_daysFrom h).2.1
  simp only at this; omega
theorem floorsFrom_nodup {s : St} : ∀ (m : Nat) (f : Int), (floorsFrom s f m).Nodup
 | 0, _ => .nil
 | m + 1, f => by
  rw [floorsFrom, List.nodup_append]
  refine ⟨daysFrom_nodup _ _, floorsFrom_nodup m (f + 1), fun a ha b hb e => ?_⟩
  subst e
  have h1 := (mem_daysFrom ha).1
  have h2 := (mem_floorsFrom hb).1
  omega
theorem berthsK_nodup {fs : List Fl} {ss : List St} {may : May} {k : Nat} : (berthsK fs ss may k).Nodup := by
 rw [berthsK, List.nodup_append]
 refine ⟨by split <;> simp, ?_, fun a ha b hb e => ?_⟩
 ·split
  ·exact floorsFrom_nodup _ _
  ·exact .nil
 subst e
 split at ha
 ·have : a = bnone := by simpa using ha
  subst this
  split at hb
  ·have := (mem_floorsFrom hb).1; simp [bnone] at this
  ·cases hb
 ·cases ha
theorem rights_at {fs : List Fl} {ss : List St} {may : May} (hall : HallOK fs ss) {m k : Nat} {q p : List Be} {b : Be} (hk : k + 1 + m = ss.length) (hq : PlanOf fs ss q) (hn : ∀ i, k ≤ i → beAt q i = bnone) (hb : b ∈ berthsK fs ss may k) (h : p ∈ rights fs ss may m (k + 1) (q.set k b)) : beAt p k = b := by
 have hk4 : k < q.length := by have := hall.ns; have := hq.ok.len; omega
 have := ((mem_rights hall m (k + 1) (q.set k b) p (by omega) (plan_set hq (by omega) (berth_ok hall (by omega) hb)) (fun i hi => by rw [beAt_set hk4, if_neg (by omega)]; exact hn i (by omega))).1 h).2.1 k (by omega)
 rw [this, beAt_set hk4, if_pos rfl]
theorem rights_nodup {fs : List Fl} {ss : List St} {may : May} (hall : HallOK fs ss) : ∀ (m k : Nat) (q : List Be), k + m = ss.length → PlanOf fs ss q → (∀ i, k ≤ i → beAt q i = bnone) → (rights fs ss may m k q).Nodup
 | 0, k, q, _, _, _ => by
  rw [rights]; split <;> simp
 | m + 1, k, q, hk, hq, hn => by
  have hk4 : k < q.length := by have := hall.ns; have := hq.ok.len; omega
  rw [rights, List.Nodup, List.pairwise_flatMap]
  refine ⟨fun b hb => ?_, ?_⟩
  ·split
   ·exact .nil
   ·exact rights_nodup hall m (k + 1) _ (by omega) (plan_set hq (by omega) (berth_ok hall (by omega) hb)) (fun i hi => by rw [beAt_set hk4, if_neg (by omega)]; exact hn i (by omega))
  ·refine (berthsK_nodup (fs := fs) (ss := ss) (may := may) (k := k)).imp_of_mem fun {a b} ha hb hab x hx y hy e => ?_
   subst e
   split at hx
   ·cases hx
   ·split at hy
    ·cases hy
    ·exact hab ((rights_at hall (by omega) hq hn ha hx).symm.trans (rights_at hall (by omega) hq hn hb hy))
theorem allF_nodup {fs : List Fl} {ss : List St} {may : May} (hall : HallOK fs ss) : (allF fs ss may).Nodup := by
 unfold allF
 split
 ·exact rights_nodup hall _ _ _ (by simp) (pad_nil hall.nf.1) (fun i _ => beAt_nil i)
 ·rename_i hs
  have hall1 : ∀ b, b ∈ berthsK fs ss may 0 → ∀ i, 1 ≤ i → beAt ((padB []).set 0 b) i = bnone := fun b _ i hi => by rw [beAt_set (by decide), if_neg (by omega)]; exact beAt_nil i
  rw [List.Nodup, List.pairwise_flatMap]
  refine ⟨fun b hb => ?_, ?_⟩
  ·rw [rightsOf, List.length_singleton, pad_one]
   exact rights_nodup hall _ _ _ (by omega) (plan_set (pad_nil hall.nf.1) (by omega) (berth_ok hall (by omega) hb)) (hall1 b hb)
  ·refine (berthsK_nodup (fs := fs) (ss := ss) (may := may) (k := 0)).imp_of_mem fun {a b} ha hb hab x hx y hy e => ?_
   subst e
   rw [rightsOf, List.length_singleton, pad_one] at hx hy
   exact hab ((rights_at hall (by omega) (pad_nil hall.nf.1) (fun i _ => beAt_nil i) ha hx).symm.trans (rights_at hall (by omega) (pad_nil hall.nf.1) (fun i _ => beAt_nil i) hb hy))

/-! The best -/
theorem filter_none {α : Type} {l : List α} {f : α → Bool} (h : ∀ q ∈ l, f q = false) : l.filter f = [] := List.filter_eq_nil_iff.2 fun q hq => by rw [h q hq]; simp
/-- What is kept while plans are looked at. -/
structure BInv (ss : List St) (l : List (List Be)) (s : (Int × List (List Be)) × List (List Be)) : Prop where
 met : s.2 = l
 top : l ≠ [] → (∃ q ∈ l, loavesF ss q = s.1.1) ∧ ∀ q ∈ l, loavesF ss q ≤ s.1.1
 out : s.1.2 = l.filter fun q => decide (loavesF ss q = s.1.1)
theorem BInv.step {ss : List St} {l : List (List Be)} {s : (Int × List (List Be)) × List (List Be)} {p : List Be} (H : BInv ss l s) (hp : p ∉ l) : BInv ss (l ++ [p]) (bstep ss s p) := by
 obtain ⟨⟨m, out⟩, met⟩ := s
 obtain ⟨h1, h2, h3⟩ := H
 simp only at h1 h2 h3
 subst h1
 obtain ⟨n, hn⟩ : ∃ n, loavesF ss p = n := ⟨_, rfl⟩
 simp only [bstep, if_neg hp, addM, hn]
 have hpf : ∀ c, [p].filter (fun q => decide (loavesF ss q = c)) = if n = c then [p] else [] := fun c => by
  rw [List.filter_cons]; simp [hn]
 rcases met with _ | ⟨q0, r0⟩
 ·have h0 : out = [] := h3
  subst h0
  simp only [true_or, if_true, List.nil_append]
  refine ⟨rfl, fun _ => ⟨⟨p, by simp, hn⟩, fun q hq => ?_⟩, by simp only; rw [hpf, if_pos rfl]⟩
  have : q = p := by simpa using hq
  subst this; simp only; omega
 ·obtain ⟨⟨q1, hq1, hq2⟩, htop⟩ := h2 (by simp)
  have hne : (q0 :: r0).filter (fun q => decide (loavesF ss q = m)) ≠ [] := fun e => by
   have := List.filter_eq_nil_iff.1 e q1 hq1
   simp [hq2] at this
  rw [← h3] at hne
  generalize q0 :: r0 = l at *
  by_cases hlt : m < n
  ·have hc : out = [] ∨ m < n := .inr hlt
   simp only [if_pos hc, if_true, List.nil_append]
   refine ⟨rfl, fun _ => ⟨⟨p, by simp, hn⟩, fun q hq => ?_⟩, ?_⟩
   ·rcases List.mem_append.1 hq with hq | hq
    ·have := htop q hq; simp only; omega
    ·have : q = p := by simpa using hq
     subst this; simp only; omega
   ·simp only
    rw [List.filter_append, hpf, if_pos rfl, filter_none fun q hq => ?_]
    ·rfl
    ·have := htop q hq
     exact decide_eq_false (by omega)
  ·have hc : ¬ (out = [] ∨ m < n) := not_or.2 ⟨hne, hlt⟩
   simp only [if_neg hc]
   by_cases he : n = m
   ·rw [if_pos he]
    refine ⟨rfl, fun _ => ⟨⟨p, by simp, hn.trans he⟩, fun q hq => ?_⟩, ?_⟩
    ·rcases List.mem_append.1 hq with hq | hq
     ·exact htop q hq
     ·have : q = p := by simpa using hq
      subst this; simp only; omega
    ·simp only
     rw [List.filter_append, hpf, if_pos he, h3]
   ·rw [if_neg he]
    refine ⟨rfl, fun _ => ⟨⟨q1, by simp [hq1], hq2⟩, fun q hq => ?_⟩, ?_⟩
    ·rcases List.mem_append.1 hq with hq | hq
     ·exact htop q hq
     ·have : q = p := by simpa using hq
      subst this; simp only; omega
    ·simp only
     rw [List.filter_append, hpf, if_neg he, List.append_nil, h3]
theorem BInv.run {ss : List St} : ∀ (r l : List (List Be)) (s : (Int × List (List Be)) × List (List Be)), BInv ss l s → (l ++ r).Nodup → BInv ss (l ++ r) (r.foldl (bstep ss) s)
 | [], l, s, h, _ => by rw [List.append_nil]; exact h
 | p :: r, l, s, h, hnd => by
  rw [List.foldl_cons, show l ++ p :: r = (l ++ [p]) ++ r by simp]
  refine BInv.run r (l ++ [p]) _ (h.step fun hm => ?_) (by simpa using hnd)
  exact (List.nodup_append.1 hnd).2.2 p hm p (by simp) rfl
/-- ████ THE BEST PLANS: of the right ones those with the most loaves, in order. -/
theorem best_spec {fs : List Fl} {ss : List St} (hall : HallOK fs ss) : (∃ q ∈ allF fs ss freeM, loavesF ss q = (bestF fs ss).1) ∧ (∀ q ∈ allF fs ss freeM, loavesF ss q ≤ (bestF fs ss).1) ∧ (bestF fs ss).2 = (allF fs ss freeM).filter fun q => decide (loavesF ss q = (bestF fs ss).1) := by
 have h := BInv.run (ss := ss) (allF fs ss freeM) [] ((0, []), []) ⟨rfl, fun h => absurd rfl h, rfl⟩ (allF_nodup hall)
 rw [List.nil_append] at h
 have hne : allF fs ss freeM ≠ [] := fun e => by have := allF_p0 hall; rw [e] at this; cases this
 exact ⟨(h.top hne).1, (h.top hne).2, h.out⟩

/-! Loaves -/
def coG (ss : List St) (p : List Be) (i : Nat) : Int := if 0 ≤ (beAt p i).fl then (stAt ss i).co else 0
theorem loavesK_eq {fs : List Fl} {ss : List St} {p : List Be} (hall : HallOK fs ss) : ∀ k, k ≤ 1000 → loavesK ss p k = sumK (coG ss p) k ∧ 0 ≤ sumK (coG ss p) k ∧ sumK (coG ss p) k ≤ 6 * k
 | 0, _ => ⟨rfl, Int.le_refl _, Int.le_refl _⟩
 | k + 1, hk => by
  obtain ⟨h1, h2, h3⟩ := loavesK_eq (p := p) hall k (by omega)
  have hc := co_ok hall k
  simp only [loavesK, sumK, coG]
  split
  ·rw [h1, wadd_small h2 (by omega) hc.1 (by omega)]
   exact ⟨rfl, by omega, by omega⟩
  ·exact ⟨by omega, by omega, by omega⟩
theorem loavesF_eq {fs : List Fl} {ss : List St} {p : List Be} (hall : HallOK fs ss) : loavesF ss p = sumK (coG ss p) ss.length := (loavesK_eq hall _ (by have := hall.ns; omega)).1
/-! Whether all can be set -/
theorem some_iff {fs : List Fl} {ss : List St} {may : May} (hall : HallOK fs ss) : someR fs ss may = true ↔ ∃ p, Valid fs ss may p ∧ inspF fs ss p = none := by
 have : someR fs ss may = true ↔ ∃ p, p ∈ rightsOf fs ss may [] := by
  simp only [someR, Bool.not_eq_true', List.isEmpty_eq_false_iff_exists_mem]
 rw [this]
 exact exists_congr fun p => mem_rightsOf hall
end Go.Mus

/- The first strikes of a plant alone; which strike is late. Conditions: none. -/
namespace Go.Mus
end Go.Mus

/- A plant without its last strike. Conditions: none; over the given program. -/
namespace Go.Mus
set_option maxRecDepth 100000
set_option maxHeartbeats 4000000
end Go.Mus

/- The strike that is late, and the best plan's length. Conditions: none. -/
namespace Go.Mus
end Go.Mus

/- Whether all strikes of a plant are set in its best plan; the strike that is late, asked of the best plans. Conditions: none; over the given program. -/
namespace Go.Mus
set_option maxRecDepth 100000
set_option maxHeartbeats 4000000
end Go.Mus

/- Strikes that wait longer; with which patience all can be set. Conditions: none; over the given program. -/
namespace Go.Mus
set_option maxRecDepth 100000
set_option maxHeartbeats 4000000
theorem Ops.freezeOs {x : Cx} {ops : Array Oper} {td : List Nat} {Q : Post} {ρ : Env} {ds : List Deferred} {A F : Frag} {α : Type} {row : α → List Value} {w : Nat} [Rw row w] {E : TypeId} {v : Value} {l : List α} (hs : Os E row v l A)
  (H : ∀ h', Ext x.h h' → Sl h' row v l → Zs h' v → Ops { x with h := h' } ops td Q ρ ds F) : Ops x ops td Q ρ ds (A ++ F) := by
 rcases hs with ⟨rfl, rfl, hsh⟩ | ⟨β, cc, cap, J, rfl, rfl, h1, h2, h3, hsh⟩
 ·exact Ops.sb (Sb.left .refl hsh) (H x.h ⟨fun _ _ q => q, fun _ q => q⟩ .nil (fun b off n cap e => by cases e))
 ·refine Ops.freeze (b := β) rfl fun h' hE hb hz => ?_
  refine Ops.sb (F' := F) (Sb.left .refl hsh) (H h' hE (.mk hb rfl h3) (fun b off n cap e => by cases e; exact hz))
end Go.Mus

/- A floor with other places; how many it needs. Conditions: none; over the given program. -/
namespace Go.Mus
set_option maxRecDepth 100000
set_option maxHeartbeats 4000000
/-- A floor's cells. -/
theorem Part.setR {α : Type} {row : α → List Value} {w : Nat} [Rw row w] {c : Array Value} {l : List α} {j : Nat} {p : α} (q : α) (k : Nat) (x : Value) (hk : k < w) (h : Part c 0 (flat row l)) (hj : l[j]? = some p) (hq : row q = (row p).set k x) : Part (c.setIfInBounds (j * w + k) x) 0 (flat row (l.set j q)) := by
 obtain ⟨pre, post, h1, h2⟩ := h
 have : pre = [] := List.length_eq_zero_iff.1 h2
 subst this
 refine ⟨[], post, ?_, rfl⟩
 have hlt : j < l.length := lt_of_get hj
 have hlen : j * w + k < (flat row l).length := by
  rw [flat_len]
  have : (j + 1) * w ≤ l.length * w := Nat.mul_le_mul_right _ hlt
  rw [Nat.succ_mul] at this; omega
 simp only [Array.toList_setIfInBounds, h1, List.nil_append]
 rw [List.set_append_left _ _ hlen]
 congr 1
 clear h1 h2 hlen
 induction l generalizing j with
 | nil => simp at hj
 | cons a l ih =>
  cases j with
  | zero =>
   simp only [List.getElem?_cons_zero, Option.some.injEq] at hj
   subst hj
   simp only [flat_cons, List.set_cons_zero, Nat.zero_mul, Nat.zero_add]
   rw [List.set_append_left _ _ (by rw [Rw.len]; exact hk), hq]
  | succ j =>
   have := ih (j := j) (by simpa using hj) (by simpa using hlt)
   simp only [List.set_cons_succ, flat_cons]
   rw [← this, List.set_append_right _ _ (by rw [Rw.len, Nat.succ_mul]; omega)]
   congr 2
   rw [Rw.len, Nat.succ_mul]; omega

/-! Places -/
end Go.Mus

/- How many places a floor needs. Conditions: none; over the given program. -/
namespace Go.Mus
set_option maxRecDepth 100000
set_option maxHeartbeats 4000000
theorem flAt_some {fs : List Fl} {f : Int} (h0 : 0 ≤ f) (h1 : f < fs.length) : fs[f.toNat]? = some (flAt fs f) := by
 obtain ⟨x, hx, -⟩ := has (show f.toNat < fs.length by omega)
 simp [flAt, List.getD, hx]
end Go.Mus

/- What makes plans right more easily, and so the loaves no fewer. Conditions: none. -/
namespace Go.Mus
/-- Where each right plan has one that is as good, the best are as good. -/
theorem best_le {fs fs' : List Fl} {ss ss' : List St} (hall : HallOK fs ss) (hall' : HallOK fs' ss') (H : ∀ p, Valid fs ss freeM p → inspF fs ss p = none → ∃ p', Valid fs' ss' freeM p' ∧ inspF fs' ss' p' = none ∧ loavesF ss p ≤ loavesF ss' p') : (bestF fs ss).1 ≤ (bestF fs' ss').1 := by
 obtain ⟨⟨q, hq, hql⟩, -, -⟩ := best_spec hall
 obtain ⟨-, htop, -⟩ := best_spec hall'
 obtain ⟨hv, hi⟩ := (mem_allF hall).1 hq
 obtain ⟨p', h1, h2, h3⟩ := H q hv hi
 have := htop p' ((mem_allF hall').2 ⟨h1, h2⟩)
 omega
/-! Without a strike -/
end Go.Mus

/- How much slower a floor may be. Conditions: none; over the given program. -/
namespace Go.Mus
set_option maxRecDepth 100000
set_option maxHeartbeats 4000000
/-! Turning a list round -/
end Go.Mus

/- How much slower a floor may be. Conditions: none; over the given program. -/
namespace Go.Mus
set_option maxRecDepth 100000
set_option maxHeartbeats 4000000
end Go.Mus

/- How much slower a floor may be, and that it is so. Conditions: none; over the given program. -/
namespace Go.Mus
set_option maxRecDepth 100000
set_option maxHeartbeats 4000000
theorem mem_numsN {lo a : Int} : ∀ {m : Nat}, a ∈ numsN lo m ↔ lo ≤ a ∧ a < lo + m
 | 0 => by
  constructor
  ·intro h; simp [numsN] at h
  ·intro h; omega
 | m + 1 => by
  rw [numsN, List.mem_append, mem_numsN]
  simp; omega
end Go.Mus

/- Whether a strike is in the best plans. Conditions: none; over the given program. -/
namespace Go.Mus
set_option maxRecDepth 100000
set_option maxHeartbeats 4000000
/-- In how many plans a strike is set. -/
def cntF (s : Nat) (l : List (List Be)) : Nat := l.countP fun p => decide (0 ≤ (beAt p s).fl)
def verdF (fs : List Fl) (ss : List St) (s : Nat) : Int := if 0 < cntF s (bestF fs ss).2 ∧ cntF s (bestF fs ss).2 < (bestF fs ss).2.length then 3 else if cntF s (bestF fs ss).2 = 0 then 2 else 1
theorem cntF_next {s i : Nat} {l : List (List Be)} {p : List Be} (h : l[i]? = some p) : cntF s (l.take (i + 1)) = cntF s (l.take i) + if 0 ≤ (beAt p s).fl then 1 else 0 := by
 rw [cntF, take_next h, List.countP_append]
 congr 1
 simp [List.countP_cons]
theorem cntF_le {s i : Nat} {l : List (List Be)} : cntF s (l.take i) ≤ i := Nat.le_trans List.countP_le_length (by simp; omega)

theorem Verdict_fn (main : Side) (hS : ∀ S, main.ok S → ∃ Fin, S = Mn prog Fin) (hmb : main.b = true) (h : Hp) (fs : List Fl) (ss : List St) (s : Nat) (vf vs : Value) (Eg : TypeId) (zg : Nat × Nat) (hf : Sl h Fl.row vf fs) (hs : Sl h St.row vs ss) (zf : Zs h vf) (zs : Zs h vs) (hck : ckPlant fs ss = 0) (hs0 : s < ss.length) (hg : h 0 = some (.cells #[rtV t_error] Eg zg)) (z0 : h.z 0) :
  Pu prog main n_floor_Verdict #[.agg #[vf, vs], I s] h (.tuple #[I (verdF fs ss s), I 0]) := by
 have hall := hall_ck hck
 have hns := hall.ns
 obtain ⟨a, cap, rfl⟩ := hf.isSl
 obtain ⟨a', cap', rfl⟩ := hs.isSl
 obtain ⟨bs, hbs⟩ : ∃ bs, (bestF fs ss).2 = bs := ⟨_, rfl⟩
 have hb4 : ∀ p ∈ bs, p.length = 4 := fun p hp => allF4 (bestF_mem (hbs ▸ hp))
 have hpo : ∀ p ∈ bs, PlanOf fs ss p := fun p hp => allF_PlanOf hall (bestF_mem (hbs ▸ hp))
 have hbl : bs.length ≤ 28561 := by
  rw [← hbs, (best_spec hall).2.2]
  exact Nat.le_trans (List.length_filter_le _ _) (allF_len hall)
 refine Fnc.of_body at_floor_Verdict rfl (by show 2 ≤ 61; decide) [(0, .agg #[.slice a fs.length cap, .slice a' ss.length cap']), (1, I s)] ⟨rfl, rfl, trivial⟩ ?_
 refine W.seq <| W.region rfl ?_
 refine Ops.box (cs := #[.slice a fs.length cap, .slice a' ss.length cap']) (fun β2 => ?_) rfl rfl rfl
 refine qs rfl rfl rfl <| qs rfl rfl rfl <| Ops.nil <| thn_n <| W.seq <| W.seq <| W.region rfl ?_
 first | refine o1 (yldW rfl rfl) rfl ?_ | refine o1 (yldA rfl rfl) rfl ?_
 refine cp (u := I 0) (fun h' hE hL => by have := Check_fn main h' fs ss _ _ (hf.ext hE) (hs.ext hE); rw [hck] at this; exact this) ?_
 refine qs rfl rfl rfl <| Ops.nil <| thn_n <| W.seq <| W.region rfl <| qm rfl rfl rfl ?_
 refine o1 ((y_neq rfl rfl rfl).eq (u := .bool false) rfl) rfl ?_
 refine Ops.nil <| thn_n ?_
 refine W.condF ?_
 refine W.skip <| thn_n <| W.seq <| W.seq <| W.region rfl <| qm rfl rfl rfl ?_
 refine o1 (y_fieldAddr rfl rfl) rfl ?_
 refine o1 (yld rfl rfl) rfl ?_
 refine o1 (y_len rfl rfl) rfl ?_
 first | refine o1 (ysub rfl rfl rfl) rfl ?_ | refine o1 (y_subw rfl rfl rfl) rfl ?_
 refine cp (u := .bool false) (fun h' hE hL => ?_) ?_
 ·have := outside_fn main h' s 0 ((ss.length : Int) - 1)
  rw [decide_eq_false (show ¬ outs s 0 ((ss.length : Int) - 1) by unfold outs; omega)] at this
  exact this
 refine Ops.nil <| thn_n ?_
 refine W.condF ?_
 refine W.skip <| thn_n <| W.seq <| W.region rfl ?_
 first | refine o1 (yldW rfl rfl) rfl ?_ | refine o1 (yldA rfl rfl) rfl ?_
 refine o1 (y_build (cs := #[.slice a fs.length cap, .slice a' ss.length cap']) rfl rfl rfl) rfl ?_
 refine c0 (fun h' hE hL => best_fn _ hS hmb h' fs ss (.slice a fs.length cap) (.slice a' ss.length cap') Eg zg (hf.ext hE) (hs.ext hE) (zf.ext hE) (zs.ext hE) hall (hE.1 _ _ hg) (hE.2 _ z0)) (fun v A' hv => ?_)
 rw [hbs] at hv
 obtain ⟨u, S, rfl, hO, hsb⟩ := hv
 obtain ⟨ua, uc, rfl⟩ := hO.isSl
 refine Ops.sb (F' := S ++ [(β2, .cells #[.slice a fs.length cap, .slice a' ss.length cap'] t_Plant (0, 0))]) (hsb.app .refl) ?_
 refine Ops.new (fun β7 => ?_)
 first | refine Ops.stoW ?_ | refine Ops.stoA ?_
 refine Ops.nil <| thn_n ?_
 refine W.sb (F' := S ++ [(β7, .cells #[I (bestF fs ss).1, .slice ua bs.length uc] t_most (0, 0)), (β2, .cells #[.slice a fs.length cap, .slice a' ss.length cap'] t_Plant (0, 0))]) (.of_perm List.perm_middle) ?_
 refine freezeOs hO (fun hx hEx hsl hzl => ?_)
 refine W.seq <| W.region rfl <| qs rfl rfl rfl <| Ops.nil <| thn_n <| W.seq <| W.seq <| W.region rfl ?_
 refine o1 (y_fieldAddr rfl rfl) rfl ?_
 refine o1 (yld rfl rfl) rfl ?_
 refine o1 (y_len rfl rfl) rfl ?_
 refine qm rfl rfl rfl <| Ops.nil <| thn_n <| W.block ?_
 refine W.loop (σ := Nat) (fun k => k ≤ bs.length) (fun k => [(29, I k), (28, I bs.length), (27, .slice ua bs.length uc), (8, I (cntF s (bs.take k))), (7, .pointer (some ⟨β7, 0, none⟩)), (1, I s)]) (fun _ => [(β7, .cells #[I (bestF fs ss).1, .slice ua bs.length uc] t_most (0, 0))]) (fun k => bs.length - k) 0 (Nat.zero_le _) ⟨rfl, rfl, rfl, lk rfl (by simp [cntF]), rfl, rfl, trivial⟩ (.cons (.skip rfl .refl)) ?_
 rintro k hk
 have hck' := cntF_le (s := s) (i := k) (l := bs)
 refine W.seq <| W.region rfl ?_
 refine o1 (y_lss rfl rfl rfl) rfl ?_
 refine Ops.nil <| thn_n <| W.seq ?_
 refine W.condp rfl (fun c30 => ?_) (fun c30 => ?_)
 ·obtain ⟨p, hp, -⟩ := has (show k < bs.length by omega)
  have hp4 := hb4 p (List.mem_of_getElem? hp)
  have hpk := (hpo p (List.mem_of_getElem? hp)).ok
  obtain ⟨b, off, c, E, fz, rfl, hb, hx1, hy1, hz1⟩ := hsl.at hp
  have hx2 : c.extract (off + k * 8) (off + k * 8 + 8) = (flat Be.row p).toArray := by rw [hx1, rowP_eq hp4]
  clear hx1 hz1
  have hsz := plan_sz hpk
  have hon : ones (flat Be.row p).toArray.toList = true := plan_ones
  have hpa : (flat Be.row p).toArray[0 + s * 2 + 0]? = some (I (beAt p s).fl) := by simpa using (plan_at hpk (show s < 4 by omega)).1
  have hnx := cntF_next (s := s) hp
  refine W.skip <| thn_n <| W.seq <| W.block <| W.seq <| W.region rfl ?_
  first | refine o1 (yix rfl rfl rfl) rfl ?_ | refine o1 (yixI rfl rfl rfl) rfl ?_
  first | refine o1 (yldW rfl rfl) rfl ?_ | refine o1 (yldA rfl rfl) rfl ?_
  refine Ops.new (fun β10 => ?_)
  first | refine Ops.stoW ?_ | refine Ops.stoA ?_
  refine Ops.nil <| thn_n <| W.seq <| W.region rfl <| qm rfl rfl rfl ?_
  first | refine o1 (yixA rfl rfl rfl) rfl ?_ | refine o1 (yixAI rfl rfl rfl) rfl ?_
  refine o1 (y_fieldAddr rfl rfl) rfl ?_
  refine o1 (yld rfl rfl) rfl ?_
  refine o1 (y_geq rfl rfl rfl) rfl ?_
  refine Ops.nil <| thn_n ?_
  refine W.condp rfl (fun c37 => ?_) (fun c37 => ?_)
  ·refine W.region rfl <| qm rfl rfl rfl ?_
   first | refine o1 (yadd rfl rfl rfl) rfl ?_ | refine o1 (y_addw rfl rfl rfl) rfl ?_
   refine qs rfl rfl rfl <| Ops.nil <| blk_n <| thn_n <| W.region rfl ?_
   first | refine o1 (yadd rfl rfl rfl) rfl ?_ | refine o1 (y_addw rfl rfl rfl) rfl ?_
   refine qm rfl rfl rfl <| Ops.nil <| thn_n ?_
   first
   | exact ⟨rfl, k + 1, by omega, by omega, ⟨rfl, rfl, rfl, lk rfl (show I _ = I _ by congr 1; rw [hnx, if_pos c37]; omega), rfl, rfl, trivial⟩, .skip rfl .refl⟩
   | exact ⟨rfl, k + 1, by omega, by omega, ⟨rfl, rfl, rfl, lk rfl (show I _ = I _ by congr 1; rw [hnx, if_neg c37]; omega), rfl, rfl, trivial⟩, .skip rfl .refl⟩
  ·refine W.skip <| blk_n <| thn_n <| W.region rfl ?_
   first | refine o1 (yadd rfl rfl rfl) rfl ?_ | refine o1 (y_addw rfl rfl rfl) rfl ?_
   refine qm rfl rfl rfl <| Ops.nil <| thn_n ?_
   first
   | exact ⟨rfl, k + 1, by omega, by omega, ⟨rfl, rfl, rfl, lk rfl (show I _ = I _ by congr 1; rw [hnx, if_pos c37]; omega), rfl, rfl, trivial⟩, .skip rfl .refl⟩
   | exact ⟨rfl, k + 1, by omega, by omega, ⟨rfl, rfl, rfl, lk rfl (show I _ = I _ by congr 1; rw [hnx, if_neg c37]; omega), rfl, rfl, trivial⟩, .skip rfl .refl⟩
 ·have hkl : k = bs.length := by omega
  subst hkl
  rw [List.take_length] at hck' ⊢
  have hvd : verdF fs ss s = if 0 < cntF s bs ∧ cntF s bs < bs.length then 3 else if cntF s bs = 0 then 2 else 1 := by rw [verdF, hbs]
  obtain ⟨n, hn⟩ : ∃ n, cntF s bs = n := ⟨_, rfl⟩
  rw [hn] at hck' hvd ⊢
  refine W.exit <| thn_x <| thn_x <| blk_x <| thn_n <| W.seq <| W.region rfl <| qs rfl rfl rfl <| Ops.nil <| thn_n ?_
  refine W.seq <| W.block <| W.seq <| W.block <| W.seq <| W.block <| W.seq <| W.block <| W.seq <| W.seq ?_
  refine W.seq <| W.region rfl <| qm rfl rfl rfl ?_
  refine o1 (y_gtr rfl rfl rfl) rfl ?_
  refine qm rfl rfl rfl ?_
  refine Ops.ask (fun a15_3 => ?_) (fun a15_3 => ?_)
  ·refine oq (y_move rfl rfl) rfl (want_some rfl rfl rfl) rfl rfl ?_
   refine oq (y_fieldAddr rfl rfl) rfl (want_some rfl rfl rfl) rfl rfl ?_
   refine oq (yld rfl rfl) rfl (want_some rfl rfl rfl) rfl rfl ?_
   refine oq (y_len rfl rfl) rfl (want_some rfl rfl rfl) rfl rfl ?_
   refine oq (y_lss rfl rfl rfl) rfl (want_some rfl rfl rfl) rfl rfl ?_
   refine o1 (y_pickT rfl rfl rfl) rfl ?_
   refine qs rfl rfl rfl <| Ops.nil <| thn_n ?_
   refine W.condp rfl (fun c41 => ?_) (fun c41 => ?_)
   ·refine W.exit <| thn_x <| thn_x <| blk_x <| thn_n <| W.region rfl <| qm rfl rfl rfl ?_
    first | refine o1 (yadd rfl rfl rfl) rfl ?_ | refine o1 (y_addw rfl rfl rfl) rfl ?_
    refine qs rfl rfl rfl <| Ops.nil <| blk_n <| thn_n <| W.region rfl <| qm rfl rfl rfl ?_
    first | refine o1 (yadd rfl rfl rfl) rfl ?_ | refine o1 (y_addw rfl rfl rfl) rfl ?_
    refine qs rfl rfl rfl <| Ops.nil <| blk_n <| thn_n <| W.seq <| W.region rfl <| qm rfl rfl rfl ?_
    first | refine o1 (yadd rfl rfl rfl) rfl ?_ | refine o1 (y_addw rfl rfl rfl) rfl ?_
    refine qs rfl rfl rfl <| Ops.nil <| thn_n <| W.exit <| blk_x <| thn_n <| W.seq <| W.region rfl <| qm rfl rfl rfl <| qs rfl rfl rfl ?_
    refine qs rfl rfl rfl <| Ops.nil <| thn_n <| W.ret ?_
    refine lvp ?_
    rw [hvd]
    first
    | (rw [if_pos (by omega)]; rfl)
    | (rw [if_neg (by omega), if_pos (by omega)]; rfl)
    | (rw [if_neg (by omega), if_neg (by omega)]; rfl)
   ·refine W.skip <| thn_n <| W.seq <| W.region rfl <| qm rfl rfl rfl ?_
    refine o1 (y_eql rfl rfl rfl) rfl ?_
    refine qs rfl rfl rfl <| Ops.nil <| thn_n ?_
    refine W.condp rfl (fun c51 => ?_) (fun c51 => ?_)
    ·refine W.exit <| thn_x <| blk_o <| thn_x <| blk_x <| thn_n <| W.region rfl <| qm rfl rfl rfl ?_
     first | refine o1 (yadd rfl rfl rfl) rfl ?_ | refine o1 (y_addw rfl rfl rfl) rfl ?_
     refine qs rfl rfl rfl <| Ops.nil <| blk_n <| thn_n <| W.seq <| W.region rfl <| qm rfl rfl rfl ?_
     first | refine o1 (yadd rfl rfl rfl) rfl ?_ | refine o1 (y_addw rfl rfl rfl) rfl ?_
     refine qs rfl rfl rfl <| Ops.nil <| thn_n <| W.exit <| blk_x <| thn_n <| W.seq <| W.region rfl <| qm rfl rfl rfl <| qs rfl rfl rfl ?_
     refine qs rfl rfl rfl <| Ops.nil <| thn_n <| W.ret ?_
     refine lvp ?_
     rw [hvd]
     first
     | (rw [if_pos (by omega)]; rfl)
     | (rw [if_neg (by omega), if_pos (by omega)]; rfl)
     | (rw [if_neg (by omega), if_neg (by omega)]; rfl)
    ·refine W.skip <| thn_n <| W.exit <| blk_o <| thn_x <| blk_o <| thn_x <| blk_x <| thn_n <| W.seq ?_
     refine W.region rfl <| qm rfl rfl rfl ?_
     first | refine o1 (yadd rfl rfl rfl) rfl ?_ | refine o1 (y_addw rfl rfl rfl) rfl ?_
     refine qs rfl rfl rfl <| Ops.nil <| thn_n <| W.exit <| blk_x <| thn_n <| W.seq <| W.region rfl <| qm rfl rfl rfl <| qs rfl rfl rfl ?_
     refine qs rfl rfl rfl <| Ops.nil <| thn_n <| W.ret ?_
     refine lvp ?_
     rw [hvd]
     first
     | (rw [if_pos (by omega)]; rfl)
     | (rw [if_neg (by omega), if_pos (by omega)]; rfl)
     | (rw [if_neg (by omega), if_neg (by omega)]; rfl)
  ·refine Ops.no ?_
   refine Ops.no ?_
   refine Ops.no ?_
   refine Ops.no ?_
   refine Ops.no ?_
   refine o1 (y_pickF rfl rfl rfl) rfl ?_
   refine qs rfl rfl rfl <| Ops.nil <| thn_n ?_
   refine W.condF ?_
   refine W.skip <| thn_n <| W.seq <| W.region rfl <| qm rfl rfl rfl ?_
   refine o1 (y_eql rfl rfl rfl) rfl ?_
   refine qs rfl rfl rfl <| Ops.nil <| thn_n ?_
   refine W.condp rfl (fun c51 => ?_) (fun c51 => ?_)
   ·refine W.exit <| thn_x <| blk_o <| thn_x <| blk_x <| thn_n <| W.region rfl <| qm rfl rfl rfl ?_
    first | refine o1 (yadd rfl rfl rfl) rfl ?_ | refine o1 (y_addw rfl rfl rfl) rfl ?_
    refine qs rfl rfl rfl <| Ops.nil <| blk_n <| thn_n <| W.seq <| W.region rfl <| qm rfl rfl rfl ?_
    first | refine o1 (yadd rfl rfl rfl) rfl ?_ | refine o1 (y_addw rfl rfl rfl) rfl ?_
    refine qs rfl rfl rfl <| Ops.nil <| thn_n <| W.exit <| blk_x <| thn_n <| W.seq <| W.region rfl <| qm rfl rfl rfl <| qs rfl rfl rfl ?_
    refine qs rfl rfl rfl <| Ops.nil <| thn_n <| W.ret ?_
    refine lvp ?_
    rw [hvd]
    first
    | (rw [if_pos (by omega)]; rfl)
    | (rw [if_neg (by omega), if_pos (by omega)]; rfl)
    | (rw [if_neg (by omega), if_neg (by omega)]; rfl)
   ·refine W.skip <| thn_n <| W.exit <| blk_o <| thn_x <| blk_o <| thn_x <| blk_x <| thn_n <| W.seq ?_
    refine W.region rfl <| qm rfl rfl rfl ?_
    first | refine o1 (yadd rfl rfl rfl) rfl ?_ | refine o1 (y_addw rfl rfl rfl) rfl ?_
    refine qs rfl rfl rfl <| Ops.nil <| thn_n <| W.exit <| blk_x <| thn_n <| W.seq <| W.region rfl <| qm rfl rfl rfl <| qs rfl rfl rfl ?_
    refine qs rfl rfl rfl <| Ops.nil <| thn_n <| W.ret ?_
    refine lvp ?_
    rw [hvd]
    first
    | (rw [if_pos (by omega)]; rfl)
    | (rw [if_neg (by omega), if_pos (by omega)]; rfl)
    | (rw [if_neg (by omega), if_neg (by omega)]; rfl)
end Go.Mus

/- Whether two plants have the same answers. Conditions: none; over the given program. -/
namespace Go.Mus
set_option maxRecDepth 100000
set_option maxHeartbeats 4000000
end Go.Mus

/- Plants whose plans answer to each other; floors with other numbers. Conditions: none. -/
namespace Go.Mus
theorem perm_of_mem {α : Type} [DecidableEq α] {l l' : List α} (h : l.Nodup) (h' : l'.Nodup) (hm : ∀ a, a ∈ l ↔ a ∈ l') : l.Perm l' := by
 rw [List.perm_iff_count]
 intro a
 by_cases ha : a ∈ l
 ·have h1 := List.count_pos_iff.2 ha
  have h2 := List.count_pos_iff.2 ((hm a).1 ha)
  have h3 := List.nodup_iff_count.1 h a
  have h4 := List.nodup_iff_count.1 h' a
  omega
 ·rw [List.count_eq_zero.2 ha, List.count_eq_zero.2 fun h => ha ((hm a).2 h)]

theorem valid_free {fs : List Fl} {ss : List St} {may : May} {p : List Be} (h : Valid fs ss may p) : Valid fs ss freeM p := by
 refine ⟨h.len, fun i hi => ?_, h.out⟩
 have := h.at_ i hi
 rw [mem_berths] at this ⊢
 rcases this with ⟨_, h1⟩ | ⟨_, h1⟩
 ·exact .inl ⟨rfl, h1⟩
 ·exact .inr ⟨rfl, h1⟩
/-- Each right plan of the one answers to one of the other. -/
structure Sym (fs fs' : List Fl) (ss ss' : List St) (σ τ : List Be → List Be) : Prop where
 hall : HallOK fs ss
 hall' : HallOK fs' ss'
 len : ss'.length = ss.length
 val : ∀ may p, Valid fs ss may p → Valid fs' ss' may (σ p)
 val' : ∀ may p, Valid fs' ss' may p → Valid fs ss may (τ p)
 rgt : ∀ p, Valid fs ss freeM p → inspF fs ss p = none → inspF fs' ss' (σ p) = none
 rgt' : ∀ p, Valid fs' ss' freeM p → inspF fs' ss' p = none → inspF fs ss (τ p) = none
 inv : ∀ p, Valid fs ss freeM p → τ (σ p) = p
 inv' : ∀ p, Valid fs' ss' freeM p → σ (τ p) = p
 lo : ∀ p, Valid fs ss freeM p → loavesF ss' (σ p) = loavesF ss p
 on : ∀ p i, Valid fs ss freeM p → (0 ≤ (beAt (σ p) i).fl ↔ 0 ≤ (beAt p i).fl)
section
variable {fs fs' : List Fl} {ss ss' : List St} {σ τ : List Be → List Be} (Y : Sym fs fs' ss ss' σ τ)
include Y
theorem Sym.lo' {p : List Be} (h : Valid fs' ss' freeM p) : loavesF ss (τ p) = loavesF ss' p := by
 rw [← Y.lo _ (Y.val' _ _ h), Y.inv' p h]
theorem Sym.top : (bestF fs' ss').1 = (bestF fs ss).1 := by
 have h1 := best_le Y.hall Y.hall' fun p hv hi => ⟨σ p, Y.val _ _ hv, Y.rgt p hv hi, by rw [Y.lo p hv]; exact Int.le_refl _⟩
 have h2 := best_le Y.hall' Y.hall fun p hv hi => ⟨τ p, Y.val' _ _ hv, Y.rgt' p hv hi, by rw [Y.lo' hv]; exact Int.le_refl _⟩
 omega
theorem Sym.all : (allF fs' ss' freeM).Perm ((allF fs ss freeM).map σ) := by
 refine perm_of_mem (allF_nodup Y.hall') ?_ fun p => ?_
 ·rw [List.Nodup, List.pairwise_map]
  refine (allF_nodup Y.hall).imp_of_mem fun {a b} ha hb hab e => hab ?_
  rw [← Y.inv a ((mem_allF Y.hall).1 ha).1, e, Y.inv b ((mem_allF Y.hall).1 hb).1]
 ·rw [mem_allF Y.hall', List.mem_map]
  constructor
  ·rintro ⟨h1, h2⟩
   exact ⟨τ p, (mem_allF Y.hall).2 ⟨Y.val' _ _ h1, Y.rgt' p h1 h2⟩, Y.inv' p h1⟩
  ·rintro ⟨q, hq, rfl⟩
   obtain ⟨h1, h2⟩ := (mem_allF Y.hall).1 hq
   exact ⟨Y.val _ _ h1, Y.rgt q h1 h2⟩
theorem Sym.best : (bestF fs' ss').2.Perm ((bestF fs ss).2.map σ) := by
 rw [(best_spec Y.hall').2.2, (best_spec Y.hall).2.2, Y.top]
 refine (Y.all.filter _).trans (.of_eq ?_)
 rw [List.filter_map]
 congr 1
 refine List.filter_congr fun p hp => ?_
 show decide (loavesF ss' (σ p) = _) = _
 rw [Y.lo p ((mem_allF Y.hall).1 hp).1]
theorem Sym.count : (bestF fs' ss').2.length = (bestF fs ss).2.length := by rw [Y.best.length_eq, List.length_map]
theorem Sym.someR (may : May) : someR fs' ss' may = Go.Mus.someR fs ss may := by
 refine Bool.eq_iff_iff.2 ?_
 rw [some_iff Y.hall', some_iff Y.hall]
 constructor
 ·rintro ⟨p, h1, h2⟩; exact ⟨τ p, Y.val' _ _ h1, Y.rgt' p (valid_free h1) h2⟩
 ·rintro ⟨p, h1, h2⟩; exact ⟨σ p, Y.val _ _ h1, Y.rgt p (valid_free h1) h2⟩
theorem Sym.late : lateF fs' ss' = lateF fs ss := by
 have key : ∀ m n, lateFrom fs' ss' m n = lateFrom fs ss m n := by
  intro m
  induction m with
  | zero => intro n; rfl
  | succ m ih => intro n; rw [lateFrom, lateFrom, Y.someR, ih]
 rw [lateF, lateF, Y.len, key]
end
/-! Floors with other numbers -/
end Go.Mus

/- Floors with other numbers. Conditions: none; over the given program. -/
namespace Go.Mus
set_option maxRecDepth 100000
set_option maxHeartbeats 4000000
end Go.Mus

/- Plans out of a hat; copies of plans. Conditions: none; over the given program. -/
namespace Go.Mus
set_option maxRecDepth 100000
set_option maxHeartbeats 4000000
theorem ckBerths_app {nf : Int} : ∀ {ss : List St} {l : List Be} {s : St} {b : Be}, ckBerths nf (ss.take l.length) l = 0 → ss[l.length]? = some s → ckBerth nf s b = 0 → ckBerths nf (ss.take (l.length + 1)) (l ++ [b]) = 0
 | [], l, s, b, _, h, _ => by simp at h
 | t :: ss, [], s, b, _, h, hb => by
  simp at h; subst h
  simp [ckBerths, hb]
 | t :: ss, c :: l, s, b, h, hs, hb => by
  simp only [List.length_cons, List.take_succ_cons, List.cons_append, ckBerths] at h ⊢
  split at h
  ·rename_i h1
   rw [if_pos h1]
   exact ckBerths_app h (by simpa using hs) hb
  ·rename_i h1; exact absurd h h1
theorem ckBerth_ok {nf : Int} {s : St} {b : Be} (hnf : 1 ≤ nf) (h : b = ⟨-1, 0⟩ ∨ 0 ≤ b.fl ∧ b.fl < nf ∧ s.day ≤ b.day ∧ b.day ≤ s.day + s.wa) : ckBerth nf s b = 0 := by
 unfold ckBerth
 rcases h with rfl | h
 ·rw [if_neg (by unfold outs; simp only; omega), if_neg (by simp), if_neg (by simp only; omega)]
 ·rw [if_neg (by unfold outs; omega), if_neg (by omega), if_neg (by unfold outs; omega)]

end Go.Mus

/- Small plants and plans out of a hat; plans a day later. Conditions: none; over the given program. -/
namespace Go.Mus
set_option maxRecDepth 100000
set_option maxHeartbeats 4000000
end Go.Mus

/- All strikes a day later. Conditions: none. -/
namespace Go.Mus
theorem fm_congr {α β : Type} {f g : α → List β} : ∀ {l : List α}, (∀ a ∈ l, f a = g a) → l.flatMap f = l.flatMap g
 | [], _ => rfl
 | a :: l, h => by
  rw [List.flatMap_cons, List.flatMap_cons, h a (List.mem_cons_self ..), fm_congr fun b hb => h b (List.mem_cons_of_mem _ hb)]
section
variable {fs : List Fl} {ss : List St}
/-! The searches -/
end
end Go.Mus

/- All strikes a day later: the same answers, a day later. Conditions: none. -/
namespace Go.Mus
section
variable {fs : List Fl} {ss : List St}
variable (hck : ckPlant fs ss = 0) (h11 : ∀ s ∈ ss, s.day ≤ 11)
include hck h11
end
/-! A plan a day later -/
end Go.Mus

/- Operations that come up in any order and only add to what is owned. Conditions: none; over any program. -/
namespace Go.Mus
/-- What is said of one that adds: its number, its slot, what it bears with what it adds. -/
abbrev Spc := Nat × Nat × (Value → Frag → Prop)
def waits (ops : Array Oper) : Nat → Nat → Nat → Bool
 | 0, _, _ => false
 | n + 1, k, b => match ops[k]? with | some o => o.after.any fun e => bindsTo e && (Nat.beq e.on b || waits ops n e.on b) | none => false
structure BagI (ops : Array Oper) (listed : Nat) (B : List Nat) : Prop where
 cl : Closed ops listed
 low : ∀ k o, ops[k]? = some o → ∀ e ∈ o.after, bindsTo e = true → e.on < k
 or : ∀ k, k < ops.size → listed.testBit k = false → k ∈ B ∨ ∀ b ∈ B, waits ops 6 k b = true
 un : ∀ b ∈ B, b < ops.size ∧ listed.testBit b = false
 nd : B.Nodup

theorem BagI.some {ops : Array Oper} {listed : Nat} {B : List Nat} (h : BagI ops listed B) {b : Nat} (hb : b ∈ B) : rdys ops listed ≠ [] := by
 have key : ∀ (n k : Nat), k < n → k < ops.size → listed.testBit k = false → ∃ i, rdy ops listed i = true := by
  intro n
  induction n with
  | zero => intro k hk; omega
  | succ n ih =>
   intro k hk hlt hl
   by_cases hr : rdy ops listed k = true
   ·exact ⟨k, hr⟩
   ·simp only [rdy, Array.getElem?_eq_getElem hlt, hl, Bool.not_false, Bool.true_and, Array.all_eq_true_iff_forall_mem, Bool.or_eq_true, Bool.not_eq_true'] at hr
    have : ∃ e ∈ (ops[k]).after, bindsTo e = true ∧ listed.testBit e.on = false := by
     refine Classical.byContradiction fun hn => hr fun e he => ?_
     cases hbe : bindsTo e with
     | false => exact .inl rfl
     | true =>
      cases ht : listed.testBit e.on with
      | true => exact .inr rfl
      | false => exact absurd ⟨e, he, hbe, ht⟩ hn
    obtain ⟨e, he, h1, h2⟩ := this
    have := h.low k _ (Array.getElem?_eq_getElem hlt) e he h1
    exact ih e.on (by omega) (by omega) h2
 obtain ⟨i, hi⟩ := key (b + 1) b (by omega) (h.un b hb).1 (h.un b hb).2
 intro e
 have := mem_rdys.2 hi
 rw [e] at this
 cases this

theorem BagI.step {ops : Array Oper} {listed j : Nat} {B1 B2 : List Nat} (h : BagI ops listed (B1 ++ j :: B2)) (hj : rdy ops listed j = true) : BagI ops (listed ||| 2 ^ j) (B1 ++ B2) := by
 have hnd : j ∉ B1 ++ B2 := by
  have := (List.perm_middle (a := j) (l₁ := B1) (l₂ := B2)).nodup_iff.1 h.nd
  exact (List.nodup_cons.1 this).1
 refine ⟨h.cl.step hj, h.low, fun k hk hl => ?_, fun b hb => ?_, ?_⟩
 ·rw [testBit_or, Bool.or_eq_false_iff] at hl
  have hne : j ≠ k := by simpa using hl.2
  rcases h.or k hk hl.1 with h' | h'
  ·left
   rcases List.mem_append.1 h' with h' | h'
   ·exact List.mem_append_left _ h'
   ·rcases List.mem_cons.1 h' with h' | h'
    ·exact absurd h'.symm hne
    ·exact List.mem_append_right _ h'
  ·right
   intro b hb
   refine h' b ?_
   rcases List.mem_append.1 hb with hb | hb
   ·exact List.mem_append_left _ hb
   ·exact List.mem_append_right _ (List.mem_cons_of_mem _ hb)
 ·have hb' : b ∈ B1 ++ j :: B2 := by
   rcases List.mem_append.1 hb with hb | hb
   ·exact List.mem_append_left _ hb
   ·exact List.mem_append_right _ (List.mem_cons_of_mem _ hb)
  refine ⟨(h.un b hb').1, ?_⟩
  rw [testBit_or, (h.un b hb').2, Bool.false_or, decide_eq_false_iff_not]
  rintro rfl
  exact hnd hb
 ·have := (List.perm_middle (a := j) (l₁ := B1) (l₂ := B2)).nodup_iff.1 h.nd
  exact (List.nodup_cons.1 this).2

/-- One that adds. -/
def Adds (x : Cx) (ops : Array Oper) (ε : Ev) (s : Spc) : Prop :=
 ∃ o, ops[s.1]? = some o ∧ o.dst = some s.2.1 ∧ slotOK o.dst x.n = true ∧ (∀ c, o.op ≠ .defer c) ∧ o.guard = none ∧ ∀ e, Cons ε e → ∀ F, Run1 x o e F fun v F' => ∃ A F'', F''.Perm F' ∧ s.2.2 v A ∧ F'' = A ++ F

theorem Cons.back {ε : Ev} {d : Nat} {v : Value} {e : Operand → Value} (h : Cons (upd ε (some d) v) e) (hd : ε d = none) : Cons ε e := fun y u hy => h y u (by
 cases y with
 | tmp t =>
  simp only [evε, upd] at hy ⊢
  cases hb : Nat.beq t d with
  | true => rw [Nat.eq_of_beq_eq_true hb, hd] at hy; cases hy
  | false => exact hy
 | _ => exact hy)

section rules
variable {x : Cx} {Q : Post} {ρ : Env} {ds : List Deferred} {F : Frag} {ops : Array Oper} {L : Frag} {fuel listed : Nat}
theorem Adds.of {i d : Nat} {P : Value → Frag → Prop} {op : Op} {ty : TypeId} {pos : String} {aft : Array Edge} (ho : nthO ops.toList i = some ⟨some d, op, ty, pos, aft, none⟩) (hd : Nat.blt d x.n = true) (hn : noDefer op = true) (H : ∀ F, Ef x ρ ⟨some d, op, ty, pos, aft, none⟩ F fun v F' => ∃ A, P v A ∧ F' = A ++ F) : Adds x ops (look ρ) (i, d, P) :=
 ⟨_, nthO_get ho, rfl, hd, noDefer_spec hn, rfl, fun e he F => (H F e fun y v hy => he y v (by rw [ev_look]; exact hy)).mono fun v F' ⟨F'', p, A, hv, e⟩ => ⟨A, F'', p, hv, e⟩⟩
theorem Adds.call {i d f : Nat} {P : Value → Frag → Prop} {args : List Operand} {ts : Array TypeId} {vs : List Value} {ty : TypeId} {pos : String} {aft : Array Edge} (H : ∀ h', Ext x.h h' → Fnc x.P x.main f vs.toArray h' [] P) (ho : nthO ops.toList i = some ⟨some d, .call ⟨.value (.func f), args.toArray, ts⟩, ty, pos, aft, none⟩ := by rfl) [FB x.P f] (hv : evs ρ args = some vs := by rfl) (hd : Nat.blt d x.n = true := by rfl) : Adds x ops (look ρ) (i, d, P) :=
 .of ho hd rfl fun F => e_call0 rfl hv (fun h' hE _ => H h' hE) fun v A' hv => ⟨A', hv, rfl⟩
def NewP (t : TypeId) (zc : Array Value) (v : Value) (A : Frag) : Prop := ∃ β, v = .pointer (some ⟨β, 0, none⟩) ∧ A = [(β, .cells zc t (0, 0))]
theorem Adds.new {i d t s b : Nat} {z : Value} {zc : Array Value} {ty : TypeId} {pos : String} {aft : Array Edge} (ho : nthO ops.toList i = some ⟨some d, .alloc t, ty, pos, aft, none⟩ := by rfl) [TI x.P t s b z zc] (hd : Nat.blt d x.n = true := by rfl) : Adds x ops (look ρ) (i, d, NewP t zc) :=
 .of ho hd rfl fun F => e_alloc rfl fun β _ _ => ⟨_, ⟨β, rfl, rfl⟩, rfl⟩
end rules
end Go.Mus
namespace Go.Mus
section
variable {α : Type} {row : α → List Value} {w : Nat} [rw' : Rw row w]
section
variable {x : Cx} {ρ : Env} {F : Frag} {o : Oper} {R : Value → Frag → Prop}
end
end
section
variable {x : Cx} {S : Frag → Prop} {ρ : Env} {o : Oper}
end
end Go.Mus
namespace Go.Mus
section
variable {x : Cx} {Q : Post} {ρ : Env} {ds : List Deferred} {ops : Array Oper} {G : Frag} {y₁ y₂ y₃ y₄ y₅ y₆ : Nat × Obj} {id n : Nat}
theorem W.drawP4 (hn : ops.size = n) (H : Any x ops [y₁, y₂, y₃, y₄] n 0 Q ρ ds (y₁ :: y₂ :: y₃ :: y₄ :: G)) [MO x.P] : W x (.region id ops true) Q ρ ds (y₁ :: y₂ :: y₃ :: y₄ :: G) := W.drawL _ hn H
end
/-- The same, in another order. -/
theorem perm_cnt {α : Type} {l l' : List α} (h : ∀ [DecidableEq α] (a : α), l.count a = l'.count a) : l.Perm l' := by
 classical
 exact List.perm_iff_count.2 fun a => h a
end Go.Mus
namespace Go.Mus
/-- A slice of one's own is put by, wherever it stands. -/
theorem freezeAt {x : Cx} {c : Code} {Q : Post} {ρ : Env} {ds : List Deferred} {A F : Frag} {U : Frag → Frag} {α : Type} {row : α → List Value} {w : Nat} [Rw row w] {E : TypeId} {v : Value} {l : List α} (hs : Os E row v l A) (hg : Seg A F U)
  (H : ∀ h', Ext x.h h' → Sl h' row v l → Zs h' v → W { x with h := h' } c Q ρ ds (U [])) : W x c Q ρ ds F :=
 W.perm hg.perm.1 (freezeOs hs H)
theorem Sb.app1 {A G : Frag} {y : Nat × Obj} (h : Sb [y] A) : Sb (y :: G) (A ++ G) := h.app .refl
theorem Os.open {α : Type} {row : α → List Value} {w : Nat} [Rw row w] {E : TypeId} {a : Option Addr} {n cap : Nat} {l : List α} {A : Frag} (h : Os E row (.slice a n cap) l A) (hne : 0 < l.length) : ∃ β c J, a = some ⟨β, 0, none⟩ ∧ A = (β, .cells c E (0, 0)) :: J ∧ n = l.length ∧ c.size = cap * w ∧ l.length ≤ cap ∧ Part c 0 (flat row l) ∧ Shut J := by
 rcases h with ⟨rfl, _, _⟩ | ⟨β, c, cp, J, hv, rfl, h1, h2, h3, h4⟩
 ·simp at hne
 ·injection hv with e1 e2 e3
  subst e1 e2 e3
  exact ⟨β, c, J, rfl, rfl, rfl, h1, h2, h3, h4⟩
end Go.Mus

/- Plants a little changed. Conditions: none. -/
namespace Go.Mus
end Go.Mus

/- What shows in a heat, and what is wrong. Conditions: none. -/
namespace Go.Mus
set_option linter.unusedSectionVars false
def spanOf (fs : List Fl) (b : Be) : Int × Int := if 0 ≤ b.fl then ((flAt fs b.fl).lo, (flAt fs b.fl).hi) else (0, 0)
def stepH (fs : List Fl) (out : List (List Int)) (b : Be) : List (List Int) := out.flatMap fun h => (nums (spanOf fs b).1 (spanOf fs b).2).map fun n => h ++ [n]
/-- All heats of a plan. -/
def heatsF (fs : List Fl) (l : List Be) : List (List Int) := l.foldl (stepH fs) [[]]
def IsHeat (fs : List Fl) (l : List Be) (h : List Int) : Prop := h.length = l.length ∧ ∀ i b, l[i]? = some b → (spanOf fs b).1 ≤ h.getD i 0 ∧ h.getD i 0 ≤ (spanOf fs b).2
theorem mem_nums {a lo hi : Int} : a ∈ nums lo hi ↔ lo ≤ a ∧ a ≤ hi := by
 unfold nums; rw [mem_numsN]; omega
theorem getD_left {g : List Int} {n : Int} {i : Nat} (h : i < g.length) : (g ++ [n]).getD i 0 = g.getD i 0 := by simp only [List.getD]; rw [List.getElem?_append_left h]
theorem getD_end {g : List Int} {n : Int} : (g ++ [n]).getD g.length 0 = n := by simp [List.getD]
theorem isHeat_snoc {fs : List Fl} {l : List Be} {b : Be} {h : List Int} : IsHeat fs (l ++ [b]) h ↔ ∃ g n, h = g ++ [n] ∧ IsHeat fs l g ∧ (spanOf fs b).1 ≤ n ∧ n ≤ (spanOf fs b).2 := by
 constructor
 ·rintro ⟨h1, h2⟩
  have hne : h ≠ [] := by rintro rfl; simp at h1
  have e : h = h.dropLast ++ [h.getLast hne] := (List.dropLast_concat_getLast hne).symm
  have hl : h.dropLast.length = l.length := by simp at h1 ⊢; omega
  generalize h.dropLast = g at e hl
  generalize h.getLast hne = n at e
  subst e
  refine ⟨g, n, rfl, ⟨hl, fun i c hc => ?_⟩, ?_⟩
  ·have hi := lt_of_get hc
   have := h2 i c (by rw [List.getElem?_append_left hi]; exact hc)
   rwa [getD_left (by omega)] at this
  ·have := h2 l.length b (by simp)
   rwa [← hl, getD_end] at this
 ·rintro ⟨g, n, rfl, ⟨h1, h2⟩, h3⟩
  refine ⟨by simp [h1], fun i c hc => ?_⟩
  rcases Nat.lt_or_ge i l.length with hi | hi
  ·rw [List.getElem?_append_left hi] at hc
   rw [getD_left (by omega)]
   exact h2 i c hc
  ·have hil := lt_of_get hc
   simp at hil
   have e : i = l.length := by omega
   subst e
   rw [← h1, getD_end]
   have : c = b := by simpa using hc.symm
   subst this
   exact h3
theorem mem_heatsK {fs : List Fl} {l : List Be} : ∀ (k : Nat), k ≤ l.length → ∀ h, h ∈ heatsF fs (l.take k) ↔ IsHeat fs (l.take k) h
 | 0, _, h => by
  simp only [List.take_zero, heatsF, List.foldl_nil, List.mem_singleton]
  constructor
  ·rintro rfl; exact ⟨rfl, fun i b hb => by simp at hb⟩
  ·rintro ⟨h1, -⟩; exact List.eq_nil_of_length_eq_zero h1
 | k + 1, hk, h => by
  obtain ⟨b, hb, -⟩ := has (show k < l.length by omega)
  have e : l.take (k + 1) = l.take k ++ [b] := by rw [List.take_add_one, hb]; rfl
  rw [e, isHeat_snoc]
  have e2 : heatsF fs (l.take k ++ [b]) = stepH fs (heatsF fs (l.take k)) b := by simp [heatsF, List.foldl_append]
  rw [e2, stepH, List.mem_flatMap]
  constructor
  ·rintro ⟨g, hg, hm⟩
   obtain ⟨n, hn, rfl⟩ := List.mem_map.1 hm
   exact ⟨g, n, rfl, (mem_heatsK k (by omega) g).1 hg, mem_nums.1 hn⟩
  ·rintro ⟨g, n, rfl, hg, hn⟩
   exact ⟨g, (mem_heatsK k (by omega) g).2 hg, List.mem_map.2 ⟨n, mem_nums.2 hn, rfl⟩⟩
theorem mem_heats {fs : List Fl} {l : List Be} {h : List Int} : h ∈ heatsF fs l ↔ IsHeat fs l h := by
 have := mem_heatsK (fs := fs) (l := l) l.length (Nat.le_refl _) h
 rwa [List.take_length] at this

/-! Days on which something shows -/
def heG (ss : List St) (l : List Be) (h : List Int) (f d : Int) (i : Nat) : Int := if (beAt l i).fl = f ∧ (beAt l i).day ≤ d ∧ d < (beAt l i).day + h.getD i 0 then (stAt ss i).co else 0
def conesF (ss : List St) (l : List Be) (h : List Int) (f d : Int) : Int := sumK (heG ss l h f d) l.length
def Btw (l : List Be) (f d : Int) : Prop := (∃ i, i < l.length ∧ (beAt l i).fl = f ∧ (beAt l i).day < d) ∧ ∃ i, i < l.length ∧ (beAt l i).fl = f ∧ d < (beAt l i).day
def Idl (ss : List St) (l : List Be) (h : List Int) (f d : Int) : Prop := conesF ss l h f d = 0 ∧ Btw l f d
open Classical in
noncomputable def idleN (ss : List St) (l : List Be) (h : List Int) (f : Int) : Nat → Int
 | 0 => 0
 | d + 1 => if Idl ss l h f d then idleN ss l h f d + 1 else 0
def Shw (fs : List Fl) (ss : List St) (l : List Be) (h : List Int) (f d : Nat) : Prop := d < 22 ∧ f < fs.length ∧ ((flAt fs f).pl < conesF ss l h f d ∨ (flAt fs f).co < idleN ss l h f (d + 1))

theorem idle_nn {ss : List St} {l : List Be} {h : List Int} {f : Int} : ∀ d, 0 ≤ idleN ss l h f d ∧ idleN ss l h f d ≤ d
 | 0 => ⟨Int.le_refl _, Int.le_refl _⟩
 | d + 1 => by
  have := idle_nn (ss := ss) (l := l) (h := h) (f := f) d
  rw [idleN]
  split <;> omega
theorem idle_run {ss : List St} {l : List Be} {h : List Int} {f : Int} : ∀ (d k : Nat), (k : Int) < idleN ss l h f (d + 1) → k ≤ d ∧ Idl ss l h f ((d - k : Nat) : Int)
 | 0, k, hk => by
  rw [idleN] at hk
  split at hk
  ·rename_i h1
   rw [idleN] at hk
   have : k = 0 := by omega
   subst this
   exact ⟨Nat.le_refl _, h1⟩
  ·omega
 | d + 1, k, hk => by
  rw [idleN] at hk
  split at hk
  ·rename_i h1
   rcases k with _ | k
   ·exact ⟨by omega, h1⟩
   ·have := idle_run (ss := ss) (l := l) (h := h) (f := f) d k (by omega)
    refine ⟨by omega, ?_⟩
    rw [Nat.add_sub_add_right]; exact this.2
  ·omega
theorem idle_ge {ss : List St} {l : List Be} {h : List Int} {f : Int} (s : Nat) : ∀ (m : Nat), (∀ d : Nat, s ≤ d → d < s + m → Idl ss l h f d) → (m : Int) ≤ idleN ss l h f (s + m)
 | 0, _ => (idle_nn _).1
 | m + 1, H => by
  have h1 := idle_ge s m fun d a b => H d a (by omega)
  rw [← Nat.add_assoc, idleN, if_pos (H (s + m) (by omega) (by omega))]
  omega

theorem be_pad {l : List Be} {i : Nat} : beAt (padB l) i = beAt l i := by
 simp only [beAt, padB, List.getD]
 rcases Nat.lt_or_ge i l.length with h | h
 ·rw [List.getElem?_append_left h]
 ·rw [List.getElem?_append_right h, List.getElem?_eq_none (l := l) h]
  cases hx : (List.replicate (4 - l.length) bnone)[i - l.length]? with
  | none => rfl
  | some b => rw [List.eq_of_mem_replicate (List.mem_of_getElem? hx)]; rfl
theorem be_out {l : List Be} {i : Nat} (h : l.length ≤ i) : beAt l i = bnone := by simp [beAt, List.getD, List.getElem?_eq_none h]
theorem sumK_ext {g : Nat → Int} {k : Nat} : ∀ {m : Nat}, k ≤ m → (∀ i, k ≤ i → i < m → g i = 0) → sumK g m = sumK g k
 | 0, h, _ => by rw [Nat.le_zero.1 h]
 | m + 1, h, H => by
  rcases Nat.lt_or_ge k (m + 1) with h' | h'
  ·rw [sumK, sumK_ext (by omega) fun i a b => H i a (by omega), H m (by omega) (by omega), Int.add_zero]
  ·rw [Nat.le_antisymm h h']
theorem sumK_zero {g : Nat → Int} : ∀ {k : Nat}, (∀ i, i < k → 0 ≤ g i) → sumK g k = 0 → ∀ i, i < k → g i = 0
 | 0, _, _, i, hi => by omega
 | k + 1, h, he, i, hi => by
  have h1 := sumK_nn (g := g) (k := k) fun i hi => h i (by omega)
  have h2 := h k (by omega)
  rw [sumK] at he
  rcases (by omega : i < k ∨ i = k) with h' | rfl
  ·exact sumK_zero (fun i hi => h i (by omega)) (by omega) i h'
  ·omega

section
variable {fs : List Fl} {ss : List St} {l : List Be} (hall : HallOK fs ss) (hp : PlanOf fs ss (padB l)) (hn : l.length = ss.length)
include hall hp hn
theorem on_iff {f a : Int} (h0 : 0 ≤ f) : OnDay (padB l) f a ↔ ∃ i, i < l.length ∧ (beAt l i).fl = f ∧ (beAt l i).day = a := by
 have h4 := hall.ns
 constructor
 ·rintro ⟨i, hi, h1, h2⟩
  rw [be_pad] at h1 h2
  refine ⟨i, ?_, h1, h2⟩
  rcases Nat.lt_or_ge i l.length with h | h
  ·exact h
  ·rw [be_out h] at h1; simp [bnone] at h1; omega
 ·rintro ⟨i, hi, h1, h2⟩
  exact ⟨i, by omega, by rw [be_pad]; exact h1, by rw [be_pad]; exact h2⟩
theorem hi_sum {f d : Int} (h0 : 0 ≤ f) : hiAt fs ss (padB l) f d = sumK (hiG fs ss l f d) l.length := by
 have h4 := hall.ns
 have e : hiAt fs ss (padB l) f d = sumK (hiG fs ss l f d) 4 := sumK_congr fun i _ => by simp only [hiG, be_pad]
 rw [e]
 refine sumK_ext (by omega) fun i hi _ => ?_
 simp only [hiG, be_out hi, bnone]
 rw [if_neg (by omega)]
theorem be_some {i : Nat} (hi : i < l.length) : l[i]? = some (beAt l i) := by simp [beAt, List.getD, List.getElem?_eq_getElem hi]
theorem heat_at {h : List Int} (hh : IsHeat fs l h) {i : Nat} {f : Int} (hi : i < l.length) (h0 : 0 ≤ f) (hf : (beAt l i).fl = f) : (flAt fs f).lo ≤ h.getD i 0 ∧ h.getD i 0 ≤ (flAt fs f).hi := by
 have := hh.2 i _ (be_some hall hp hn hi)
 simp only [spanOf, hf, if_pos h0] at this
 exact this
theorem cones_le {h : List Int} (hh : IsHeat fs l h) {f d : Int} (h0 : 0 ≤ f) : conesF ss l h f d ≤ hiAt fs ss (padB l) f d := by
 rw [hi_sum hall hp hn h0]
 refine sumK_le fun i hi => ?_
 have hc := (co_ok hall i).1
 simp only [heG, hiG]
 by_cases c : (beAt l i).fl = f ∧ (beAt l i).day ≤ d ∧ d < (beAt l i).day + h.getD i 0
 ·have := heat_at hall hp hn hh hi h0 c.1
  rw [if_pos c, if_pos (by omega)]; exact Int.le_refl _
 ·rw [if_neg c]; split <;> omega
theorem isHeat_map {g : Be → Int} (hg : ∀ b, b ∈ l → (spanOf fs b).1 ≤ g b ∧ g b ≤ (spanOf fs b).2) : IsHeat fs l (l.map g) := by
 refine ⟨by simp, fun i b hb => ?_⟩
 have e : (l.map g).getD i 0 = g b := by simp [List.getD, hb]
 rw [e]
 exact hg b (List.mem_of_getElem? hb)
theorem span_ok {b : Be} (hb : b ∈ l) : (spanOf fs b).1 ≤ (spanOf fs b).2 := by
 unfold spanOf
 split
 ·rename_i h0
  have := fl_ok hall h0 (hp.fl b (List.mem_append_left _ hb))
  exact this.2.2.2.1
 ·exact Int.le_refl _
theorem map_at {g : Be → Int} {i : Nat} (hi : i < l.length) : (l.map g).getD i 0 = g (beAt l i) := by simp [List.getD, be_some hall hp hn hi]
theorem cones_nn {h : List Int} {f d : Int} : ∀ i, i < l.length → 0 ≤ heG ss l h f d i := fun i _ => by
 have := (co_ok hall i).1
 simp only [heG]; split <;> omega

/-- What shows in a heat, is wrong no later. -/
theorem shw_bad {h : List Int} (hh : IsHeat fs l h) {f d : Nat} (hs : Shw fs ss l h f d) : ∃ n : Int, n ≤ d ∧ Bad fs ss (padB l) f n := by
 obtain ⟨hd, hf, hs⟩ := hs
 have h0 : (0 : Int) ≤ f := by omega
 have hfo := fl_ok hall h0 (by omega : (f : Int) < fs.length)
 rcases hs with hs | hs
 ·exact ⟨d, Int.le_refl _, .inl ⟨by omega, by omega, by have := cones_le hall hp hn hh (f := f) (d := d) h0; omega⟩⟩
 ·have hrun : ∀ k : Nat, (k : Int) ≤ (flAt fs f).co → k ≤ d ∧ Idl ss l h f ((d - k : Nat) : Int) := fun k hk => idle_run d k (by omega)
  obtain ⟨c, hc⟩ : ∃ c : Nat, (flAt fs f).co = c := ⟨(flAt fs f).co.toNat, by omega⟩
  obtain ⟨hcd, hE⟩ := hrun c (by omega)
  obtain ⟨hE0, ⟨i0, hi0, hf0, hd0⟩, -⟩ := hE
  obtain ⟨-, -, -, ⟨i1, hi1, hf1, hd1⟩⟩ := (hrun 0 (by omega))
  have hno : ∀ i, i < l.length → (beAt l i).fl = f → ((d - c : Nat) : Int) ≤ (beAt l i).day → (beAt l i).day ≤ d → False := by
   intro i hi hfi ha hb
   obtain ⟨-, hz, -⟩ := hrun (d - (beAt l i).day.toNat) (by omega)
   have hz' := sumK_zero (cones_nn hall hp hn) hz i hi
   have hhe := heat_at hall hp hn hh hi h0 hfi
   have hco : 1 ≤ (stAt ss i).co := by
    obtain ⟨s, hs, -⟩ := has (show i < ss.length by omega)
    have e : stAt ss i = s := by simp [stAt, List.getD, hs]
    rw [e]; have := hall.st s (List.mem_of_getElem? hs); omega
   simp only [heG] at hz'
   rw [if_pos ⟨hfi, by omega, by omega⟩] at hz'
   omega
  have hmax : ∀ (m : Nat) (a : Int), OnDay (padB l) f a → a < ((d - c : Nat) : Int) → ((d - c : Nat) : Int) - a ≤ m → ∃ a', OnDay (padB l) f a' ∧ a' < ((d - c : Nat) : Int) ∧ ∀ b, OnDay (padB l) f b → b < ((d - c : Nat) : Int) → b ≤ a' := by
   intro m
   induction m with
   | zero => intro a _ h1 h2; omega
   | succ m ih =>
    intro a ha h1 h2
    by_cases hx : ∃ b, OnDay (padB l) f b ∧ b < ((d - c : Nat) : Int) ∧ a < b
    ·obtain ⟨b, hb, hb1, hb2⟩ := hx
     exact ih b hb hb1 (by omega)
    ·refine ⟨a, ha, h1, fun b hb hb1 => ?_⟩
     rcases Int.lt_or_le a b with h' | h'
     ·exact absurd ⟨b, hb, hb1, h'⟩ hx
     ·exact h'
  have hon0 := (on_iff hall hp hn h0).2 ⟨i0, hi0, hf0, rfl⟩
  obtain ⟨a, ha, ha1, ha2⟩ := hmax (((d - c : Nat) : Int) - (beAt l i0).day).toNat _ hon0 hd0 (by omega)
  obtain ⟨i, hi, hfi, hdi⟩ := (on_iff hall hp hn h0).1 ha
  have hz' := sumK_zero (cones_nn hall hp hn) hE0 i hi
  have hhe := heat_at hall hp hn hh hi h0 hfi
  have hco : 1 ≤ (stAt ss i).co := by
   obtain ⟨s, hs, -⟩ := has (show i < ss.length by omega)
   have e : stAt ss i = s := by simp [stAt, List.getD, hs]
   rw [e]; have := hall.st s (List.mem_of_getElem? hs); omega
  have hle : a + h.getD i 0 ≤ ((d - c : Nat) : Int) := by
   rcases Int.lt_or_le ((d - c : Nat) : Int) (a + h.getD i 0) with h' | h'
   ·simp only [heG] at hz'
    rw [if_pos ⟨hfi, by omega, by omega⟩] at hz'
    omega
   ·exact h'
  refine ⟨a + (flAt fs f).lo + (flAt fs f).co, by omega, .inr ⟨a, ha, rfl, ⟨_, (on_iff hall hp hn h0).2 ⟨i1, hi1, hf1, rfl⟩, by omega⟩, fun b hb => ?_⟩⟩
  rcases Int.lt_or_le b ((d - c : Nat) : Int) with h' | h'
  ·exact .inl (ha2 b hb h')
  ·obtain ⟨j, hj, hfj, hdj⟩ := (on_iff hall hp hn h0).1 hb
   rcases Int.lt_or_le (d : Int) b with h'' | h''
   ·exact .inr (by omega)
   ·exact absurd (hno j hj hfj (by omega) (by omega)) id

/-- What is wrong, shows in some heat. -/
theorem bad_shw {f : Nat} {n : Int} (hf : f < fs.length) (hb : Bad fs ss (padB l) f n) : 0 ≤ n ∧ ∃ h, IsHeat fs l h ∧ Shw fs ss l h f n.toNat := by
 have h0 : (0 : Int) ≤ f := by omega
 have hfo := fl_ok hall h0 (by omega : (f : Int) < fs.length)
 rcases hb with ⟨b0, b1, b2⟩ | ⟨a, ha, rfl, ⟨b, hb, hlt⟩, hno⟩
 ·refine ⟨b0, l.map (fun b => (spanOf fs b).2), isHeat_map hall hp hn fun b hb => ⟨span_ok hall hp hn hb, Int.le_refl _⟩, by omega, hf, .inl ?_⟩
  rw [hi_sum hall hp hn h0] at b2
  have e : ((n.toNat : Nat) : Int) = n := by omega
  rw [e]
  have : conesF ss l (l.map fun b => (spanOf fs b).2) f n = sumK (hiG fs ss l f n) l.length := sumK_congr fun i hi => by
   simp only [heG, hiG, map_at hall hp hn hi, spanOf]
   by_cases c : (beAt l i).fl = f
   ·rw [c, if_pos h0]
   ·rw [if_neg (fun x => c x.1), if_neg (fun x => c x.1)]
  rw [this]; exact b2
 ·have ha' := onDay_ge hp.ok ha
  have hb' := onDay_ge hp.ok hb
  obtain ⟨i, hi, hfi, hdi⟩ := (on_iff hall hp hn h0).1 ha
  obtain ⟨j, hj, hfj, hdj⟩ := (on_iff hall hp hn h0).1 hb
  have hk := idle_ge (ss := ss) (l := l) (h := l.map fun b => (spanOf fs b).1) (f := f) (a + (flAt fs f).lo).toNat ((flAt fs f).co.toNat + 1) (fun d hd1 hd2 => by
   refine ⟨?_, ⟨i, hi, hfi, by omega⟩, ⟨j, hj, hfj, by omega⟩⟩
   have : conesF ss l (l.map fun b => (spanOf fs b).1) f d = sumK (fun _ => 0) l.length := sumK_congr fun k hk => by
    simp only [heG, map_at hall hp hn hk]
    refine if_neg fun hx => ?_
    obtain ⟨x1, x2, x3⟩ := hx
    simp only [spanOf, x1, if_pos h0] at x3
    rcases hno _ ((on_iff hall hp hn h0).2 ⟨k, hk, x1, rfl⟩) with h' | h' <;> omega
   rw [this, sumK_0])
  refine ⟨by omega, _, isHeat_map hall hp hn (g := fun b => (spanOf fs b).1) fun b hb => ⟨Int.le_refl _, span_ok hall hp hn hb⟩, by omega, hf, .inr ?_⟩
  have e : (a + (flAt fs f).lo).toNat + ((flAt fs f).co.toNat + 1) = (a + (flAt fs f).lo + (flAt fs f).co).toNat + 1 := by omega
  rw [e] at hk
  omega
end
/-! The first of all -/
def MinS (R : Nat → Nat → Prop) (on first : Int) : Prop := (on = -1 ∧ first = -1 ∧ ∀ f d, ¬ R f d) ∨ ∃ f d : Nat, on = f ∧ first = d ∧ R f d ∧ ∀ f' d', R f' d' → d < d' ∨ d = d' ∧ f ≤ f'
theorem MinS.eq {R : Nat → Nat → Prop} {a b c d : Int} (h : MinS R a b) (h' : MinS R c d) : a = c ∧ b = d := by
 rcases h with ⟨rfl, rfl, h⟩ | ⟨f, n, rfl, rfl, h, hm⟩ <;> rcases h' with ⟨rfl, rfl, h'⟩ | ⟨f', n', rfl, rfl, h', hm'⟩
 ·exact ⟨rfl, rfl⟩
 ·exact absurd h' (h _ _)
 ·exact absurd h (h' _ _)
 ·have := hm _ _ h'
  have := hm' _ _ h
  omega
theorem MinS.new {R R' : Nat → Nat → Prop} {on first g day : Int} (h : MinS R on first) (h' : MinS R' g day) (hc : 0 ≤ day ∧ (first < 0 ∨ day < first ∨ day = first ∧ g < on)) : MinS (fun f d => R f d ∨ R' f d) g day := by
 rcases h' with ⟨rfl, rfl, h'⟩ | ⟨f', n', rfl, rfl, h', hm'⟩
 ·omega
 ·refine .inr ⟨f', n', rfl, rfl, .inr h', fun x y hxy => ?_⟩
  rcases hxy with hxy | hxy
  ·rcases h with ⟨rfl, rfl, h⟩ | ⟨f, n, rfl, rfl, h, hm⟩
   ·exact absurd hxy (h _ _)
   ·have := hm _ _ hxy
    omega
  ·exact hm' _ _ hxy
theorem MinS.old {R R' : Nat → Nat → Prop} {on first g day : Int} (h : MinS R on first) (h' : MinS R' g day) (hc : ¬ (0 ≤ day ∧ (first < 0 ∨ day < first ∨ day = first ∧ g < on))) : MinS (fun f d => R f d ∨ R' f d) on first := by
 rcases h' with ⟨rfl, rfl, h'⟩ | ⟨f', n', rfl, rfl, h', hm'⟩
 ·rcases h with ⟨rfl, rfl, h⟩ | ⟨f, n, rfl, rfl, h, hm⟩
  ·exact .inl ⟨rfl, rfl, fun f d hx => hx.elim (h _ _) (h' _ _)⟩
  ·exact .inr ⟨f, n, rfl, rfl, .inl h, fun x y hxy => hxy.elim (hm _ _) (fun hx => absurd hx (h' _ _))⟩
 ·rcases h with ⟨rfl, rfl, h⟩ | ⟨f, n, rfl, rfl, h, hm⟩
  ·omega
  ·refine .inr ⟨f, n, rfl, rfl, .inl h, fun x y hxy => ?_⟩
   rcases hxy with hxy | hxy
   ·exact hm _ _ hxy
   ·have := hm' _ _ hxy
    omega
/-- ████ What is wrong, and what shows in all heats. -/
theorem wrong_min {fs : List Fl} {ss : List St} {l : List Be} (h : ckPlan fs ss l = 0) : ∃ f d, wrongV fs ss l = (f, d, 0) ∧ MinS (fun f d => ∃ h ∈ heatsF fs l, Shw fs ss l h f d) f d := by
 obtain ⟨hall, hp, -⟩ := plan_ck h
 obtain ⟨-, hn, -⟩ := ckPlan0 h
 have e1 : wrongV fs ss l = errW (inspF fs ss (padB l)) := by
  have : askE fs ss l [] = 0 := by unfold askE; rw [if_neg (by simp [h]), if_neg (by simp [badF])]
  rw [wrongV, if_neg (by rw [this]; decide)]
 rw [e1]
 cases hi : inspF fs ss (padB l) with
 | none =>
  refine ⟨-1, -1, rfl, .inl ⟨rfl, rfl, fun f d ⟨h, hh, hs⟩ => ?_⟩⟩
  obtain ⟨n, -, hb⟩ := shw_bad hall hp hn (mem_heats.1 hh) hs
  exact (insp_none hall hp.ok).1 hi f (by omega) (by have := hs.2.1; omega) n hb
 | some w =>
  obtain ⟨⟨c, n⟩, f⟩ := w
  obtain ⟨y0, y1, hb, hmin⟩ := insp_some hall hp.ok hi
  obtain ⟨f, rfl⟩ : ∃ f' : Nat, f = f' := ⟨f.toNat, by omega⟩
  obtain ⟨h0, h, hh, hs⟩ := bad_shw hall hp hn (by omega) hb
  refine ⟨f, n, rfl, .inr ⟨f, n.toNat, rfl, by omega, ⟨h, mem_heats.2 hh, hs⟩, fun f' d' ⟨h', hh', hs'⟩ => ?_⟩⟩
  obtain ⟨n', hn', hb'⟩ := shw_bad hall hp hn (mem_heats.1 hh') hs'
  have := hmin f' n' (by omega) (by have := hs'.2.1; omega) hb'
  omega
end Go.Mus

/- Slices of slices; makeSlice. Conditions: none; over any program. -/
namespace Go.Mus
/-- A slice as an element. -/
structure Sv where
  a : Option Addr
  n : Nat
  cap : Nat
abbrev Sv.val (s : Sv) : Value := .slice s.a s.n s.cap
def rowS (s : Sv) : List Value := [.slice s.a s.n s.cap]
instance : Rw rowS 1 := ⟨fun _ => rfl, fun _ => rfl⟩

section
variable {α : Type} {row : α → List Value} {w : Nat} [rw' : Rw row w] {E : TypeId}
/-- Slices of one's own, one by one. -/
inductive Oss (E : TypeId) (row : α → List Value) [Rw row w] : List Sv → List (List α) → Frag → Prop
  | nil : Oss E row [] [] []
  | cons {s : Sv} {l : List α} {A B : Frag} {vs : List Sv} {ls : List (List α)} : Os E row s.val l A → Oss E row vs ls B → Oss E row (s :: vs) (l :: ls) (A ++ B)
theorem Oss.len {vs : List Sv} {ls : List (List α)} {A : Frag} (h : Oss E row vs ls A) : vs.length = ls.length := by
  induction h with
  | nil => rfl
  | cons _ _ ih => simp [ih]
theorem Oss.shut {vs : List Sv} {ls : List (List α)} {A : Frag} (h : Oss E row vs ls A) : Shut A := by
  induction h with
  | nil => exact .nil
  | cons h _ ih => exact h.shut.app ih
theorem Oss.snoc {vs : List Sv} {ls : List (List α)} {A B : Frag} {s : Sv} {l : List α} (h : Oss E row vs ls A) (hs : Os E row s.val l B) : Oss E row (vs ++ [s]) (ls ++ [l]) (A ++ B) := by
  induction h with
  | nil => have := Oss.cons hs .nil; simpa using this
  | cons h1 _ ih => have := Oss.cons h1 ih; rw [← List.append_assoc] at this; exact this
theorem Oss.sl {vs : List Sv} {ls : List (List α)} {A : Frag} {h' : Hp} (h : Oss E row vs ls A) (hL : ∀ b o, (b, o) ∈ A → h' b = some o) : ∀ {k : Nat} {s : Sv} {l : List α}, vs[k]? = some s → ls[k]? = some l → Sl h' row s.val l := by
  induction h with
  | nil => intro k s l hs; simp at hs
  | cons h1 _ ih =>
    intro k s l hs hl
    rcases k with _ | k
    · simp at hs hl; subst hs hl
      exact h1.sl fun b o hb => hL b o (List.mem_append_left _ hb)
    · simp at hs hl
      exact ih (fun b o hb => hL b o (List.mem_append_right _ hb)) hs hl
/-- They are put by. -/
theorem freezeOss {x : Cx} {c : Code} {Q : Post} {ρ : Env} {ds : List Deferred} {A F : Frag} {vs : List Sv} {ls : List (List α)} (hs : Oss E row vs ls A)
    (H : ∀ h', Ext x.h h' → (∀ (k : Nat) (s : Sv) (l : List α), vs[k]? = some s → ls[k]? = some l → Sl h' row s.val l ∧ Zs h' s.val) → W { x with h := h' } c Q ρ ds F) : W x c Q ρ ds (A ++ F) := by
  induction hs generalizing x with
  | nil => exact H x.h ⟨fun _ _ q => q, fun _ q => q⟩ fun k s l hk => by simp at hk
  | cons h1 h2 ih =>
    rw [List.append_assoc]
    refine freezeOs h1 fun h' hE hsl hz => ih (x := { x with h := h' }) fun h'' hE' hall => H h'' (hE.trans hE') fun k s l hk hl => ?_
    rcases k with _ | k
    · simp at hk hl; subst hk hl
      exact ⟨hsl.ext hE', hz.ext hE'⟩
    · simp at hk hl
      exact hall k s l hk hl
end
/-! makeSlice -/
section
variable {x : Cx} {ρ : Env} {F : Frag} {o : Oper} {R : Value → Frag → Prop}
end
end Go.Mus

/- All heats of a plan. Conditions: none; over the given program. -/
namespace Go.Mus
set_option maxRecDepth 100000
set_option maxHeartbeats 4000000
theorem ext2 {c : Array Value} {o : Nat} {u v w y : Value} (h : c.extract o (o + 4) = #[u, v, w, y]) : c.extract (o + 1) (o + 1 + 2) = #[v, w] := by
 have e : (c.extract o (o + 4)).extract 1 3 = c.extract (o + 1) (o + 1 + 2) := by
  rw [Array.extract_extract, show min (o + 3) (o + 4) = o + 1 + 2 by omega]
 rw [← e, h]; rfl

end Go.Mus

/- Cones on a day, days between, what shows in a heat. Conditions: none; over the given program. -/
namespace Go.Mus
set_option maxRecDepth 100000
set_option maxHeartbeats 4000000
end Go.Mus

/- When a floor is empty, when cones are done, days of doubt; what is said of them by all heats. Conditions: none. -/
namespace Go.Mus
/-! Counted over all heats -/
def MmS (g : Nat → Int) (k : Nat) (lo hi : Int) : Prop := (k = 0 ∧ lo = 0 ∧ hi = 0) ∨ (0 < k ∧ (∀ i, i < k → lo ≤ g i ∧ g i ≤ hi) ∧ (∃ i, i < k ∧ g i = lo) ∧ ∃ i, i < k ∧ g i = hi)
theorem MmS.first {g : Nat → Int} {lo hi : Int} (h : MmS g 0 lo hi) : MmS g 1 (min (g 0) (g 0)) (max (g 0) (g 0)) := by
  refine .inr ⟨by omega, fun i hi => ?_, ⟨0, by omega, by omega⟩, ⟨0, by omega, by omega⟩⟩
  obtain rfl : i = 0 := by omega
  omega
theorem MmS.next {g : Nat → Int} {k : Nat} {lo hi : Int} (h : MmS g k lo hi) (hk : k ≠ 0) : MmS g (k + 1) (min lo (g k)) (max hi (g k)) := by
  rcases h with ⟨rfl, -, -⟩ | ⟨h0, h1, ⟨i, hi1, hi2⟩, ⟨j, hj1, hj2⟩⟩
  · exact absurd rfl hk
  refine .inr ⟨by omega, fun x hx => ?_, ?_, ?_⟩
  · rcases (by omega : x < k ∨ x = k) with h | rfl
    · have := h1 x h; omega
    · omega
  · rcases Int.le_total lo (g k) with h | h
    · exact ⟨i, by omega, by omega⟩
    · exact ⟨k, by omega, by omega⟩
  · rcases Int.le_total hi (g k) with h | h
    · exact ⟨k, by omega, by omega⟩
    · exact ⟨j, by omega, by omega⟩
theorem MmS.eq {g : Nat → Int} {n : Nat} {lo hi lo' hi' : Int} (h : MmS g n lo hi) (h' : MmS g n lo' hi') : lo = lo' ∧ hi = hi' := by
  rcases h with ⟨rfl, rfl, rfl⟩ | ⟨h0, h1, ⟨i, hi1, hi2⟩, ⟨j, hj1, hj2⟩⟩ <;> rcases h' with ⟨h0', rfl, rfl⟩ | ⟨h0', h1', ⟨i', hi1', hi2'⟩, ⟨j', hj1', hj2'⟩⟩
  · exact ⟨rfl, rfl⟩
  · omega
  · omega
  · have := h1 i' hi1'
    have := h1 j' hj1'
    have := h1' i hi1
    have := h1' j hj1
    omega
theorem lo_sum {fs : List Fl} {ss : List St} {l : List Be} (hall : HallOK fs ss) (hn : l.length = ss.length) {f d : Int} (h0 : 0 ≤ f) : loAt fs ss (padB l) f d = sumK (loG fs ss l f d) l.length := by
  have h4 := hall.ns
  have e : loAt fs ss (padB l) f d = sumK (loG fs ss l f d) 4 := sumK_congr fun i _ => by simp only [loG, be_pad]
  rw [e]
  refine sumK_ext (by omega) fun i hi _ => ?_
  simp only [loG, be_out hi, bnone]
  rw [if_neg (by omega)]
theorem cones_ge {fs : List Fl} {ss : List St} {l : List Be} (hall : HallOK fs ss) (hp : PlanOf fs ss (padB l)) (hn : l.length = ss.length) {h : List Int} (hh : IsHeat fs l h) {f d : Int} (h0 : 0 ≤ f) : loAt fs ss (padB l) f d ≤ conesF ss l h f d := by
  rw [lo_sum hall hn h0]
  refine sumK_le fun i hi => ?_
  have hc := (co_ok hall i).1
  simp only [heG, loG]
  by_cases c : (beAt l i).fl = f ∧ (beAt l i).day ≤ d ∧ d < (beAt l i).day + (flAt fs f).lo
  · have := heat_at hall hp hn hh hi h0 c.1
    rw [if_pos c, if_pos (by omega)]; exact Int.le_refl _
  · rw [if_neg c]; split <;> omega
theorem ask_nil {fs : List Fl} {ss : List St} {l : List Be} (h : ckPlan fs ss l = 0) : askE fs ss l [] = 0 := by
  unfold askE; rw [if_neg (by simp [h]), if_neg (by simp [badF])]
end Go.Mus

/- All plans gone through: the right ones among them are those that are found, and what is kept of them. Conditions: none. -/
namespace Go.Mus
/-- All plans of the first strikes, in order. -/
def listF (fs : List Fl) (ss : List St) : Nat → List (List Be)
  | 0 => [[]]
  | i + 1 => (listF fs ss i).flatMap fun l => (berthsK fs ss freeM i).map fun b => l ++ [b]
def extF (fs : List Fl) (ss : List St) : Nat → List Be → List (List Be)
  | 0, l => [l]
  | m + 1, l => (berthsK fs ss freeM l.length).flatMap fun b => extF fs ss m (l ++ [b])
def isR (fs : List Fl) (ss : List St) (l : List Be) : Bool := (inspF fs ss (padB l)).isNone
def loaL (ss : List St) (l : List Be) : Int := loavesF ss (padB l)
theorem listF_len {fs : List Fl} {ss : List St} : ∀ i l, l ∈ listF fs ss i → l.length = i
  | 0, l, h => by have : l = [] := by simpa [listF] using h
                  subst this; rfl
  | i + 1, l, h => by
    obtain ⟨g, hg, hm⟩ := List.mem_flatMap.1 h
    obtain ⟨b, -, rfl⟩ := List.mem_map.1 hm
    rw [List.length_append, listF_len i g hg]; rfl
theorem list_ext {fs : List Fl} {ss : List St} : ∀ m k, (listF fs ss k).flatMap (extF fs ss m) = listF fs ss (k + m)
  | 0, k => by
    have : extF fs ss 0 = fun l => [l] := rfl
    rw [this, List.flatMap_singleton']; rfl
  | m + 1, k => by
    rw [show k + (m + 1) = (k + 1) + m by omega, ← list_ext m (k + 1), listF, List.flatMap_assoc]
    refine fm_congr fun l hl => ?_
    rw [extF, listF_len k l hl, List.flatMap_map]
theorem ext_nil {fs : List Fl} {ss : List St} {n : Nat} : extF fs ss n [] = listF fs ss n := by
  have := list_ext (fs := fs) (ss := ss) n 0
  rw [Nat.zero_add] at this
  rw [← this]; simp [listF]
theorem padB_set {l : List Be} {b : Be} (h : l.length < 4) : (padB l).set l.length b = padB (l ++ [b]) := by
  have e : 4 - l.length = (4 - (l ++ [b]).length) + 1 := by simp; omega
  unfold padB
  rw [e, List.set_append_right _ _ (Nat.le_refl _), Nat.sub_self, List.replicate_succ, List.set_cons_zero, List.append_assoc]
  rfl
theorem ext_pre {fs : List Fl} {ss : List St} : ∀ m l l', l' ∈ extF fs ss m l → ∃ r, l' = l ++ r
  | 0, l, l', h => by
    have : l' = l := by simpa [extF] using h
    exact ⟨[], by rw [this, List.append_nil]⟩
  | m + 1, l, l', h => by
    obtain ⟨b, -, hb⟩ := List.mem_flatMap.1 h
    obtain ⟨r, rfl⟩ := ext_pre m _ l' hb
    exact ⟨b :: r, by simp⟩
theorem ext_plan {fs : List Fl} {ss : List St} (hall : HallOK fs ss) : ∀ m l l', l.length + m = ss.length → PlanOf fs ss (padB l) → l' ∈ extF fs ss m l → PlanOf fs ss (padB l')
  | 0, l, l', _, hp, h => by
    have : l' = l := by simpa [extF] using h
    rw [this]; exact hp
  | m + 1, l, l', hl, hp, h => by
    have h4 := hall.ns
    obtain ⟨b, hb, hb'⟩ := List.mem_flatMap.1 h
    refine ext_plan hall m (l ++ [b]) l' (by simp; omega) ?_ hb'
    rw [← padB_set (by omega)]
    exact plan_set hp (by omega) (berth_ok hall (by omega) hb)
theorem rights_ext {fs : List Fl} {ss : List St} (hall : HallOK fs ss) : ∀ m l, l.length + m = ss.length → PlanOf fs ss (padB l) → rights fs ss freeM m l.length (padB l) = ((extF fs ss m l).filter (isR fs ss)).map padB
  | 0, l, _, _ => by
    rw [rights, extF, List.filter_cons]
    unfold isR
    split <;> rfl
  | m + 1, l, hl, hp => by
    have h4 := hall.ns
    rw [rights, extF, List.filter_flatMap, List.map_flatMap]
    refine fm_congr fun b hb => ?_
    rw [padB_set (by omega)]
    have hp' : PlanOf fs ss (padB (l ++ [b])) := by
      rw [← padB_set (by omega)]
      exact plan_set hp (by omega) (berth_ok hall (by omega) hb)
    have hbk := berth_ok hall (by omega) hb
    have ih := rights_ext hall m (l ++ [b]) (by simp; omega) hp'
    rw [List.length_append, List.length_singleton] at ih
    split
    · rename_i hpr
      have : (extF fs ss m (l ++ [b])).filter (isR fs ss) = [] := by
        refine List.filter_eq_nil_iff.2 fun l' hl' hr => ?_
        obtain ⟨r, rfl⟩ := ext_pre m _ l' hl'
        have hq := ext_plan hall m _ _ (by simp; omega) hp' hl'
        have hn : inspF fs ss (padB (l ++ [b] ++ r)) = none := by simpa [isR] using hr
        have := prune_no (b := b) hall hq.ok hp'.ok hbk.2.2.1 hn fun i hi => by
          rw [be_pad, be_pad]
          rcases Nat.lt_or_ge i (l ++ [b]).length with h | h
          · left; simp only [beAt, List.getD]; rw [List.getElem?_append_left h]
          · right; rw [be_out h]; simp [bnone]
        rw [hpr] at this; cases this
      rw [this]; rfl
    · exact ih
/-- ████ What is found is what is right, of all. -/
theorem allF_list {fs : List Fl} {ss : List St} (hall : HallOK fs ss) : allF fs ss freeM = ((listF fs ss ss.length).filter (isR fs ss)).map padB := by
  have h4 := hall.ns
  unfold allF
  split
  · rename_i h0
    have := rights_ext hall ss.length [] (by simp) (pad_nil hall.nf.1)
    rw [ext_nil] at this
    exact this
  · rename_i h0
    obtain ⟨n, hn⟩ : ∃ n, ss.length = n + 1 := ⟨ss.length - 1, by omega⟩
    have e : listF fs ss ss.length = (berthsK fs ss freeM 0).flatMap fun b => extF fs ss n ([] ++ [b]) := by
      rw [← ext_nil, hn, extF]; rfl
    rw [e, List.filter_flatMap, List.map_flatMap]
    refine fm_congr fun b hb => ?_
    have hp' : PlanOf fs ss (padB [b]) := by
      have := plan_set (pad_nil (ss := ss) hall.nf.1) (k := 0) (by omega) (berth_ok hall (by omega) hb)
      rwa [← pad_one] at this
    have := rights_ext hall n [b] (by simp; omega) hp'
    rw [rightsOf, show ss.length - [b].length = n by simp; omega]
    exact this
theorem berths_ck {fs : List Fl} {ss : List St} {k : Nat} {s : St} {b : Be} (hall : HallOK fs ss) (hs : ss[k]? = some s) (h : b ∈ berthsK fs ss freeM k) : ckBerth fs.length s b = 0 := by
  have hnf := hall.nf
  have hso := hall.st s (List.mem_of_getElem? hs)
  have e : stAt ss k = s := by simp [stAt, List.getD, hs]
  rw [mem_berths, e] at h
  rcases h with ⟨-, rfl⟩ | ⟨-, h⟩
  · exact ckBerth_ok (by omega) (.inl rfl)
  · exact ckBerth_ok (by omega) (.inr ⟨by omega, by omega, by omega, by omega⟩)
theorem list_cks {fs : List Fl} {ss : List St} (hall : HallOK fs ss) : ∀ i l, i ≤ ss.length → l ∈ listF fs ss i → ckBerths fs.length (ss.take i) l = 0
  | 0, l, _, h => by
    have : l = [] := by simpa [listF] using h
    subst this; simp [ckBerths]
  | i + 1, l, hi, h => by
    obtain ⟨g, hg, hm⟩ := List.mem_flatMap.1 h
    obtain ⟨b, hb, rfl⟩ := List.mem_map.1 hm
    have hl := listF_len i g hg
    obtain ⟨s, hs, -⟩ := has (show i < ss.length by omega)
    have := list_cks hall i g (by omega) hg
    subst hl
    exact ckBerths_app this hs (berths_ck hall hs hb)
theorem list_ck {fs : List Fl} {ss : List St} (hck : ckPlant fs ss = 0) {l : List Be} (h : l ∈ listF fs ss ss.length) : ckPlan fs ss l = 0 := by
  have hall := hall_ck hck
  have hl := listF_len _ l h
  have h1 := list_cks hall ss.length l (Nat.le_refl _) h
  rw [List.take_length] at h1
  unfold ckPlan
  rw [if_neg (by simp [hck]), if_neg (by omega), if_neg (by omega)]
  exact h1
theorem wrong_ok {fs : List Fl} {ss : List St} {l : List Be} (h : ckPlan fs ss l = 0) : ∃ f d, wrongV fs ss l = (f, d, 0) ∧ (f < 0 ↔ isR fs ss l = true) := by
  obtain ⟨hall, hp, -⟩ := plan_ck h
  have e1 : wrongV fs ss l = errW (inspF fs ss (padB l)) := by
    rw [wrongV, if_neg (by rw [ask_nil h]; decide)]
  rw [e1, isR]
  cases hi : inspF fs ss (padB l) with
  | none => exact ⟨-1, -1, rfl, by simp⟩
  | some w =>
    obtain ⟨⟨c, n⟩, f⟩ := w
    obtain ⟨y0, y1, -, -⟩ := insp_some hall hp.ok hi
    exact ⟨f, n, rfl, by simp; omega⟩
theorem berths_len {fs : List Fl} {ss : List St} (hall : HallOK fs ss) {k : Nat} (hk : k < ss.length) : (berthsK fs ss freeM k).length ≤ 13 := by
  have hs := hall.st (stAt ss k) (by simp [stAt, List.getD, List.getElem?_eq_getElem hk])
  have hd : ∀ (m : Nat) (f d : Int), (daysFrom f d m).length = m := by
    intro m; induction m with
    | zero => intros; rfl
    | succ m ih => intro f d; rw [daysFrom, List.length_cons, ih]
  have hf : ∀ (m : Nat) (f : Int), (floorsFrom (stAt ss k) f m).length = m * ((stAt ss k).wa + 1).toNat := by
    intro m; induction m with
    | zero => intro f; simp [floorsFrom]
    | succ m ih => intro f; rw [floorsFrom, List.length_append, hd, ih, Nat.succ_mul]; omega
  have hn := hall.nf.2
  have hw : ((stAt ss k).wa + 1).toNat ≤ 6 := by omega
  have : fs.length * ((stAt ss k).wa + 1).toNat ≤ 2 * 6 := Nat.mul_le_mul hn hw
  simp only [berthsK, freeM, if_true, List.length_append, hf, List.length_singleton]
  omega
theorem fm_len {α β : Type} {l : List α} {f : α → List β} {n : Nat} (h : ∀ x ∈ l, (f x).length ≤ n) : (l.flatMap f).length ≤ l.length * n := by
  induction l with
  | nil => simp
  | cons a l ih =>
    rw [List.flatMap_cons, List.length_append, List.length_cons, Nat.succ_mul]
    have := ih fun x hx => h x (List.mem_cons_of_mem _ hx)
    have := h a (List.mem_cons_self ..)
    omega
theorem listF_le {fs : List Fl} {ss : List St} (hall : HallOK fs ss) : ∀ i, i ≤ ss.length → (listF fs ss i).length ≤ 13 ^ i
  | 0, _ => by simp [listF]
  | i + 1, hi => by
    have ih := listF_le hall i (by omega)
    have := fm_len (l := listF fs ss i) (f := fun l => (berthsK fs ss freeM i).map fun b => l ++ [b]) (n := 13) fun x _ => by rw [List.length_map]; exact berths_len hall (by omega)
    rw [listF, Nat.pow_succ]
    exact Nat.le_trans this (Nat.mul_le_mul_right _ ih)
theorem pow13 {i : Nat} (h : i ≤ 4) : 13 ^ i ≤ 28561 := by
  rcases (by omega : i = 0 ∨ i = 1 ∨ i = 2 ∨ i = 3 ∨ i = 4) with rfl | rfl | rfl | rfl | rfl <;> decide

/-! What is kept of those that are gone through -/
structure BI (ss : List St) (R B : List (List Be)) (most : Int) : Prop where
  eq : B = R.filter fun l => decide (loaL ss l = most)
  top : ∀ l ∈ R, loaL ss l ≤ most
  ne : R ≠ [] → B ≠ []
  em : R = [] → most = -1
theorem BI.nil {ss : List St} : BI ss [] [] (-1) := ⟨rfl, fun l h => by simp at h, fun h => absurd rfl h, fun _ => rfl⟩
theorem BI.less {ss : List St} {R B : List (List Be)} {most : Int} {l : List Be} (h : BI ss R B most) (hl : loaL ss l < most) (h0 : 0 ≤ loaL ss l) : BI ss (R ++ [l]) B most := by
  have hR : R ≠ [] := fun e => by have := h.em e; omega
  refine ⟨?_, fun x hx => ?_, fun _ => h.ne hR, fun e => by simp at e⟩
  · rw [List.filter_append, ← h.eq, List.filter_cons, if_neg (by simp; omega)]; simp
  · rcases List.mem_append.1 hx with hx | hx
    · exact h.top x hx
    · have : x = l := by simpa using hx
      subst this; omega
theorem BI.same {ss : List St} {R B : List (List Be)} {most : Int} {l : List Be} (h : BI ss R B most) (hl : loaL ss l = most) (h0 : 0 ≤ loaL ss l) : BI ss (R ++ [l]) (B ++ [l]) most := by
  refine ⟨?_, fun x hx => ?_, fun _ e => by simp at e, fun e => by simp at e⟩
  · rw [List.filter_append, ← h.eq, List.filter_cons, if_pos (by simpa using hl)]; simp
  · rcases List.mem_append.1 hx with hx | hx
    · exact h.top x hx
    · have : x = l := by simpa using hx
      subst this; omega
theorem BI.more {ss : List St} {R B : List (List Be)} {most : Int} {l : List Be} (h : BI ss R B most) (hl : most < loaL ss l) : BI ss (R ++ [l]) [l] (loaL ss l) := by
  refine ⟨?_, fun x hx => ?_, fun _ e => by simp at e, fun e => by simp at e⟩
  · rw [List.filter_append, filter_none fun q hq => ?_, List.filter_cons, if_pos (by simp)]
    · simp
    · have := h.top q hq
      exact decide_eq_false (by omega)
  · rcases List.mem_append.1 hx with hx | hx
    · have := h.top x hx; omega
    · have : x = l := by simpa using hx
      subst this; omega
/-- ████ What is kept is what Best says. -/
theorem BI.best {fs : List Fl} {ss : List St} (hall : HallOK fs ss) {B : List (List Be)} {most : Int} (h : BI ss ((listF fs ss ss.length).filter (isR fs ss)) B most) : (bestF fs ss).1 = most ∧ (bestF fs ss).2 = B.map padB ∧ B ≠ [] ∧ ∀ l ∈ B, l ∈ listF fs ss ss.length := by
  obtain ⟨⟨q, hq, hq1⟩, htop, hout⟩ := best_spec hall
  rw [allF_list hall] at hq htop hout
  obtain ⟨l, hl, rfl⟩ := List.mem_map.1 hq
  have hne : (listF fs ss ss.length).filter (isR fs ss) ≠ [] := fun e => by rw [e] at hl; simp at hl
  have hB := h.ne hne
  have e : (bestF fs ss).1 = most := by
    obtain ⟨x, hx⟩ := List.exists_mem_of_ne_nil _ hB
    have hx' := hx
    rw [h.eq, List.mem_filter] at hx'
    have h1 : loaL ss x = most := by simpa using hx'.2
    have h2 := htop (padB x) (List.mem_map.2 ⟨x, hx'.1, rfl⟩)
    have h3 := h.top l hl
    simp only [loaL] at h1 h3
    omega
  refine ⟨e, ?_, hB, fun x hx => ?_⟩
  · rw [hout, List.filter_map, e, h.eq]
    rfl
  · rw [h.eq] at hx
    exact (List.mem_filter.1 (List.mem_filter.1 hx).1).1
def cntB (B : List (List Be)) (s : Nat) : Int := (cntF s B : Nat)
theorem cntB_snoc {B : List (List Be)} {l : List Be} {s : Nat} : cntB (B ++ [l]) s = cntB B s + if 0 ≤ (beAt l s).fl then 1 else 0 := by
  unfold cntB cntF
  rw [List.countP_append, List.countP_cons]
  simp only [List.countP_nil, Nat.zero_add, decide_eq_true_eq]
  split <;> simp
theorem cntF_pad {B : List (List Be)} {s : Nat} : cntF s (B.map padB) = cntF s B := by
  unfold cntF
  rw [List.countP_map]
  congr 1
  funext l
  simp only [Function.comp_def, be_pad]
theorem verd_met {fs : List Fl} {ss : List St} {B : List (List Be)} {s : Nat} (h : (bestF fs ss).2 = B.map padB) : verdF fs ss s = if cntB B s = 0 then 2 else if cntB B s = B.length then 1 else 3 := by
  have h1 : cntF s B ≤ B.length := List.countP_le_length
  rw [verdF, h, cntF_pad, List.length_map]
  unfold cntB
  by_cases c0 : cntF s B = 0
  · rw [if_neg (by omega), if_pos c0, if_pos (by omega)]
  · by_cases c1 : cntF s B = B.length
    · rw [if_neg (by omega), if_neg c0, if_neg (by omega), if_pos (by omega)]
    · rw [if_pos (by omega), if_neg (by omega), if_neg (by omega)]
end Go.Mus

/- When a floor is empty, when cones are done, days of doubt. Conditions: none; over the given program. -/
namespace Go.Mus
set_option maxRecDepth 100000
set_option maxHeartbeats 4000000
/-! Days, beside each other -/
theorem eqv_days : EqV prog t_days 44 3 := EqV.array (n := 22) (w := 2) (K := 2) eqv_span.at
instance : EV prog t_days 44 := ⟨eqv_days.le (by decide)⟩
instance : NS prog t_days := ⟨by kernel_rfl, by kernel_rfl⟩
end Go.Mus

/- All plans of a plant, in their order; the loaves of a plan. Conditions: none; over the given program. -/
namespace Go.Mus
set_option maxRecDepth 100000
set_option maxHeartbeats 40000000
theorem daysFrom_snoc {f : Int} : ∀ {m : Nat} {d : Int}, daysFrom f d (m + 1) = daysFrom f d m ++ [⟨f, d + m⟩]
 | 0, d => by simp [daysFrom]
 | m + 1, d => by
  rw [daysFrom, daysFrom_snoc, daysFrom, List.cons_append]
  rw [show d + 1 + (m : Int) = d + ((m + 1 : Nat) : Int) by omega]
theorem floorsFrom_snoc {s : St} : ∀ {m : Nat} {f : Int}, floorsFrom s f (m + 1) = floorsFrom s f m ++ daysFrom (f + m) s.day (s.wa + 1).toNat
 | 0, f => by simp [floorsFrom]
 | m + 1, f => by
  rw [floorsFrom, floorsFrom_snoc, floorsFrom, List.append_assoc]
  rw [show f + 1 + (m : Int) = f + ((m + 1 : Nat) : Int) by omega]
theorem floors_le {s : St} {m : Nat} {f : Int} (hm : m ≤ 2) (hw : s.wa ≤ 5) : (floorsFrom s f m).length ≤ 12 := by
 rw [floorsFrom_len]
 exact Nat.mul_le_mul hm (show (s.wa + 1).toNat ≤ 6 by omega)
theorem berths_eq {fs : List Fl} {ss : List St} {k : Nat} : berthsK fs ss freeM k = bnone :: floorsFrom (stAt ss k) 0 fs.length := by
 simp [berthsK, freeM]
theorem loaves_sum {ss : List St} {l : List Be} {fs : List Fl} (hall : HallOK fs ss) : loaL ss l = sumK (coG ss l) ss.length := by
 rw [loaL, loavesF_eq hall]
 exact sumK_congr fun i _ => by simp only [coG, be_pad]
theorem Loaves_fn (main : Side) (h : Hp) (fs : List Fl) (ss : List St) (l : List Be) (vf vs vl : Value) (hs : Sl h St.row vs ss) (hl : Sl h Be.row vl l) (hall : HallOK fs ss) (hn : l.length = ss.length) : Pu prog main n_ref_Loaves #[.agg #[vf, vs], vl] h (I (loaL ss l)) := by
 have hns := hall.ns
 obtain ⟨a', cap', rfl⟩ := hs.isSl
 obtain ⟨al, lc, rfl⟩ := hl.isSl
 rw [loaves_sum hall]
 refine Fnc.of_body at_ref_Loaves rfl (by show 2 ≤ 28; decide) [(0, .agg #[vf, .slice a' ss.length cap']), (1, .slice al l.length lc)] ⟨rfl, rfl, trivial⟩ ?_
 refine W.seq <| W.region rfl ?_
 refine Ops.box (cs := #[vf, .slice a' ss.length cap']) (fun β2 => ?_) rfl rfl rfl
 refine qs rfl rfl rfl <| Ops.nil <| thn_n <| W.seq <| W.region rfl <| qs rfl rfl rfl <| Ops.nil <| thn_n <| W.seq <| W.seq ?_
 refine W.region rfl <| qs rfl rfl rfl <| Ops.nil <| thn_n <| W.block ?_
 refine W.loop (σ := Nat) (fun k => k ≤ l.length) (fun k => [(6, I k), (5, I (sumK (coG ss l) k)), (2, .pointer (some ⟨β2, 0, none⟩)), (1, .slice al l.length lc)]) (fun _ => [(β2, .cells #[vf, .slice a' ss.length cap'] t_Plant (0, 0))]) (fun k => l.length - k) 0 (Nat.zero_le _) ⟨rfl, rfl, rfl, rfl, trivial⟩ .refl ?_
 rintro k hk
 refine W.seq <| W.seq <| W.region rfl <| qm rfl rfl rfl <| qm rfl rfl rfl ?_
 refine o1 (y_len rfl rfl) rfl ?_
 refine o1 (y_lss rfl rfl rfl) rfl ?_
 refine Ops.nil <| thn_n ?_
 refine W.condp rfl (fun c10 => ?_) (fun c10 => ?_)
 ·have hk1 : k < l.length := by omega
  have hb0 : l[k]? = some (beAt l k) := by simp [beAt, List.getD, List.getElem?_eq_getElem hk1]
  obtain ⟨s, hs0, -⟩ := has (show k < ss.length by omega)
  have hsa : stAt ss k = s := by simp [stAt, List.getD, hs0]
  have hco := co_ok hall k
  rw [hsa] at hco
  have hsum := (loavesK_eq (p := l) hall k (by omega)).2
  have hg : coG ss l k = if 0 ≤ (beAt l k).fl then s.co else 0 := by rw [coG, hsa]
  obtain ⟨bl, offl, cl, El, fzl, rfl, hbl, -, hyl, hzl⟩ := hl.at hb0
  have hfl0 : cl[offl + k * 2 + 0]? = some (I (beAt l k).fl) := hzl 0 (by decide)
  clear hzl
  obtain ⟨bs, offs, cs, Es, fzs, rfl, hbs, -, hys, hzs⟩ := hs.at hs0
  have hfs : cs[offs + k * 3 + 1]? = some (I s.co) := hzs 1 (by decide)
  clear hzs
  refine W.skip <| thn_n <| W.seq <| W.block <| W.seq <| W.region rfl <| qm rfl rfl rfl <| qm rfl rfl rfl ?_
  first | refine o1 (yix rfl rfl rfl) rfl ?_ | refine o1 (yixI rfl rfl rfl) rfl ?_
  refine o1 (y_fieldAddr rfl rfl) rfl ?_
  refine o1 (yld rfl rfl) rfl ?_
  refine o1 (y_geq rfl rfl rfl) rfl ?_
  refine Ops.nil <| thn_n ?_
  refine W.condp rfl (fun c18 => ?_) (fun c18 => ?_)
  ·refine W.region rfl <| qm rfl rfl rfl ?_
   refine o1 (y_fieldAddr rfl rfl) rfl ?_
   refine o1 (yld rfl rfl) rfl ?_
   refine qm rfl rfl rfl ?_
   first | refine o1 (yix rfl rfl rfl) rfl ?_ | refine o1 (yixI rfl rfl rfl) rfl ?_
   refine o1 (y_fieldAddr rfl rfl) rfl ?_
   refine o1 (yld rfl rfl) rfl ?_
   first | refine o1 (yadd rfl rfl rfl) rfl ?_ | refine o1 (y_addw rfl rfl rfl) rfl ?_
   refine qs rfl rfl rfl <| Ops.nil <| blk_n <| thn_n <| W.region rfl <| qm rfl rfl rfl ?_
   first | refine o1 (yadd rfl rfl rfl) rfl ?_ | refine o1 (y_addw rfl rfl rfl) rfl ?_
   refine qs rfl rfl rfl <| Ops.nil <| thn_n ?_
   exact ⟨rfl, k + 1, by omega, by omega, ⟨rfl, lk rfl (show I _ = I _ by rw [sumK, hg, if_pos c18]), rfl, rfl, trivial⟩, .refl⟩
  ·refine W.skip <| blk_n <| thn_n <| W.region rfl <| qm rfl rfl rfl ?_
   first | refine o1 (yadd rfl rfl rfl) rfl ?_ | refine o1 (y_addw rfl rfl rfl) rfl ?_
   refine qs rfl rfl rfl <| Ops.nil <| thn_n ?_
   exact ⟨rfl, k + 1, by omega, by omega, ⟨rfl, lk rfl (show I _ = I _ by rw [sumK, hg, if_neg c18, Int.add_zero]), rfl, rfl, trivial⟩, .refl⟩
 ·have hke : k = ss.length := by omega
  subst hke
  refine W.exit <| thn_x <| thn_x <| blk_x <| thn_n <| W.seq <| W.region rfl <| qm rfl rfl rfl <| qs rfl rfl rfl <| Ops.nil ?_
  refine thn_n <| W.ret ?_
  exact lvp (hs := .cons rfl .nil) rfl
end Go.Mus

/- Slices of structs of numbers, as they are handed in. Conditions: none; over any program. -/
namespace Go.Mus
/-- A type whose reading is w numbers. -/
def RowT (P : Program) (t : TypeId) (w : Nat) : Prop := P.cellsOf t = w ∧ ∀ {H : Type} {enc : TypeId × Value → H} {W : World} {base : Nat} {spare : Nat → Bool} {held : Bool} {fuel : Nat} {cs : List Value} {x : DataW H × List MemPlace}, DataW.trod enc P W base spare held fuel t cs = some x → ∃ ns : List Int, cs = ns.map nI ∧ ns.length = w
theorem RowT.int {P : Program} {t : TypeId} (ht : P.underlying t = some (.int .i64)) (hc : P.cellsOf t = 1) : RowT P t 1 := ⟨hc, fun h => by
 obtain ⟨n, rfl, -, -⟩ := DataW.trod_int ht h
 exact ⟨[n], rfl, rfl⟩⟩
def LayR (P : Program) : List Field → List Nat → Nat → Prop
 | [], [], _ => True
 | f :: fs, w :: ws, o => f.offset = o ∧ RowT P f.type w ∧ LayR P fs ws (o + w)
 | _, _, _ => False
theorem layR_run {P : Program} {H : Type} {enc : TypeId × Value → H} {W : World} {base : Nat} {spare : Nat → Bool} {held : Bool} {n : Nat} {cs : List Value} : ∀ (fs : List Field) (ws : List Nat) (o : Nat), LayR P fs ws o → (∀ f ∈ fs, ∃ x, DataW.trod enc P W base spare held n f.type ((cs.drop f.offset).take (P.cellsOf f.type)) = some x) → o + ws.sum = cs.length → ∃ ns : List Int, cs.drop o = ns.map nI ∧ ns.length = ws.sum
 | [], [], o, _, _, hl => ⟨[], by simp at hl; simp; omega, rfl⟩
 | f :: fs, w :: ws, o, ⟨ho, ⟨hc, hr⟩, hrest⟩, hx, hl => by
  obtain ⟨x, h1⟩ := hx f (List.mem_cons_self ..)
  obtain ⟨ns, h2, h3⟩ := hr h1
  rw [List.sum_cons] at hl
  obtain ⟨ms, h4, h5⟩ := layR_run fs ws (o + w) hrest (fun g hg => hx g (List.mem_cons_of_mem _ hg)) (by omega)
  subst ho
  rw [hc] at h2
  refine ⟨ns ++ ms, ?_, by rw [List.length_append, h3, h5, List.sum_cons]⟩
  rw [List.map_append, ← h2, ← h4, ← List.drop_drop, List.take_append_drop]
 | [], _ :: _, _, h, _, _ => h.elim
 | _ :: _, [], _, h, _, _ => h.elim
theorem RowT.struct {P : Program} {t : TypeId} {fs : Array Field} {ws : List Nat} (ht : P.underlying t = some (.struct fs)) (hl : LayR P fs.toList ws 0) (hc : P.cellsOf t = ws.sum) : RowT P t ws.sum := ⟨hc, fun {H enc W base spare held fuel cs x} h => by
 obtain ⟨xs, n, -, -, h1, h2, h3⟩ := DataW.trod_struct ht h
 have := layR_run (cs := cs) fs.toList ws 0 hl (fun f hf => by
  obtain ⟨i, hi⟩ := List.mem_iff_getElem?.1 hf
  have hi' : fs[i]? = some f := by simpa using hi
  have hlt : i < xs.length := by
   rw [h2]
   rcases Nat.lt_or_ge i fs.size with h | h
   ·exact h
   ·rw [Array.getElem?_eq_none h] at hi'; cases hi'
  exact ⟨xs[i], by rw [h3 i f hi', List.getElem?_eq_getElem hlt]⟩) (by omega)
 simpa using this⟩
/-- A value of such a type. -/
theorem RowT.val {P : Program} {t w : Nat} (R : RowT P t w) {H : Type} {enc : TypeId × Value → H} {W : World} {base : Nat} {spare : Nat → Bool} {held : Bool} {v : Value} {d : DataW H} {ps : List MemPlace} (h : DataW.Trod enc P W base spare held t v d ps) : ∃ ns : List Int, v.cells.toList = ns.map nI ∧ ns.length = w := by
 obtain ⟨fuel, h⟩ := h
 exact R.2 h

theorem cells_some {W : World} {base n : Nat} {a : Addr} {cs : List Value} (h : W.cells? base a n = some cs) : cs.length = n ∧ ∀ i, i < n → W.cell? (a.add i) = cs[i]? := by
 unfold World.cells? at h
 split at h
 ·have h1 := mapM_some_length h
  rw [List.length_range] at h1
  exact ⟨h1, fun i hi => mapM_some_get h i i (by simp [hi])⟩
 ·cases h
/-- ████ A SLICE OF SUCH A TYPE. -/
theorem RowT.slice {P : Program} {e t w : Nat} (R : RowT P e w) (hw : 0 < w) {α : Type} {row : α → List Value} [Rw row w] (mk : ∀ ns : List Int, ns.length = w → ∃ p : α, row p = ns.map nI) (ht : P.underlying t = some (.slice e)) {H : Type} {enc : TypeId × Value → H} {W : World} {base : Nat} {spare : Nat → Bool} {held : Bool} {v : Value} {fuel : Nat} {x : DataW H × List MemPlace} (hf : DataW.trod enc P W base spare held fuel t [v] = some x) : ∃ l : List α, Sl (atStart W) row v l := by
 rcases DataW.trod_slice ht hf with ⟨hcs, -⟩ | ⟨a, len, cap, elems, rest, n, -, hcs, -, hb, hle, hm, hlen, hel, -, -⟩
 ·obtain rfl : v = .slice none 0 0 := by simpa using hcs
  exact ⟨[], .nil⟩
 ·obtain rfl : v = .slice (some a) len cap := by simpa using hcs
  rw [R.1] at hel
  have each : ∀ i, i < len → ∃ p : α, ∀ j, j < w → W.cell? ((a.add (i * w)).add j) = (row p)[j]? := fun i hi => by
   have h1 := hel i hi
   rw [List.getElem?_eq_getElem (by omega), Option.bind_eq_some_iff] at h1
   obtain ⟨cs, h2, h3⟩ := h1
   obtain ⟨ns, rfl, h4⟩ := R.2 h3
   obtain ⟨p, hp⟩ := mk ns h4
   refine ⟨p, fun j hj => ?_⟩
   rw [(cells_some h2).2 j hj, hp]
  have all : ∀ m, m ≤ len → ∃ l : List α, l.length = m ∧ ∀ i p, l[i]? = some p → ∀ j, j < w → W.cell? ((a.add (i * w)).add j) = (row p)[j]? := by
   intro m
   induction m with
   | zero => intro _; exact ⟨[], rfl, fun i p hp => by simp at hp⟩
   | succ m ih =>
    intro hm
    obtain ⟨l, h1, h2⟩ := ih (by omega)
    obtain ⟨p, hp⟩ := each m (by omega)
    refine ⟨l ++ [p], by simp [h1], fun i q hq => ?_⟩
    rcases Nat.lt_or_ge i l.length with h | h
    ·rw [List.getElem?_append_left h] at hq; exact h2 i q hq
    ·have hlt := lt_of_get hq
     simp at hlt
     have : i = m := by omega
     subst this
     rw [List.getElem?_append_right h, show i - l.length = 0 by omega] at hq
     simp at hq
     subst hq
     exact hp
  obtain ⟨l, hl, hc⟩ := all len (Nat.le_refl _)
  refine ⟨l, some a, cap, by rw [hl], fun hne => ?_⟩
  have hpos : 0 < len := by
   rcases Nat.eq_zero_or_pos len with h | h
   ·subst h; exact absurd (List.eq_nil_of_length_eq_zero hl) hne
   ·exact h
  obtain ⟨b, off, spot⟩ := a
  have hsp : spot = none := by
   obtain ⟨p, hp, -⟩ := has (show 0 < l.length by omega)
   have h0 := hc 0 p hp 0 hw
   have hrw : (row p).length = w := Rw.len p
   rw [List.getElem?_eq_getElem (by omega)] at h0
   cases hs : spot with
   | none => rfl
   | some s =>
    subst hs
    exfalso
    simp only [Nat.zero_mul, World.cell?, Addr.add, if_true] at h0
    split at h0
    ·simp at h0
    ·cases h0
  subst hsp
  have cell : ∀ k, k < (flat row l).length → ∃ c E fz, W.heap[b]? = some (.cells c E fz) ∧ c[off + k]? = (flat row l)[k]? := fun k hk => by
   rw [flat_len] at hk
   have hi : k / w < l.length := Nat.div_lt_of_lt_mul (by rw [Nat.mul_comm]; exact hk)
   have hj : k % w < w := Nat.mod_lt _ hw
   obtain ⟨p, hp, -⟩ := has hi
   have h1 := hc _ p hp _ hj
   have hrw : (row p).length = w := Rw.len p
   have e1 : k / w * w + k % w = k := Nat.div_add_mod' k w
   have h2 : (flat row l)[k]? = (row p)[k % w]? := by
    have hP : Part (flat row l).toArray 0 (flat row l) := Part.all _
    have h3 := hP.rowG hp (k % w) hj
    rw [Nat.zero_add, e1] at h3
    simpa using h3
   have ea : ((⟨b, off, none⟩ : Addr).add (k / w * w)).add (k % w) = ⟨b, off + k, none⟩ := by
    have e2 : (⟨b, off, none⟩ : Addr).add (k / w * w) = ⟨b, off + k / w * w, none⟩ := add_spot rfl _
    rw [e2, add_spot rfl]
    simp only [Addr.mk.injEq, true_and, and_true]
    omega
   rw [ea] at h1
   rw [h2]
   rw [List.getElem?_eq_getElem (show k % w < (row p).length by omega)] at h1 ⊢
   simp only [World.cell?] at h1
   split at h1
   ·rename_i c E fz hb
    exact ⟨c, E, fz, hb, by simpa using h1⟩
   ·cases h1
  have hfl := flat_len (row := row) l
  have hpos2 : 0 < (flat row l).length := by rw [hfl]; exact Nat.mul_pos (by omega) hw
  obtain ⟨c, E, fz, hb', h0⟩ := cell 0 hpos2
  refine ⟨b, off, c, E, fz, rfl, atStart_some.2 ⟨hb', rfl⟩, Part.of_get (fun j hj => ?_) (fun e => by rw [e] at hpos2; simp at hpos2)⟩
  obtain ⟨c', E', fz', hb2, hj'⟩ := cell j hj
  rw [hb'] at hb2
  cases hb2
  exact hj'
end Go.Mus

/- From a law of plants, floors, strikes, plans and numbers that answers true to its card. Conditions: as the cards say; over the given program. -/
namespace Go.Mus
open Go.Proofs.YtnffnndmilpnoaaGreatDoor
set_option maxRecDepth 100000
set_option maxHeartbeats 4000000
section
open Go.ChangeShapes Go.WideShapes Go.RowKit
theorem rT_int : RowT prog t_int 1 := RowT.int under_int cells_int
theorem rT_span : RowT prog t_Span 2 := RowT.struct (ws := [1, 1]) (TD.out (t := t_Span)) ⟨rfl, rT_int, rfl, rT_int, trivial⟩ (by kernel_rfl)
theorem rT_floor : RowT prog t_Floor 4 := RowT.struct (ws := [1, 2, 1]) (TD.out (t := t_Floor)) ⟨rfl, rT_int, rfl, rT_span, rfl, rT_int, trivial⟩ (by kernel_rfl)
theorem rT_strike : RowT prog t_Strike 3 := RowT.struct (ws := [1, 1, 1]) (TD.out (t := t_Strike)) ⟨rfl, rT_int, rfl, rT_int, rfl, rT_int, trivial⟩ (by kernel_rfl)
theorem rT_berth : RowT prog t_Berth 2 := RowT.struct (ws := [1, 1]) (TD.out (t := t_Berth)) ⟨rfl, rT_int, rfl, rT_int, trivial⟩ (by kernel_rfl)
theorem mkFl : ∀ ns : List Int, ns.length = 4 → ∃ p : Fl, p.row = ns.map nI
 | [a, b, c, d], _ => ⟨⟨a, b, c, d⟩, rfl⟩
theorem mkSt : ∀ ns : List Int, ns.length = 3 → ∃ p : St, p.row = ns.map nI
 | [a, b, c], _ => ⟨⟨a, b, c⟩, rfl⟩
theorem mkBe : ∀ ns : List Int, ns.length = 2 → ∃ p : Be, p.row = ns.map nI
 | [a, b], _ => ⟨⟨a, b⟩, rfl⟩
theorem mkI : ∀ ns : List Int, ns.length = 1 → ∃ p : Int, rowI p = ns.map nI
 | [a], _ => ⟨a, rfl⟩

/-- What an argument is. -/
structure ArgOK (h : Hp) (t : TypeId) (v : Value) : Prop where
 plant : t = t_Plant → ∃ vf vs fs ss, v = .agg #[vf, vs] ∧ Sl h Fl.row vf fs ∧ Sl h St.row vs ss
 floor : t = t_Floor → ∃ f : Fl, v = f.val
 strike : t = t_Strike → ∃ s : St, v = s.val
 plan : t = t_sl_Berth → ∃ l, Sl h Be.row v l
 int : t = t_int → ∃ n, v = I n
 ints : t = t_sl_int → ∃ l, Sl h rowI v l
def ArgsOK (h : Hp) : List TypeId → List Value → Prop
 | [], [] => True
 | t :: ts, v :: vs => ArgOK h t v ∧ ArgsOK h ts vs
 | _, _ => False
theorem arg_ok {H : Type} {enc : TypeId × Value → H} {W : World} {n : Nat} {t : TypeId} {v : Value} {d : DataW H} {ps : List MemPlace} (hv : Value.okWide prog W .any n t v) (h : DataW.Trod enc prog W 0 (fun _ => true) true t v d ps) : ArgOK (atStart W) t v := by
 refine ⟨?_, ?_, ?_, ?_, ?_, ?_⟩
 ·rintro rfl
  obtain ⟨cs, rfl, hc⟩ := okWide_struct (TD.out (t := t_Plant)) hv
  obtain ⟨fuel, h⟩ := h
  obtain ⟨y0, y1, m, -, hl, h0, h1⟩ := trod_struct2 (TD.out (t := t_Plant)) h
  have hc2 : cs.size = 2 := by rw [hc]; kernel_rfl
  obtain ⟨l⟩ := cs
  match l, hc2 with
  | [vf, vs], _ =>
   have h0' : DataW.trod enc prog W 0 (fun _ => true) true m t_sl_Floor [vf] = some y0 := h0
   have h1' : DataW.trod enc prog W 0 (fun _ => true) true m t_sl_Strike [vs] = some y1 := h1
   obtain ⟨fs, hf⟩ := rT_floor.slice (row := Fl.row) (by decide) mkFl (TD.out (t := t_sl_Floor)) h0'
   obtain ⟨ss, hs⟩ := rT_strike.slice (row := St.row) (by decide) mkSt (TD.out (t := t_sl_Strike)) h1'
   exact ⟨vf, vs, fs, ss, rfl, hf, hs⟩
 ·rintro rfl
  obtain ⟨cs, rfl, hc⟩ := okWide_struct (TD.out (t := t_Floor)) hv
  obtain ⟨ns, h1, h2⟩ := rT_floor.val h
  obtain ⟨p, hp⟩ := mkFl ns h2
  refine ⟨p, ?_⟩
  have : cs.toList = p.row := by rw [hp]; exact h1
  rw [show cs = p.row.toArray by rw [← this]]
  rfl
 ·rintro rfl
  obtain ⟨cs, rfl, hc⟩ := okWide_struct (TD.out (t := t_Strike)) hv
  obtain ⟨ns, h1, h2⟩ := rT_strike.val h
  obtain ⟨p, hp⟩ := mkSt ns h2
  refine ⟨p, ?_⟩
  have : cs.toList = p.row := by rw [hp]; exact h1
  rw [show cs = p.row.toArray by rw [← this]]
  rfl
 ·rintro rfl
  obtain ⟨a, len, cap, rfl⟩ := okWide_slice (TD.out (t := t_sl_Berth)) hv
  obtain ⟨fuel, h⟩ := h
  exact rT_berth.slice (row := Be.row) (by decide) mkBe (TD.out (t := t_sl_Berth)) h
 ·rintro rfl
  obtain ⟨ns, h1, h2⟩ := rT_int.val h
  obtain ⟨n, rfl⟩ := okWide_int under_int hv
  exact ⟨n, rfl⟩
 ·rintro rfl
  obtain ⟨a, len, cap, rfl⟩ := okWide_slice under_sl_int hv
  obtain ⟨fuel, h⟩ := h
  exact rT_int.slice (row := rowI) (by decide) mkI under_sl_int h
theorem args_ok {H : Type} {enc : TypeId × Value → H} {W : World} {n : Nat} : ∀ {ts : List TypeId} {vs : List Value} {ds : List (DataW H)} {ps : List MemPlace}, (∀ (j : Nat) t v, ts[j]? = some t → vs[j]? = some v → Value.okWide prog W .any n t v) → DataW.TrodAll enc prog W 0 (fun _ => true) true ts vs ds ps → ArgsOK (atStart W) ts vs ∧ ds.length = ts.length
 | [], [], ds, ps, _, h => by
  cases ds with
  | nil => exact ⟨trivial, rfl⟩
  | cons d ds => exact h.elim
 | [], _ :: _, _, _, _, h => h.elim
 | _ :: _, [], _, _, _, h => h.elim
 | t :: ts, v :: vs, [], _, _, h => h.elim
 | t :: ts, v :: vs, d :: ds, ps, hv, h => by
  obtain ⟨p, q, h1, h2, -⟩ := h
  obtain ⟨h3, h4⟩ := args_ok (fun j t v a b => hv (j + 1) t v (by simpa using a) (by simpa using b)) h2
  exact ⟨⟨arg_ok (hv 0 t v rfl rfl) h1, h3⟩, by simp [h4]⟩
theorem args_stay {H : Type} {enc : TypeId × Value → H} {W W' : World} (hb : Below W.heap.size W W') : ∀ {ts : List TypeId} {vs : List Value} {ds : List (DataW H)} {ps : List MemPlace}, (∀ t ∈ ts, prog.readableRec t = true ∧ t < prog.types.size) → DataW.TrodAll enc prog W 0 (fun _ => true) true ts vs ds ps → (∀ x ∈ ps, x.block < W.heap.size) → DataW.TrodAll enc prog W' 0 (fun b => decide (b < W.heap.size)) true ts vs ds ps
 | [], [], ds, ps, _, h, _ => by
  cases ds with
  | nil => exact h
  | cons d ds => exact h.elim
 | [], _ :: _, _, _, _, h, _ => h.elim
 | _ :: _, [], _, _, _, h, _ => h.elim
 | t :: ts, v :: vs, [], _, _, h, _ => h.elim
 | t :: ts, v :: vs, d :: ds, ps, ht, h, hlt => by
  obtain ⟨p, q, h1, h2, rfl⟩ := h
  exact ⟨p, q, Below.trod laidOut0 (ht t (List.mem_cons_self ..)).1 (ht t (List.mem_cons_self ..)).2 h1 hb (fun x hx => hlt x (List.mem_append_left _ hx)), args_stay hb (fun t h => ht t (List.mem_cons_of_mem _ h)) h2 (fun x hx => hlt x (List.mem_append_right _ hx)), rfl⟩
/-- ████ A LAW OF SUCH ARGUMENTS. -/
theorem liftN {s : ChangeSpec} {f : FuncId} {fn : Func} (os : Go.Os) (started : os.Started) (H : Type) (enc : TypeId × Value → H) (hfn : prog.funcs[f]? = some fn) (hinit : prog.inits.idxOf? f = none) (ts : List TypeId) (hp : fn.params.toList = ts) (hts : ∀ t ∈ ts, prog.readableRec t = true ∧ t < prog.types.size) (hr : fn.resultTypes.toList = [t_bool]) (hrs : fn.resultTypes.size = 1) (hv : s.vars = [])
  (hs : ∀ ds : List (DataW H), ds.length = ts.length → s.fn H ds = { results := [.lit (.bool true)], args := ds })
  (witness : ∃ (w : World) (tape : Tape) (i : Input), w.os = os ∧ (w.forCall tape i).Shaped prog ∧ i.vars = [] ∧ Input.okWide prog (w.forCall tape i) .any w.heap.size f i ∧
   ((s.pre enc prog fn [] false (w.forCall tape i).memory i.args ∧ laidMetH prog laid0 (w.forCall tape i).memory) ∧ sizedMet enc prog fn (OpenSpec.ofChange s) false (w.forCall tape i).memory i.args) ∧ ({} : Assume).holds prog (lone (Frame.enter prog f i.args .normal) [] (w.forCall tape i)))
  (T : ∀ (main : Side) (_ : ∀ S, main.ok S → ∃ Fin, S = Mn prog Fin) (_ : main.b = true) (h : Hp) (args : List Value) (_ : ArgsOK h ts args) (Eg : TypeId) (zg : Nat × Nat) (_ : h 0 = some (.cells #[rtV t_error] Eg zg)) (_ : h.z 0), TopV prog main f args.toArray h (.bool true)) :
  ReturnsInLeavingWide {} Go.Proofs.Tryz.checked os f .any (fun w args => (s.pre enc prog fn [] false w args ∧ laidMetH prog laid0 w) ∧ sizedMet enc prog fn (OpenSpec.ofChange s) false w args) (s.post enc prog fn false true false false) := by
 refine returnsInLeavingWide_of_good (C := Go.Proofs.Tryz.checked) own0 started witness ?_
 intro w tape i _ _ _ hok hpre _
 obtain ⟨_, _, _, fn', hfn', _, _, _, _, hval0⟩ := hok
 have e : fn' = fn := Option.some.inj (hfn'.symm.trans hfn)
 subst e
 obtain ⟨⟨⟨ds, gs, before, hw, -⟩, hx⟩, -⟩ := hpre
 have hW := DataW.Whole.of_heap (w' := w.forCall tape i) (by rfl) hw
 have hL : laidMetH prog laid0 (w.forCall tape i) := laidMetH_heap (by rfl) hx
 generalize w.forCall tape i = W at *
 have hval : ∀ (j : Nat) t v, fn'.params[j]? = some t → i.args[j]? = some v → Value.okWide prog W .any w.heap.size t v := hval0
 have hW' := hW
 obtain ⟨p, q, hA0, hV, rfl, _, _⟩ := hW
 have hA : DataW.TrodAll enc prog W 0 (fun _ => true) true fn'.params.toList i.args.toList ds p := hA0
 rw [hp] at hA
 obtain ⟨hao, hdl⟩ := args_ok (n := w.heap.size) (fun j t v a b => hval j t v (by rw [← Array.getElem?_toList, hp]; exact a) (by rw [← Array.getElem?_toList]; exact b)) hA
 rw [hv] at hV
 obtain ⟨rfl, rfl⟩ := trodVars_none hV
 simp only [List.append_nil] at hW'
 have hlt : ∀ x ∈ p, x.block < W.heap.size := fun x hx => by simpa using hW'.lt x hx
 obtain ⟨E, z, hg⟩ := handle0 hL
 have hgs : atStart W 0 = some (.cells #[rtV t_error] E z) := atStart_some.2 ⟨hg, rfl⟩
 obtain ⟨M, last, o, w', t', h1, h2, h3, h4⟩ := TopV.run hinit (T (mainS prog (FinOK prog fun v _ => v = .bool true)) (fun S h => ⟨_, h⟩) rfl (atStart W) i.args.toList hao E z hgs ⟨_, hg, rfl⟩)
 refine ⟨M, last, o, w', t', h1, h2, h3, h4.mono fun v hF => ?_⟩
 obtain ⟨rfl, hk⟩ := hF
 have hb := hk.below
 refine ChangeSpec.post_blind ⟨ds, [], p, [], p, [], hW', ?_, ?_, ?_, hb.frame _, fun h => by cases h⟩
 ·have hrl : Value.resultList fn'.resultTypes.size (.bool true) = [.bool true] := by rw [hrs]; rfl
  rw [List.append_nil, hs ds hdl, hrl, hr]; exact trodAll_mk1 (shut_bool under_bool true)
 ·rw [List.append_nil, hs ds hdl, hp]
  exact args_stay hb hts hA hlt
 ·rw [List.append_nil, hs ds hdl, hv]; rfl
end
end Go.Mus
