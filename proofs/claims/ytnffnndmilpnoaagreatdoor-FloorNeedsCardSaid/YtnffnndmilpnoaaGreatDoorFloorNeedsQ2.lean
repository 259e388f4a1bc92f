/- The best plans; when all strikes can be set; the first that can't. Conditions: none. (And 31 texts more.) -/
import Derived.Test.YtnffnndmilpnoaaGreatDoorFloorNeedsQ1
import Derived.Test.YtnffnndmilpnoaaGreatDoorR09
import Derived.Test.YtnffnndmilpnoaaGreatDoorR06
set_option linter.unusedVariables false
set_option linter.unusedSimpArgs false
set_option linter.unusedSectionVars false

/- The best plans; when all strikes can be set; the first that can't. Conditions: none. -/
namespace Go.Mus
/-! Each plan once -/
theorem daysFrom_nodup {f : Int} : ∀ (m : Nat) (d : Int), (daysFrom f d m).Nodup
 | 0, _ => .nil
 | m + 1, d => by
  rw [daysFrom, List.nodup_cons]
  refine ⟨fun h => ?_, daysFrom_nodup m (d + 1)⟩
  have := (mem_daysFrom h).2.1
  simp only at this; omega
theorem floorsFrom_nodup {s : St} : ∀ (m : Nat) (f : Int), (floorsFrom s f m).Nodup
 | 0, _ => .nil
 | m + 1, f => by
  rw [floorsFrom, List.nodup_append]
  refine ⟨daysFrom_nodup _ _, floorsFrom_nodup m (f + 1), fun a ha b hb e => ?_⟩
  subst e
  have h1 := (mem_daysFrom ha).1
  have h2 := (mem_floorsFrom hb).1
  omega
theorem berthsK_nodup {fs : List Fl} {ss : List St} {may : May} {k : Nat} : (berthsK fs ss may k).Nodup := by
 rw [berthsK, List.nodup_append]
 refine ⟨by split <;> simp, ?_, fun a ha b hb e => ?_⟩
 ·split
  ·exact floorsFrom_nodup _ _
  ·exact .nil
 subst e
 split at ha
 ·have : a = bnone := by simpa using ha
  subst this
  split at hb
  ·have := (mem_floorsFrom hb).1; simp [bnone] at this
  ·cases hb
 ·cases ha
theorem rights_at {fs : List Fl} {ss : List St} {may : May} (hall : HallOK fs ss) {m k : Nat} {q p : List Be} {b : Be} (hk : k + 1 + m = ss.length) (hq : PlanOf fs ss q) (hn : ∀ i, k ≤ i → beAt q i = bnone) (hb : b ∈ berthsK fs ss may k) (h : p ∈ rights fs ss may m (k + 1) (q.set k b)) : beAt p k = b := by
 have hk4 : k < q.length := by have := hall.ns; have := hq.ok.len; omega
 have := ((mem_rights hall m (k + 1) (q.set k b) p (by omega) (plan_set hq (by omega) (berth_ok hall (by omega) hb)) (fun i hi => by rw [beAt_set hk4, if_neg (by omega)]; exact hn i (by omega))).1 h).2.1 k (by omega)
 rw [this, beAt_set hk4, if_pos rfl]
theorem rights_nodup {fs : List Fl} {ss : List St} {may : May} (hall : HallOK fs ss) : ∀ (m k : Nat) (q : List Be), k + m = ss.length → PlanOf fs ss q → (∀ i, k ≤ i → beAt q i = bnone) → (rights fs ss may m k q).Nodup
 | 0, k, q, _, _, _ => by
  rw [rights]; split <;> simp
 | m + 1, k, q, hk, hq, hn => by
  have hk4 : k < q.length := by have := hall.ns; have := hq.ok.len; omega
  rw [rights, List.Nodup, List.pairwise_flatMap]
  refine ⟨fun b hb => ?_, ?_⟩
  ·split
   ·exact .nil
   ·exact rights_nodup hall m (k + 1) _ (by omega) (plan_set hq (by omega) (berth_ok hall (by omega) hb)) (fun i hi => by rw [beAt_set hk4, if_neg (by omega)]; exact hn i (by omega))
  ·refine (berthsK_nodup (fs := fs) (ss := ss) (may := may) (k := k)).imp_of_mem fun {a b} ha hb hab x hx y hy e => ?_
   subst e
   split at hx
   ·cases hx
   ·split at hy
    ·cases hy
    ·exact hab ((rights_at hall (by omega) hq hn ha hx).symm.trans (rights_at hall (by omega) hq hn hb hy))
theorem allF_nodup {fs : List Fl} {ss : List St} {may : May} (hall : HallOK fs ss) : (allF fs ss may).Nodup := by
 unfold allF
 split
 ·exact rights_nodup hall _ _ _ (by simp) (pad_nil hall.nf.1) (fun i _ => beAt_nil i)
 ·rename_i hs
  have hall1 : ∀ b, b ∈ berthsK fs ss may 0 → ∀ i, 1 ≤ i → beAt ((padB []).set 0 b) i = bnone := fun b _ i hi => by rw [beAt_set (by decide), if_neg (by omega)]; exact beAt_nil i
  rw [List.Nodup, List.pairwise_flatMap]
  refine ⟨fun b hb => ?_, ?_⟩
  ·rw [rightsOf, List.length_singleton, pad_one]
   exact rights_nodup hall _ _ _ (by omega) (plan_set (pad_nil hall.nf.1) (by omega) (berth_ok hall (by omega) hb)) (hall1 b hb)
  ·refine (berthsK_nodup (fs := fs) (ss := ss) (may := may) (k := 0)).imp_of_mem fun {a b} ha hb hab x hx y hy e => ?_
   subst e
   rw [rightsOf, List.length_singleton, pad_one] at hx hy
   exact hab ((rights_at hall (by omega) (pad_nil hall.nf.1) (fun i _ => beAt_nil i) ha hx).symm.trans (rights_at hall (by omega) (pad_nil hall.nf.1) (fun i _ => beAt_nil i) hb hy))

/-! The best -/
theorem filter_none {α : Type} {l : List α} {f : α → Bool} (h : ∀ q ∈ l, f q = false) : l.filter f = [] := List.filter_eq_nil_iff.2 fun q hq => by rw [h q hq]; simp
/-- What is kept while plans are looked at. -/
structure BInv (ss : List St) (l : List (List Be)) (s : (Int × List (List Be)) × List (List Be)) : Prop where
 met : s.2 = l
 top : l ≠ [] → (∃ q ∈ l, loavesF ss q = s.1.1) ∧ ∀ q ∈ l, loavesF ss q ≤ s.1.1
 out : s.1.2 = l.filter fun q => decide (loavesF ss q = s.1.1)
theorem BInv.step {ss : List St} {l : List (List Be)} {s : (Int × List (List Be)) × List (List Be)} {p : List Be} (H : BInv ss l s) (hp : p ∉ l) : BInv ss (l ++ [p]) (bstep ss s p) := by
 obtain ⟨⟨m, out⟩, met⟩ := s
 obtain ⟨h1, h2, h3⟩ := H
 simp only at h1 h2 h3
 subst h1
 obtain ⟨n, hn⟩ : ∃ n, loavesF ss p = n := ⟨_, rfl⟩
 simp only [bstep, if_neg hp, addM, hn]
 have hpf : ∀ c, [p].filter (fun q => decide (loavesF ss q = c)) = if n = c then [p] else [] := fun c => by
  rw [List.filter_cons]; simp [hn]
 rcases met with _ | ⟨q0, r0⟩
 ·have h0 : out = [] := h3
  subst h0
  simp only [true_or, if_true, List.nil_append]
  refine ⟨rfl, fun _ => ⟨⟨p, by simp, hn⟩, fun q hq => ?_⟩, by simp only; rw [hpf, if_pos rfl]⟩
  have : q = p := by simpa using hq
  subst this; simp only; omega
 ·obtain ⟨⟨q1, hq1, hq2⟩, htop⟩ := h2 (by simp)
  have hne : (q0 :: r0).filter (fun q => decide (loavesF ss q = m)) ≠ [] := fun e => by
   have := List.filter_eq_nil_iff.1 e q1 hq1
   simp [hq2] at this
  rw [← h3] at hne
  generalize q0 :: r0 = l at *
  by_cases hlt : m < n
  ·have hc : out = [] ∨ m < n := .inr hlt
   simp only [if_pos hc, if_true, List.nil_append]
   refine ⟨rfl, fun _ => ⟨⟨p, by simp, hn⟩, fun q hq => ?_⟩, ?_⟩
   ·rcases List.mem_append.1 hq with hq | hq
    ·have := htop q hq; simp only; omega
    ·have : q = p := by simpa using hq
     subst this; simp only; omega
   ·simp only
    rw [List.filter_append, hpf, if_pos rfl, filter_none fun q hq => ?_]
    ·rfl
    ·have := htop q hq
     exact decide_eq_false (by omega)
  ·have hc : ¬ (out = [] ∨ m < n) := not_or.2 ⟨hne, hlt⟩
   simp only [if_neg hc]
   by_cases he : n = m
   ·rw [if_pos he]
    refine ⟨rfl, fun _ => ⟨⟨p, by simp, hn.trans he⟩, fun q hq => ?_⟩, ?_⟩
    ·rcases List.mem_append.1 hq with hq | hq
     ·exact htop q hq
     ·have : q = p := by simpa using hq
      subst this; simp only; omega
    ·simp only
     rw [List.filter_append, hpf, if_pos he, h3]
   ·rw [if_neg he]
    refine ⟨rfl, fun _ => ⟨⟨q1, by simp [hq1], hq2⟩, fun q hq => ?_⟩, ?_⟩
    ·rcases List.mem_append.1 hq with hq | hq
     ·exact htop q hq
     ·have : q = p := by simpa using hq
      subst this; simp only; omega
    ·simp only
     rw [List.filter_append, hpf, if_neg he, List.append_nil, h3]
theorem BInv.run {ss : List St} : ∀ (r l : List (List Be)) (s : (Int × List (List Be)) × List (List Be)), BInv ss l s → (l ++ r).Nodup → BInv ss (l ++ r) (r.foldl (bstep ss) s)
 | [], l, s, h, _ => by rw [List.append_nil]; exact h
 | p :: r, l, s, h, hnd => by
  rw [List.foldl_cons, show l ++ p :: r = (l ++ [p]) ++ r by simp]
  refine BInv.run r (l ++ [p]) _ (h.step fun hm => ?_) (by simpa using hnd)
  exact (List.nodup_append.1 hnd).2.2 p hm p (by simp) rfl
/-- ████ THE BEST PLANS: of the right ones those with the most loaves, in order. -/
theorem best_spec {fs : List Fl} {ss : List St} (hall : HallOK fs ss) : (∃ q ∈ allF fs ss freeM, loavesF ss q = (bestF fs ss).1) ∧ (∀ q ∈ allF fs ss freeM, loavesF ss q ≤ (bestF fs ss).1) ∧ (bestF fs ss).2 = (allF fs ss freeM).filter fun q => decide (loavesF ss q = (bestF fs ss).1) := by
 have h := BInv.run (ss := ss) (allF fs ss freeM) [] ((0, []), []) ⟨rfl, fun h => absurd rfl h, rfl⟩ (allF_nodup hall)
 rw [List.nil_append] at h
 have hne : allF fs ss freeM ≠ [] := fun e => by have := allF_p0 hall; rw [e] at this; cases this
 exact ⟨(h.top hne).1, (h.top hne).2, h.out⟩

/-! Loaves -/
def coG (ss : List St) (p : List Be) (i : Nat) : Int := if 0 ≤ (beAt p i).fl then (stAt ss i).co else 0
theorem loavesK_eq {fs : List Fl} {ss : List St} {p : List Be} (hall : HallOK fs ss) : ∀ k, k ≤ 1000 → loavesK ss p k = sumK (coG ss p) k ∧ 0 ≤ sumK (coG ss p) k ∧ sumK (coG ss p) k ≤ 6 * k
 | 0, _ => ⟨rfl, Int.le_refl _, Int.le_refl _⟩
 | k + 1, hk => by
  obtain ⟨h1, h2, h3⟩ := loavesK_eq (p := p) hall k (by omega)
  have hc := co_ok hall k
  simp only [loavesK, sumK, coG]
  split
  ·rw [h1, wadd_small h2 (by omega) hc.1 (by omega)]
   exact ⟨rfl, by omega, by omega⟩
  ·exact ⟨by omega, by omega, by omega⟩
theorem loavesF_eq {fs : List Fl} {ss : List St} {p : List Be} (hall : HallOK fs ss) : loavesF ss p = sumK (coG ss p) ss.length := (loavesK_eq hall _ (by have := hall.ns; omega)).1
/-! Whether all can be set -/
theorem valid_plan {fs : List Fl} {ss : List St} {may : May} {p : List Be} (hall : HallOK fs ss) (hv : Valid fs ss may p) : PlanOf fs ss p := by
 have hb : ∀ i, -1 ≤ (beAt p i).fl ∧ (beAt p i).fl ≤ 1 ∧ (beAt p i).fl < fs.length ∧ 0 ≤ (beAt p i).day ∧ (beAt p i).day ≤ 17 := fun i => by
  rcases Nat.lt_or_ge i ss.length with h | h
  ·exact berth_ok hall h (hv.at_ i h)
  ·rw [hv.out i h]; simp [bnone]; omega
 have hm : ∀ b ∈ p, ∃ i, b = beAt p i := fun b hb => by
  obtain ⟨i, hi, rfl⟩ := List.mem_iff_getElem.1 hb
  exact ⟨i, by simp [beAt, List.getD, List.getElem?_eq_getElem hi]⟩
 refine ⟨⟨hv.len, fun b h => ?_⟩, fun b h => ?_, fun i hi => by rw [hv.out i hi]; simp [bnone]⟩
 ·obtain ⟨i, rfl⟩ := hm b h; have := hb i; omega
 ·obtain ⟨i, rfl⟩ := hm b h; have := hb i; omega
theorem some_iff {fs : List Fl} {ss : List St} {may : May} (hall : HallOK fs ss) : someR fs ss may = true ↔ ∃ p, Valid fs ss may p ∧ inspF fs ss p = none := by
 have : someR fs ss may = true ↔ ∃ p, p ∈ rightsOf fs ss may [] := by
  simp only [someR, Bool.not_eq_true', List.isEmpty_eq_false_iff_exists_mem]
 rw [this]
 exact exists_congr fun p => mem_rightsOf hall
end Go.Mus

/- The first strikes of a plant alone; which strike is late. Conditions: none. -/
namespace Go.Mus
theorem ckPlant_mk {fs : List Fl} {ss : List St} (h1 : 1 ≤ fs.length) (h2 : fs.length ≤ 2) (h3 : ckFloors fs = 0) (h4 : ss.length ≤ 4) (h5 : ckStrikes 0 ss = 0) : ckPlant fs ss = 0 := by
 unfold ckPlant
 rw [if_neg (by omega), if_neg (by omega), if_neg (by simp [h3]), if_neg (by omega), h5]
end Go.Mus

/- A plant without its last strike. Conditions: none; over the given program. -/
namespace Go.Mus
set_option maxRecDepth 100000
set_option maxHeartbeats 4000000
end Go.Mus

/- The strike that is late, and the best plan's length. Conditions: none. -/
namespace Go.Mus
end Go.Mus

/- Whether all strikes of a plant are set in its best plan; the strike that is late, asked of the best plans. Conditions: none; over the given program. -/
namespace Go.Mus
set_option maxRecDepth 100000
set_option maxHeartbeats 4000000
end Go.Mus

/- Strikes that wait longer; with which patience all can be set. Conditions: none; over the given program. -/
namespace Go.Mus
set_option maxRecDepth 100000
set_option maxHeartbeats 4000000
theorem Ops.freezeOs {x : Cx} {ops : Array Oper} {td : List Nat} {Q : Post} {ρ : Env} {ds : List Deferred} {A F : Frag} {α : Type} {row : α → List Value} {w : Nat} [Rw row w] {E : TypeId} {v : Value} {l : List α} (hs : Os E row v l A)
  (H : ∀ h', Ext x.h h' → Sl h' row v l → Zs h' v → Ops { x with h := h' } ops td Q ρ ds F) : Ops x ops td Q ρ ds (A ++ F) := by
 rcases hs with ⟨rfl, rfl, hsh⟩ | ⟨β, cc, cap, J, rfl, rfl, h1, h2, h3, hsh⟩
 ·exact Ops.sb (Sb.left .refl hsh) (H x.h ⟨fun _ _ q => q, fun _ q => q⟩ .nil (fun b off n cap e => by cases e))
 ·refine Ops.freeze (b := β) rfl fun h' hE hb hz => ?_
  refine Ops.sb (F' := F) (Sb.left .refl hsh) (H h' hE (.mk hb rfl h3) (fun b off n cap e => by cases e; exact hz))
theorem Waiting_fn (main : Side) (h : Hp) (fs : List Fl) (ss : List St) (n : Int) (vf vs : Value) (hf : Sl h Fl.row vf fs) (hs : Sl h St.row vs ss) (hck : ckPlant fs ss = 0) (hn0 : 0 ≤ n) (hn2 : n ≤ 2) : Fnc prog main n_ref_Waiting #[.agg #[vf, vs], I n] h [] (fun v A => ∃ vs' S, v = .agg #[vf, vs'] ∧ Os t_Strike St.row vs' (waitS ss n) S ∧ Sb S A) := by
 have hn4 := (hall_ck hck).ns
 obtain ⟨a, cap, rfl⟩ := hf.isSl
 obtain ⟨a', cap', rfl⟩ := hs.isSl
 refine Fnc.of_body at_ref_Waiting rfl (by show 2 ≤ 32; decide) [(0, .agg #[.slice a fs.length cap, .slice a' ss.length cap']), (1, I n)] ⟨rfl, rfl, trivial⟩ ?_
 refine W.seq <| W.region rfl ?_
 refine Ops.box (fun β2 => ?_) rfl rfl (show (Value.agg #[.slice a fs.length cap, .slice a' ss.length cap']).cells = #[.slice a fs.length cap, .slice a' ss.length cap'] from rfl)
 refine Ops.new (fun β4 => ?_)
 refine nn <| W.seq <| W.region rfl ?_
 refine Ops.bsl0 (fun β6 => ?_)
 refine fq rfl ?_
 refine dq rfl ?_
 have hO : Os t_Strike St.row (.slice (some ⟨β6, 0, none⟩) 0 0) ([] : List St) [(β6, .cells #[] t_Strike (0, 0))] := .inr ⟨β6, #[], 0, [], rfl, rfl, rfl, Nat.le_refl _, Part.all [], .nil⟩
 refine oe rfl wn rfl rfl (e_append (row := St.row) (l := []) (l' := ss) rfl rfl rfl hO .head (fun h2 hE hl => hs.ext hE) (by simp; omega) (by decide) rfl (fun v' S hS => ?_))
 rw [List.nil_append] at hS
 obtain ⟨a3, cap3, rfl⟩ := hS.isSl
 refine Ops.perm (List.perm_append_comm (l₁ := [_, _])) ?_
 refine fq rfl ?_
 refine Ops.sto ?_
 refine nn <| W.seq <| W.seq <| W.region rfl <| qs rfl rfl rfl <| nn <| W.block ?_
 have hS0 : Os t_Strike St.row (.slice a3 ss.length cap3) (waitK ss n 0) S := by simpa [waitK] using hS
 refine W.loop2 (fun (k : Nat) (S' : Frag) => k ≤ ss.length ∧ Os t_Strike St.row (.slice a3 ss.length cap3) (waitK ss n k) S') (fun k S' => [(5, I k), (4, .pointer (some ⟨β4, 0, none⟩)), (2, .pointer (some ⟨β2, 0, none⟩)), (1, I n)]) (fun k S' => (β4, .cells #[.slice none 0 0, .slice none 0 0] t_Plant (0, 0)) :: (β2, .cells #[.slice a fs.length cap, .slice a3 ss.length cap3] t_Plant (0, 0)) :: S') (fun k _ => ss.length - k) 0 S ⟨Nat.zero_le _, hS0⟩ ⟨rfl, rfl, rfl, rfl, trivial⟩ .refl ?_
 rintro k S' ⟨hk, hS'⟩
 refine W.seq <| W.seq <| W.region rfl <| qm rfl rfl rfl ?_
 refine fq rfl ?_
 refine dq rfl ?_
 refine o1 (y_len rfl rfl) rfl ?_
 refine o1 (y_lss rfl rfl rfl) rfl ?_
 refine nn ?_
 refine W.condp rfl (fun c15 => ?_) (fun c15 => ?_)
 ·obtain ⟨s, hsk, -⟩ := has (show k < ss.length by omega)
  have hwk := waitK_at (n := n) hsk
  have hso := strike_ok hck hsk
  rcases hS' with ⟨hnil, _, _⟩ | ⟨β, c, cp, J, hv, rfl, hc1, hc2, hP, hJ⟩
  ·rw [hnil] at hwk; simp at hwk
  obtain ⟨rfl, rfl⟩ : a3 = some ⟨β, 0, none⟩ ∧ cap3 = cp := by injection hv with e1 e2 e3; exact ⟨e1, e3⟩
  have hw2 : c[0 + k * 3 + 2]? = some (I s.wa) := hP.rowG hwk 2 (by decide)
  have hsz := (hP.rowE hwk).2
  refine W.skip <| thn_n <| W.seq <| W.block ?_
  refine W.drawF (n := 14) rfl ?_
  refine a1 0 (y_fieldAddr rfl rfl) rfl ?_
  refine a1 1 (yld rfl rfl) rfl ?_
  refine a1 2 (y_move rfl rfl) rfl ?_
  refine a1 3 (y_fieldAddr rfl rfl) rfl ?_
  refine a1 4 (yld rfl rfl) rfl ?_
  refine a1 5 (y_move rfl rfl) rfl ?_
  first | refine a1 6 (yix rfl rfl rfl) rfl ?_ | refine a1 6 (yixI rfl rfl rfl) rfl ?_
  refine a1 7 (y_fieldAddr rfl rfl) rfl ?_
  refine a1 8 (yld rfl rfl) rfl ?_
  refine a1 9 (y_move rfl rfl) rfl ?_
  refine a1 10 (yadd rfl rfl rfl) rfl ?_
  first | refine a1 11 (yix rfl rfl rfl) rfl ?_ | refine a1 11 (yixI rfl rfl rfl) rfl ?_
  refine a1 12 (y_fieldAddr rfl rfl) rfl ?_
  refine ae (i := 13) rfl an rfl rfl (eS rfl rfl rfl ?_)
  refine ⟨.inl (by kernel_rfl), ?_⟩
  refine az ?_
  refine blk_n <| thn_n <| W.region rfl <| qm rfl rfl rfl ?_
  refine pq rfl ?_
  refine qs rfl rfl rfl <| nn ?_
  refine ⟨rfl, k + 1, _, ⟨by omega, .inr ⟨β, _, cap3, J, by rw [waitK_len (by omega)], rfl, by rw [Array.size_setIfInBounds]; exact hc1, by rw [waitK_len (by omega)]; rw [waitK_len (by omega)] at hc2; exact hc2, ?_, hJ⟩⟩, by omega, ⟨rfl, rfl, rfl, rfl, trivial⟩, .refl⟩
  have := hP.setS (x := s.wa + n) hwk
  rw [show (⟨s.day, s.co, s.wa + n⟩ : St) = waitSt n s from rfl, waitK_succ hsk] at this
  exact this
 ·have hkl : k = ss.length := by omega
  subst hkl
  have hS2 : Os t_Strike St.row (.slice a3 ss.length cap3) (waitS ss n) S' := by simpa [waitK, waitS] using hS'
  refine W.exit <| thn_x <| thn_x <| blk_x <| thn_n <| W.seq <| W.region rfl ?_
  refine lq rfl ?_
  first | refine Ops.stoW ?_ | refine Ops.stoA ?_
  refine nn <| W.ret ?_
  exact lvc (hv := rAgg rNil) ⟨_, S', rfl, hS2, .skip rfl (.skip rfl .refl)⟩

theorem nums_find {q : Int → Bool} : ((nums 0 2).find? q = none ↔ q 0 = false ∧ q 1 = false ∧ q 2 = false) ∧ (q 0 = true → (nums 0 2).find? q = some 0) ∧ (q 0 = false → q 1 = true → (nums 0 2).find? q = some 1) ∧ (q 0 = false → q 1 = false → q 2 = true → (nums 0 2).find? q = some 2) := by
 have e : nums 0 2 = [0, 1, 2] := rfl
 rw [e]
 cases h0 : q 0 <;> cases h1 : q 1 <;> cases h2 : q 2 <;> simp [List.find?, h0, h1, h2]
theorem pat_at {fs : List Fl} {ss : List St} {k : Nat} (hck : ckPlant fs ss = 0) (hk : k ≤ 2) (h : someR fs (waitS ss (k : Int)) boundM = true) (hall : ∀ i : Nat, i < k → someR fs (waitS ss (i : Int)) boundM = false) : patV fs ss = ((k : Int), 0) := by
 obtain ⟨-, h0, h1, h2⟩ := nums_find (q := fun n => someR fs (waitS ss n) boundM)
 have e : patF fs ss = some (k : Int) := by
  rcases (by omega : k = 0 ∨ k = 1 ∨ k = 2) with rfl | rfl | rfl
  ·exact h0 h
  ·exact h1 (hall 0 (by omega)) h
  ·exact h2 (hall 0 (by omega)) (hall 1 (by omega)) h
 simp only [patV]; rw [if_neg (by simp [hck]), e]
theorem pat_no {fs : List Fl} {ss : List St} (hck : ckPlant fs ss = 0) (hall : ∀ i : Nat, i < 3 → someR fs (waitS ss (i : Int)) boundM = false) : patV fs ss = (0, 11) := by
 have e : patF fs ss = none := nums_find.1.2 ⟨hall 0 (by omega), hall 1 (by omega), hall 2 (by omega)⟩
 simp only [patV]; rw [if_neg (by simp [hck]), e]

end Go.Mus

/- A floor with other places; how many it needs. Conditions: none; over the given program. -/
namespace Go.Mus
set_option maxRecDepth 100000
set_option maxHeartbeats 4000000
theorem cloneF_fn (main : Side) (h : Hp) (fs : List Fl) (vs : Value) (hs : Sl h Fl.row vs fs) (hn : fs.length ≤ 1000) : Fnc prog main n_slices_Clone_Floor #[vs] h [] (fun v A => ∃ S, Os t_Floor Fl.row v fs S ∧ Sb S A) := by
 obtain ⟨a, cap, rfl⟩ := hs.isSl
 refine Fnc.of_body at_slices_Clone_Floor rfl (by show 1 ≤ 8; decide) [(0, .slice a fs.length cap)] ⟨rfl, trivial⟩ ?_
 refine W.seq <| W.region rfl <| qs rfl rfl rfl <| nn <| W.seq <| W.seq <| W.region rfl <| qm rfl rfl rfl ?_
 refine o1 (y_slNil rfl rfl) rfl ?_
 refine nn ?_
 refine W.cond rfl (fun c4 => ?_) (fun c4 => ?_)
 ·refine W.seq <| W.region rfl <| qs rfl rfl rfl <| nn <| W.ret <| thn_r ?_
  have : fs = [] := by
   cases a with
   | some a => cases c4
   | none =>
    rcases hss : fs with _ | ⟨x, r⟩
    ·rfl
    ·obtain ⟨b, off, c, E, fz, e, _⟩ := hs.at (i := 0) (p := x) (by rw [hss]; rfl)
     cases e
  subst this
  exact lvt (vs := [.slice none 0 0]) ⟨[], .nil .nil, .refl⟩
 ·refine W.skip <| thn_n <| W.seq <| W.region rfl ?_
  refine Ops.bsl0 (fun β5 => ?_) rfl
  refine qm rfl rfl rfl ?_
  have hO : Os t_Floor Fl.row (.slice (some ⟨β5, 0, none⟩) 0 0) ([] : List Fl) [(β5, .cells #[] t_Floor (0, 0))] := .inr ⟨β5, #[], 0, [], rfl, rfl, rfl, Nat.le_refl _, Part.all [], .nil⟩
  refine oe rfl wn rfl rfl (e_append (row := Fl.row) (l := []) (l' := fs) rfl rfl rfl hO .all (fun h2 hE hl => hs.ext hE) (by simp; omega) (by decide) rfl (fun v' S' hS' => ?_))
  rw [List.nil_append] at hS'
  refine qs rfl rfl rfl <| nn <| W.ret ?_
  exact lvt (vs := [v']) ⟨S', hS', .refl⟩

/-- A floor's cells. -/
theorem Part.setR {α : Type} {row : α → List Value} {w : Nat} [Rw row w] {c : Array Value} {l : List α} {j : Nat} {p : α} (q : α) (k : Nat) (x : Value) (hk : k < w) (h : Part c 0 (flat row l)) (hj : l[j]? = some p) (hq : row q = (row p).set k x) : Part (c.setIfInBounds (j * w + k) x) 0 (flat row (l.set j q)) := by
 obtain ⟨pre, post, h1, h2⟩ := h
 have : pre = [] := List.length_eq_zero_iff.1 h2
 subst this
 refine ⟨[], post, ?_, rfl⟩
 have hlt : j < l.length := lt_of_get hj
 have hlen : j * w + k < (flat row l).length := by
  rw [flat_len]
  have : (j + 1) * w ≤ l.length * w := Nat.mul_le_mul_right _ hlt
  rw [Nat.succ_mul] at this; omega
 simp only [Array.toList_setIfInBounds, h1, List.nil_append]
 rw [List.set_append_left _ _ hlen]
 congr 1
 clear h1 h2 hlen
 induction l generalizing j with
 | nil => simp at hj
 | cons a l ih =>
  cases j with
  | zero =>
   simp only [List.getElem?_cons_zero, Option.some.injEq] at hj
   subst hj
   simp only [flat_cons, List.set_cons_zero, Nat.zero_mul, Nat.zero_add]
   rw [List.set_append_left _ _ (by rw [Rw.len]; exact hk), hq]
  | succ j =>
   have := ih (j := j) (by simpa using hj) (by simpa using hlt)
   simp only [List.set_cons_succ, flat_cons]
   rw [← this, List.set_append_right _ _ (by rw [Rw.len, Nat.succ_mul]; omega)]
   congr 2
   rw [Rw.len, Nat.succ_mul]; omega

theorem begin_fn (main : Side) (h : Hp) (fs : List Fl) (ss : List St) (f : Int) (vf vs : Value) (hf : Sl h Fl.row vf fs) (hs : Sl h St.row vs ss) (hck : ckPlant fs ss = 0) (hf0 : 0 ≤ f ∧ f < fs.length) : Pu prog main n_floor_begin #[.agg #[vf, vs], I f] h (I 0) := by
 have hn := (hall_ck hck).nf
 obtain ⟨a, cap, rfl⟩ := hf.isSl
 obtain ⟨a', cap', rfl⟩ := hs.isSl
 refine Fnc.of_body at_floor_begin rfl (by show 2 ≤ 17; decide) [(0, .agg #[.slice a fs.length cap, .slice a' ss.length cap']), (1, I f)] ⟨rfl, rfl, trivial⟩ ?_
 refine W.seq <| W.region rfl ?_
 refine Ops.box (fun β2 => ?_)
 refine qs rfl rfl rfl <| nn <| W.seq <| W.seq <| W.region rfl ?_
 refine lq rfl ?_
 refine cp (u := I 0) (fun h' hE hL => by have := Check_fn main h' fs ss _ _ (hf.ext hE) (hs.ext hE); rw [hck] at this; exact this) ?_
 refine qs rfl rfl rfl <| nn <| W.seq <| W.region rfl <| qm rfl rfl rfl ?_
 refine o1 ((y_neq rfl rfl rfl).eq (u := .bool false) rfl) rfl ?_
 refine nn ?_
 refine W.condF ?_
 refine W.skip <| thn_n <| W.seq <| W.seq <| W.region rfl <| qm rfl rfl rfl ?_
 refine fq rfl ?_
 refine dq rfl ?_
 refine o1 (y_len rfl rfl) rfl ?_
 refine mq rfl ?_
 refine cp (u := .bool false) (fun h' hE hL => ?_) ?_
 ·have := outside_fn main h' f 0 ((fs.length : Int) - 1)
  rw [decide_eq_false (show ¬ outs f 0 ((fs.length : Int) - 1) by unfold outs; omega)] at this
  exact this
 refine nn ?_
 refine W.condF ?_
 refine W.skip <| thn_n <| W.seq <| W.region rfl <| qs rfl rfl rfl <| nn <| W.ret ?_
 exact lvp rfl

/-- What a change of a floor comes to. -/
def ChgV (main : Side) (fv : Value) (upd : Fl → Fl) (h : Hp) : Prop :=
 ∀ h', Ext h h' → ∀ (b : Nat) (c : Array Value) (l : List Fl) (i : Nat) (f : Fl), l[i]? = some f → Part c 0 (flat Fl.row l) → CallV prog main fv [.pointer (some ⟨b, 0 + i * 4, none⟩)] h' [(b, .cells c t_Floor (0, 0))] (fun _ A => ∃ c', c'.size = c.size ∧ Part c' 0 (flat Fl.row (l.set i (upd f))) ∧ Sb [(b, .cells c' t_Floor (0, 0))] A)

theorem changed_fn (main : Side) (h : Hp) (fs : List Fl) (ss : List St) (f : Int) (x : Fl) (vf vs fv : Value) (upd : Fl → Fl) (hf : Sl h Fl.row vf fs) (hs : Sl h St.row vs ss) (hfn : one fv = true) (hn : fs.length ≤ 2) (hf0 : 0 ≤ f) (hx : fs[f.toNat]? = some x) (hc : ChgV main fv upd h) : Fnc prog main n_floor_changed #[.agg #[vf, vs], I f, fv] h [] (fun v A => ∃ vf' S, v = .agg #[vf', vs] ∧ Os t_Floor Fl.row vf' (fs.set f.toNat (upd x)) S ∧ Sb S A) := by
 obtain ⟨a, cap, rfl⟩ := hf.isSl
 obtain ⟨a', cap', rfl⟩ := hs.isSl
 refine Fnc.of_body at_floor_changed rfl (by show 3 ≤ 18; decide) [(0, .agg #[.slice a fs.length cap, .slice a' ss.length cap']), (1, I f), (2, fv)] ⟨rfl, rfl, rfl, trivial⟩ ?_
 refine W.seq <| W.region rfl ?_
 refine Ops.box (cs := #[.slice a fs.length cap, .slice a' ss.length cap']) (fun β3 => ?_) rfl rfl rfl
 refine Ops.new (fun β6 => ?_)
 refine nn <| W.seq <| W.region rfl ?_
 refine fq rfl ?_
 refine dq rfl ?_
 refine c0 (fun h' hE hL => cloneF_fn _ h' fs _ (hf.ext hE) (by omega)) (fun v A' hv => ?_)
 obtain ⟨S, hS, hsb⟩ := hv
 refine Ops.sb (hsb.app .refl) ?_
 refine Ops.perm (List.perm_append_comm (l₁ := [_, _])) ?_
 obtain ⟨a3, cap3, rfl⟩ := hS.isSl
 rcases hS with ⟨hnil, _, _⟩ | ⟨β, c, cp, J, hv, rfl, hc1, hc2, hP, hJ⟩
 ·rw [hnil] at hx; simp at hx
 obtain ⟨rfl, rfl⟩ : a3 = some ⟨β, 0, none⟩ ∧ cap3 = cp := by injection hv with e1 e2 e3; exact ⟨e1, e3⟩
 obtain ⟨k, rfl⟩ : ∃ k : Nat, f = k := ⟨f.toNat, by omega⟩
 rw [Int.toNat_natCast] at hx
 have hk := lt_of_get hx
 refine fq rfl ?_
 refine Ops.sto ?_
 refine nn <| W.seq <| W.region rfl <| qm rfl rfl rfl ?_
 refine fq rfl ?_
 refine dq rfl ?_
 refine qm rfl rfl rfl ?_
 refine xq rfl ?_
 refine oe rfl wn rfl rfl (e_callV (A := [(β, .cells c t_Floor (0, 0))]) (args := [_]) rfl rfl rfl (.tail (.tail .head)) (fun h' hE hL => hc h' hE β c fs k x hx hP) (fun v A' hv => ?_))
 obtain ⟨c', hs', hP', hsb'⟩ := hv
 refine Ops.sb (.cons (.cons (hsb'.app .refl))) ?_
 refine nn <| W.seq <| W.region rfl ?_
 refine lq rfl ?_
 first | refine Ops.stoW ?_ | refine Ops.stoA ?_
 refine nn <| W.ret ?_
 refine lvc (hv := rAgg rNil) ⟨_, (β, .cells c' t_Floor (0, 0)) :: J, rfl, .inr ⟨β, c', cap3, J, ?_, rfl, by rw [hs']; exact hc1, by simpa using hc2, by simpa using hP', hJ⟩, .skip rfl (.skip rfl .refl)⟩
 simp

/-! Places -/
def plF (n : Int) (f : Fl) : Fl := ⟨n, f.lo, f.hi, f.co⟩
def flS (fs : List Fl) (f : Int) (g : Fl → Fl) : List Fl := fs.set f.toNat (g (flAt fs f))
theorem need11_fn (main : Side) (h : Hp) (n : Int) (b3 : Nat) (E3 : TypeId) (z3 : Nat × Nat) (hb : h b3 = some (.cells #[I n] E3 z3)) : ChgV main (.func (.func n_floor_Need_1_1) #[] #[.pointer (some ⟨b3, 0, none⟩)]) (plF n) h := by
 intro h' hE b c l i f hi hP
 have hb' := hE.1 _ _ hb
 have hsz := (hP.rowE hi).2
 refine CallV.of_fn (f := n_floor_Need_1_1) (fi := []) (args := [_]) (ca := [.pointer (some ⟨b3, 0, none⟩)]) ?_
 refine Fnc.of_body at_floor_Need_1_1 rfl (by show 2 ≤ 7; decide) [(0, .pointer (some ⟨b, 0 + i * 4, none⟩)), (1, .pointer (some ⟨b3, 0, none⟩))] ⟨rfl, rfl, trivial⟩ ?_
 refine W.region rfl <| qm rfl rfl rfl ?_
 refine dq rfl ?_
 refine nq rfl ?_
 refine fq rfl ?_
 refine Ops.sto ?_
 refine Ops.nil ?_
 refine lvt (vs := []) ⟨_, Array.size_setIfInBounds .., ?_, .refl⟩
 have := hP.setR (plF n f) 0 (I n) (by decide) hi rfl
 simpa using this
end Go.Mus

/- How many places a floor needs. Conditions: none; over the given program. -/
namespace Go.Mus
set_option maxRecDepth 100000
set_option maxHeartbeats 4000000
theorem find_numsN_none {q : Int → Bool} {lo : Int} : ∀ (m : Nat), (∀ i : Nat, i < m → q (lo + i) = false) → (numsN lo m).find? q = none
 | 0, _ => rfl
 | m + 1, hn => by
  rw [numsN, List.find?_append, find_numsN_none m fun i hi => hn i (by omega)]
  simp [hn m (by omega)]
theorem find_numsN {q : Int → Bool} {lo : Int} : ∀ (m k : Nat), k < m → q (lo + k) = true → (∀ i : Nat, i < k → q (lo + i) = false) → (numsN lo m).find? q = some (lo + k)
 | 0, k, h, _, _ => by omega
 | m + 1, k, h, hq, hn => by
  rw [numsN, List.find?_append]
  by_cases e : k = m
  ·subst e
   rw [find_numsN_none k hn]
   simp [hq]
  ·rw [find_numsN m k (by omega) hq hn]; rfl

theorem ckFloors_set : ∀ {fs : List Fl} {i : Nat} {g : Fl}, ckFloors fs = 0 → ckFloor g = 0 → ckFloors (fs.set i g) = 0
 | [], i, g, _, _ => by simp [ckFloors]
 | a :: fs, 0, g, h, hg => by
  simp only [List.set_cons_zero, ckFloors] at h ⊢
  split at h
  ·rw [if_pos hg]; exact h
  ·rename_i h1; exact absurd h h1
 | a :: fs, i + 1, g, h, hg => by
  simp only [List.set_cons_succ, ckFloors] at h ⊢
  split at h
  ·rename_i h1; rw [if_pos h1]; exact ckFloors_set h hg
  ·rename_i h1; exact absurd h h1
theorem ckPlant_fl {fs : List Fl} {ss : List St} {i : Nat} {g : Fl} (h : ckPlant fs ss = 0) (hg : ckFloor g = 0) : ckPlant (fs.set i g) ss = 0 := by
 obtain ⟨h1, h2, h3, h4, h5⟩ := ckPlant0 h
 exact ckPlant_mk (by simp; omega) (by simpa using h2) (ckFloors_set h4 hg) h3 h5
theorem flAt_some {fs : List Fl} {f : Int} (h0 : 0 ≤ f) (h1 : f < fs.length) : fs[f.toNat]? = some (flAt fs f) := by
 obtain ⟨x, hx, -⟩ := has (show f.toNat < fs.length by omega)
 simp [flAt, List.getD, hx]
theorem ck_pl {fs : List Fl} {ss : List St} {f n : Int} (h : ckPlant fs ss = 0) (h0 : 0 ≤ f) (h1 : f < fs.length) (hn : 1 ≤ n ∧ n ≤ 9) : ckPlant (flS fs f (plF n)) ss = 0 := by
 have hfl := fl_ok (hall_ck h) h0 h1
 exact ckPlant_fl h (ckFloor_ok (by simp only [plF]; omega) (by simp only [plF]; omega) (by simp only [plF]; omega) (by simp only [plF]; omega))

def needF (fs : List Fl) (ss : List St) (f : Int) : Option Int := (nums 1 9).find? fun n => someR (flS fs f (plF n)) ss boundM
def needV (fs : List Fl) (ss : List St) (f : Int) : Int × Int := match needF fs ss f with | none => (0, 11) | some n => (n, 0)

theorem need1_fn (main : Side) (h : Hp) (fs : List Fl) (ss : List St) (f n : Int) (vf vs : Value) (b1 b2 : Nat) (E1 E2 Eg : TypeId) (z1 z2 zg : Nat × Nat) (hf : Sl h Fl.row vf fs) (hs : Sl h St.row vs ss) (hck : ckPlant fs ss = 0) (hf0 : 0 ≤ f ∧ f < fs.length) (hn : 1 ≤ n ∧ n ≤ 9) (hb1 : h b1 = some (.cells #[vf, vs] E1 z1)) (hb2 : h b2 = some (.cells #[I f] E2 z2)) (hg : h 0 = some (.cells #[rtV t_error] Eg zg)) :
  PuV prog main (.func (.func n_floor_Need_1) #[] #[.pointer (some ⟨b1, 0, none⟩), .pointer (some ⟨b2, 0, none⟩)]) [I n] h (.bool (someR (flS fs f (plF n)) ss boundM)) := by
 refine CallV.of_fn (f := n_floor_Need_1) (fi := []) (args := [_]) (ca := [.pointer (some ⟨b1, 0, none⟩), .pointer (some ⟨b2, 0, none⟩)]) ?_
 have hall := hall_ck (ck_pl hck hf0.1 hf0.2 hn)
 have hnf := (hall_ck hck).nf
 have hx := flAt_some hf0.1 hf0.2
 obtain ⟨a, cap, rfl⟩ := hf.isSl
 obtain ⟨a', cap', rfl⟩ := hs.isSl
 refine Fnc.of_body at_floor_Need_1 rfl (by show 3 ≤ 14; decide) [(0, I n), (1, .pointer (some ⟨b1, 0, none⟩)), (2, .pointer (some ⟨b2, 0, none⟩))] ⟨rfl, rfl, rfl, trivial⟩ ?_
 refine W.seq <| W.region rfl ?_
 refine Ops.box (fun β3 => ?_)
 refine qs rfl rfl rfl <| nn <| W.seq <| W.region rfl ?_
 refine lq rfl ?_
 refine dq rfl ?_
 refine o1 (y_func rfl rfl rfl) rfl ?_
 refine c0 (fun h' hE hL => changed_fn _ h' fs ss f _ _ _ (.func (.func n_floor_Need_1_1) #[] #[.pointer (some ⟨β3, 0, none⟩)]) (plF n) (hf.ext hE) (hs.ext hE) rfl hnf.2 hf0.1 hx (need11_fn _ h' n β3 _ _ (hL β3 _ (.head _)))) (fun v A' hv => ?_)
 obtain ⟨vf2, S, rfl, hS, hsb⟩ := hv
 obtain ⟨a3, cap3, rfl⟩ := hS.isSl
 refine Ops.sb (F' := (β3, .cells #[I n] t_int (0, 0)) :: S) (.trans (.of_perm (List.perm_append_singleton _ _).symm) (hsb.app .refl)) ?_
 refine Ops.new (fun β5 => ?_)
 first | refine Ops.stoW ?_ | refine Ops.stoA ?_
 refine nn <| W.seq <| W.region rfl ?_
 refine lq rfl ?_
 refine o1 (y_build (cs := #[.slice a3 (fs.set f.toNat (plF n (flAt fs f))).length cap3, .slice a' ss.length cap']) rfl rfl rfl) rfl ?_
 refine o1 (y_build (cs := #[.slice a3 (fs.set f.toNat (plF n (flAt fs f))).length cap3, .slice a' ss.length cap', .func (.func n_floor_bound) #[] #[]]) rfl rfl rfl) rfl ?_
 refine cp (fun h' hE hL => some_fn _ h' (flS fs f (plF n)) ss boundM (.slice a3 (fs.set f.toNat (plF n (flAt fs f))).length cap3) (.slice a' ss.length cap') (.func (.func n_floor_bound) #[] #[]) _ _ (hS.sl fun b o hb => hL b o (.tail _ (.tail _ hb))) (hs.ext hE) rfl hall (bound_may _ h') (hE.1 _ _ hg)) ?_
 refine qs rfl rfl rfl <| nn <| W.ret ?_
 exact lvp (hs := .cons rfl (.cons rfl hS.shut)) rfl

theorem Need_fn (main : Side) (h : Hp) (fs : List Fl) (ss : List St) (f : Int) (vf vs : Value) (Eg : TypeId) (zg : Nat × Nat) (hf : Sl h Fl.row vf fs) (hs : Sl h St.row vs ss) (hck : ckPlant fs ss = 0) (hf0 : 0 ≤ f ∧ f < fs.length) (hg : h 0 = some (.cells #[rtV t_error] Eg zg)) :
  Pu prog main n_floor_Need #[.agg #[vf, vs], I f] h (.tuple #[I (needV fs ss f).1, I (needV fs ss f).2]) := by
 obtain ⟨a, cap, rfl⟩ := hf.isSl
 obtain ⟨a', cap', rfl⟩ := hs.isSl
 refine Fnc.of_body at_floor_Need rfl (by show 2 ≤ 24; decide) [(0, .agg #[.slice a fs.length cap, .slice a' ss.length cap']), (1, I f)] ⟨rfl, rfl, trivial⟩ ?_
 refine W.seq <| W.region rfl ?_
 refine Ops.box (cs := #[.slice a fs.length cap, .slice a' ss.length cap']) (fun β2 => ?_) rfl rfl rfl
 refine Ops.box (fun β3 => ?_)
 refine qs rfl rfl rfl <| qs rfl rfl rfl <| nn <| W.seq <| W.seq <| W.region rfl ?_
 refine lq rfl ?_
 refine dq rfl ?_
 refine cp (fun h' hE hL => begin_fn _ h' fs ss f _ _ (hf.ext hE) (hs.ext hE) hck hf0) ?_
 refine qs rfl rfl rfl <| nn <| W.seq <| W.region rfl <| qm rfl rfl rfl ?_
 refine o1 ((y_neq rfl rfl rfl).eq (u := .bool false) rfl) rfl ?_
 refine nn ?_
 refine W.condF ?_
 refine W.skip <| thn_n <| W.seq <| W.region rfl ?_
 refine c0 (fun h' hE hL => numbers_fn _ h' 1 9 (by decide) (by decide) (by decide)) (fun v A' hv => ?_)
 obtain ⟨S, hS, hsb⟩ := hv
 refine Ops.sb (hsb.app .refl) ?_
 refine o1 (y_func rfl rfl rfl) rfl ?_
 refine cp (u := firstV (needF fs ss f)) (fun h' hE hL => first_fn _ h' (nums 1 9) v _ (fun n => someR (flS fs f (plF n)) ss boundM) (hS.sl fun b o hb => hL b o (List.mem_append_left _ hb)) (by rw [nums, numsN_len]; decide) (fun h2 e n hn => ?_)) ?_
 ·have hnr : 1 ≤ n ∧ n ≤ 9 := by simp [nums, numsN] at hn; omega
  exact need1_fn _ h2 fs ss f n _ _ β2 β3 _ _ Eg _ _ zg ((hf.ext hE).ext e) ((hs.ext hE).ext e) hck hf0 hnr (e.1 _ _ (hL β2 _ (List.mem_append_right _ (.tail _ (.head _))))) (e.1 _ _ (hL β3 _ (List.mem_append_right _ (.head _)))) (e.1 _ _ (hE.1 _ _ hg))
 refine qm rfl rfl rfl <| oq (y_extract rfl rfl rfl) rfl wn rfl rfl <| oq (y_extract rfl rfl rfl) rfl wn rfl rfl <| qs rfl rfl rfl <| qs rfl rfl rfl <| nn <| W.seq <| W.seq <| W.region rfl ?_
 refine qm rfl rfl rfl ?_
 refine o1 (y_not rfl rfl) rfl ?_
 refine nn ?_
 refine W.cond rfl (fun c22 => ?_) (fun c22 => ?_)
 ·refine W.seq <| W.region rfl <| qs rfl rfl rfl <| qs rfl rfl rfl <| nn <| W.ret <| thn_r ?_
  refine lvp (hs := hS.shut.app (.cons rfl (.cons rfl .nil))) ?_
  have : needF fs ss f = none := by simpa using c22
  rw [needV, this]; rfl
 ·refine W.skip <| thn_n <| W.seq <| W.region rfl <| qm rfl rfl rfl <| qs rfl rfl rfl <| qs rfl rfl rfl <| nn <| W.ret ?_
  refine lvp (hs := hS.shut.app (.cons rfl (.cons rfl .nil))) ?_
  obtain ⟨n, hn⟩ : ∃ n, needF fs ss f = some n := by
   cases hp : needF fs ss f with
   | none => rw [hp] at c22; simp at c22
   | some n => exact ⟨n, rfl⟩
  rw [needV, hn]; rfl
end Go.Mus

/- With which places all can be set. Conditions: none; over the given program. -/
namespace Go.Mus
set_option maxRecDepth 100000
set_option maxHeartbeats 4000000
theorem need_at {fs : List Fl} {ss : List St} {f : Int} {k : Nat} (hk : k < 9) (h : someR (flS fs f (plF (1 + (k : Int)))) ss boundM = true) (hall : ∀ i : Nat, i < k → someR (flS fs f (plF (1 + (i : Int)))) ss boundM = false) : needV fs ss f = (1 + (k : Int), 0) := by
 have e : needF fs ss f = some (1 + (k : Int)) := find_numsN (q := fun n => someR (flS fs f (plF n)) ss boundM) (lo := 1) 9 k hk h hall
 rw [needV, e]
theorem need_no {fs : List Fl} {ss : List St} {f : Int} (hall : ∀ i : Nat, i < 9 → someR (flS fs f (plF (1 + (i : Int)))) ss boundM = false) : needV fs ss f = (0, 11) := by
 have e : needF fs ss f = none := find_numsN_none (q := fun n => someR (flS fs f (plF n)) ss boundM) (lo := 1) 9 hall
 rw [needV, e]

end Go.Mus

/- What makes plans right more easily, and so the loaves no fewer. Conditions: none. -/
namespace Go.Mus
/-- Where each right plan has one that is as good, the best are as good. -/
theorem best_le {fs fs' : List Fl} {ss ss' : List St} (hall : HallOK fs ss) (hall' : HallOK fs' ss') (H : ∀ p, Valid fs ss freeM p → inspF fs ss p = none → ∃ p', Valid fs' ss' freeM p' ∧ inspF fs' ss' p' = none ∧ loavesF ss p ≤ loavesF ss' p') : (bestF fs ss).1 ≤ (bestF fs' ss').1 := by
 obtain ⟨⟨q, hq, hql⟩, -, -⟩ := best_spec hall
 obtain ⟨-, htop, -⟩ := best_spec hall'
 obtain ⟨hv, hi⟩ := (mem_allF hall).1 hq
 obtain ⟨p', h1, h2, h3⟩ := H q hv hi
 have := htop p' ((mem_allF hall').2 ⟨h1, h2⟩)
 omega
/-- Floors on which more is right. -/
def Easier (fs fs' : List Fl) : Prop := fs'.length = fs.length ∧ ∀ f : Int, 0 ≤ f → f < fs.length → (flAt fs f).pl ≤ (flAt fs' f).pl ∧ (flAt fs' f).hi ≤ (flAt fs f).hi ∧ (flAt fs f).lo + (flAt fs f).co ≤ (flAt fs' f).lo + (flAt fs' f).co
theorem right_mono {fs fs' : List Fl} {ss : List St} {p : List Be} (hall : HallOK fs ss) (hall' : HallOK fs' ss) (hp : PlOK p) (he : Easier fs fs') (h : inspF fs ss p = none) : inspF fs' ss p = none := by
 rw [insp_none hall hp] at h
 rw [insp_none hall' hp]
 intro f h0 h1 n hb
 obtain ⟨e1, e2, e3⟩ := he.2 f h0 (by rw [← he.1]; exact h1)
 rcases hb with ⟨b0, b1, b2⟩ | ⟨a, ha, rfl, ⟨b, hb, hlt⟩, hno⟩
 ·refine h f h0 (by rw [← he.1]; exact h1) n (.inl ⟨b0, b1, ?_⟩)
  have : hiAt fs' ss p f n ≤ hiAt fs ss p f n := sumK_le fun i hi => by
   have hc := (co_ok hall i).1
   simp only [hiG]
   by_cases hc1 : (beAt p i).fl = f ∧ (beAt p i).day ≤ n ∧ n < (beAt p i).day + (flAt fs' f).hi
   ·rw [if_pos hc1, if_pos (by omega)]; exact Int.le_refl _
   ·rw [if_neg hc1]; split <;> omega
  omega
 ·refine h f h0 (by rw [← he.1]; exact h1) (a + (flAt fs f).lo + (flAt fs f).co) (.inr ⟨a, ha, rfl, ⟨b, hb, by omega⟩, fun c hc => ?_⟩)
  rcases hno c hc with h | h
  ·exact .inl h
  ·exact .inr (by omega)
theorem valid_floors {fs fs' : List Fl} {ss : List St} {may : May} {p : List Be} (he : fs'.length = fs.length) (h : Valid fs ss may p) : Valid fs' ss may p := by
 refine ⟨h.len, fun i hi => ?_, h.out⟩
 have := h.at_ i hi
 rw [mem_berths] at this ⊢
 rw [he]; exact this
theorem best_easier {fs fs' : List Fl} {ss : List St} (hall : HallOK fs ss) (hall' : HallOK fs' ss) (he : Easier fs fs') : (bestF fs ss).1 ≤ (bestF fs' ss).1 :=
 best_le hall hall' fun p hv hi => ⟨p, valid_floors he.1 hv, right_mono hall hall' (valid_plan hall hv).ok he hi, Int.le_refl _⟩
theorem flAt_set {fs : List Fl} {i : Nat} {g : Fl} {f : Int} (hi : i < fs.length) (h0 : 0 ≤ f) : flAt (fs.set i g) f = if f.toNat = i then g else flAt fs f := by
 simp only [flAt, List.getD]
 by_cases e : f.toNat = i
 ·rw [if_pos e, e, List.getElem?_set_self hi]; rfl
 ·rw [if_neg e, List.getElem?_set_ne (Ne.symm e)]
/-! Without a strike -/
end Go.Mus

/- How much slower a floor may be. Conditions: none; over the given program. -/
namespace Go.Mus
set_option maxRecDepth 100000
set_option maxHeartbeats 4000000
/-! Turning a list round -/
def revK (l : List Int) (k : Nat) : List Int := (l.reverse.take k) ++ ((l.drop k).take (l.length - 2 * k)) ++ (l.reverse.drop (l.length - k))
theorem revK_zero (l : List Int) : revK l 0 = l := by simp [revK]
theorem rev_get {l : List Int} {i : Nat} (hi : i < l.length) : l.reverse[i]? = l[l.length - 1 - i]? := by
 rw [List.getElem?_reverse hi]
theorem revK_len {l : List Int} {k : Nat} (hk : 2 * k ≤ l.length) : (revK l k).length = l.length := by simp [revK]; omega
theorem revK_get {l : List Int} {k i : Nat} (hk : 2 * k ≤ l.length) (hi : i < l.length) : (revK l k)[i]? = if i < k ∨ l.length - k ≤ i then l[l.length - 1 - i]? else l[i]? := by
 unfold revK
 by_cases h1 : i < k
 ·rw [if_pos (.inl h1), List.append_assoc, List.getElem?_append_left (by simp; omega), List.getElem?_take, if_pos h1, rev_get hi]
 ·by_cases h2 : l.length - k ≤ i
  ·rw [if_pos (.inr h2), List.getElem?_append_right (by simp; omega), List.getElem?_drop]
   have e : l.length - k + (i - (l.reverse.take k ++ (l.drop k).take (l.length - 2 * k)).length) = i := by simp; omega
   rw [e, rev_get hi]
  ·rw [if_neg (by omega), List.getElem?_append_left (by simp; omega), List.getElem?_append_right (by simp; omega), List.getElem?_take, if_pos (by simp; omega), List.getElem?_drop]
   congr 1
   simp; omega
theorem revK_step {l : List Int} {k : Nat} {x y : Int} (hk : 2 * k + 2 ≤ l.length) (hx : l[k]? = some x) (hy : l[l.length - 1 - k]? = some y) : ((revK l k).set k y).set (l.length - 1 - k) x = revK l (k + 1) := by
 apply List.ext_getElem?
 intro i
 have hl := revK_len (l := l) (k := k) (by omega)
 have hl' := revK_len (l := l) (k := k + 1) (by omega)
 rcases Nat.lt_or_ge i l.length with hi | hi
 ·rw [revK_get (by omega) hi, List.getElem?_set, List.getElem?_set]
  by_cases e1 : l.length - 1 - k = i
  ·rw [if_pos e1, if_pos (by simp; omega), if_pos (by omega)]
   rw [show l.length - 1 - i = k by omega, hx]
  ·rw [if_neg e1]
   by_cases e2 : k = i
   ·rw [if_pos e2, if_pos (by omega), if_pos (by omega), ← e2, hy]
   ·rw [if_neg e2, revK_get (by omega) hi]
    by_cases h1 : i < k ∨ l.length - k ≤ i
    ·rw [if_pos h1, if_pos (by omega)]
    ·rw [if_neg h1, if_neg (by omega)]
 ·rw [List.getElem?_eq_none (by simp; omega), List.getElem?_eq_none (by omega)]
theorem revK_end {l : List Int} {k : Nat} (h1 : 2 * k ≤ l.length) (h2 : l.length ≤ 2 * k + 1) : revK l k = l.reverse := by
 apply List.ext_getElem?
 intro i
 rcases Nat.lt_or_ge i l.length with hi | hi
 ·rw [revK_get h1 hi, rev_get hi]
  by_cases h : i < k ∨ l.length - k ≤ i
  ·rw [if_pos h]
  ·rw [if_neg h]
   congr 1; omega
 ·rw [List.getElem?_eq_none (by rw [revK_len h1]; exact hi), List.getElem?_eq_none (by simp; omega)]

theorem Reverse_fn (main : Side) (h : Hp) (b cap : Nat) (c : Array Value) (l : List Int) (hP : Part c 0 (flat rowI l)) (hl : l.length ≤ 1000) : Fnc prog main n_slices_Reverse_int #[.slice (some ⟨b, 0, none⟩) l.length cap] h [(b, .cells c t_int (0, 0))] (fun _ A => ∃ c', c'.size = c.size ∧ Part c' 0 (flat rowI l.reverse) ∧ Sb [(b, .cells c' t_int (0, 0))] A) := by
 refine Fnc.of_body at_slices_Reverse_int rfl (by show 1 ≤ 28; decide) [(0, .slice (some ⟨b, 0, none⟩) l.length cap)] ⟨rfl, trivial⟩ ?_
 refine W.seq <| W.region rfl <| qm rfl rfl rfl ?_
 refine o1 (y_len rfl rfl) rfl ?_
 refine mq rfl ?_
 refine qs rfl rfl rfl <| qs rfl rfl rfl <| nn <| W.block ?_
 refine W.loop2 (fun (k : Nat) (c' : Array Value) => (2 * k ≤ l.length) ∧ c'.size = c.size ∧ Part c' 0 (flat rowI (revK l k))) (fun k _ => [(2, I k), (3, I ((l.length : Int) - 1 - k)), (0, .slice (some ⟨b, 0, none⟩) l.length cap)]) (fun _ c' => [(b, .cells c' t_int (0, 0))]) (fun k _ => l.length - k) 0 c ⟨by omega, rfl, by rw [revK_zero]; exact hP⟩ ⟨rfl, lk rfl (show I _ = I _ by congr 1; omega), rfl, trivial⟩ .refl ?_
 rintro k c1 ⟨hk, hsz, hP1⟩
 refine W.seq <| W.seq <| W.region rfl <| qm rfl rfl rfl <| qm rfl rfl rfl ?_
 refine o1 (y_lss rfl rfl rfl) rfl ?_
 refine nn ?_
 refine W.condp rfl (fun c9 => ?_) (fun c9 => ?_)
 ·have hk2 : 2 * k + 2 ≤ l.length := by omega
  have hlen := revK_len (l := l) (k := k) hk
  obtain ⟨x, hx, -⟩ := has (show k < l.length by omega)
  obtain ⟨y, hy, -⟩ := has (show l.length - 1 - k < l.length by omega)
  have hx1 : (revK l k)[k]? = some x := by rw [revK_get hk (by omega), if_neg (by omega)]; exact hx
  have hy1 : (revK l k)[l.length - 1 - k]? = some y := by rw [revK_get hk (by omega), if_neg (by omega)]; exact hy
  have hx2 := hP1.getI hx1
  have hy2 := hP1.getI hy1
  have hj : (l.length : Int) - 1 - k = ((l.length - 1 - k : Nat) : Int) := by omega
  have hsz2 := hP1.len
  rw [flat_len, hlen] at hsz2
  rw [hj]
  have hP2 := hP1.setI (j := k) (a := y) (by omega)
  have hP3 := hP2.setI (j := l.length - 1 - k) (a := x) (by simp; omega)
  rw [revK_step hk2 hx hy] at hP3
  refine W.skip <| thn_n <| W.seq <| W.block ?_
  refine W.drawL [] (n := 16) rfl ?_
  refine a1 0 (y_move rfl rfl) rfl ?_
  refine a1 1 (y_move rfl rfl) rfl ?_
  refine a1 2 (y_move rfl rfl) rfl ?_
  refine a1 3 (y_move rfl rfl) rfl ?_
  refine a1 4 (y_move rfl rfl) rfl ?_
  refine a1 5 (y_move rfl rfl) rfl ?_
  refine a1 6 (yix rfl rfl rfl) rfl ?_
  refine a1 8 (y_move rfl rfl) rfl ?_
  refine a1 9 (y_move rfl rfl) rfl ?_
  refine a1 10 (yix rfl rfl rfl) rfl ?_
  refine a2 (i := 7) (j := 11) rfl rfl (yld rfl rfl) (yld rfl rfl) (yld rfl rfl) (yld rfl rfl) an an an an rfl rfl rfl rfl ?_
  refine a1 12 (yix rfl rfl rfl) rfl ?_
  refine ae (i := 13) rfl an rfl rfl (eS rfl rfl rfl ?_)
  refine ⟨.inr (fun _ h => by cases h), ?_⟩
  refine a1 14 (yix rfl rfl rfl) rfl ?_
  refine ae (i := 15) rfl an rfl rfl (eS rfl rfl rfl ?_ (hc := by rw [Array.size_setIfInBounds]; omega))
  refine ⟨.inr (fun _ h => by cases h), ?_⟩
  refine az ?_
  refine blk_n <| thn_n <| W.region rfl <| qm rfl rfl rfl ?_
  refine pq rfl ?_
  refine qm rfl rfl rfl ?_
  refine mq rfl ?_
  refine qs rfl rfl rfl <| qs rfl rfl rfl <| nn ?_
  have e1 : 0 + k * 1 = k := by omega
  have e2 : 0 + (l.length - 1 - k) * 1 = l.length - 1 - k := by omega
  have hP4 : Part ((c1.setIfInBounds (0 + k * 1) (I y)).setIfInBounds (0 + (l.length - 1 - k) * 1) (I x)) 0 (flat rowI (revK l (k + 1))) := by rw [e1, e2]; exact hP3
  exact ⟨rfl, k + 1, _, ⟨by omega, by simp [hsz], hP4⟩, by omega, ⟨rfl, lk rfl (show I _ = I _ by congr 1; omega), rfl, trivial⟩, .refl⟩
 ·refine W.exit <| thn_x <| thn_x <| blk_x ?_
  refine lvt (vs := []) ⟨c1, hsz, ?_, .refl⟩
  rw [← revK_end (k := k) (by omega) (by omega)]; exact hP1
end Go.Mus

/- How much slower a floor may be. Conditions: none; over the given program. -/
namespace Go.Mus
set_option maxRecDepth 100000
set_option maxHeartbeats 4000000
def hiF (n : Int) (f : Fl) : Fl := ⟨f.pl, f.lo, wadd f.hi n, f.co⟩
theorem slow11_fn (main : Side) (h : Hp) (n : Int) (b3 : Nat) (E3 : TypeId) (z3 : Nat × Nat) (hb : h b3 = some (.cells #[I n] E3 z3)) : ChgV main (.func (.func n_floor_Slower_1_1) #[] #[.pointer (some ⟨b3, 0, none⟩)]) (hiF n) h := by
 intro h' hE b c l i f hi hP
 have hb' := hE.1 _ _ hb
 have hsz := (hP.rowE hi).2
 have hc2 : c[0 + i * 4 + 1 + 1]? = some (I f.hi) := hP.rowG hi 2 (by decide)
 refine CallV.of_fn (f := n_floor_Slower_1_1) (fi := []) (args := [_]) (ca := [.pointer (some ⟨b3, 0, none⟩)]) ?_
 refine Fnc.of_body at_floor_Slower_1_1 rfl (by show 2 ≤ 13; decide) [(0, .pointer (some ⟨b, 0 + i * 4, none⟩)), (1, .pointer (some ⟨b3, 0, none⟩))] ⟨rfl, rfl, trivial⟩ ?_
 refine W.drawL [] (n := 11) rfl ?_
 refine a1 0 (y_move rfl rfl) rfl ?_
 refine a1 1 (y_nilCheck rfl rfl) rfl ?_
 refine a1 2 (y_fieldAddr rfl rfl) rfl ?_
 refine a1 3 (y_fieldAddr rfl rfl) rfl ?_
 refine a1 5 (yld rfl rfl) rfl ?_
 refine ae (i := 4) rfl an rfl rfl (Ef.of_y (yld rfl rfl) ?_)
 refine ⟨.inr Keeps.nil, ?_⟩
 refine a1 6 (y_addw rfl rfl rfl) rfl ?_
 refine a1 7 (y_nilCheck rfl rfl) rfl ?_
 refine a1 8 (y_fieldAddr rfl rfl) rfl ?_
 refine a1 9 (y_fieldAddr rfl rfl) rfl ?_
 refine ae (i := 10) rfl an rfl rfl (eS rfl rfl rfl ?_)
 refine ⟨.inr Keeps.nil, ?_⟩
 refine az ?_
 refine lvt (vs := []) ⟨_, Array.size_setIfInBounds .., ?_, .refl⟩
 have := hP.setR (hiF n f) 2 (I (wadd f.hi n)) (by decide) hi rfl
 have e : 0 + i * 4 + 1 + 1 = i * 4 + 2 := by omega
 rw [e]; exact this

theorem ck_hi {fs : List Fl} {ss : List St} {f n : Int} (h : ckPlant fs ss = 0) (h0 : 0 ≤ f) (h1 : f < fs.length) (hn : 0 ≤ n ∧ (flAt fs f).hi + n ≤ 6) : ckPlant (flS fs f (hiF n)) ss = 0 := by
 have hfl := fl_ok (hall_ck h) h0 h1
 have e : wadd (flAt fs f).hi n = (flAt fs f).hi + n := wadd_small (by omega) (by omega) (by omega) (by omega)
 exact ckPlant_fl h (ckFloor_ok (by simp only [hiF]; omega) (by simp only [hiF]; omega) (by simp only [hiF, e]; omega) (by simp only [hiF]; omega))
def slowQ (fs : List Fl) (ss : List St) (f n : Int) : Bool := decide ((bestF (flS fs f (hiF n)) ss).1 = (bestF fs ss).1)
theorem slow1_fn (main : Side) (hS : ∀ S, main.ok S → ∃ Fin, S = Mn prog Fin) (hmb : main.b = true) (h : Hp) (fs : List Fl) (ss : List St) (f n : Int) (vf vs : Value) (b1 b2 b3 : Nat) (E1 E2 E3 Eg : TypeId) (z1 z2 z3 zg : Nat × Nat) (hf : Sl h Fl.row vf fs) (hs : Sl h St.row vs ss) (zs : Zs h vs) (hck : ckPlant fs ss = 0) (hf0 : 0 ≤ f ∧ f < fs.length) (hn : 0 ≤ n ∧ (flAt fs f).hi + n ≤ 6) (hb1 : h b1 = some (.cells #[vf, vs] E1 z1)) (hb2 : h b2 = some (.cells #[I f] E2 z2)) (hb3 : h b3 = some (.cells #[I (bestF fs ss).1] E3 z3)) (hg : h 0 = some (.cells #[rtV t_error] Eg zg)) (z0 : h.z 0) :
  PuV prog main (.func (.func n_floor_Slower_1) #[] #[.pointer (some ⟨b1, 0, none⟩), .pointer (some ⟨b2, 0, none⟩), .pointer (some ⟨b3, 0, none⟩)]) [I n] h (.bool (slowQ fs ss f n)) := by
 refine CallV.of_fn (f := n_floor_Slower_1) (fi := []) (args := [_]) (ca := [.pointer (some ⟨b1, 0, none⟩), .pointer (some ⟨b2, 0, none⟩), .pointer (some ⟨b3, 0, none⟩)]) ?_
 have hall := hall_ck (ck_hi hck hf0.1 hf0.2 hn)
 have hnf := (hall_ck hck).nf
 have hx := flAt_some hf0.1 hf0.2
 obtain ⟨a, cap, rfl⟩ := hf.isSl
 obtain ⟨a', cap', rfl⟩ := hs.isSl
 refine Fnc.of_body at_floor_Slower_1 rfl (by show 4 ≤ 17; decide) [(0, I n), (1, .pointer (some ⟨b1, 0, none⟩)), (2, .pointer (some ⟨b2, 0, none⟩)), (3, .pointer (some ⟨b3, 0, none⟩))] ⟨rfl, rfl, rfl, rfl, trivial⟩ ?_
 refine W.seq <| W.region rfl ?_
 refine Ops.box (fun β4 => ?_)
 refine qs rfl rfl rfl <| nn <| W.seq <| W.region rfl ?_
 refine lq rfl ?_
 refine dq rfl ?_
 refine o1 (y_func rfl rfl rfl) rfl ?_
 refine c0 (fun h' hE hL => changed_fn _ h' fs ss f _ _ _ (.func (.func n_floor_Slower_1_1) #[] #[.pointer (some ⟨β4, 0, none⟩)]) (hiF n) (hf.ext hE) (hs.ext hE) rfl hnf.2 hf0.1 hx (slow11_fn _ h' n β4 _ _ (hL β4 _ (.head _)))) (fun v A' hv => ?_)
 obtain ⟨vf2, S, rfl, hO, hsb⟩ := hv
 obtain ⟨a3, cap3, rfl⟩ := hO.isSl
 refine Ops.sb (F' := (β4, .cells #[I n] t_int (0, 0)) :: S) (.trans (.of_perm (List.perm_append_singleton _ _).symm) (hsb.app .refl)) ?_
 refine Ops.new (fun β6 => ?_)
 first | refine Ops.stoW ?_ | refine Ops.stoA ?_
 refine nn ?_
 refine W.sb (F' := S ++ [(β6, .cells #[.slice a3 (fs.set f.toNat (hiF n (flAt fs f))).length cap3, .slice a' ss.length cap'] t_Plant (0, 0)), (β4, .cells #[I n] t_int (0, 0))]) (.of_perm List.perm_append_comm) ?_
 refine freezeOs hO (fun hx' hEx hslf hzf => ?_)
 have hb3' := hEx.1 _ _ hb3
 refine W.seq ?_
 refine W.drawF (n := 7) rfl ?_
 first | refine a1 0 (yldW rfl rfl) rfl ?_ | refine a1 0 (yldA rfl rfl) rfl ?_
 refine a1 1 (y_build (cs := #[.slice a3 (fs.set f.toNat (hiF n (flAt fs f))).length cap3, .slice a' ss.length cap']) rfl rfl rfl) rfl ?_
 refine a1 4 (yld rfl rfl) rfl ?_
 refine ae (i := 2) rfl an rfl rfl (e_call0 (args := [_]) rfl rfl (fun h' hE hL => best_fn _ hS hmb h' (flS fs f (hiF n)) ss (.slice a3 (fs.set f.toNat (hiF n (flAt fs f))).length cap3) (.slice a' ss.length cap') Eg zg (hslf.ext hE) (hs.ext (hEx.trans hE)) (hzf.ext hE) (zs.ext (hEx.trans hE)) hall ((hEx.trans hE).1 _ _ hg) ((hEx.trans hE).2 _ z0)) (fun v A2 hv => ?_))
 refine ⟨.inr (fun q hq => List.mem_append_right _ hq), ?_⟩
 obtain ⟨u, S2, rfl, hO2, hsb2⟩ := hv
 obtain ⟨ua, uc, rfl⟩ := hO2.isSl
 first | refine a1 3 (y_field rfl rfl rfl) rfl ?_ | refine a1 3 (y_fieldA rfl rfl rfl) rfl ?_
 refine a1 5 (y_eql rfl rfl rfl) rfl ?_
 refine a1 6 (y_assign rfl rfl) rfl ?_
 refine az ?_
 refine thn_n <| W.ret ?_
 have hsh2 : Shut A2 := by
  obtain ⟨X, p, x⟩ := hsb2
  intro q hq
  rcases List.mem_append.1 (p.symm.subset hq) with h | h
  ·exact hO2.shut q h
  ·exact x q h
 exact lvp (hs := hsh2.app (.cons rfl (.cons rfl .nil))) rfl
end Go.Mus

/- How much slower a floor may be, and that it is so. Conditions: none; over the given program. -/
namespace Go.Mus
set_option maxRecDepth 100000
set_option maxHeartbeats 4000000
theorem mem_numsN {lo a : Int} : ∀ {m : Nat}, a ∈ numsN lo m ↔ lo ≤ a ∧ a < lo + m
 | 0 => by
  constructor
  ·intro h; simp [numsN] at h
  ·intro h; omega
 | m + 1 => by
  rw [numsN, List.mem_append, mem_numsN]
  simp; omega
def slowV (fs : List Fl) (ss : List St) (f : Int) : Int := ((nums 0 (6 - (flAt fs f).hi)).reverse.find? (slowQ fs ss f)).getD 0
theorem Slower_fn (main : Side) (hS : ∀ S, main.ok S → ∃ Fin, S = Mn prog Fin) (hmb : main.b = true) (h : Hp) (fs : List Fl) (ss : List St) (f : Nat) (vf vs : Value) (Eg : TypeId) (zg : Nat × Nat) (hf : Sl h Fl.row vf fs) (hs : Sl h St.row vs ss) (zf : Zs h vf) (zs : Zs h vs) (hck : ckPlant fs ss = 0) (hf0 : f < fs.length) (hg : h 0 = some (.cells #[rtV t_error] Eg zg)) (z0 : h.z 0) :
  Pu prog main n_floor_Slower #[.agg #[vf, vs], I f] h (.tuple #[I (slowV fs ss f), I 0]) := by
 have hall := hall_ck hck
 have hfl := fl_ok hall (show (0 : Int) ≤ (f : Int) by omega) (show (f : Int) < fs.length by omega)
 have hx := flAt_some (show (0 : Int) ≤ (f : Int) by omega) (show (f : Int) < fs.length by omega)
 rw [Int.toNat_natCast] at hx
 obtain ⟨x, hxe⟩ : ∃ x, flAt fs f = x := ⟨_, rfl⟩
 rw [hxe] at hx hfl
 obtain ⟨a, cap, rfl⟩ := hf.isSl
 obtain ⟨a', cap', rfl⟩ := hs.isSl
 obtain ⟨bf, off, c, E, fz, rfl, hb, -, hy1, hz1⟩ := hf.at hx
 have hc2 : c[off + f * 4 + 1 + 1]? = some (I x.hi) := hz1 2 (by decide)
 clear hz1
 refine Fnc.of_body at_floor_Slower rfl (by show 2 ≤ 39; decide) [(0, .agg #[.slice (some ⟨bf, off, none⟩) fs.length cap, .slice a' ss.length cap']), (1, I f)] ⟨rfl, rfl, trivial⟩ ?_
 refine W.seq <| W.region rfl ?_
 refine Ops.box (cs := #[.slice (some ⟨bf, off, none⟩) fs.length cap, .slice a' ss.length cap']) (fun β2 => ?_) rfl rfl rfl
 refine Ops.box (cs := #[I f]) (fun β3 => ?_) rfl rfl rfl
 refine qs rfl rfl rfl <| qs rfl rfl rfl <| nn <| W.seq <| W.seq <| W.region rfl ?_
 refine lq rfl ?_
 refine dq rfl ?_
 refine cp (fun h' hE hL => begin_fn _ h' fs ss f _ _ (hf.ext hE) (hs.ext hE) hck (by omega)) ?_
 refine qs rfl rfl rfl <| nn <| W.seq <| W.region rfl <| qm rfl rfl rfl ?_
 refine o1 ((y_neq rfl rfl rfl).eq (u := .bool false) rfl) rfl ?_
 refine nn ?_
 refine W.condF ?_
 refine W.skip <| thn_n <| W.seq <| W.region rfl ?_
 refine lq rfl ?_
 refine o1 (y_build (cs := #[.slice (some ⟨bf, off, none⟩) fs.length cap, .slice a' ss.length cap']) rfl rfl rfl) rfl ?_
 refine c0 (fun h' hE hL => best_fn _ hS hmb h' fs ss (.slice (some ⟨bf, off, none⟩) fs.length cap) (.slice a' ss.length cap') Eg zg (hf.ext hE) (hs.ext hE) (zf.ext hE) (zs.ext hE) hall (hE.1 _ _ hg) (hE.2 _ z0)) (fun v A' hv => ?_)
 obtain ⟨u, S, rfl, hO, hsb⟩ := hv
 obtain ⟨ua, uc, rfl⟩ := hO.isSl
 refine Ops.sb (.trans (Sb.left .refl hO.shut) (hsb.app .refl)) ?_
 first | refine o1 (y_field rfl rfl rfl) rfl ?_ | refine o1 (y_fieldA rfl rfl rfl) rfl ?_
 refine Ops.new (fun β7 => ?_)
 refine Ops.sto ?_
 refine nn <| W.seq <| W.region rfl ?_
 refine fq rfl ?_
 refine dq rfl ?_
 refine dq rfl ?_
 refine xq rfl ?_
 refine fq rfl ?_
 refine fq rfl ?_
 refine dq rfl ?_
 refine o1 (ysub rfl rfl rfl) rfl ?_
 refine c0 (fun h' hE hL => numbers_fn _ h' 0 (6 - x.hi) (by decide) (by omega) (by decide)) (fun v A' hv => ?_)
 obtain ⟨S1, hS1, hsb1⟩ := hv
 refine Ops.sb (hsb1.app .refl) ?_
 obtain ⟨sa, sc, rfl⟩ := hS1.isSl
 obtain ⟨xs, hxs⟩ : ∃ xs, nums 0 (6 - x.hi) = xs := ⟨_, rfl⟩
 rw [hxs] at hS1 ⊢
 have hlen : xs.length = (6 - x.hi + 1 - 0).toNat := by rw [← hxs, nums, numsN_len]
 rcases hS1 with ⟨hnil, _, _⟩ | ⟨β, cn, cp, J, hv, rfl, hc1, hcap, hP, hJ⟩
 ·rw [hnil] at hlen; simp at hlen; omega
 obtain ⟨rfl, rfl⟩ : sa = some ⟨β, 0, none⟩ ∧ sc = cp := by injection hv with e1 e2 e3; exact ⟨e1, e3⟩
 refine qs rfl rfl rfl <| nn <| W.seq <| W.region rfl <| qm rfl rfl rfl ?_
 refine cg (A := [(β, _)]) .head (fun h' hE hL => Reverse_fn _ h' β sc cn xs hP (by omega)) (fun v A' hv => ?_)
 obtain ⟨cr, hcr, hPr, hsb2⟩ := hv
 refine Ops.sb (hsb2.app .refl) ?_
 refine nn <| W.seq <| W.region rfl <| qm rfl rfl rfl ?_
 refine o1 (y_func rfl rfl rfl) rfl ?_
 refine cp (u := firstV (xs.reverse.find? (slowQ fs ss f))) (fun h' hE hL => first_fn _ h' xs.reverse (.slice (some ⟨β, 0, none⟩) xs.length sc) _ (slowQ fs ss f) (Sl.mk (hL β _ (.head _)) (by simp) hPr) (by simp; omega) (fun h2 e n hn => ?_)) ?_
 ·have hnr : 0 ≤ n ∧ (flAt fs f).hi + n ≤ 6 := by
   rw [List.mem_reverse, ← hxs, nums, mem_numsN] at hn
   rw [hxe]; omega
  have mem : ∀ {p : Nat × Obj} {F : Frag}, p ∈ F → p ∈ (β, Obj.cells cr t_int (0, 0)) :: (J ++ F) := fun hp => .tail _ (List.mem_append_right _ hp)
  exact slow1_fn _ hS hmb h2 fs ss f n _ _ β2 β3 β7 _ _ _ Eg _ _ _ zg ((hf.ext hE).ext e) ((hs.ext hE).ext e) ((zs.ext hE).ext e) hck (by omega) hnr (e.1 _ _ (hL β2 _ (mem (.tail _ (.tail _ (.head _)))))) (e.1 _ _ (hL β3 _ (mem (.tail _ (.head _))))) (e.1 _ _ (hL β7 _ (mem (.head _)))) (e.1 _ _ (hE.1 _ _ hg)) (e.2 _ (hE.2 _ z0))
 refine qm rfl rfl rfl <| oq (y_extract rfl rfl rfl) rfl wn rfl rfl <| oq (y_extract rfl rfl rfl) rfl wn rfl rfl <| qs rfl rfl rfl <| qs rfl rfl rfl <| nn <| W.seq <| W.region rfl <| qm rfl rfl rfl ?_
 refine qs rfl rfl rfl <| qs rfl rfl rfl <| nn <| W.ret ?_
 refine lvp (hs := .cons rfl (hJ.app (.cons rfl (.cons rfl (.cons rfl .nil))))) ?_
 rw [slowV, hxe, hxs]; rfl
end Go.Mus

/- With how much slower a floor the loaves are as many. Conditions: none; over the given program. -/
namespace Go.Mus
set_option maxRecDepth 100000
set_option maxHeartbeats 4000000
section
variable {x : Cx} {ρ : Env} {S : Frag → Prop} {o : Oper}
end
theorem find_rev {q : Int → Bool} {lo : Int} : ∀ (m : Nat), (∃ k : Nat, k < m ∧ q (lo + k) = true) → ∃ k : Nat, k < m ∧ (numsN lo m).reverse.find? q = some (lo + k) ∧ q (lo + k) = true ∧ ∀ j : Nat, k < j → j < m → q (lo + j) = false
 | 0, ⟨k, h, _⟩ => by omega
 | m + 1, ⟨k, h, hq⟩ => by
  rw [numsN, List.reverse_append]
  simp only [List.reverse_cons, List.reverse_nil, List.nil_append, List.singleton_append, List.find?_cons]
  cases hm : q (lo + m) with
  | true => exact ⟨m, by omega, rfl, hm, fun j h1 h2 => by omega⟩
  | false =>
   have hkm : k ≠ m := by rintro rfl; rw [hm] at hq; cases hq
   obtain ⟨k', h1, h2, h3, h4⟩ := find_rev (q := q) (lo := lo) m ⟨k, by omega, hq⟩
   refine ⟨k', by omega, h2, h3, fun j h5 h6 => ?_⟩
   by_cases e : j = m
   ·subst e; exact hm
   ·exact h4 j h5 (by omega)
theorem hi_zero {fs : List Fl} {ss : List St} {f : Nat} (hck : ckPlant fs ss = 0) (hf : f < fs.length) : flS fs f (hiF 0) = fs := by
 have hfl := fl_ok (hall_ck hck) (show (0 : Int) ≤ (f : Int) by omega) (show (f : Int) < fs.length by omega)
 have hx := flAt_some (show (0 : Int) ≤ (f : Int) by omega) (show (f : Int) < fs.length by omega)
 have e : hiF 0 (flAt fs f) = flAt fs f := by
  have : wadd (flAt fs f).hi 0 = (flAt fs f).hi := by rw [wadd_small (by omega) (by omega) (by omega) (by omega)]; omega
  simp only [hiF, this]
 rw [flS, e]
 apply List.ext_getElem?
 intro i
 rw [List.getElem?_set]
 split
 ·rename_i h
  rw [if_pos (by omega), ← h, hx]
 ·rfl
theorem slow_mono {fs : List Fl} {ss : List St} {f : Nat} {n m : Int} (hck : ckPlant fs ss = 0) (hf : f < fs.length) (h0 : 0 ≤ n) (hnm : n ≤ m) (hm : (flAt fs f).hi + m ≤ 6) : (bestF (flS fs f (hiF m)) ss).1 ≤ (bestF (flS fs f (hiF n)) ss).1 := by
 have hf1 : (0 : Int) ≤ (f : Int) ∧ (f : Int) < fs.length := by omega
 have hfl := fl_ok (hall_ck hck) hf1.1 hf1.2
 have e1 : wadd (flAt fs f).hi n = (flAt fs f).hi + n := wadd_small (by omega) (by omega) (by omega) (by omega)
 have e2 : wadd (flAt fs f).hi m = (flAt fs f).hi + m := wadd_small (by omega) (by omega) (by omega) (by omega)
 refine best_easier (hall_ck (ck_hi hck hf1.1 hf1.2 (by omega))) (hall_ck (ck_hi hck hf1.1 hf1.2 (by omega))) ⟨by simp [flS], fun g g0 g1 => ?_⟩
 simp only [flS, Int.toNat_natCast, flAt_set hf g0]
 split
 ·simp only [hiF, e1, e2]; omega
 ·exact ⟨Int.le_refl _, Int.le_refl _, Int.le_refl _⟩
theorem slow_spec {fs : List Fl} {ss : List St} {f : Nat} (hck : ckPlant fs ss = 0) (hf : f < fs.length) : 0 ≤ slowV fs ss f ∧ (flAt fs f).hi + slowV fs ss f ≤ 6 ∧ ∀ n : Int, 0 ≤ n → (flAt fs f).hi + n ≤ 6 → ((bestF (flS fs f (hiF n)) ss).1 = (bestF fs ss).1 ↔ n ≤ slowV fs ss f) ∧ (bestF (flS fs f (hiF n)) ss).1 ≤ (bestF fs ss).1 := by
 have hf1 : (0 : Int) ≤ (f : Int) ∧ (f : Int) < fs.length := by omega
 have hfl := fl_ok (hall_ck hck) hf1.1 hf1.2
 have hz := hi_zero hck hf
 obtain ⟨k, h1, h2, h3, h4⟩ := find_rev (q := slowQ fs ss f) (lo := 0) (6 - (flAt fs f).hi + 1 - 0).toNat ⟨0, by omega, by simp only [slowQ]; rw [show ((0 : Int) + ((0 : Nat) : Int)) = 0 from rfl, hz]; simp⟩
 have e : slowV fs ss f = k := by
  rw [slowV, nums, h2]; simp
 have hk : (bestF (flS fs f (hiF k)) ss).1 = (bestF fs ss).1 := by
  have := h3
  simp only [slowQ, decide_eq_true_eq, Int.zero_add] at this
  exact this
 rw [e]
 refine ⟨by omega, by omega, fun n h0 hn => ?_⟩
 have hle := slow_mono hck hf (Int.le_refl 0) h0 hn
 rw [hz] at hle
 refine ⟨⟨fun he => ?_, fun hnk => ?_⟩, hle⟩
 ·refine Decidable.byContradiction fun hc => ?_
  obtain ⟨j, rfl⟩ : ∃ j : Nat, n = j := ⟨n.toNat, by omega⟩
  have := h4 j (by omega) (by omega)
  simp only [slowQ, Int.zero_add, he] at this
  simp at this
 ·have := slow_mono hck hf h0 hnk (by omega)
  omega

end Go.Mus

/- Whether a strike is in the best plans. Conditions: none; over the given program. -/
namespace Go.Mus
set_option maxRecDepth 100000
set_option maxHeartbeats 4000000
end Go.Mus

/- Whether two plants have the same answers. Conditions: none; over the given program. -/
namespace Go.Mus
set_option maxRecDepth 100000
set_option maxHeartbeats 4000000
end Go.Mus

/- Plants whose plans answer to each other; floors with other numbers. Conditions: none. -/
namespace Go.Mus
theorem perm_of_mem {α : Type} [DecidableEq α] {l l' : List α} (h : l.Nodup) (h' : l'.Nodup) (hm : ∀ a, a ∈ l ↔ a ∈ l') : l.Perm l' := by
 rw [List.perm_iff_count]
 intro a
 by_cases ha : a ∈ l
 ·have h1 := List.count_pos_iff.2 ha
  have h2 := List.count_pos_iff.2 ((hm a).1 ha)
  have h3 := List.nodup_iff_count.1 h a
  have h4 := List.nodup_iff_count.1 h' a
  omega
 ·rw [List.count_eq_zero.2 ha, List.count_eq_zero.2 fun h => ha ((hm a).2 h)]

theorem valid_free {fs : List Fl} {ss : List St} {may : May} {p : List Be} (h : Valid fs ss may p) : Valid fs ss freeM p := by
 refine ⟨h.len, fun i hi => ?_, h.out⟩
 have := h.at_ i hi
 rw [mem_berths] at this ⊢
 rcases this with ⟨_, h1⟩ | ⟨_, h1⟩
 ·exact .inl ⟨rfl, h1⟩
 ·exact .inr ⟨rfl, h1⟩
/-- Each right plan of the one answers to one of the other. -/
structure Sym (fs fs' : List Fl) (ss ss' : List St) (σ τ : List Be → List Be) : Prop where
 hall : HallOK fs ss
 hall' : HallOK fs' ss'
 len : ss'.length = ss.length
 val : ∀ may p, Valid fs ss may p → Valid fs' ss' may (σ p)
 val' : ∀ may p, Valid fs' ss' may p → Valid fs ss may (τ p)
 rgt : ∀ p, Valid fs ss freeM p → inspF fs ss p = none → inspF fs' ss' (σ p) = none
 rgt' : ∀ p, Valid fs' ss' freeM p → inspF fs' ss' p = none → inspF fs ss (τ p) = none
 inv : ∀ p, Valid fs ss freeM p → τ (σ p) = p
 inv' : ∀ p, Valid fs' ss' freeM p → σ (τ p) = p
 lo : ∀ p, Valid fs ss freeM p → loavesF ss' (σ p) = loavesF ss p
 on : ∀ p i, Valid fs ss freeM p → (0 ≤ (beAt (σ p) i).fl ↔ 0 ≤ (beAt p i).fl)
section
variable {fs fs' : List Fl} {ss ss' : List St} {σ τ : List Be → List Be} (Y : Sym fs fs' ss ss' σ τ)
include Y
theorem Sym.lo' {p : List Be} (h : Valid fs' ss' freeM p) : loavesF ss (τ p) = loavesF ss' p := by
 rw [← Y.lo _ (Y.val' _ _ h), Y.inv' p h]
theorem Sym.top : (bestF fs' ss').1 = (bestF fs ss).1 := by
 have h1 := best_le Y.hall Y.hall' fun p hv hi => ⟨σ p, Y.val _ _ hv, Y.rgt p hv hi, by rw [Y.lo p hv]; exact Int.le_refl _⟩
 have h2 := best_le Y.hall' Y.hall fun p hv hi => ⟨τ p, Y.val' _ _ hv, Y.rgt' p hv hi, by rw [Y.lo' hv]; exact Int.le_refl _⟩
 omega
theorem Sym.all : (allF fs' ss' freeM).Perm ((allF fs ss freeM).map σ) := by
 refine perm_of_mem (allF_nodup Y.hall') ?_ fun p => ?_
 ·rw [List.Nodup, List.pairwise_map]
  refine (allF_nodup Y.hall).imp_of_mem fun {a b} ha hb hab e => hab ?_
  rw [← Y.inv a ((mem_allF Y.hall).1 ha).1, e, Y.inv b ((mem_allF Y.hall).1 hb).1]
 ·rw [mem_allF Y.hall', List.mem_map]
  constructor
  ·rintro ⟨h1, h2⟩
   exact ⟨τ p, (mem_allF Y.hall).2 ⟨Y.val' _ _ h1, Y.rgt' p h1 h2⟩, Y.inv' p h1⟩
  ·rintro ⟨q, hq, rfl⟩
   obtain ⟨h1, h2⟩ := (mem_allF Y.hall).1 hq
   exact ⟨Y.val _ _ h1, Y.rgt q h1 h2⟩
theorem Sym.best : (bestF fs' ss').2.Perm ((bestF fs ss).2.map σ) := by
 rw [(best_spec Y.hall').2.2, (best_spec Y.hall).2.2, Y.top]
 refine (Y.all.filter _).trans (.of_eq ?_)
 rw [List.filter_map]
 congr 1
 refine List.filter_congr fun p hp => ?_
 show decide (loavesF ss' (σ p) = _) = _
 rw [Y.lo p ((mem_allF Y.hall).1 hp).1]
theorem Sym.count : (bestF fs' ss').2.length = (bestF fs ss).2.length := by rw [Y.best.length_eq, List.length_map]
theorem Sym.someR (may : May) : someR fs' ss' may = Go.Mus.someR fs ss may := by
 refine Bool.eq_iff_iff.2 ?_
 rw [some_iff Y.hall', some_iff Y.hall]
 constructor
 ·rintro ⟨p, h1, h2⟩; exact ⟨τ p, Y.val' _ _ h1, Y.rgt' p (valid_free h1) h2⟩
 ·rintro ⟨p, h1, h2⟩; exact ⟨σ p, Y.val _ _ h1, Y.rgt p (valid_free h1) h2⟩
theorem Sym.late : lateF fs' ss' = lateF fs ss := by
 have key : ∀ m n, lateFrom fs' ss' m n = lateFrom fs ss m n := by
  intro m
  induction m with
  | zero => intro n; rfl
  | succ m ih => intro n; rw [lateFrom, lateFrom, Y.someR, ih]
 rw [lateF, lateF, Y.len, key]
end
/-! Floors with other numbers -/
end Go.Mus

/- Floors with other numbers. Conditions: none; over the given program. -/
namespace Go.Mus
set_option maxRecDepth 100000
set_option maxHeartbeats 4000000
theorem Part.setF {c : Array Value} {l : List Fl} {j : Nat} {x y : Fl} (h : Part c 0 (flat Fl.row l)) (hj : l[j]? = some x) : Part (putAll c (0 + j * 4) [I y.pl, I y.lo, I y.hi, I y.co]) 0 (flat Fl.row (l.set j y)) := by
 have h1 := h.setR (⟨y.pl, x.lo, x.hi, x.co⟩ : Fl) 0 (I y.pl) (by decide) hj rfl
 have e1 : (l.set j (⟨y.pl, x.lo, x.hi, x.co⟩ : Fl))[j]? = some ⟨y.pl, x.lo, x.hi, x.co⟩ := List.getElem?_set_self (lt_of_get hj)
 have h2 := h1.setR (⟨y.pl, y.lo, x.hi, x.co⟩ : Fl) 1 (I y.lo) (by decide) e1 rfl
 rw [List.set_set] at h2
 have e2 : (l.set j (⟨y.pl, y.lo, x.hi, x.co⟩ : Fl))[j]? = some ⟨y.pl, y.lo, x.hi, x.co⟩ := List.getElem?_set_self (lt_of_get hj)
 have h3 := h2.setR (⟨y.pl, y.lo, y.hi, x.co⟩ : Fl) 2 (I y.hi) (by decide) e2 rfl
 rw [List.set_set] at h3
 have e3 : (l.set j (⟨y.pl, y.lo, y.hi, x.co⟩ : Fl))[j]? = some ⟨y.pl, y.lo, y.hi, x.co⟩ := List.getElem?_set_self (lt_of_get hj)
 have h4 := h3.setR y 3 (I y.co) (by decide) e3 rfl
 rw [List.set_set] at h4
 simpa [putAll, Nat.add_assoc] using h4

end Go.Mus

/- Plans out of a hat; copies of plans. Conditions: none; over the given program. -/
namespace Go.Mus
set_option maxRecDepth 100000
set_option maxHeartbeats 4000000
theorem ckBerths_app {nf : Int} : ∀ {ss : List St} {l : List Be} {s : St} {b : Be}, ckBerths nf (ss.take l.length) l = 0 → ss[l.length]? = some s → ckBerth nf s b = 0 → ckBerths nf (ss.take (l.length + 1)) (l ++ [b]) = 0
 | [], l, s, b, _, h, _ => by simp at h
 | t :: ss, [], s, b, _, h, hb => by
  simp at h; subst h
  simp [ckBerths, hb]
 | t :: ss, c :: l, s, b, h, hs, hb => by
  simp only [List.length_cons, List.take_succ_cons, List.cons_append, ckBerths] at h ⊢
  split at h
  ·rename_i h1
   rw [if_pos h1]
   exact ckBerths_app h (by simpa using hs) hb
  ·rename_i h1; exact absurd h h1
theorem ckBerth_ok {nf : Int} {s : St} {b : Be} (hnf : 1 ≤ nf) (h : b = ⟨-1, 0⟩ ∨ 0 ≤ b.fl ∧ b.fl < nf ∧ s.day ≤ b.day ∧ b.day ≤ s.day + s.wa) : ckBerth nf s b = 0 := by
 unfold ckBerth
 rcases h with rfl | h
 ·rw [if_neg (by unfold outs; simp only; omega), if_neg (by simp), if_neg (by simp only; omega)]
 ·rw [if_neg (by unfold outs; omega), if_neg (by omega), if_neg (by unfold outs; omega)]

end Go.Mus

/- Small plants and plans out of a hat; plans a day later. Conditions: none; over the given program. -/
namespace Go.Mus
set_option maxRecDepth 100000
set_option maxHeartbeats 4000000
end Go.Mus

/- All strikes a day later. Conditions: none. -/
namespace Go.Mus
theorem fm_congr {α β : Type} {f g : α → List β} : ∀ {l : List α}, (∀ a ∈ l, f a = g a) → l.flatMap f = l.flatMap g
 | [], _ => rfl
 | a :: l, h => by
  rw [List.flatMap_cons, List.flatMap_cons, h a (List.mem_cons_self ..), fm_congr fun b hb => h b (List.mem_cons_of_mem _ hb)]
section
variable {fs : List Fl} {ss : List St}
/-! The searches -/
end
end Go.Mus

/- All strikes a day later: the same answers, a day later. Conditions: none. -/
namespace Go.Mus
section
variable {fs : List Fl} {ss : List St}
variable (hck : ckPlant fs ss = 0) (h11 : ∀ s ∈ ss, s.day ≤ 11)
include hck h11
end
/-! A plan a day later -/
end Go.Mus

/- Operations that come up in any order and only add to what is owned. Conditions: none; over any program. -/
namespace Go.Mus
/-- What is said of one that adds: its number, its slot, what it bears with what it adds. -/
abbrev Spc := Nat × Nat × (Value → Frag → Prop)
def waits (ops : Array Oper) : Nat → Nat → Nat → Bool
 | 0, _, _ => false
 | n + 1, k, b => match ops[k]? with | some o => o.after.any fun e => bindsTo e && (Nat.beq e.on b || waits ops n e.on b) | none => false
structure BagI (ops : Array Oper) (listed : Nat) (B : List Nat) : Prop where
 cl : Closed ops listed
 low : ∀ k o, ops[k]? = some o → ∀ e ∈ o.after, bindsTo e = true → e.on < k
 or : ∀ k, k < ops.size → listed.testBit k = false → k ∈ B ∨ ∀ b ∈ B, waits ops 6 k b = true
 un : ∀ b ∈ B, b < ops.size ∧ listed.testBit b = false
 nd : B.Nodup

theorem BagI.some {ops : Array Oper} {listed : Nat} {B : List Nat} (h : BagI ops listed B) {b : Nat} (hb : b ∈ B) : rdys ops listed ≠ [] := by
 have key : ∀ (n k : Nat), k < n → k < ops.size → listed.testBit k = false → ∃ i, rdy ops listed i = true := by
  intro n
  induction n with
  | zero => intro k hk; omega
  | succ n ih =>
   intro k hk hlt hl
   by_cases hr : rdy ops listed k = true
   ·exact ⟨k, hr⟩
   ·simp only [rdy, Array.getElem?_eq_getElem hlt, hl, Bool.not_false, Bool.true_and, Array.all_eq_true_iff_forall_mem, Bool.or_eq_true, Bool.not_eq_true'] at hr
    have : ∃ e ∈ (ops[k]).after, bindsTo e = true ∧ listed.testBit e.on = false := by
     refine Classical.byContradiction fun hn => hr fun e he => ?_
     cases hbe : bindsTo e with
     | false => exact .inl rfl
     | true =>
      cases ht : listed.testBit e.on with
      | true => exact .inr rfl
      | false => exact absurd ⟨e, he, hbe, ht⟩ hn
    obtain ⟨e, he, h1, h2⟩ := this
    have := h.low k _ (Array.getElem?_eq_getElem hlt) e he h1
    exact ih e.on (by omega) (by omega) h2
 obtain ⟨i, hi⟩ := key (b + 1) b (by omega) (h.un b hb).1 (h.un b hb).2
 intro e
 have := mem_rdys.2 hi
 rw [e] at this
 cases this

theorem BagI.step {ops : Array Oper} {listed j : Nat} {B1 B2 : List Nat} (h : BagI ops listed (B1 ++ j :: B2)) (hj : rdy ops listed j = true) : BagI ops (listed ||| 2 ^ j) (B1 ++ B2) := by
 have hnd : j ∉ B1 ++ B2 := by
  have := (List.perm_middle (a := j) (l₁ := B1) (l₂ := B2)).nodup_iff.1 h.nd
  exact (List.nodup_cons.1 this).1
 refine ⟨h.cl.step hj, h.low, fun k hk hl => ?_, fun b hb => ?_, ?_⟩
 ·rw [testBit_or, Bool.or_eq_false_iff] at hl
  have hne : j ≠ k := by simpa using hl.2
  rcases h.or k hk hl.1 with h' | h'
  ·left
   rcases List.mem_append.1 h' with h' | h'
   ·exact List.mem_append_left _ h'
   ·rcases List.mem_cons.1 h' with h' | h'
    ·exact absurd h'.symm hne
    ·exact List.mem_append_right _ h'
  ·right
   intro b hb
   refine h' b ?_
   rcases List.mem_append.1 hb with hb | hb
   ·exact List.mem_append_left _ hb
   ·exact List.mem_append_right _ (List.mem_cons_of_mem _ hb)
 ·have hb' : b ∈ B1 ++ j :: B2 := by
   rcases List.mem_append.1 hb with hb | hb
   ·exact List.mem_append_left _ hb
   ·exact List.mem_append_right _ (List.mem_cons_of_mem _ hb)
  refine ⟨(h.un b hb').1, ?_⟩
  rw [testBit_or, (h.un b hb').2, Bool.false_or, decide_eq_false_iff_not]
  rintro rfl
  exact hnd hb
 ·have := (List.perm_middle (a := j) (l₁ := B1) (l₂ := B2)).nodup_iff.1 h.nd
  exact (List.nodup_cons.1 this).2

/-- One that adds. -/
def Adds (x : Cx) (ops : Array Oper) (ε : Ev) (s : Spc) : Prop :=
 ∃ o, ops[s.1]? = some o ∧ o.dst = some s.2.1 ∧ slotOK o.dst x.n = true ∧ (∀ c, o.op ≠ .defer c) ∧ o.guard = none ∧ ∀ e, Cons ε e → ∀ F, Run1 x o e F fun v F' => ∃ A F'', F''.Perm F' ∧ s.2.2 v A ∧ F'' = A ++ F

theorem Cons.back {ε : Ev} {d : Nat} {v : Value} {e : Operand → Value} (h : Cons (upd ε (some d) v) e) (hd : ε d = none) : Cons ε e := fun y u hy => h y u (by
 cases y with
 | tmp t =>
  simp only [evε, upd] at hy ⊢
  cases hb : Nat.beq t d with
  | true => rw [Nat.eq_of_beq_eq_true hb, hd] at hy; cases hy
  | false => exact hy
 | _ => exact hy)

section rules
variable {x : Cx} {Q : Post} {ρ : Env} {ds : List Deferred} {F : Frag} {ops : Array Oper} {L : Frag} {fuel listed : Nat}
theorem Adds.of {i d : Nat} {P : Value → Frag → Prop} {op : Op} {ty : TypeId} {pos : String} {aft : Array Edge} (ho : nthO ops.toList i = some ⟨some d, op, ty, pos, aft, none⟩) (hd : Nat.blt d x.n = true) (hn : noDefer op = true) (H : ∀ F, Ef x ρ ⟨some d, op, ty, pos, aft, none⟩ F fun v F' => ∃ A, P v A ∧ F' = A ++ F) : Adds x ops (look ρ) (i, d, P) :=
 ⟨_, nthO_get ho, rfl, hd, noDefer_spec hn, rfl, fun e he F => (H F e fun y v hy => he y v (by rw [ev_look]; exact hy)).mono fun v F' ⟨F'', p, A, hv, e⟩ => ⟨A, F'', p, hv, e⟩⟩
theorem Adds.call {i d f : Nat} {P : Value → Frag → Prop} {args : List Operand} {ts : Array TypeId} {vs : List Value} {ty : TypeId} {pos : String} {aft : Array Edge} (H : ∀ h', Ext x.h h' → Fnc x.P x.main f vs.toArray h' [] P) (ho : nthO ops.toList i = some ⟨some d, .call ⟨.value (.func f), args.toArray, ts⟩, ty, pos, aft, none⟩ := by rfl) [FB x.P f] (hv : evs ρ args = some vs := by rfl) (hd : Nat.blt d x.n = true := by rfl) : Adds x ops (look ρ) (i, d, P) :=
 .of ho hd rfl fun F => e_call0 rfl hv (fun h' hE _ => H h' hE) fun v A' hv => ⟨A', hv, rfl⟩
def NewP (t : TypeId) (zc : Array Value) (v : Value) (A : Frag) : Prop := ∃ β, v = .pointer (some ⟨β, 0, none⟩) ∧ A = [(β, .cells zc t (0, 0))]
theorem Adds.new {i d t s b : Nat} {z : Value} {zc : Array Value} {ty : TypeId} {pos : String} {aft : Array Edge} (ho : nthO ops.toList i = some ⟨some d, .alloc t, ty, pos, aft, none⟩ := by rfl) [TI x.P t s b z zc] (hd : Nat.blt d x.n = true := by rfl) : Adds x ops (look ρ) (i, d, NewP t zc) :=
 .of ho hd rfl fun F => e_alloc rfl fun β _ _ => ⟨_, ⟨β, rfl, rfl⟩, rfl⟩
end rules
end Go.Mus
namespace Go.Mus
section
variable {α : Type} {row : α → List Value} {w : Nat} [rw' : Rw row w]
section
variable {x : Cx} {ρ : Env} {F : Frag} {o : Oper} {R : Value → Frag → Prop}
end
end
section
variable {x : Cx} {S : Frag → Prop} {ρ : Env} {o : Oper}
end
end Go.Mus
namespace Go.Mus
section
variable {x : Cx} {Q : Post} {ρ : Env} {ds : List Deferred} {ops : Array Oper} {G : Frag} {y₁ y₂ y₃ y₄ y₅ y₆ : Nat × Obj} {id n : Nat}
theorem W.drawP4 (hn : ops.size = n) (H : Any x ops [y₁, y₂, y₃, y₄] n 0 Q ρ ds (y₁ :: y₂ :: y₃ :: y₄ :: G)) [MO x.P] : W x (.region id ops true) Q ρ ds (y₁ :: y₂ :: y₃ :: y₄ :: G) := W.drawL _ hn H
end
/-- The same, in another order. -/
theorem perm_cnt {α : Type} {l l' : List α} (h : ∀ [DecidableEq α] (a : α), l.count a = l'.count a) : l.Perm l' := by
 classical
 exact List.perm_iff_count.2 fun a => h a
end Go.Mus
namespace Go.Mus
/-- A slice of one's own is put by, wherever it stands. -/
theorem freezeAt {x : Cx} {c : Code} {Q : Post} {ρ : Env} {ds : List Deferred} {A F : Frag} {U : Frag → Frag} {α : Type} {row : α → List Value} {w : Nat} [Rw row w] {E : TypeId} {v : Value} {l : List α} (hs : Os E row v l A) (hg : Seg A F U)
  (H : ∀ h', Ext x.h h' → Sl h' row v l → Zs h' v → W { x with h := h' } c Q ρ ds (U [])) : W x c Q ρ ds F :=
 W.perm hg.perm.1 (freezeOs hs H)
theorem Sb.app1 {A G : Frag} {y : Nat × Obj} (h : Sb [y] A) : Sb (y :: G) (A ++ G) := h.app .refl
theorem Os.open {α : Type} {row : α → List Value} {w : Nat} [Rw row w] {E : TypeId} {a : Option Addr} {n cap : Nat} {l : List α} {A : Frag} (h : Os E row (.slice a n cap) l A) (hne : 0 < l.length) : ∃ β c J, a = some ⟨β, 0, none⟩ ∧ A = (β, .cells c E (0, 0)) :: J ∧ n = l.length ∧ c.size = cap * w ∧ l.length ≤ cap ∧ Part c 0 (flat row l) ∧ Shut J := by
 rcases h with ⟨rfl, _, _⟩ | ⟨β, c, cp, J, hv, rfl, h1, h2, h3, h4⟩
 ·simp at hne
 ·injection hv with e1 e2 e3
  subst e1 e2 e3
  exact ⟨β, c, J, rfl, rfl, rfl, h1, h2, h3, h4⟩
end Go.Mus

/- Plants a little changed. Conditions: none. -/
namespace Go.Mus
end Go.Mus

/- What shows in a heat, and what is wrong. Conditions: none. -/
namespace Go.Mus
set_option linter.unusedSectionVars false
def spanOf (fs : List Fl) (b : Be) : Int × Int := if 0 ≤ b.fl then ((flAt fs b.fl).lo, (flAt fs b.fl).hi) else (0, 0)
def stepH (fs : List Fl) (out : List (List Int)) (b : Be) : List (List Int) := out.flatMap fun h => (nums (spanOf fs b).1 (spanOf fs b).2).map fun n => h ++ [n]
/-- All heats of a plan. -/
def heatsF (fs : List Fl) (l : List Be) : List (List Int) := l.foldl (stepH fs) [[]]
def IsHeat (fs : List Fl) (l : List Be) (h : List Int) : Prop := h.length = l.length ∧ ∀ i b, l[i]? = some b → (spanOf fs b).1 ≤ h.getD i 0 ∧ h.getD i 0 ≤ (spanOf fs b).2
theorem mem_nums {a lo hi : Int} : a ∈ nums lo hi ↔ lo ≤ a ∧ a ≤ hi := by
 unfold nums; rw [mem_numsN]; omega
theorem getD_left {g : List Int} {n : Int} {i : Nat} (h : i < g.length) : (g ++ [n]).getD i 0 = g.getD i 0 := by simp only [List.getD]; rw [List.getElem?_append_left h]
theorem getD_end {g : List Int} {n : Int} : (g ++ [n]).getD g.length 0 = n := by simp [List.getD]
theorem isHeat_snoc {fs : List Fl} {l : List Be} {b : Be} {h : List Int} : IsHeat fs (l ++ [b]) h ↔ ∃ g n, h = g ++ [n] ∧ IsHeat fs l g ∧ (spanOf fs b).1 ≤ n ∧ n ≤ (spanOf fs b).2 := by
 constructor
 ·rintro ⟨h1, h2⟩
  have hne : h ≠ [] := by rintro rfl; simp at h1
  have e : h = h.dropLast ++ [h.getLast hne] := (List.dropLast_concat_getLast hne).symm
  have hl : h.dropLast.length = l.length := by simp at h1 ⊢; omega
  generalize h.dropLast = g at e hl
  generalize h.getLast hne = n at e
  subst e
  refine ⟨g, n, rfl, ⟨hl, fun i c hc => ?_⟩, ?_⟩
  ·have hi := lt_of_get hc
   have := h2 i c (by rw [List.getElem?_append_left hi]; exact hc)
   rwa [getD_left (by omega)] at this
  ·have := h2 l.length b (by simp)
   rwa [← hl, getD_end] at this
 ·rintro ⟨g, n, rfl, ⟨h1, h2⟩, h3⟩
  refine ⟨by simp [h1], fun i c hc => ?_⟩
  rcases Nat.lt_or_ge i l.length with hi | hi
  ·rw [List.getElem?_append_left hi] at hc
   rw [getD_left (by omega)]
   exact h2 i c hc
  ·have hil := lt_of_get hc
   simp at hil
   have e : i = l.length := by omega
   subst e
   rw [← h1, getD_end]
   have : c = b := by simpa using hc.symm
   subst this
   exact h3
theorem mem_heatsK {fs : List Fl} {l : List Be} : ∀ (k : Nat), k ≤ l.length → ∀ h, h ∈ heatsF fs (l.take k) ↔ IsHeat fs (l.take k) h
 | 0, _, h => by
  simp only [List.take_zero, heatsF, List.foldl_nil, List.mem_singleton]
  constructor
  ·rintro rfl; exact ⟨rfl, fun i b hb => by simp at hb⟩
  ·rintro ⟨h1, -⟩; exact List.eq_nil_of_length_eq_zero h1
 | k + 1, hk, h => by
  obtain ⟨b, hb, -⟩ := has (show k < l.length by omega)
  have e : l.take (k + 1) = l.take k ++ [b] := by rw [List.take_add_one, hb]; rfl
  rw [e, isHeat_snoc]
  have e2 : heatsF fs (l.take k ++ [b]) = stepH fs (heatsF fs (l.take k)) b := by simp [heatsF, List.foldl_append]
  rw [e2, stepH, List.mem_flatMap]
  constructor
  ·rintro ⟨g, hg, hm⟩
   obtain ⟨n, hn, rfl⟩ := List.mem_map.1 hm
   exact ⟨g, n, rfl, (mem_heatsK k (by omega) g).1 hg, mem_nums.1 hn⟩
  ·rintro ⟨g, n, rfl, hg, hn⟩
   exact ⟨g, (mem_heatsK k (by omega) g).2 hg, List.mem_map.2 ⟨n, mem_nums.2 hn, rfl⟩⟩
theorem mem_heats {fs : List Fl} {l : List Be} {h : List Int} : h ∈ heatsF fs l ↔ IsHeat fs l h := by
 have := mem_heatsK (fs := fs) (l := l) l.length (Nat.le_refl _) h
 rwa [List.take_length] at this

/-! Days on which something shows -/
def heG (ss : List St) (l : List Be) (h : List Int) (f d : Int) (i : Nat) : Int := if (beAt l i).fl = f ∧ (beAt l i).day ≤ d ∧ d < (beAt l i).day + h.getD i 0 then (stAt ss i).co else 0
def conesF (ss : List St) (l : List Be) (h : List Int) (f d : Int) : Int := sumK (heG ss l h f d) l.length
def Btw (l : List Be) (f d : Int) : Prop := (∃ i, i < l.length ∧ (beAt l i).fl = f ∧ (beAt l i).day < d) ∧ ∃ i, i < l.length ∧ (beAt l i).fl = f ∧ d < (beAt l i).day
def Idl (ss : List St) (l : List Be) (h : List Int) (f d : Int) : Prop := conesF ss l h f d = 0 ∧ Btw l f d
open Classical in
noncomputable def idleN (ss : List St) (l : List Be) (h : List Int) (f : Int) : Nat → Int
 | 0 => 0
 | d + 1 => if Idl ss l h f d then idleN ss l h f d + 1 else 0
def Shw (fs : List Fl) (ss : List St) (l : List Be) (h : List Int) (f d : Nat) : Prop := d < 22 ∧ f < fs.length ∧ ((flAt fs f).pl < conesF ss l h f d ∨ (flAt fs f).co < idleN ss l h f (d + 1))

theorem idle_nn {ss : List St} {l : List Be} {h : List Int} {f : Int} : ∀ d, 0 ≤ idleN ss l h f d ∧ idleN ss l h f d ≤ d
 | 0 => ⟨Int.le_refl _, Int.le_refl _⟩
 | d + 1 => by
  have := idle_nn (ss := ss) (l := l) (h := h) (f := f) d
  rw [idleN]
  split <;> omega
theorem idle_run {ss : List St} {l : List Be} {h : List Int} {f : Int} : ∀ (d k : Nat), (k : Int) < idleN ss l h f (d + 1) → k ≤ d ∧ Idl ss l h f ((d - k : Nat) : Int)
 | 0, k, hk => by
  rw [idleN] at hk
  split at hk
  ·rename_i h1
   rw [idleN] at hk
   have : k = 0 := by omega
   subst this
   exact ⟨Nat.le_refl _, h1⟩
  ·omega
 | d + 1, k, hk => by
  rw [idleN] at hk
  split at hk
  ·rename_i h1
   rcases k with _ | k
   ·exact ⟨by omega, h1⟩
   ·have := idle_run (ss := ss) (l := l) (h := h) (f := f) d k (by omega)
    refine ⟨by omega, ?_⟩
    rw [Nat.add_sub_add_right]; exact this.2
  ·omega
theorem idle_ge {ss : List St} {l : List Be} {h : List Int} {f : Int} (s : Nat) : ∀ (m : Nat), (∀ d : Nat, s ≤ d → d < s + m → Idl ss l h f d) → (m : Int) ≤ idleN ss l h f (s + m)
 | 0, _ => (idle_nn _).1
 | m + 1, H => by
  have h1 := idle_ge s m fun d a b => H d a (by omega)
  rw [← Nat.add_assoc, idleN, if_pos (H (s + m) (by omega) (by omega))]
  omega

theorem be_pad {l : List Be} {i : Nat} : beAt (padB l) i = beAt l i := by
 simp only [beAt, padB, List.getD]
 rcases Nat.lt_or_ge i l.length with h | h
 ·rw [List.getElem?_append_left h]
 ·rw [List.getElem?_append_right h, List.getElem?_eq_none (l := l) h]
  cases hx : (List.replicate (4 - l.length) bnone)[i - l.length]? with
  | none => rfl
  | some b => rw [List.eq_of_mem_replicate (List.mem_of_getElem? hx)]; rfl
theorem be_out {l : List Be} {i : Nat} (h : l.length ≤ i) : beAt l i = bnone := by simp [beAt, List.getD, List.getElem?_eq_none h]
theorem sumK_ext {g : Nat → Int} {k : Nat} : ∀ {m : Nat}, k ≤ m → (∀ i, k ≤ i → i < m → g i = 0) → sumK g m = sumK g k
 | 0, h, _ => by rw [Nat.le_zero.1 h]
 | m + 1, h, H => by
  rcases Nat.lt_or_ge k (m + 1) with h' | h'
  ·rw [sumK, sumK_ext (by omega) fun i a b => H i a (by omega), H m (by omega) (by omega), Int.add_zero]
  ·rw [Nat.le_antisymm h h']
theorem sumK_zero {g : Nat → Int} : ∀ {k : Nat}, (∀ i, i < k → 0 ≤ g i) → sumK g k = 0 → ∀ i, i < k → g i = 0
 | 0, _, _, i, hi => by omega
 | k + 1, h, he, i, hi => by
  have h1 := sumK_nn (g := g) (k := k) fun i hi => h i (by omega)
  have h2 := h k (by omega)
  rw [sumK] at he
  rcases (by omega : i < k ∨ i = k) with h' | rfl
  ·exact sumK_zero (fun i hi => h i (by omega)) (by omega) i h'
  ·omega

section
variable {fs : List Fl} {ss : List St} {l : List Be} (hall : HallOK fs ss) (hp : PlanOf fs ss (padB l)) (hn : l.length = ss.length)
include hall hp hn
theorem on_iff {f a : Int} (h0 : 0 ≤ f) : OnDay (padB l) f a ↔ ∃ i, i < l.length ∧ (beAt l i).fl = f ∧ (beAt l i).day = a := by
 have h4 := hall.ns
 constructor
 ·rintro ⟨i, hi, h1, h2⟩
  rw [be_pad] at h1 h2
  refine ⟨i, ?_, h1, h2⟩
  rcases Nat.lt_or_ge i l.length with h | h
  ·exact h
  ·rw [be_out h] at h1; simp [bnone] at h1; omega
 ·rintro ⟨i, hi, h1, h2⟩
  exact ⟨i, by omega, by rw [be_pad]; exact h1, by rw [be_pad]; exact h2⟩
theorem hi_sum {f d : Int} (h0 : 0 ≤ f) : hiAt fs ss (padB l) f d = sumK (hiG fs ss l f d) l.length := by
 have h4 := hall.ns
 have e : hiAt fs ss (padB l) f d = sumK (hiG fs ss l f d) 4 := sumK_congr fun i _ => by simp only [hiG, be_pad]
 rw [e]
 refine sumK_ext (by omega) fun i hi _ => ?_
 simp only [hiG, be_out hi, bnone]
 rw [if_neg (by omega)]
theorem be_some {i : Nat} (hi : i < l.length) : l[i]? = some (beAt l i) := by simp [beAt, List.getD, List.getElem?_eq_getElem hi]
theorem heat_at {h : List Int} (hh : IsHeat fs l h) {i : Nat} {f : Int} (hi : i < l.length) (h0 : 0 ≤ f) (hf : (beAt l i).fl = f) : (flAt fs f).lo ≤ h.getD i 0 ∧ h.getD i 0 ≤ (flAt fs f).hi := by
 have := hh.2 i _ (be_some hall hp hn hi)
 simp only [spanOf, hf, if_pos h0] at this
 exact this
theorem cones_le {h : List Int} (hh : IsHeat fs l h) {f d : Int} (h0 : 0 ≤ f) : conesF ss l h f d ≤ hiAt fs ss (padB l) f d := by
 rw [hi_sum hall hp hn h0]
 refine sumK_le fun i hi => ?_
 have hc := (co_ok hall i).1
 simp only [heG, hiG]
 by_cases c : (beAt l i).fl = f ∧ (beAt l i).day ≤ d ∧ d < (beAt l i).day + h.getD i 0
 ·have := heat_at hall hp hn hh hi h0 c.1
  rw [if_pos c, if_pos (by omega)]; exact Int.le_refl _
 ·rw [if_neg c]; split <;> omega
theorem isHeat_map {g : Be → Int} (hg : ∀ b, b ∈ l → (spanOf fs b).1 ≤ g b ∧ g b ≤ (spanOf fs b).2) : IsHeat fs l (l.map g) := by
 refine ⟨by simp, fun i b hb => ?_⟩
 have e : (l.map g).getD i 0 = g b := by simp [List.getD, hb]
 rw [e]
 exact hg b (List.mem_of_getElem? hb)
theorem span_ok {b : Be} (hb : b ∈ l) : (spanOf fs b).1 ≤ (spanOf fs b).2 := by
 unfold spanOf
 split
 ·rename_i h0
  have := fl_ok hall h0 (hp.fl b (List.mem_append_left _ hb))
  exact this.2.2.2.1
 ·exact Int.le_refl _
theorem map_at {g : Be → Int} {i : Nat} (hi : i < l.length) : (l.map g).getD i 0 = g (beAt l i) := by simp [List.getD, be_some hall hp hn hi]
theorem cones_nn {h : List Int} {f d : Int} : ∀ i, i < l.length → 0 ≤ heG ss l h f d i := fun i _ => by
 have := (co_ok hall i).1
 simp only [heG]; split <;> omega

/-- What shows in a heat, is wrong no later. -/
theorem shw_bad {h : List Int} (hh : IsHeat fs l h) {f d : Nat} (hs : Shw fs ss l h f d) : ∃ n : Int, n ≤ d ∧ Bad fs ss (padB l) f n := by
 obtain ⟨hd, hf, hs⟩ := hs
 have h0 : (0 : Int) ≤ f := by omega
 have hfo := fl_ok hall h0 (by omega : (f : Int) < fs.length)
 rcases hs with hs | hs
 ·exact ⟨d, Int.le_refl _, .inl ⟨by omega, by omega, by have := cones_le hall hp hn hh (f := f) (d := d) h0; omega⟩⟩
 ·have hrun : ∀ k : Nat, (k : Int) ≤ (flAt fs f).co → k ≤ d ∧ Idl ss l h f ((d - k : Nat) : Int) := fun k hk => idle_run d k (by omega)
  obtain ⟨c, hc⟩ : ∃ c : Nat, (flAt fs f).co = c := ⟨(flAt fs f).co.toNat, by omega⟩
  obtain ⟨hcd, hE⟩ := hrun c (by omega)
  obtain ⟨hE0, ⟨i0, hi0, hf0, hd0⟩, -⟩ := hE
  obtain ⟨-, -, -, ⟨i1, hi1, hf1, hd1⟩⟩ := (hrun 0 (by omega))
  have hno : ∀ i, i < l.length → (beAt l i).fl = f → ((d - c : Nat) : Int) ≤ (beAt l i).day → (beAt l i).day ≤ d → False := by
   intro i hi hfi ha hb
   obtain ⟨-, hz, -⟩ := hrun (d - (beAt l i).day.toNat) (by omega)
   have hz' := sumK_zero (cones_nn hall hp hn) hz i hi
   have hhe := heat_at hall hp hn hh hi h0 hfi
   have hco : 1 ≤ (stAt ss i).co := by
    obtain ⟨s, hs, -⟩ := has (show i < ss.length by omega)
    have e : stAt ss i = s := by simp [stAt, List.getD, hs]
    rw [e]; have := hall.st s (List.mem_of_getElem? hs); omega
   simp only [heG] at hz'
   rw [if_pos ⟨hfi, by omega, by omega⟩] at hz'
   omega
  have hmax : ∀ (m : Nat) (a : Int), OnDay (padB l) f a → a < ((d - c : Nat) : Int) → ((d - c : Nat) : Int) - a ≤ m → ∃ a', OnDay (padB l) f a' ∧ a' < ((d - c : Nat) : Int) ∧ ∀ b, OnDay (padB l) f b → b < ((d - c : Nat) : Int) → b ≤ a' := by
   intro m
   induction m with
   | zero => intro a _ h1 h2; omega
   | succ m ih =>
    intro a ha h1 h2
    by_cases hx : ∃ b, OnDay (padB l) f b ∧ b < ((d - c : Nat) : Int) ∧ a < b
    ·obtain ⟨b, hb, hb1, hb2⟩ := hx
     exact ih b hb hb1 (by omega)
    ·refine ⟨a, ha, h1, fun b hb hb1 => ?_⟩
     rcases Int.lt_or_le a b with h' | h'
     ·exact absurd ⟨b, hb, hb1, h'⟩ hx
     ·exact h'
  have hon0 := (on_iff hall hp hn h0).2 ⟨i0, hi0, hf0, rfl⟩
  obtain ⟨a, ha, ha1, ha2⟩ := hmax (((d - c : Nat) : Int) - (beAt l i0).day).toNat _ hon0 hd0 (by omega)
  obtain ⟨i, hi, hfi, hdi⟩ := (on_iff hall hp hn h0).1 ha
  have hz' := sumK_zero (cones_nn hall hp hn) hE0 i hi
  have hhe := heat_at hall hp hn hh hi h0 hfi
  have hco : 1 ≤ (stAt ss i).co := by
   obtain ⟨s, hs, -⟩ := has (show i < ss.length by omega)
   have e : stAt ss i = s := by simp [stAt, List.getD, hs]
   rw [e]; have := hall.st s (List.mem_of_getElem? hs); omega
  have hle : a + h.getD i 0 ≤ ((d - c : Nat) : Int) := by
   rcases Int.lt_or_le ((d - c : Nat) : Int) (a + h.getD i 0) with h' | h'
   ·simp only [heG] at hz'
    rw [if_pos ⟨hfi, by omega, by omega⟩] at hz'
    omega
   ·exact h'
  refine ⟨a + (flAt fs f).lo + (flAt fs f).co, by omega, .inr ⟨a, ha, rfl, ⟨_, (on_iff hall hp hn h0).2 ⟨i1, hi1, hf1, rfl⟩, by omega⟩, fun b hb => ?_⟩⟩
  rcases Int.lt_or_le b ((d - c : Nat) : Int) with h' | h'
  ·exact .inl (ha2 b hb h')
  ·obtain ⟨j, hj, hfj, hdj⟩ := (on_iff hall hp hn h0).1 hb
   rcases Int.lt_or_le (d : Int) b with h'' | h''
   ·exact .inr (by omega)
   ·exact absurd (hno j hj hfj (by omega) (by omega)) id

/-- What is wrong, shows in some heat. -/
theorem bad_shw {f : Nat} {n : Int} (hf : f < fs.length) (hb : Bad fs ss (padB l) f n) : 0 ≤ n ∧ ∃ h, IsHeat fs l h ∧ Shw fs ss l h f n.toNat := by
 have h0 : (0 : Int) ≤ f := by omega
 have hfo := fl_ok hall h0 (by omega : (f : Int) < fs.length)
 rcases hb with ⟨b0, b1, b2⟩ | ⟨a, ha, rfl, ⟨b, hb, hlt⟩, hno⟩
 ·refine ⟨b0, l.map (fun b => (spanOf fs b).2), isHeat_map hall hp hn fun b hb => ⟨span_ok hall hp hn hb, Int.le_refl _⟩, by omega, hf, .inl ?_⟩
  rw [hi_sum hall hp hn h0] at b2
  have e : ((n.toNat : Nat) : Int) = n := by omega
  rw [e]
  have : conesF ss l (l.map fun b => (spanOf fs b).2) f n = sumK (hiG fs ss l f n) l.length := sumK_congr fun i hi => by
   simp only [heG, hiG, map_at hall hp hn hi, spanOf]
   by_cases c : (beAt l i).fl = f
   ·rw [c, if_pos h0]
   ·rw [if_neg (fun x => c x.1), if_neg (fun x => c x.1)]
  rw [this]; exact b2
 ·have ha' := onDay_ge hp.ok ha
  have hb' := onDay_ge hp.ok hb
  obtain ⟨i, hi, hfi, hdi⟩ := (on_iff hall hp hn h0).1 ha
  obtain ⟨j, hj, hfj, hdj⟩ := (on_iff hall hp hn h0).1 hb
  have hk := idle_ge (ss := ss) (l := l) (h := l.map fun b => (spanOf fs b).1) (f := f) (a + (flAt fs f).lo).toNat ((flAt fs f).co.toNat + 1) (fun d hd1 hd2 => by
   refine ⟨?_, ⟨i, hi, hfi, by omega⟩, ⟨j, hj, hfj, by omega⟩⟩
   have : conesF ss l (l.map fun b => (spanOf fs b).1) f d = sumK (fun _ => 0) l.length := sumK_congr fun k hk => by
    simp only [heG, map_at hall hp hn hk]
    refine if_neg fun hx => ?_
    obtain ⟨x1, x2, x3⟩ := hx
    simp only [spanOf, x1, if_pos h0] at x3
    rcases hno _ ((on_iff hall hp hn h0).2 ⟨k, hk, x1, rfl⟩) with h' | h' <;> omega
   rw [this, sumK_0])
  refine ⟨by omega, _, isHeat_map hall hp hn (g := fun b => (spanOf fs b).1) fun b hb => ⟨Int.le_refl _, span_ok hall hp hn hb⟩, by omega, hf, .inr ?_⟩
  have e : (a + (flAt fs f).lo).toNat + ((flAt fs f).co.toNat + 1) = (a + (flAt fs f).lo + (flAt fs f).co).toNat + 1 := by omega
  rw [e] at hk
  omega
end
/-! The first of all -/
def MinS (R : Nat → Nat → Prop) (on first : Int) : Prop := (on = -1 ∧ first = -1 ∧ ∀ f d, ¬ R f d) ∨ ∃ f d : Nat, on = f ∧ first = d ∧ R f d ∧ ∀ f' d', R f' d' → d < d' ∨ d = d' ∧ f ≤ f'
theorem MinS.eq {R : Nat → Nat → Prop} {a b c d : Int} (h : MinS R a b) (h' : MinS R c d) : a = c ∧ b = d := by
 rcases h with ⟨rfl, rfl, h⟩ | ⟨f, n, rfl, rfl, h, hm⟩ <;> rcases h' with ⟨rfl, rfl, h'⟩ | ⟨f', n', rfl, rfl, h', hm'⟩
 ·exact ⟨rfl, rfl⟩
 ·exact absurd h' (h _ _)
 ·exact absurd h (h' _ _)
 ·have := hm _ _ h'
  have := hm' _ _ h
  omega
theorem MinS.new {R R' : Nat → Nat → Prop} {on first g day : Int} (h : MinS R on first) (h' : MinS R' g day) (hc : 0 ≤ day ∧ (first < 0 ∨ day < first ∨ day = first ∧ g < on)) : MinS (fun f d => R f d ∨ R' f d) g day := by
 rcases h' with ⟨rfl, rfl, h'⟩ | ⟨f', n', rfl, rfl, h', hm'⟩
 ·omega
 ·refine .inr ⟨f', n', rfl, rfl, .inr h', fun x y hxy => ?_⟩
  rcases hxy with hxy | hxy
  ·rcases h with ⟨rfl, rfl, h⟩ | ⟨f, n, rfl, rfl, h, hm⟩
   ·exact absurd hxy (h _ _)
   ·have := hm _ _ hxy
    omega
  ·exact hm' _ _ hxy
theorem MinS.old {R R' : Nat → Nat → Prop} {on first g day : Int} (h : MinS R on first) (h' : MinS R' g day) (hc : ¬ (0 ≤ day ∧ (first < 0 ∨ day < first ∨ day = first ∧ g < on))) : MinS (fun f d => R f d ∨ R' f d) on first := by
 rcases h' with ⟨rfl, rfl, h'⟩ | ⟨f', n', rfl, rfl, h', hm'⟩
 ·rcases h with ⟨rfl, rfl, h⟩ | ⟨f, n, rfl, rfl, h, hm⟩
  ·exact .inl ⟨rfl, rfl, fun f d hx => hx.elim (h _ _) (h' _ _)⟩
  ·exact .inr ⟨f, n, rfl, rfl, .inl h, fun x y hxy => hxy.elim (hm _ _) (fun hx => absurd hx (h' _ _))⟩
 ·rcases h with ⟨rfl, rfl, h⟩ | ⟨f, n, rfl, rfl, h, hm⟩
  ·omega
  ·refine .inr ⟨f, n, rfl, rfl, .inl h, fun x y hxy => ?_⟩
   rcases hxy with hxy | hxy
   ·exact hm _ _ hxy
   ·have := hm' _ _ hxy
    omega
/-- ████ What is wrong, and what shows in all heats. -/
theorem wrong_min {fs : List Fl} {ss : List St} {l : List Be} (h : ckPlan fs ss l = 0) : ∃ f d, wrongV fs ss l = (f, d, 0) ∧ MinS (fun f d => ∃ h ∈ heatsF fs l, Shw fs ss l h f d) f d := by
 obtain ⟨hall, hp, -⟩ := plan_ck h
 obtain ⟨-, hn, -⟩ := ckPlan0 h
 have e1 : wrongV fs ss l = errW (inspF fs ss (padB l)) := by
  have : askE fs ss l [] = 0 := by unfold askE; rw [if_neg (by simp [h]), if_neg (by simp [badF])]
  rw [wrongV, if_neg (by rw [this]; decide)]
 rw [e1]
 cases hi : inspF fs ss (padB l) with
 | none =>
  refine ⟨-1, -1, rfl, .inl ⟨rfl, rfl, fun f d ⟨h, hh, hs⟩ => ?_⟩⟩
  obtain ⟨n, -, hb⟩ := shw_bad hall hp hn (mem_heats.1 hh) hs
  exact (insp_none hall hp.ok).1 hi f (by omega) (by have := hs.2.1; omega) n hb
 | some w =>
  obtain ⟨⟨c, n⟩, f⟩ := w
  obtain ⟨y0, y1, hb, hmin⟩ := insp_some hall hp.ok hi
  obtain ⟨f, rfl⟩ : ∃ f' : Nat, f = f' := ⟨f.toNat, by omega⟩
  obtain ⟨h0, h, hh, hs⟩ := bad_shw hall hp hn (by omega) hb
  refine ⟨f, n, rfl, .inr ⟨f, n.toNat, rfl, by omega, ⟨h, mem_heats.2 hh, hs⟩, fun f' d' ⟨h', hh', hs'⟩ => ?_⟩⟩
  obtain ⟨n', hn', hb'⟩ := shw_bad hall hp hn (mem_heats.1 hh') hs'
  have := hmin f' n' (by omega) (by have := hs'.2.1; omega) hb'
  omega
end Go.Mus

/- Slices of slices; makeSlice. Conditions: none; over any program. -/
namespace Go.Mus
/-- A slice as an element. -/
structure Sv where
  a : Option Addr
  n : Nat
  cap : Nat
abbrev Sv.val (s : Sv) : Value := .slice s.a s.n s.cap
def rowS (s : Sv) : List Value := [.slice s.a s.n s.cap]
instance : Rw rowS 1 := ⟨fun _ => rfl, fun _ => rfl⟩

section
variable {α : Type} {row : α → List Value} {w : Nat} [rw' : Rw row w] {E : TypeId}
/-- Slices of one's own, one by one. -/
inductive Oss (E : TypeId) (row : α → List Value) [Rw row w] : List Sv → List (List α) → Frag → Prop
  | nil : Oss E row [] [] []
  | cons {s : Sv} {l : List α} {A B : Frag} {vs : List Sv} {ls : List (List α)} : Os E row s.val l A → Oss E row vs ls B → Oss E row (s :: vs) (l :: ls) (A ++ B)
theorem Oss.len {vs : List Sv} {ls : List (List α)} {A : Frag} (h : Oss E row vs ls A) : vs.length = ls.length := by
  induction h with
  | nil => rfl
  | cons _ _ ih => simp [ih]
theorem Oss.shut {vs : List Sv} {ls : List (List α)} {A : Frag} (h : Oss E row vs ls A) : Shut A := by
  induction h with
  | nil => exact .nil
  | cons h _ ih => exact h.shut.app ih
theorem Oss.snoc {vs : List Sv} {ls : List (List α)} {A B : Frag} {s : Sv} {l : List α} (h : Oss E row vs ls A) (hs : Os E row s.val l B) : Oss E row (vs ++ [s]) (ls ++ [l]) (A ++ B) := by
  induction h with
  | nil => have := Oss.cons hs .nil; simpa using this
  | cons h1 _ ih => have := Oss.cons h1 ih; rw [← List.append_assoc] at this; exact this
theorem Oss.sl {vs : List Sv} {ls : List (List α)} {A : Frag} {h' : Hp} (h : Oss E row vs ls A) (hL : ∀ b o, (b, o) ∈ A → h' b = some o) : ∀ {k : Nat} {s : Sv} {l : List α}, vs[k]? = some s → ls[k]? = some l → Sl h' row s.val l := by
  induction h with
  | nil => intro k s l hs; simp at hs
  | cons h1 _ ih =>
    intro k s l hs hl
    rcases k with _ | k
    · simp at hs hl; subst hs hl
      exact h1.sl fun b o hb => hL b o (List.mem_append_left _ hb)
    · simp at hs hl
      exact ih (fun b o hb => hL b o (List.mem_append_right _ hb)) hs hl
end
/-! makeSlice -/
section
variable {x : Cx} {ρ : Env} {F : Frag} {o : Oper} {R : Value → Frag → Prop}
end
end Go.Mus

/- All heats of a plan. Conditions: none; over the given program. -/
namespace Go.Mus
set_option maxRecDepth 100000
set_option maxHeartbeats 4000000
theorem ext2 {c : Array Value} {o : Nat} {u v w y : Value} (h : c.extract o (o + 4) = #[u, v, w, y]) : c.extract (o + 1) (o + 1 + 2) = #[v, w] := by
 have e : (c.extract o (o + 4)).extract 1 3 = c.extract (o + 1) (o + 1 + 2) := by
  rw [Array.extract_extract, show min (o + 3) (o + 4) = o + 1 + 2 by omega]
 rw [← e, h]; rfl

end Go.Mus

/- Cones on a day, days between, what shows in a heat. Conditions: none; over the given program. -/
namespace Go.Mus
set_option maxRecDepth 100000
set_option maxHeartbeats 4000000
end Go.Mus

/- When a floor is empty, when cones are done, days of doubt; what is said of them by all heats. Conditions: none. -/
namespace Go.Mus
/-! Counted over all heats -/
def MmS (g : Nat → Int) (k : Nat) (lo hi : Int) : Prop := (k = 0 ∧ lo = 0 ∧ hi = 0) ∨ (0 < k ∧ (∀ i, i < k → lo ≤ g i ∧ g i ≤ hi) ∧ (∃ i, i < k ∧ g i = lo) ∧ ∃ i, i < k ∧ g i = hi)
theorem MmS.first {g : Nat → Int} {lo hi : Int} (h : MmS g 0 lo hi) : MmS g 1 (min (g 0) (g 0)) (max (g 0) (g 0)) := by
  refine .inr ⟨by omega, fun i hi => ?_, ⟨0, by omega, by omega⟩, ⟨0, by omega, by omega⟩⟩
  obtain rfl : i = 0 := by omega
  omega
theorem MmS.next {g : Nat → Int} {k : Nat} {lo hi : Int} (h : MmS g k lo hi) (hk : k ≠ 0) : MmS g (k + 1) (min lo (g k)) (max hi (g k)) := by
  rcases h with ⟨rfl, -, -⟩ | ⟨h0, h1, ⟨i, hi1, hi2⟩, ⟨j, hj1, hj2⟩⟩
  · exact absurd rfl hk
  refine .inr ⟨by omega, fun x hx => ?_, ?_, ?_⟩
  · rcases (by omega : x < k ∨ x = k) with h | rfl
    · have := h1 x h; omega
    · omega
  · rcases Int.le_total lo (g k) with h | h
    · exact ⟨i, by omega, by omega⟩
    · exact ⟨k, by omega, by omega⟩
  · rcases Int.le_total hi (g k) with h | h
    · exact ⟨k, by omega, by omega⟩
    · exact ⟨j, by omega, by omega⟩
theorem MmS.eq {g : Nat → Int} {n : Nat} {lo hi lo' hi' : Int} (h : MmS g n lo hi) (h' : MmS g n lo' hi') : lo = lo' ∧ hi = hi' := by
  rcases h with ⟨rfl, rfl, rfl⟩ | ⟨h0, h1, ⟨i, hi1, hi2⟩, ⟨j, hj1, hj2⟩⟩ <;> rcases h' with ⟨h0', rfl, rfl⟩ | ⟨h0', h1', ⟨i', hi1', hi2'⟩, ⟨j', hj1', hj2'⟩⟩
  · exact ⟨rfl, rfl⟩
  · omega
  · omega
  · have := h1 i' hi1'
    have := h1 j' hj1'
    have := h1' i hi1
    have := h1' j hj1
    omega
theorem lo_sum {fs : List Fl} {ss : List St} {l : List Be} (hall : HallOK fs ss) (hn : l.length = ss.length) {f d : Int} (h0 : 0 ≤ f) : loAt fs ss (padB l) f d = sumK (loG fs ss l f d) l.length := by
  have h4 := hall.ns
  have e : loAt fs ss (padB l) f d = sumK (loG fs ss l f d) 4 := sumK_congr fun i _ => by simp only [loG, be_pad]
  rw [e]
  refine sumK_ext (by omega) fun i hi _ => ?_
  simp only [loG, be_out hi, bnone]
  rw [if_neg (by omega)]
theorem cones_ge {fs : List Fl} {ss : List St} {l : List Be} (hall : HallOK fs ss) (hp : PlanOf fs ss (padB l)) (hn : l.length = ss.length) {h : List Int} (hh : IsHeat fs l h) {f d : Int} (h0 : 0 ≤ f) : loAt fs ss (padB l) f d ≤ conesF ss l h f d := by
  rw [lo_sum hall hn h0]
  refine sumK_le fun i hi => ?_
  have hc := (co_ok hall i).1
  simp only [heG, loG]
  by_cases c : (beAt l i).fl = f ∧ (beAt l i).day ≤ d ∧ d < (beAt l i).day + (flAt fs f).lo
  · have := heat_at hall hp hn hh hi h0 c.1
    rw [if_pos c, if_pos (by omega)]; exact Int.le_refl _
  · rw [if_neg c]; split <;> omega
theorem ask_nil {fs : List Fl} {ss : List St} {l : List Be} (h : ckPlan fs ss l = 0) : askE fs ss l [] = 0 := by
  unfold askE; rw [if_neg (by simp [h]), if_neg (by simp [badF])]
end Go.Mus

/- All plans gone through: the right ones among them are those that are found, and what is kept of them. Conditions: none. -/
namespace Go.Mus
/-- All plans of the first strikes, in order. -/
def listF (fs : List Fl) (ss : List St) : Nat → List (List Be)
  | 0 => [[]]
  | i + 1 => (listF fs ss i).flatMap fun l => (berthsK fs ss freeM i).map fun b => l ++ [b]
def extF (fs : List Fl) (ss : List St) : Nat → List Be → List (List Be)
  | 0, l => [l]
  | m + 1, l => (berthsK fs ss freeM l.length).flatMap fun b => extF fs ss m (l ++ [b])
def isR (fs : List Fl) (ss : List St) (l : List Be) : Bool := (inspF fs ss (padB l)).isNone
def loaL (ss : List St) (l : List Be) : Int := loavesF ss (padB l)
theorem listF_len {fs : List Fl} {ss : List St} : ∀ i l, l ∈ listF fs ss i → l.length = i
  | 0, l, h => by have : l = [] := by simpa [listF] using h
                  subst this; rfl
  | i + 1, l, h => by
    obtain ⟨g, hg, hm⟩ := List.mem_flatMap.1 h
    obtain ⟨b, -, rfl⟩ := List.mem_map.1 hm
    rw [List.length_append, listF_len i g hg]; rfl
theorem list_ext {fs : List Fl} {ss : List St} : ∀ m k, (listF fs ss k).flatMap (extF fs ss m) = listF fs ss (k + m)
  | 0, k => by
    have : extF fs ss 0 = fun l => [l] := rfl
    rw [this, List.flatMap_singleton']; rfl
  | m + 1, k => by
    rw [show k + (m + 1) = (k + 1) + m by omega, ← list_ext m (k + 1), listF, List.flatMap_assoc]
    refine fm_congr fun l hl => ?_
    rw [extF, listF_len k l hl, List.flatMap_map]
theorem ext_nil {fs : List Fl} {ss : List St} {n : Nat} : extF fs ss n [] = listF fs ss n := by
  have := list_ext (fs := fs) (ss := ss) n 0
  rw [Nat.zero_add] at this
  rw [← this]; simp [listF]
theorem padB_set {l : List Be} {b : Be} (h : l.length < 4) : (padB l).set l.length b = padB (l ++ [b]) := by
  have e : 4 - l.length = (4 - (l ++ [b]).length) + 1 := by simp; omega
  unfold padB
  rw [e, List.set_append_right _ _ (Nat.le_refl _), Nat.sub_self, List.replicate_succ, List.set_cons_zero, List.append_assoc]
  rfl
theorem ext_pre {fs : List Fl} {ss : List St} : ∀ m l l', l' ∈ extF fs ss m l → ∃ r, l' = l ++ r
  | 0, l, l', h => by
    have : l' = l := by simpa [extF] using h
    exact ⟨[], by rw [this, List.append_nil]⟩
  | m + 1, l, l', h => by
    obtain ⟨b, -, hb⟩ := List.mem_flatMap.1 h
    obtain ⟨r, rfl⟩ := ext_pre m _ l' hb
    exact ⟨b :: r, by simp⟩
theorem ext_plan {fs : List Fl} {ss : List St} (hall : HallOK fs ss) : ∀ m l l', l.length + m = ss.length → PlanOf fs ss (padB l) → l' ∈ extF fs ss m l → PlanOf fs ss (padB l')
  | 0, l, l', _, hp, h => by
    have : l' = l := by simpa [extF] using h
    rw [this]; exact hp
  | m + 1, l, l', hl, hp, h => by
    have h4 := hall.ns
    obtain ⟨b, hb, hb'⟩ := List.mem_flatMap.1 h
    refine ext_plan hall m (l ++ [b]) l' (by simp; omega) ?_ hb'
    rw [← padB_set (by omega)]
    exact plan_set hp (by omega) (berth_ok hall (by omega) hb)
theorem rights_ext {fs : List Fl} {ss : List St} (hall : HallOK fs ss) : ∀ m l, l.length + m = ss.length → PlanOf fs ss (padB l) → rights fs ss freeM m l.length (padB l) = ((extF fs ss m l).filter (isR fs ss)).map padB
  | 0, l, _, _ => by
    rw [rights, extF, List.filter_cons]
    unfold isR
    split <;> rfl
  | m + 1, l, hl, hp => by
    have h4 := hall.ns
    rw [rights, extF, List.filter_flatMap, List.map_flatMap]
    refine fm_congr fun b hb => ?_
    rw [padB_set (by omega)]
    have hp' : PlanOf fs ss (padB (l ++ [b])) := by
      rw [← padB_set (by omega)]
      exact plan_set hp (by omega) (berth_ok hall (by omega) hb)
    have hbk := berth_ok hall (by omega) hb
    have ih := rights_ext hall m (l ++ [b]) (by simp; omega) hp'
    rw [List.length_append, List.length_singleton] at ih
    split
    · rename_i hpr
      have : (extF fs ss m (l ++ [b])).filter (isR fs ss) = [] := by
        refine List.filter_eq_nil_iff.2 fun l' hl' hr => ?_
        obtain ⟨r, rfl⟩ := ext_pre m _ l' hl'
        have hq := ext_plan hall m _ _ (by simp; omega) hp' hl'
        have hn : inspF fs ss (padB (l ++ [b] ++ r)) = none := by simpa [isR] using hr
        have := prune_no (b := b) hall hq.ok hp'.ok hbk.2.2.1 hn fun i hi => by
          rw [be_pad, be_pad]
          rcases Nat.lt_or_ge i (l ++ [b]).length with h | h
          · left; simp only [beAt, List.getD]; rw [List.getElem?_append_left h]
          · right; rw [be_out h]; simp [bnone]
        rw [hpr] at this; cases this
      rw [this]; rfl
    · exact ih
/-- ████ What is found is what is right, of all. -/
theorem allF_list {fs : List Fl} {ss : List St} (hall : HallOK fs ss) : allF fs ss freeM = ((listF fs ss ss.length).filter (isR fs ss)).map padB := by
  have h4 := hall.ns
  unfold allF
  split
  · rename_i h0
    have := rights_ext hall ss.length [] (by simp) (pad_nil hall.nf.1)
    rw [ext_nil] at this
    exact this
  · rename_i h0
    obtain ⟨n, hn⟩ : ∃ n, ss.length = n + 1 := ⟨ss.length - 1, by omega⟩
    have e : listF fs ss ss.length = (berthsK fs ss freeM 0).flatMap fun b => extF fs ss n ([] ++ [b]) := by
      rw [← ext_nil, hn, extF]; rfl
    rw [e, List.filter_flatMap, List.map_flatMap]
    refine fm_congr fun b hb => ?_
    have hp' : PlanOf fs ss (padB [b]) := by
      have := plan_set (pad_nil (ss := ss) hall.nf.1) (k := 0) (by omega) (berth_ok hall (by omega) hb)
      rwa [← pad_one] at this
    have := rights_ext hall n [b] (by simp; omega) hp'
    rw [rightsOf, show ss.length - [b].length = n by simp; omega]
    exact this
theorem berths_ck {fs : List Fl} {ss : List St} {k : Nat} {s : St} {b : Be} (hall : HallOK fs ss) (hs : ss[k]? = some s) (h : b ∈ berthsK fs ss freeM k) : ckBerth fs.length s b = 0 := by
  have hnf := hall.nf
  have hso := hall.st s (List.mem_of_getElem? hs)
  have e : stAt ss k = s := by simp [stAt, List.getD, hs]
  rw [mem_berths, e] at h
  rcases h with ⟨-, rfl⟩ | ⟨-, h⟩
  · exact ckBerth_ok (by omega) (.inl rfl)
  · exact ckBerth_ok (by omega) (.inr ⟨by omega, by omega, by omega, by omega⟩)
theorem list_cks {fs : List Fl} {ss : List St} (hall : HallOK fs ss) : ∀ i l, i ≤ ss.length → l ∈ listF fs ss i → ckBerths fs.length (ss.take i) l = 0
  | 0, l, _, h => by
    have : l = [] := by simpa [listF] using h
    subst this; simp [ckBerths]
  | i + 1, l, hi, h => by
    obtain ⟨g, hg, hm⟩ := List.mem_flatMap.1 h
    obtain ⟨b, hb, rfl⟩ := List.mem_map.1 hm
    have hl := listF_len i g hg
    obtain ⟨s, hs, -⟩ := has (show i < ss.length by omega)
    have := list_cks hall i g (by omega) hg
    subst hl
    exact ckBerths_app this hs (berths_ck hall hs hb)
theorem list_ck {fs : List Fl} {ss : List St} (hck : ckPlant fs ss = 0) {l : List Be} (h : l ∈ listF fs ss ss.length) : ckPlan fs ss l = 0 := by
  have hall := hall_ck hck
  have hl := listF_len _ l h
  have h1 := list_cks hall ss.length l (Nat.le_refl _) h
  rw [List.take_length] at h1
  unfold ckPlan
  rw [if_neg (by simp [hck]), if_neg (by omega), if_neg (by omega)]
  exact h1
theorem wrong_ok {fs : List Fl} {ss : List St} {l : List Be} (h : ckPlan fs ss l = 0) : ∃ f d, wrongV fs ss l = (f, d, 0) ∧ (f < 0 ↔ isR fs ss l = true) := by
  obtain ⟨hall, hp, -⟩ := plan_ck h
  have e1 : wrongV fs ss l = errW (inspF fs ss (padB l)) := by
    rw [wrongV, if_neg (by rw [ask_nil h]; decide)]
  rw [e1, isR]
  cases hi : inspF fs ss (padB l) with
  | none => exact ⟨-1, -1, rfl, by simp⟩
  | some w =>
    obtain ⟨⟨c, n⟩, f⟩ := w
    obtain ⟨y0, y1, -, -⟩ := insp_some hall hp.ok hi
    exact ⟨f, n, rfl, by simp; omega⟩
theorem berths_len {fs : List Fl} {ss : List St} (hall : HallOK fs ss) {k : Nat} (hk : k < ss.length) : (berthsK fs ss freeM k).length ≤ 13 := by
  have hs := hall.st (stAt ss k) (by simp [stAt, List.getD, List.getElem?_eq_getElem hk])
  have hd : ∀ (m : Nat) (f d : Int), (daysFrom f d m).length = m := by
    intro m; induction m with
    | zero => intros; rfl
    | succ m ih => intro f d; rw [daysFrom, List.length_cons, ih]
  have hf : ∀ (m : Nat) (f : Int), (floorsFrom (stAt ss k) f m).length = m * ((stAt ss k).wa + 1).toNat := by
    intro m; induction m with
    | zero => intro f; simp [floorsFrom]
    | succ m ih => intro f; rw [floorsFrom, List.length_append, hd, ih, Nat.succ_mul]; omega
  have hn := hall.nf.2
  have hw : ((stAt ss k).wa + 1).toNat ≤ 6 := by omega
  have : fs.length * ((stAt ss k).wa + 1).toNat ≤ 2 * 6 := Nat.mul_le_mul hn hw
  simp only [berthsK, freeM, if_true, List.length_append, hf, List.length_singleton]
  omega
theorem fm_len {α β : Type} {l : List α} {f : α → List β} {n : Nat} (h : ∀ x ∈ l, (f x).length ≤ n) : (l.flatMap f).length ≤ l.length * n := by
  induction l with
  | nil => simp
  | cons a l ih =>
    rw [List.flatMap_cons, List.length_append, List.length_cons, Nat.succ_mul]
    have := ih fun x hx => h x (List.mem_cons_of_mem _ hx)
    have := h a (List.mem_cons_self ..)
    omega
theorem pow13 {i : Nat} (h : i ≤ 4) : 13 ^ i ≤ 28561 := by
  rcases (by omega : i = 0 ∨ i = 1 ∨ i = 2 ∨ i = 3 ∨ i = 4) with rfl | rfl | rfl | rfl | rfl <;> decide

/-! What is kept of those that are gone through -/
structure BI (ss : List St) (R B : List (List Be)) (most : Int) : Prop where
  eq : B = R.filter fun l => decide (loaL ss l = most)
  top : ∀ l ∈ R, loaL ss l ≤ most
  ne : R ≠ [] → B ≠ []
  em : R = [] → most = -1
theorem BI.nil {ss : List St} : BI ss [] [] (-1) := ⟨rfl, fun l h => by simp at h, fun h => absurd rfl h, fun _ => rfl⟩
theorem BI.less {ss : List St} {R B : List (List Be)} {most : Int} {l : List Be} (h : BI ss R B most) (hl : loaL ss l < most) (h0 : 0 ≤ loaL ss l) : BI ss (R ++ [l]) B most := by
  have hR : R ≠ [] := fun e => by have := h.em e; omega
  refine ⟨?_, fun x hx => ?_, fun _ => h.ne hR, fun e => by simp at e⟩
  · rw [List.filter_append, ← h.eq, List.filter_cons, if_neg (by simp; omega)]; simp
  · rcases List.mem_append.1 hx with hx | hx
    · exact h.top x hx
    · have : x = l := by simpa using hx
      subst this; omega
theorem BI.same {ss : List St} {R B : List (List Be)} {most : Int} {l : List Be} (h : BI ss R B most) (hl : loaL ss l = most) (h0 : 0 ≤ loaL ss l) : BI ss (R ++ [l]) (B ++ [l]) most := by
  refine ⟨?_, fun x hx => ?_, fun _ e => by simp at e, fun e => by simp at e⟩
  · rw [List.filter_append, ← h.eq, List.filter_cons, if_pos (by simpa using hl)]; simp
  · rcases List.mem_append.1 hx with hx | hx
    · exact h.top x hx
    · have : x = l := by simpa using hx
      subst this; omega
theorem BI.more {ss : List St} {R B : List (List Be)} {most : Int} {l : List Be} (h : BI ss R B most) (hl : most < loaL ss l) : BI ss (R ++ [l]) [l] (loaL ss l) := by
  refine ⟨?_, fun x hx => ?_, fun _ e => by simp at e, fun e => by simp at e⟩
  · rw [List.filter_append, filter_none fun q hq => ?_, List.filter_cons, if_pos (by simp)]
    · simp
    · have := h.top q hq
      exact decide_eq_false (by omega)
  · rcases List.mem_append.1 hx with hx | hx
    · have := h.top x hx; omega
    · have : x = l := by simpa using hx
      subst this; omega
/-- ████ What is kept is what Best says. -/
theorem BI.best {fs : List Fl} {ss : List St} (hall : HallOK fs ss) {B : List (List Be)} {most : Int} (h : BI ss ((listF fs ss ss.length).filter (isR fs ss)) B most) : (bestF fs ss).1 = most ∧ (bestF fs ss).2 = B.map padB ∧ B ≠ [] ∧ ∀ l ∈ B, l ∈ listF fs ss ss.length := by
  obtain ⟨⟨q, hq, hq1⟩, htop, hout⟩ := best_spec hall
  rw [allF_list hall] at hq htop hout
  obtain ⟨l, hl, rfl⟩ := List.mem_map.1 hq
  have hne : (listF fs ss ss.length).filter (isR fs ss) ≠ [] := fun e => by rw [e] at hl; simp at hl
  have hB := h.ne hne
  have e : (bestF fs ss).1 = most := by
    obtain ⟨x, hx⟩ := List.exists_mem_of_ne_nil _ hB
    have hx' := hx
    rw [h.eq, List.mem_filter] at hx'
    have h1 : loaL ss x = most := by simpa using hx'.2
    have h2 := htop (padB x) (List.mem_map.2 ⟨x, hx'.1, rfl⟩)
    have h3 := h.top l hl
    simp only [loaL] at h1 h3
    omega
  refine ⟨e, ?_, hB, fun x hx => ?_⟩
  · rw [hout, List.filter_map, e, h.eq]
    rfl
  · rw [h.eq] at hx
    exact (List.mem_filter.1 (List.mem_filter.1 hx).1).1
end Go.Mus

/- When a floor is empty, when cones are done, days of doubt. Conditions: none; over the given program. -/
namespace Go.Mus
set_option maxRecDepth 100000
set_option maxHeartbeats 4000000
/-! Days, beside each other -/
theorem eqv_days : EqV prog t_days 44 3 := EqV.array (n := 22) (w := 2) (K := 2) eqv_span.at
instance : EV prog t_days 44 := ⟨eqv_days.le (by decide)⟩
instance : NS prog t_days := ⟨by kernel_rfl, by kernel_rfl⟩
end Go.Mus

/- All plans of a plant, in their order; the loaves of a plan. Conditions: none; over the given program. -/
namespace Go.Mus
set_option maxRecDepth 100000
set_option maxHeartbeats 40000000
theorem daysFrom_snoc {f : Int} : ∀ {m : Nat} {d : Int}, daysFrom f d (m + 1) = daysFrom f d m ++ [⟨f, d + m⟩]
 | 0, d => by simp [daysFrom]
 | m + 1, d => by
  rw [daysFrom, daysFrom_snoc, daysFrom, List.cons_append]
  rw [show d + 1 + (m : Int) = d + ((m + 1 : Nat) : Int) by omega]
theorem floorsFrom_snoc {s : St} : ∀ {m : Nat} {f : Int}, floorsFrom s f (m + 1) = floorsFrom s f m ++ daysFrom (f + m) s.day (s.wa + 1).toNat
 | 0, f => by simp [floorsFrom]
 | m + 1, f => by
  rw [floorsFrom, floorsFrom_snoc, floorsFrom, List.append_assoc]
  rw [show f + 1 + (m : Int) = f + ((m + 1 : Nat) : Int) by omega]
theorem floors_le {s : St} {m : Nat} {f : Int} (hm : m ≤ 2) (hw : s.wa ≤ 5) : (floorsFrom s f m).length ≤ 12 := by
 rw [floorsFrom_len]
 exact Nat.mul_le_mul hm (show (s.wa + 1).toNat ≤ 6 by omega)
theorem berths_eq {fs : List Fl} {ss : List St} {k : Nat} : berthsK fs ss freeM k = bnone :: floorsFrom (stAt ss k) 0 fs.length := by
 simp [berthsK, freeM]
theorem loaves_sum {ss : List St} {l : List Be} {fs : List Fl} (hall : HallOK fs ss) : loaL ss l = sumK (coG ss l) ss.length := by
 rw [loaL, loavesF_eq hall]
 exact sumK_congr fun i _ => by simp only [coG, be_pad]
theorem Loaves_fn (main : Side) (h : Hp) (fs : List Fl) (ss : List St) (l : List Be) (vf vs vl : Value) (hs : Sl h St.row vs ss) (hl : Sl h Be.row vl l) (hall : HallOK fs ss) (hn : l.length = ss.length) : Pu prog main n_ref_Loaves #[.agg #[vf, vs], vl] h (I (loaL ss l)) := by
 have hns := hall.ns
 obtain ⟨a', cap', rfl⟩ := hs.isSl
 obtain ⟨al, lc, rfl⟩ := hl.isSl
 rw [loaves_sum hall]
 refine Fnc.of_body at_ref_Loaves rfl (by show 2 ≤ 28; decide) [(0, .agg #[vf, .slice a' ss.length cap']), (1, .slice al l.length lc)] ⟨rfl, rfl, trivial⟩ ?_
 refine W.seq <| W.region rfl ?_
 refine Ops.box (cs := #[vf, .slice a' ss.length cap']) (fun β2 => ?_) rfl rfl rfl
 refine qs rfl rfl rfl <| nn <| W.seq <| W.region rfl <| qs rfl rfl rfl <| nn <| W.seq <| W.seq ?_
 refine W.region rfl <| qs rfl rfl rfl <| nn <| W.block ?_
 refine W.loop (σ := Nat) (fun k => k ≤ l.length) (fun k => [(6, I k), (5, I (sumK (coG ss l) k)), (2, .pointer (some ⟨β2, 0, none⟩)), (1, .slice al l.length lc)]) (fun _ => [(β2, .cells #[vf, .slice a' ss.length cap'] t_Plant (0, 0))]) (fun k => l.length - k) 0 (Nat.zero_le _) ⟨rfl, rfl, rfl, rfl, trivial⟩ .refl ?_
 rintro k hk
 refine W.seq <| W.seq <| W.region rfl <| qm rfl rfl rfl <| qm rfl rfl rfl ?_
 refine o1 (y_len rfl rfl) rfl ?_
 refine o1 (y_lss rfl rfl rfl) rfl ?_
 refine nn ?_
 refine W.condp rfl (fun c10 => ?_) (fun c10 => ?_)
 ·have hk1 : k < l.length := by omega
  have hb0 : l[k]? = some (beAt l k) := by simp [beAt, List.getD, List.getElem?_eq_getElem hk1]
  obtain ⟨s, hs0, -⟩ := has (show k < ss.length by omega)
  have hsa : stAt ss k = s := by simp [stAt, List.getD, hs0]
  have hco := co_ok hall k
  rw [hsa] at hco
  have hsum := (loavesK_eq (p := l) hall k (by omega)).2
  have hg : coG ss l k = if 0 ≤ (beAt l k).fl then s.co else 0 := by rw [coG, hsa]
  obtain ⟨bl, offl, cl, El, fzl, rfl, hbl, -, hyl, hzl⟩ := hl.at hb0
  have hfl0 : cl[offl + k * 2 + 0]? = some (I (beAt l k).fl) := hzl 0 (by decide)
  clear hzl
  obtain ⟨bs, offs, cs, Es, fzs, rfl, hbs, -, hys, hzs⟩ := hs.at hs0
  have hfs : cs[offs + k * 3 + 1]? = some (I s.co) := hzs 1 (by decide)
  clear hzs
  refine W.skip <| thn_n <| W.seq <| W.block <| W.seq <| W.region rfl <| qm rfl rfl rfl <| qm rfl rfl rfl ?_
  refine xq rfl ?_
  refine fq rfl ?_
  refine dq rfl ?_
  refine o1 (y_geq rfl rfl rfl) rfl ?_
  refine nn ?_
  refine W.condp rfl (fun c18 => ?_) (fun c18 => ?_)
  ·refine W.region rfl <| qm rfl rfl rfl ?_
   refine fq rfl ?_
   refine dq rfl ?_
   refine qm rfl rfl rfl ?_
   refine xq rfl ?_
   refine fq rfl ?_
   refine dq rfl ?_
   refine pq rfl ?_
   refine qs rfl rfl rfl <| Ops.nil <| blk_n <| thn_n <| W.region rfl <| qm rfl rfl rfl ?_
   refine pq rfl ?_
   refine qs rfl rfl rfl <| nn ?_
   exact ⟨rfl, k + 1, by omega, by omega, ⟨rfl, lk rfl (show I _ = I _ by rw [sumK, hg, if_pos c18]), rfl, rfl, trivial⟩, .refl⟩
  ·refine W.skip <| blk_n <| thn_n <| W.region rfl <| qm rfl rfl rfl ?_
   refine pq rfl ?_
   refine qs rfl rfl rfl <| nn ?_
   exact ⟨rfl, k + 1, by omega, by omega, ⟨rfl, lk rfl (show I _ = I _ by rw [sumK, hg, if_neg c18, Int.add_zero]), rfl, rfl, trivial⟩, .refl⟩
 ·have hke : k = ss.length := by omega
  subst hke
  refine W.exit <| thn_x <| thn_x <| blk_x <| thn_n <| W.seq <| W.region rfl <| qm rfl rfl rfl <| qs rfl rfl rfl <| Ops.nil ?_
  refine thn_n <| W.ret ?_
  exact lvp (hs := .cons rfl .nil) rfl
end Go.Mus
