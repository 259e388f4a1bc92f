/- The best plans of a hall. Conditions: none; over the given program. (And 10 texts more.) -/
import Derived.Test.YtabnpjbnoedfgaaDoorP12
import Derived.Test.YtabnpjbnoedfgaaDoorP05
import Derived.Test.YtabnpjbnoedfgaaDoorP06
import Derived.Conc.LeavingOf
import Derived.LaidLaws
import Derived.LaidHandle
import Derived.ChangeSlices
import Derived.WideShapes
import Derived.Carry
import Derived.RowKit
import Derived.Test.YtabnpjbnoedfgaaDoorP07
import Derived.Test.YtabnpjbnoedfgaaDoorCards
import Derived.Test.YtabnpjbnoedfgaaDoorTie
import Derived.SevenTiedAt
set_option linter.unusedVariables false
set_option linter.unusedSimpArgs false

/- The best plans of a hall. Conditions: none; over the given program. -/
namespace Go.Mus
set_option maxRecDepth 100000
set_option maxHeartbeats 4000000

def bstep (ss : List St) (s : (Int × List (List Be)) × List (List Be)) (p : List Be) : (Int × List (List Be)) × List (List Be) :=
  if p ∈ s.2 then s else (addM s.1 p (loavesF ss p), s.2 ++ [p])
def bestSt (ss : List St) (l : List (List Be)) : (Int × List (List Be)) × List (List Be) := l.foldl (bstep ss) ((0, []), [])
def bestF (fs : List Fl) (ss : List St) : Int × List (List Be) := (bestSt ss (allF fs ss freeM)).1
theorem bestSt_next {ss : List St} {l : List (List Be)} {i : Nat} {p : List Be} (h : l[i]? = some p) : bestSt ss (l.take (i + 1)) = bstep ss (bestSt ss (l.take i)) p := by
  simp only [bestSt, take_next h, List.foldl_append, List.foldl_cons, List.foldl_nil]
theorem addM_len {s : Int × List (List Be)} {p : List Be} {n : Int} : (addM s p n).2.length ≤ s.2.length + 1 := by
  simp only [addM]
  split <;> split <;> simp
theorem bestSt_sub {ss : List St} : ∀ {l : List (List Be)} {i : Nat}, i ≤ l.length → (bestSt ss (l.take i)).1.2.length ≤ i ∧ ∀ p ∈ (bestSt ss (l.take i)).2, p ∈ l
  | l, 0, _ => by simp [bestSt]
  | l, i + 1, h => by
    obtain ⟨p, hp, -⟩ := has (show i < l.length by omega)
    rw [bestSt_next hp]
    obtain ⟨h1, h2⟩ := bestSt_sub (ss := ss) (l := l) (i := i) (by omega)
    simp only [bstep]
    split
    · exact ⟨by omega, h2⟩
    · refine ⟨Nat.le_trans addM_len (by simpa using h1), fun q hq => ?_⟩
      rcases List.mem_append.1 hq with hq | hq
      · exact h2 q hq
      · have : q = p := by simpa using hq
        subst this
        exact List.mem_of_getElem? hp
theorem allF4 {fs : List Fl} {ss : List St} {may : May} {p : List Be} (h : p ∈ allF fs ss may) : p.length = 4 := by
  unfold allF at h
  split at h
  · exact rights4 (Nat.zero_le _) h
  · obtain ⟨b, _, hb⟩ := List.mem_flatMap.1 h
    exact rights4 (l := [b]) (by simp) hb
theorem allF_len {fs : List Fl} {ss : List St} {may : May} (hall : HallOK fs ss) : (allF fs ss may).length ≤ 28561 := by
  unfold allF
  split
  · rename_i h
    have h1 := rightsOf_le (may := may) (l := []) hall (Nat.zero_le _)
    rw [h] at h1
    exact Nat.le_trans h1 (by decide)
  · have h1 := plans_bound (may := may) hall (by omega) (berthsK fs ss may 0)
    have h2 := berthsK_len (may := may) hall (show 0 < ss.length by omega)
    have h3 : (berthsK fs ss may 0).length * 2197 ≤ 13 * 2197 := Nat.mul_le_mul_right _ h2
    omega
theorem mem_keys {p : List Be} {met : List (List Be)} (hp : p.length = 4) (hm : ∀ q ∈ met, q.length = 4) : keyP p ∈ met.map keyP ↔ p ∈ met := by
  constructor
  · intro h
    obtain ⟨q, hq, e⟩ := List.mem_map.1 h
    rw [← keyP_inj ((hm q hq).trans hp.symm) e]
    exact hq
  · exact fun h => List.mem_map.2 ⟨p, h, rfl⟩
/-- In the right plans all is in order. -/
theorem rights_PlanOf {fs : List Fl} {ss : List St} {may : May} (hall : HallOK fs ss) : ∀ {m k : Nat} {q p : List Be}, k + m ≤ ss.length → PlanOf fs ss q → p ∈ rights fs ss may m k q → PlanOf fs ss p
  | 0, k, q, p, _, hq, h => by
    simp only [rights] at h
    split at h
    · have : p = q := by simpa using h
      subst this; exact hq
    · cases h
  | m + 1, k, q, p, hk, hq, h => by
    simp only [rights, List.mem_flatMap] at h
    obtain ⟨b, hb, h⟩ := h
    split at h
    · cases h
    · exact rights_PlanOf hall (by omega) (plan_set hq (by omega) (berth_ok hall (by omega) hb)) h
theorem allF_PlanOf {fs : List Fl} {ss : List St} {may : May} {p : List Be} (hall : HallOK fs ss) (h : p ∈ allF fs ss may) : PlanOf fs ss p := by
  unfold allF at h
  split at h
  · exact rights_PlanOf hall (by simp) (pad_nil hall.nf.1) h
  · rename_i hn
    obtain ⟨b, hb, h⟩ := List.mem_flatMap.1 h
    refine rights_PlanOf hall (by simp; omega) ?_ h
    rw [pad_one]
    exact plan_set (pad_nil hall.nf.1) (by omega) (berth_ok hall (by omega) hb)

theorem best_fn (main : Side) (hS : ∀ S, main.ok S → ∃ Fin, S = Mn prog Fin) (hmb : main.b = true) (h : Hp) (fs : List Fl) (ss : List St) (vf vs : Value) (Eg : TypeId) (zg : Nat × Nat) (hf : Sl h Fl.row vf fs) (hs : Sl h St.row vs ss) (zf : Zs h vf) (zs : Zs h vs) (hall : HallOK fs ss)
    (hg : h 0 = some (.cells #[rtV t_error] Eg zg)) (z0 : h.z 0) : Fnc prog main n_floor_hall_best #[.agg #[vf, vs]] h [] (fun v A => ∃ u S, v = .agg #[I (bestF fs ss).1, u] ∧ Os t_plan rowP u (bestF fs ss).2 S ∧ Sb S A) := by
  obtain ⟨a, cap, rfl⟩ := hf.isSl
  obtain ⟨a', cap', rfl⟩ := hs.isSl
  have hns := hall.ns
  obtain ⟨ps, hps⟩ : ∃ ps, allF fs ss freeM = ps := ⟨_, rfl⟩
  have hpl : ps.length ≤ 28561 := by rw [← hps]; exact allF_len hall
  have hp4 : ∀ p ∈ ps, p.length = 4 := fun p hp => allF4 (hps ▸ hp)
  have hpo : ∀ p ∈ ps, PlanOf fs ss p := fun p hp => allF_PlanOf hall (hps ▸ hp)
  refine Fnc.of_body at_floor_hall_best rfl (by show 1 ≤ 32; decide) [(0, .agg #[.slice a fs.length cap, .slice a' ss.length cap'])] ⟨rfl, trivial⟩ ?_
  refine W.seq ?_
  refine W.region rfl ?_
  refine Ops.box (fun β1 => ?_)
  refine Ops.new (fun β2 => ?_)
  refine Ops.nil ?_
  refine thn_n ?_
  refine W.seq ?_
  refine W.region rfl ?_
  refine Ops.new (fun β3 => ?_)
  refine Ops.nil ?_
  refine thn_n ?_
  refine W.seq ?_
  refine W.region rfl ?_
  refine oq (y_func rfl rfl rfl) rfl wn rfl rfl ?_
  refine oq (y_assign rfl rfl) rfl wn rfl rfl ?_
  refine Ops.nil ?_
  refine thn_n ?_
  refine W.seq ?_
  refine W.region rfl ?_
  refine oe rfl wn rfl rfl (e_makeMap rfl fun β9 _ _ => ?_)
  refine oq (y_assign rfl rfl) rfl wn rfl rfl ?_
  refine Ops.nil ?_
  refine thn_n ?_
  refine W.seq ?_
  refine W.seq ?_
  refine W.region rfl ?_
  first | refine oq (yldW rfl rfl) rfl wn rfl rfl ?_ | refine oq (yldA rfl rfl) rfl wn rfl rfl ?_
  refine oq (y_build rfl rfl rfl) rfl wn rfl rfl ?_
  refine c0 (fun h' hE hL => all_fn _ hS hmb h' fs ss freeM (.slice a fs.length cap) (.slice a' ss.length cap') (.func (.func n_floor_free) #[] #[]) Eg zg (hf.ext hE) (hs.ext hE) (zf.ext hE) (zs.ext hE) rfl hall free_may (hE.1 _ _ hg) (hE.2 _ z0)) (fun v A' hv => ?_)
  rw [hps] at hv
  obtain ⟨S, hS', hsb⟩ := hv
  obtain ⟨sa, sc, rfl⟩ := hS'.isSl
  refine oq (y_len rfl rfl) rfl wn rfl rfl ?_
  refine oq (y_move rfl rfl) rfl wn rfl rfl ?_
  refine Ops.nil ?_
  refine thn_n ?_
  refine W.block ?_
  refine W.sb (F' := S ++ ((β9, .map #[] 0) :: (β3, .cells #[I 0, .slice none 0 0] t_most (0, 0)) :: (β2, .cells #[I 0, .slice none 0 0] t_most (0, 0)) :: [(β1, .cells #[.slice a fs.length cap, .slice a' ss.length cap'] t_hall (0, 0))])) (hsb.app .refl) ?_
  refine freezeOs hS' (fun hx hEx hsl _ => ?_)
  refine W.loop3 (fun (i : Nat) (u : Value) (T : Frag × Array MapEntry × Nat) => i ≤ ps.length ∧ Os t_plan rowP u (bestSt ss (ps.take i)).1.2 T.1 ∧ MapT T.2.1 ((bestSt ss (ps.take i)).2.map keyP)) (fun i _ _ => [(14, I i), (13, I ps.length), (12, .slice sa ps.length sc), (5, .map (some β9)), (4, .func (.func n_floor_most_add) #[.pointer (some ⟨β3, 0, none⟩)] #[]), (3, .pointer (some ⟨β3, 0, none⟩)), (2, .pointer (some ⟨β2, 0, none⟩)), (1, .pointer (some ⟨β1, 0, none⟩))])
    (fun i u T => (β9, .map T.2.1 T.2.2) :: (β2, .cells #[I 0, .slice none 0 0] t_most (0, 0)) :: (β1, .cells #[.slice a fs.length cap, .slice a' ss.length cap'] t_hall (0, 0)) :: (β3, .cells #[I (bestSt ss (ps.take i)).1.1, u] t_most (0, 0)) :: T.1) (fun i _ _ => ps.length - i) 0 (.slice none 0 0) ([], #[], 0) ⟨Nat.zero_le _, .nil .nil, rfl⟩ ⟨rfl, rfl, rfl, rfl, rfl, rfl, rfl, rfl, trivial⟩ (Sb.of_perm ?_) ?_
  · refine (List.Perm.cons _ ?_)
    exact List.perm_append_comm (l₁ := [_, _]) (l₂ := [_])
  rintro i u ⟨Sm, es, cl⟩ ⟨hi, hO, hM⟩
  simp only at hO hM
  obtain ⟨ua, uc, rfl⟩ := hO.isSl
  refine W.seq ?_
  refine W.region rfl ?_
  refine oq (y_lss rfl rfl rfl) rfl wn rfl rfl ?_
  refine Ops.nil ?_
  refine thn_n ?_
  refine W.seq ?_
  refine W.condp rfl (fun c15 => ?_) (fun c15 => ?_)
  · obtain ⟨p, hp, -⟩ := has (show i < ps.length by omega)
    have hpm := List.mem_of_getElem? hp
    have hp4' := hp4 p hpm
    have hok := (hpo p hpm).ok
    have hnx := bestSt_next (ss := ss) hp
    obtain ⟨hbl, hbm⟩ := bestSt_sub (ss := ss) hi
    obtain ⟨⟨cc, ll⟩, met, hst⟩ : ∃ c m, bestSt ss (ps.take i) = (c, m) := ⟨_, _, rfl⟩
    rw [hst] at hO hM hbl hbm hnx ⊢
    have hm4 : ∀ q ∈ met, q.length = 4 := fun q hq => hp4 q (hbm q hq)
    obtain ⟨b, off, c, E, fz, rfl, hb, hx1, hy1, hz1⟩ := hsl.at hp
    have hx2 : c.extract (off + i * 8) (off + i * 8 + 8) = (flat Be.row p).toArray := by rw [hx1, rowP_eq hp4']
    clear hx1 hz1
    have hsz := plan_sz hok
    have hon : ones (flat Be.row p).toArray.toList = true := plan_ones
    refine W.skip ?_
    refine thn_n ?_
    refine W.seq ?_
    refine W.block ?_
    refine W.seq ?_
    refine W.region rfl ?_
    first | refine oq (yix rfl rfl rfl) rfl wn rfl rfl ?_ | refine oq (yixI rfl rfl rfl) rfl wn rfl rfl ?_
    first | refine oq (yldW rfl rfl) rfl wn rfl rfl ?_ | refine oq (yldA rfl rfl) rfl wn rfl rfl ?_
    refine Ops.new (fun β7 => ?_)
    first | refine Ops.stoW ?_ | refine Ops.stoA ?_
    refine Ops.nil ?_
    refine thn_n ?_
    refine W.seq ?_
    refine W.seq ?_
    refine W.region rfl ?_
    refine oq (y_move rfl rfl) rfl wn rfl rfl ?_
    first | refine oq (yldW rfl rfl) rfl wn rfl rfl ?_ | refine oq (yldA rfl rfl) rfl wn rfl rfl ?_
    --abs B
    refine oe rfl wn rfl rfl (e_lookup (a := keyP p) rfl rfl rfl (keyP_eq p) (keyP_len hp4') (.tail .head) hM (fun q hq => by obtain ⟨q', h1, rfl⟩ := List.mem_map.1 hq; exact keyP_len (hm4 _ h1)) ?_)
    refine oq (y_not rfl rfl) rfl wn rfl rfl ?_
    refine Ops.nil ?_
    refine thn_n ?_
    refine W.cond rfl (fun c21 => ?_) (fun c21 => ?_)
    · refine W.drawL [(β7, .cells (flat Be.row p).toArray t_plan (0, 0)), (β1, .cells #[.slice a fs.length cap, .slice a' ss.length cap'] t_hall (0, 0))] (n := 6) rfl ?_
      refine aq (i := 0) (y_move rfl rfl) rfl an rfl rfl ?_
      first | refine aq (i := 1) (yldW rfl rfl) rfl an rfl rfl ?_ | refine aq (i := 1) (yldA rfl rfl) rfl an rfl rfl ?_
      first | refine aq (i := 2) (yldW rfl rfl) rfl an rfl rfl ?_ | refine aq (i := 2) (yldA rfl rfl) rfl an rfl rfl ?_
      first | refine aq (i := 3) (yldW rfl rfl) rfl an rfl rfl ?_ | refine aq (i := 3) (yldA rfl rfl) rfl an rfl rfl ?_
      refine acp (i := 4) (fun h' hE hL => loaves_fn _ h' fs ss p _ _ ((hf.ext hEx).ext hE) ((hs.ext hEx).ext hE) hok hns) ?_ (hS := .inr (fun q hq => ?_))
      rotate_left
      · rcases List.mem_cons.1 hq with rfl | hq
        · exact .head _
        · rcases List.mem_cons.1 hq with rfl | hq
          · exact .tail _ (.tail _ (.tail _ (.head _)))
          · cases hq
      refine ae (i := 5) rfl an rfl rfl (e_callV (args := [_, _]) rfl rfl rfl (.tail (.tail (.tail (.tail .all)))) (fun h' hE hL => CallV.of_fn (fi := [_]) (args := [_, _]) (ca := []) (add_fn _ h' β3 cc (loavesF ss p) (.slice ua ll.length uc) ll p Sm hO (by have : ll.length ≤ i := hbl; omega) hp4')) (fun v A2 hv => ?_))
      refine ⟨.inl (by kernel_rfl), ?_⟩
      obtain ⟨v', S2, hO2, hsb2⟩ := hv
      obtain ⟨va, vc, rfl⟩ := hO2.isSl
      refine Any.sb (.cons (.cons (.cons (.cons hsb2)))) ?_
      refine az ?_
      refine thn_n ?_
      refine W.region rfl ?_
      refine oq (y_move rfl rfl) rfl wn rfl rfl ?_
      first | refine oq (yldW rfl rfl) rfl wn rfl rfl ?_ | refine oq (yldA rfl rfl) rfl wn rfl rfl ?_
      refine oe rfl wn rfl rfl (e_mapUpdate (a := keyP p) rfl rfl rfl (keyP_eq p) rfl (keyP_len hp4') (.tail .head) hM (fun q hq => by obtain ⟨q', h1, rfl⟩ := List.mem_map.1 hq; exact keyP_len (hm4 _ h1)) (fun es' cl' hM' => ?_))
      refine Ops.nil ?_
      refine blk_n ?_
      refine thn_n ?_
      refine W.region rfl ?_
      first | refine oq (yadd rfl rfl rfl) rfl wn rfl rfl ?_ | refine oq (y_addw rfl rfl rfl) rfl wn rfl rfl ?_
      refine oq (y_move rfl rfl) rfl wn rfl rfl ?_
      refine Ops.nil ?_
      refine thn_n ?_
      have hn : p ∉ met := by
        intro hin
        have := (mem_keys hp4' hm4).2 hin
        simp [this] at c21
      have hk : ¬ keyP p ∈ met.map keyP := fun hin => hn ((mem_keys hp4' hm4).1 hin)
      have hb2 : bestSt ss (ps.take (i + 1)) = (addM (cc, ll) p (loavesF ss p), met ++ [p]) := by rw [hnx]; simp only [bstep]; rw [if_neg hn]
      have hM2 : MapT es' ((met ++ [p]).map keyP) := by
        rw [List.map_append]
        simpa [hk] using hM'
      refine ⟨rfl, i + 1, _, (S2, es', cl'), ⟨by omega, by simp only [hb2]; exact hO2, by simp only [hb2]; exact hM2⟩, by omega, ⟨rfl, rfl, rfl, rfl, rfl, rfl, rfl, rfl, trivial⟩, ?_⟩
      simp only [hb2]
      exact .skip rfl .refl
    · refine W.skip ?_
      refine thn_n ?_
      refine W.region rfl ?_
      refine oq (y_move rfl rfl) rfl wn rfl rfl ?_
      first | refine oq (yldW rfl rfl) rfl wn rfl rfl ?_ | refine oq (yldA rfl rfl) rfl wn rfl rfl ?_
      refine oe rfl wn rfl rfl (e_mapUpdate (a := keyP p) rfl rfl rfl (keyP_eq p) rfl (keyP_len hp4') (.tail .head) hM (fun q hq => by obtain ⟨q', h1, rfl⟩ := List.mem_map.1 hq; exact keyP_len (hm4 _ h1)) (fun es' cl' hM' => ?_))
      refine Ops.nil ?_
      refine blk_n ?_
      refine thn_n ?_
      refine W.region rfl ?_
      first | refine oq (yadd rfl rfl rfl) rfl wn rfl rfl ?_ | refine oq (y_addw rfl rfl rfl) rfl wn rfl rfl ?_
      refine oq (y_move rfl rfl) rfl wn rfl rfl ?_
      refine Ops.nil ?_
      refine thn_n ?_
      have hk : keyP p ∈ met.map keyP := by simpa using c21
      have hn : p ∈ met := (mem_keys hp4' hm4).1 hk
      have hb2 : bestSt ss (ps.take (i + 1)) = ((cc, ll), met) := by rw [hnx]; simp only [bstep]; rw [if_pos hn]
      have hM2 : MapT es' (met.map keyP) := by simpa [hk] using hM'
      refine ⟨rfl, i + 1, _, (Sm, es', cl'), ⟨by omega, by simp only [hb2]; exact hO, by simp only [hb2]; exact hM2⟩, by omega, ⟨rfl, rfl, rfl, rfl, rfl, rfl, rfl, rfl, trivial⟩, ?_⟩
      simp only [hb2]
      exact .skip rfl .refl
  · have hie : i = ps.length := by omega
    subst hie
    rw [List.take_length] at hO ⊢
    refine W.exit ?_
    refine thn_x ?_
    refine thn_x ?_
    refine blk_x ?_
    refine thn_n ?_
    refine W.seq ?_
    refine W.region rfl ?_
    first | refine oq (yldW rfl rfl) rfl wn rfl rfl ?_ | refine oq (yldA rfl rfl) rfl wn rfl rfl ?_
    first | refine Ops.stoW ?_ | refine Ops.stoA ?_
    refine Ops.nil ?_
    refine thn_n ?_
    refine W.ret ?_
    refine lvc (hv := rAgg rNil) ⟨.slice ua (bestSt ss ps).1.2.length uc, Sm, ?_, ?_, ?_⟩
    · rw [bestF, hps]; rfl
    · rw [bestF, hps]; exact hO
    · exact .skip rfl (.skip rfl (.skip rfl (.skip rfl .refl)))
end Go.Mus

/- That nothing is set is right. Conditions: none; over the given program's numbers. -/
namespace Go.Mus

theorem beAt_p0 (k : Nat) : beAt (padB []) k = bnone := by
  simp only [beAt, padB, List.getD]
  rcases Nat.lt_or_ge k 4 with h | h
  · rcases (by omega : k = 0 ∨ k = 1 ∨ k = 2 ∨ k = 3) with rfl | rfl | rfl | rfl <;> rfl
  · simp [h]
theorem p0_set (k : Nat) : (padB []).set k bnone = padB [] := by
  rcases Nat.lt_or_ge k 4 with h | h
  · rcases (by omega : k = 0 ∨ k = 1 ∨ k = 2 ∨ k = 3) with rfl | rfl | rfl | rfl <;> rfl
  · exact List.set_eq_of_length_le (by simpa [padB] using h)
theorem onFk_p0 {f : Int} (hf : 0 ≤ f) : ∀ k, onFk (padB []) f k = []
  | 0 => rfl
  | k + 1 => by
    simp only [onFk, beAt_p0]
    rw [if_neg (by simp [bnone]; omega)]
    exact onFk_p0 hf k
theorem setL_p0 {f : Int} (hf : 0 ≤ f) : setL (padB []) f = [] := by
  rw [setL, onFk_p0 hf]; rfl
theorem fullF_0 {pl : Int} (hp : 0 ≤ pl) : ∀ (m k : Nat), fullF pl (List.replicate m ⟨0, 0⟩) k = none
  | 0, _ => rfl
  | m + 1, k => by
    rw [List.replicate_succ, fullF, if_neg (by simp; omega)]
    exact fullF_0 hp m (k + 1)
theorem lookF_p0 {fs : List Fl} {ss : List St} {f : Int} (hf : 0 ≤ f) (hp : 0 ≤ (flAt fs f).pl) : lookF fs ss (padB []) f = none := by
  simp only [lookF, standsD, setL_p0 hf, List.foldl_nil, days0]
  exact fullF_0 hp 22 0
theorem inspN_p0 {fs : List Fl} {ss : List St} (hall : HallOK fs ss) : ∀ k, k ≤ fs.length → inspN fs ss (padB []) k = none
  | 0, _ => rfl
  | k + 1, h => by
    obtain ⟨x, hx, -⟩ := has (show k < fs.length by omega)
    have hxe : flAt fs (k : Int) = x := by simp [flAt, List.getD, hx]
    have hpl := (hall.fl x (List.mem_of_getElem? hx)).1
    rw [inspN, inspN_p0 hall k (by omega), lookF_p0 (by omega) (by rw [hxe]; omega)]
    rfl
theorem rights_p0 {fs : List Fl} {ss : List St} (hall : HallOK fs ss) : ∀ m k, padB [] ∈ rights fs ss freeM m k (padB [])
  | 0, k => by
    rw [rights, inspF, inspN_p0 hall _ (Nat.le_refl _)]
    simp
  | m + 1, k => by
    rw [rights, List.mem_flatMap]
    refine ⟨bnone, ?_, ?_⟩
    · simp [berthsK, freeM]
    · rw [p0_set, if_neg (by simp [prune, bnone])]
      exact rights_p0 hall m (k + 1)
theorem allF_p0 {fs : List Fl} {ss : List St} (hall : HallOK fs ss) : padB [] ∈ allF fs ss freeM := by
  unfold allF
  split
  · exact rights_p0 hall _ _
  · exact List.mem_flatMap.2 ⟨bnone, by simp [berthsK, freeM], rights_p0 hall _ _⟩
theorem addM_ne {s : Int × List (List Be)} {p : List Be} {n : Int} : (addM s p n).2 ≠ [] := by
  obtain ⟨c, l⟩ := s
  simp only [addM]
  by_cases h : l = [] ∨ c < n
  · simp [h]
  · simp only [h, if_false]
    rw [not_or] at h
    split
    · simp
    · exact h.1
theorem bestSt_foldl_ne {ss : List St} : ∀ (l : List (List Be)) (s : (Int × List (List Be)) × List (List Be)), s.1.2 ≠ [] → (l.foldl (bstep ss) s).1.2 ≠ []
  | [], s, h => h
  | p :: l, s, h => by
    rw [List.foldl_cons]
    refine bestSt_foldl_ne l _ ?_
    simp only [bstep]
    split
    · exact h
    · exact addM_ne
theorem bestF_ne {fs : List Fl} {ss : List St} (hall : HallOK fs ss) : (bestF fs ss).2 ≠ [] := by
  have h := allF_p0 hall
  rw [bestF, bestSt]
  cases hl : allF fs ss freeM with
  | nil => rw [hl] at h; cases h
  | cons p l =>
    rw [List.foldl_cons]
    refine bestSt_foldl_ne l _ ?_
    simp only [bstep, List.not_mem_nil, if_false]
    exact addM_ne
theorem addM_mem {s : Int × List (List Be)} {p q : List Be} {n : Int} (h : q ∈ (addM s p n).2) : q = p ∨ q ∈ s.2 := by
  obtain ⟨c, l⟩ := s
  simp only [addM] at h
  split at h <;> split at h <;> simp at h <;> first | exact .inl h | exact .inr h | exact h.symm
theorem bestSt_mem {ss : List St} : ∀ (l : List (List Be)) (s : (Int × List (List Be)) × List (List Be)) {q : List Be}, q ∈ (l.foldl (bstep ss) s).1.2 → q ∈ s.1.2 ∨ q ∈ l
  | [], s, q, h => .inl h
  | p :: l, s, q, h => by
    rw [List.foldl_cons] at h
    rcases bestSt_mem l _ h with h | h
    · simp only [bstep] at h
      split at h
      · exact .inl h
      · rcases addM_mem h with rfl | h
        · exact .inr (List.mem_cons_self ..)
        · exact .inl h
    · exact .inr (List.mem_cons_of_mem _ h)
theorem bestF_mem {fs : List Fl} {ss : List St} {q : List Be} (h : q ∈ (bestF fs ss).2) : q ∈ allF fs ss freeM := by
  rcases bestSt_mem _ _ h with h | h
  · cases h
  · exact h
end Go.Mus

/- The best plan, and how many are as good. Conditions: none; over the given program. -/
namespace Go.Mus
set_option maxRecDepth 100000
set_option maxHeartbeats 4000000

theorem cloneB_fn (main : Side) (h : Hp) (l : List Be) (vl : Value) (hs : Sl h Be.row vl l) (hn : l.length ≤ 1000) : Fnc prog main n_slices_Clone_Berth #[vl] h [] (fun v A => ∃ S, Os t_Berth Be.row v l S ∧ Sb S A) := by
  obtain ⟨a, cap, rfl⟩ := hs.isSl
  refine Fnc.of_body at_slices_Clone_Berth rfl (by show 1 ≤ 8; decide) [(0, .slice a l.length cap)] ⟨rfl, trivial⟩ ?_
  refine W.seq ?_
  refine W.region rfl ?_
  refine oq (y_assign rfl rfl) rfl wn rfl rfl ?_
  refine Ops.nil ?_
  refine thn_n ?_
  refine W.seq ?_
  refine W.seq ?_
  refine W.region rfl ?_
  refine oq (y_move rfl rfl) rfl wn rfl rfl ?_
  --abs B
  refine oq (y_slNil rfl rfl) rfl wn rfl rfl ?_
  refine Ops.nil ?_
  refine thn_n ?_
  refine W.cond rfl (fun c4 => ?_) (fun c4 => ?_)
  · refine W.seq ?_
    refine W.region rfl ?_
    refine oq (y_assign rfl rfl) rfl wn rfl rfl ?_
    refine Ops.nil ?_
    refine thn_n ?_
    refine W.ret ?_
    refine thn_r ?_
    have : l = [] := by
      cases a with
      | some a => cases c4
      | none =>
        rcases hss : l with _ | ⟨x, r⟩
        · rfl
        · obtain ⟨b, off, c, E, fz, e, _⟩ := hs.at (i := 0) (p := x) (by rw [hss]; rfl)
          cases e
    subst this
    exact lvt (vs := [.slice none 0 0]) ⟨[], .nil .nil, .refl⟩
  · refine W.skip ?_
    refine thn_n ?_
    refine W.seq ?_
    refine W.region rfl ?_
    refine Ops.bsl0 (fun β5 => ?_) rfl
    refine oq (y_move rfl rfl) rfl wn rfl rfl ?_
    have hO : Os t_Berth Be.row (.slice (some ⟨β5, 0, none⟩) 0 0) ([] : List Be) [(β5, .cells #[] t_Berth (0, 0))] := .inr ⟨β5, #[], 0, [], rfl, rfl, rfl, Nat.le_refl _, Part.all [], .nil⟩
    refine oe rfl wn rfl rfl (e_append (row := Be.row) (l := []) (l' := l) rfl rfl rfl hO .all (fun h2 hE hl => hs.ext hE) (by simp; omega) (by decide) rfl (fun v' S' hS' => ?_))
    rw [List.nil_append] at hS'
    refine oq (y_assign rfl rfl) rfl wn rfl rfl ?_
    refine Ops.nil ?_
    refine thn_n ?_
    refine W.ret ?_
    exact lvt (vs := [v']) ⟨S', hS', .refl⟩

theorem told_fn (main : Side) (h : Hp) (ss : List St) (p : List Be) (vf vs : Value) (hf1 : one vf = true) (hs : Sl h St.row vs ss) (hp4 : p.length = 4) (hn : ss.length ≤ 4) : Fnc prog main n_floor_hall_told #[.agg #[vf, vs], planV p] h [] (fun v A => ∃ S, Os t_Berth Be.row v (p.take ss.length) S ∧ Sb S A) := by
  obtain ⟨a', cap', rfl⟩ := hs.isSl
  have hsz : (flat Be.row p).toArray.size = 8 := by simp [flat_len, hp4]
  have hon : ones (flat Be.row p).toArray.toList = true := plan_ones
  refine Fnc.of_body at_floor_hall_told rfl (by show 2 ≤ 11; decide) [(0, .agg #[vf, .slice a' ss.length cap']), (1, planV p)] ⟨rfl, rfl, trivial⟩ ?_
  refine W.seq ?_
  refine W.region rfl ?_
  refine Ops.box (fun β2 => ?_)
  refine Ops.box (fun β3 => ?_)
  refine oq (y_assign rfl rfl) rfl wn rfl rfl ?_
  refine Ops.nil ?_
  refine thn_n ?_
  refine W.seq ?_
  refine W.region rfl ?_
  refine oq (y_fieldAddr rfl rfl) rfl wn rfl rfl ?_
  refine oq (y_fieldAddr rfl rfl) rfl wn rfl rfl ?_
  refine oq (yld rfl rfl) rfl wn rfl rfl ?_
  refine oq (y_len rfl rfl) rfl wn rfl rfl ?_
  refine oq (y_sliceArrHi rfl rfl rfl) rfl wn rfl rfl ?_
  refine c0 (fun h' hE hL => cloneB_fn _ h' (p.take ss.length) (.slice (some ⟨β3, 0, none⟩) ss.length 4) (Sl.mk (hL β3 _ (.head _)) (by rw [List.length_take]; omega) ?_) (by rw [List.length_take]; omega)) (fun v A' hv => ?_)
  · refine ⟨[], flat Be.row (p.drop ss.length), ?_, rfl⟩
    rw [List.nil_append, ← flat_app, List.take_append_drop]
    rfl
  obtain ⟨S, hS, hsb⟩ := hv
  refine oq (y_assign rfl rfl) rfl wn rfl rfl ?_
  refine Ops.nil ?_
  refine thn_n ?_
  refine W.ret ?_
  exact lvt (vs := [v]) ⟨S, hS, hsb.right (.cons rfl (.cons rfl .nil))⟩

def bestB (fs : List Fl) (ss : List St) : List Be × Int × Int := if ckPlant fs ss ≠ 0 then ([], 0, ckPlant fs ss) else (((bestF fs ss).2.headD []).take ss.length, (bestF fs ss).1, 0)
theorem Best_fn (main : Side) (hS : ∀ S, main.ok S → ∃ Fin, S = Mn prog Fin) (hmb : main.b = true) (h : Hp) (fs : List Fl) (ss : List St) (vf vs : Value) (Eg : TypeId) (zg : Nat × Nat) (hf : Sl h Fl.row vf fs) (hs : Sl h St.row vs ss) (zf : Zs h vf) (zs : Zs h vs)
    (hg : h 0 = some (.cells #[rtV t_error] Eg zg)) (z0 : h.z 0) : Fnc prog main n_floor_Best #[.agg #[vf, vs]] h [] (fun v A => ∃ u S, v = .tuple #[u, I (bestB fs ss).2.1, I (bestB fs ss).2.2] ∧ Os t_Berth Be.row u (bestB fs ss).1 S ∧ Sb S A) := by
  obtain ⟨a, cap, rfl⟩ := hf.isSl
  obtain ⟨a', cap', rfl⟩ := hs.isSl
  refine Fnc.of_body at_floor_Best rfl (by show 1 ≤ 24; decide) [(0, .agg #[.slice a fs.length cap, .slice a' ss.length cap'])] ⟨rfl, trivial⟩ ?_
  refine W.seq ?_
  refine W.region rfl ?_
  refine Ops.box (fun β1 => ?_)
  refine oq (y_assign rfl rfl) rfl wn rfl rfl ?_
  refine oq (y_assign rfl rfl) rfl wn rfl rfl ?_
  refine oq (y_assign rfl rfl) rfl wn rfl rfl ?_
  refine Ops.nil ?_
  refine thn_n ?_
  refine W.seq ?_
  refine W.seq ?_
  refine W.region rfl ?_
  first | refine oq (yldW rfl rfl) rfl wn rfl rfl ?_ | refine oq (yldA rfl rfl) rfl wn rfl rfl ?_
  refine cp (fun h' hE hL => Check_fn _ h' _ _ _ _ (hf.ext hE) (hs.ext hE)) ?_
  refine oq (y_assign rfl rfl) rfl wn rfl rfl ?_
  refine Ops.nil ?_
  refine thn_n ?_
  refine W.seq ?_
  refine W.region rfl ?_
  refine oq (y_move rfl rfl) rfl wn rfl rfl ?_
  refine oq (y_neq rfl rfl rfl) rfl wn rfl rfl ?_
  refine Ops.nil ?_
  refine thn_n ?_
  refine W.condp rfl (fun c10 => ?_) (fun c10 => ?_)
  · refine W.seq ?_
    refine W.region rfl ?_
    refine oq (y_move rfl rfl) rfl wn rfl rfl ?_
    refine oq (y_assign rfl rfl) rfl wn rfl rfl ?_
    refine oq (y_assign rfl rfl) rfl wn rfl rfl ?_
    refine oq (y_assign rfl rfl) rfl wn rfl rfl ?_
    refine Ops.nil ?_
    refine thn_n ?_
    refine W.ret ?_
    refine thn_r ?_
    refine lvt (vs := [_, _, _]) ⟨.slice none 0 0, [], ?_, ?_, .nil (.cons rfl .nil)⟩
    · simp only [bestB]; rw [if_pos c10]; rfl
    · simp only [bestB]; rw [if_pos c10]; exact .nil .nil
  · have h0 : ckPlant fs ss = 0 := by simpa using c10
    have hall := hall_ck h0
    have hn4 := hall.ns
    obtain ⟨p, r, hpr⟩ : ∃ p r, (bestF fs ss).2 = p :: r := by
      cases h : (bestF fs ss).2 with
      | nil => exact absurd h (bestF_ne hall)
      | cons p r => exact ⟨p, r, rfl⟩
    have hp4 : p.length = 4 := allF4 (bestF_mem (hpr ▸ List.mem_cons_self ..))
    have hbB : bestB fs ss = (p.take ss.length, (bestF fs ss).1, 0) := by simp only [bestB]; rw [if_neg c10, hpr]; rfl
    refine W.skip ?_
    refine thn_n ?_
    refine W.seq ?_
    refine W.region rfl ?_
    first | refine oq (yldW rfl rfl) rfl wn rfl rfl ?_ | refine oq (yldA rfl rfl) rfl wn rfl rfl ?_
    refine oq (y_build (cs := #[.slice a fs.length cap, .slice a' ss.length cap']) rfl rfl rfl) rfl wn rfl rfl ?_
    refine c0 (fun h' hE hL => best_fn _ hS hmb h' fs ss (.slice a fs.length cap) (.slice a' ss.length cap') Eg zg (hf.ext hE) (hs.ext hE) (zf.ext hE) (zs.ext hE) hall (hE.1 _ _ hg) (hE.2 _ z0)) (fun v A' hv => ?_)
    obtain ⟨u, S, rfl, hO, hsb⟩ := hv
    obtain ⟨ua, uc, rfl⟩ := hO.isSl
    refine Ops.new (fun β6 => ?_)
    first | refine Ops.stoW ?_ | refine Ops.stoA ?_
    refine Ops.nil ?_
    refine thn_n ?_
    refine W.sb (F' := S ++ ((β6, .cells #[I (bestF fs ss).1, .slice ua (bestF fs ss).2.length uc] t_most (0, 0)) :: [(β1, .cells #[.slice a fs.length cap, .slice a' ss.length cap'] t_Plant (0, 0))])) ?_ ?_
    · refine Sb.trans (Sb.of_perm List.perm_middle) (.cons (hsb.app .refl))
    refine freezeOs hO (fun hx hEx hsl _ => ?_)
    rw [hpr] at hsl ⊢
    have hlen : 0 < (p :: r).length := Nat.succ_pos _
    obtain ⟨b, off, c, E, fz, rfl, hb, hx1, hy1, hz1⟩ := hsl.at (i := 0) (p := p) rfl
    have hx2 : c.extract (off + 0 * 8) (off + 0 * 8 + 8) = (flat Be.row p).toArray := by rw [hx1, rowP_eq hp4]
    clear hx1 hz1
    refine W.seq ?_
    refine W.drawP2 (n := 12) rfl ?_
    first | refine aq (i := 0) (yldW rfl rfl) rfl an rfl rfl ?_ | refine aq (i := 0) (yldA rfl rfl) rfl an rfl rfl ?_
    refine aq (i := 1) (y_build rfl rfl rfl) rfl an rfl rfl ?_
    refine aq (i := 2) (y_fieldAddr rfl rfl) rfl an rfl rfl ?_
    refine aq (i := 3) (yld rfl rfl) rfl an rfl rfl ?_
    first | refine aq (i := 4) (yix rfl rfl rfl) rfl an rfl rfl ?_ | refine aq (i := 4) (yixI rfl rfl rfl) rfl an rfl rfl ?_
    first | refine aq (i := 5) (yldW rfl rfl) rfl an rfl rfl ?_ | refine aq (i := 5) (yldA rfl rfl) rfl an rfl rfl ?_
    refine aq (i := 7) (y_fieldAddr rfl rfl) rfl an rfl rfl ?_
    refine aq (i := 8) (yld rfl rfl) rfl an rfl rfl ?_
    refine ae (i := 6) rfl an rfl rfl (e_call0 (args := [_, _]) rfl rfl (fun h' hE hL => told_fn _ h' ss p (.slice a fs.length cap) (.slice a' ss.length cap') rfl ((hs.ext hEx).ext hE) hp4 hn4) (fun v A2 hv => ?_))
    refine ⟨.inr (fun q hq => List.mem_append_right _ hq), ?_⟩
    obtain ⟨S2, hO2, hsb2⟩ := hv
    refine aq (i := 9) (y_assign rfl rfl) rfl an rfl rfl ?_
    refine aq (i := 10) (y_assign rfl rfl) rfl an rfl rfl ?_
    refine aq (i := 11) (y_assign rfl rfl) rfl an rfl rfl ?_
    refine az ?_
    refine thn_n ?_
    refine W.ret ?_
    refine lvt (vs := [_, _, _]) ⟨v, S2, ?_, ?_, ?_⟩
    · rw [hbB]; rfl
    · rw [hbB]; exact hO2
    · exact hsb2.right (.cons rfl (.cons rfl .nil))
end Go.Mus

/- A valid plan is in order; what 'asked' answers, in parts. Conditions: none. -/
namespace Go.Mus

theorem ckBerths_at {nf : Int} : ∀ {ss : List St} {l : List Be}, ckBerths nf ss l = 0 → ∀ {i : Nat} {s : St} {b : Be}, ss[i]? = some s → l[i]? = some b → ckBerth nf s b = 0
  | [], l, _, i, s, b, h1, _ => by simp at h1
  | s :: ss, [], _, i, _, b, _, h2 => by simp at h2
  | s :: ss, b :: l, h, i, s', b', h1, h2 => by
    simp only [ckBerths] at h
    split at h
    · rename_i h0
      cases i with
      | zero => simp at h1 h2; subst h1 h2; exact h0
      | succ i => exact ckBerths_at h (by simpa using h1) (by simpa using h2)
    · rename_i h0; exact absurd h h0
theorem ckBerth0 {nf : Int} {s : St} {b : Be} (h : ckBerth nf s b = 0) : -1 ≤ b.fl ∧ b.fl < nf ∧ (b.fl < 0 → b.day = 0) ∧ (0 ≤ b.fl → s.day ≤ b.day ∧ b.day ≤ s.day + s.wa) := by
  unfold ckBerth at h
  split at h
  · cases h
  rename_i h1
  split at h
  · cases h
  rename_i h2
  split at h
  · cases h
  rename_i h3
  simp only [outs, not_or, not_and] at h1 h2 h3
  refine ⟨by omega, by omega, fun hf => ?_, fun hf => ?_⟩
  · exact Decidable.byContradiction fun hd => h2 hf hd
  · have := h3 hf; omega
theorem plan_ck {fs : List Fl} {ss : List St} {l : List Be} (h : ckPlan fs ss l = 0) : HallOK fs ss ∧ PlanOf fs ss (padB l) ∧ l.length = ss.length := by
  obtain ⟨h1, h2, h3⟩ := ckPlan0 h
  have hall := hall_ck h1
  have hn := hall.ns
  have hf := hall.nf
  have hmem : ∀ b ∈ l, -1 ≤ b.fl ∧ b.fl < fs.length ∧ 0 ≤ b.day ∧ b.day ≤ 17 := by
    intro b hb
    obtain ⟨i, hi⟩ := List.mem_iff_getElem?.1 hb
    obtain ⟨s, hs, -⟩ := has (show i < ss.length by
      rcases Nat.lt_or_ge i l.length with h' | h'
      · omega
      · rw [List.getElem?_eq_none h'] at hi; cases hi)
    have hso := hall.st s (List.mem_of_getElem? hs)
    obtain ⟨q1, q2, q3, q4⟩ := ckBerth0 (ckBerths_at h3 hs hi)
    refine ⟨q1, q2, ?_, ?_⟩
    · rcases Int.lt_or_le b.fl 0 with hl | hl
      · rw [q3 hl]; omega
      · have := q4 hl; omega
    · rcases Int.lt_or_le b.fl 0 with hl | hl
      · rw [q3 hl]; omega
      · have := q4 hl; omega
  have hpad : ∀ b ∈ padB l, b ∈ l ∨ b = bnone := by
    intro b hb
    rcases List.mem_append.1 hb with hb | hb
    · exact .inl hb
    · exact .inr (List.eq_of_mem_replicate hb)
  refine ⟨hall, ⟨⟨padB_len (by omega), fun b hb => ?_⟩, fun b hb => ?_, fun i hi => ?_⟩, h2⟩
  · rcases hpad b hb with hb | rfl
    · have := hmem b hb; omega
    · simp [bnone]
  · rcases hpad b hb with hb | rfl
    · exact (hmem b hb).2.1
    · simp [bnone]; omega
  · have : beAt (padB l) i = bnone := by
      simp only [beAt, padB, List.getD]
      rw [List.getElem?_append_right (by omega)]
      cases hx : (List.replicate (4 - l.length) bnone)[i - l.length]? with
      | none => rfl
      | some b => rw [List.eq_of_mem_replicate (List.mem_of_getElem? hx)]; rfl
    rw [this]; simp [bnone]

theorem askE0 {fs : List Fl} {ss : List St} {l : List Be} {ns : List Int} (h : askE fs ss l ns = 0) : ckPlan fs ss l = 0 ∧ badF fs.length ns = false := by
  unfold askE at h
  split at h
  · rename_i h1; exact absurd h h1
  · rename_i h1
    split at h
    · cases h
    · rename_i h2; exact ⟨Decidable.byContradiction h1, by simpa using h2⟩
theorem badF1 {nf n : Int} (h : badF nf [n] = false) : 0 ≤ n ∧ n < nf := by
  simp only [badF] at h
  split at h
  · cases h
  · rename_i h1; simp only [outs, not_or] at h1; omega
theorem askV_shape (vf vs : Value) (fs : List Fl) (ss : List St) (l : List Be) (ns : List Int) (h1 : one vf = true) (h2 : one vs = true) : ∃ va vb pp, askV vf vs fs ss l ns = .tuple #[.agg #[va, vb], planV pp, I (askE fs ss l ns)] ∧ one va = true ∧ one vb = true ∧ pp.length = 4 ∧ (askE fs ss l ns = 0 → va = vf ∧ vb = vs ∧ pp = padB l) := by
  unfold askV
  split
  · rename_i h
    rw [h]
    obtain ⟨-, hp, -⟩ := plan_ck (askE0 h).1
    exact ⟨vf, vs, padB l, rfl, h1, h2, hp.ok.len, fun _ => ⟨rfl, rfl, rfl⟩⟩
  · rename_i h
    exact ⟨.slice none 0 0, .slice none 0 0, [⟨0, 0⟩, ⟨0, 0⟩, ⟨0, 0⟩, ⟨0, 0⟩], rfl, rfl, rfl, rfl, fun h' => absurd h' h⟩
end Go.Mus

/- How many are as good; what stands; what is wrong. Conditions: none; over the given program. -/
namespace Go.Mus
set_option maxRecDepth 100000
set_option maxHeartbeats 4000000

def countB (fs : List Fl) (ss : List St) : Int × Int := if ckPlant fs ss ≠ 0 then (0, ckPlant fs ss) else ((bestF fs ss).2.length, 0)
theorem Count_fn (main : Side) (hS : ∀ S, main.ok S → ∃ Fin, S = Mn prog Fin) (hmb : main.b = true) (h : Hp) (fs : List Fl) (ss : List St) (vf vs : Value) (Eg : TypeId) (zg : Nat × Nat) (hf : Sl h Fl.row vf fs) (hs : Sl h St.row vs ss) (zf : Zs h vf) (zs : Zs h vs)
    (hg : h 0 = some (.cells #[rtV t_error] Eg zg)) (z0 : h.z 0) : Pu prog main n_floor_Count #[.agg #[vf, vs]] h (.tuple #[I (countB fs ss).1, I (countB fs ss).2]) := by
  obtain ⟨a, cap, rfl⟩ := hf.isSl
  obtain ⟨a', cap', rfl⟩ := hs.isSl
  refine Fnc.of_body at_floor_Count rfl (by show 1 ≤ 15; decide) [(0, .agg #[.slice a fs.length cap, .slice a' ss.length cap'])] ⟨rfl, trivial⟩ ?_
  refine W.seq ?_
  refine W.region rfl ?_
  refine Ops.box (fun β1 => ?_)
  refine oq (y_assign rfl rfl) rfl wn rfl rfl ?_
  refine oq (y_assign rfl rfl) rfl wn rfl rfl ?_
  refine Ops.nil ?_
  refine thn_n ?_
  refine W.seq ?_
  refine W.seq ?_
  refine W.region rfl ?_
  first | refine oq (yldW rfl rfl) rfl wn rfl rfl ?_ | refine oq (yldA rfl rfl) rfl wn rfl rfl ?_
  refine cp (fun h' hE hL => Check_fn _ h' _ _ _ _ (hf.ext hE) (hs.ext hE)) ?_
  refine oq (y_assign rfl rfl) rfl wn rfl rfl ?_
  refine Ops.nil ?_
  refine thn_n ?_
  refine W.seq ?_
  refine W.region rfl ?_
  refine oq (y_move rfl rfl) rfl wn rfl rfl ?_
  refine oq (y_neq rfl rfl rfl) rfl wn rfl rfl ?_
  refine Ops.nil ?_
  refine thn_n ?_
  refine W.condp rfl (fun c8 => ?_) (fun c8 => ?_)
  · refine W.seq ?_
    refine W.region rfl ?_
    refine oq (y_move rfl rfl) rfl wn rfl rfl ?_
    refine oq (y_assign rfl rfl) rfl wn rfl rfl ?_
    refine oq (y_assign rfl rfl) rfl wn rfl rfl ?_
    refine Ops.nil ?_
    refine thn_n ?_
    refine W.ret ?_
    refine thn_r ?_
    refine lvp ?_
    simp only [countB]; rw [if_pos c8]; rfl
  · have h0 : ckPlant fs ss = 0 := by simpa using c8
    have hall := hall_ck h0
    refine W.skip ?_
    refine thn_n ?_
    refine W.seq ?_
    refine W.region rfl ?_
    first | refine oq (yldW rfl rfl) rfl wn rfl rfl ?_ | refine oq (yldA rfl rfl) rfl wn rfl rfl ?_
    refine oq (y_build (cs := #[.slice a fs.length cap, .slice a' ss.length cap']) rfl rfl rfl) rfl wn rfl rfl ?_
    refine c0 (fun h' hE hL => best_fn _ hS hmb h' fs ss (.slice a fs.length cap) (.slice a' ss.length cap') Eg zg (hf.ext hE) (hs.ext hE) (zf.ext hE) (zs.ext hE) hall (hE.1 _ _ hg) (hE.2 _ z0)) (fun v A' hv => ?_)
    obtain ⟨u, S, rfl, hO, hsb⟩ := hv
    obtain ⟨ua, uc, rfl⟩ := hO.isSl
    have hsh : Shut A' := by
      obtain ⟨X, p, x⟩ := hsb
      intro q hq
      rcases List.mem_append.1 (p.symm.subset hq) with h | h
      · exact hO.shut q h
      · exact x q h
    first | refine oq (y_field rfl rfl rfl) rfl wn rfl rfl ?_ | refine oq (y_fieldA rfl rfl rfl) rfl wn rfl rfl ?_
    refine oq (y_len rfl rfl) rfl wn rfl rfl ?_
    refine oq (y_assign rfl rfl) rfl wn rfl rfl ?_
    refine oq (y_assign rfl rfl) rfl wn rfl rfl ?_
    refine Ops.nil ?_
    refine thn_n ?_
    refine W.ret ?_
    refine lvp ?_ (hs := hsh.app (.cons rfl .nil))
    simp only [countB]; rw [if_neg c8]; rfl

def Sp.val (s : Sp) : Value := .agg #[I s.lo, I s.hi]
def standsV (fs : List Fl) (ss : List St) (l : List Be) (f d : Int) : Sp × Int :=
  if askE fs ss l [f] ≠ 0 then (⟨0, 0⟩, askE fs ss l [f]) else if outs d 0 21 then (⟨0, 0⟩, 1) else ((standsD fs ss (padB l) f).getD d.toNat ⟨0, 0⟩, 0)
theorem Stands_fn (main : Side) (h : Hp) (fs : List Fl) (ss : List St) (l : List Be) (f d : Int) (vf vs vl : Value) (hf : Sl h Fl.row vf fs) (hs : Sl h St.row vs ss) (hl : Sl h Be.row vl l) : Pu prog main n_floor_Stands #[.agg #[vf, vs], vl, I f, I d] h (.tuple #[(standsV fs ss l f d).1.val, I (standsV fs ss l f d).2]) := by
  obtain ⟨a, cap, rfl⟩ := hf.isSl
  obtain ⟨a', cap', rfl⟩ := hs.isSl
  obtain ⟨a2, cap2, rfl⟩ := hl.isSl
  obtain ⟨va, vb, pp, hsh, h1a, h1b, hpp, hok⟩ := askV_shape (.slice a fs.length cap) (.slice a' ss.length cap') fs ss l [f] rfl rfl
  have hsz : (flat Be.row pp).toArray.size = 8 := by simp [flat_len, hpp]
  have hon : ones (flat Be.row pp).toArray.toList = true := plan_ones
  have hon2 : ones (#[va, vb] : Array Value).toList = true := by simp [ones, h1a, h1b]
  refine Fnc.of_body at_floor_Stands rfl (by show 4 ≤ 35; decide) [(0, .agg #[.slice a fs.length cap, .slice a' ss.length cap']), (1, .slice a2 l.length cap2), (2, I f), (3, I d)] ⟨rfl, rfl, rfl, rfl, trivial⟩ ?_
  refine W.seq ?_
  refine W.region rfl ?_
  refine Ops.box (fun β4 => ?_)
  refine Ops.new (fun β8 => ?_)
  refine oq (y_assign rfl rfl) rfl wn rfl rfl ?_
  refine Ops.nil ?_
  refine thn_n ?_
  refine W.seq ?_
  refine W.region rfl ?_
  first | refine oq (yldW rfl rfl) rfl wn rfl rfl ?_ | refine oq (yldA rfl rfl) rfl wn rfl rfl ?_
  refine oq (y_move rfl rfl) rfl wn rfl rfl ?_
  refine oq (y_move rfl rfl) rfl wn rfl rfl ?_
  refine Ops.bsl (cs := #[I f]) (fun β17 => ?_) rfl
  refine cp (u := .tuple #[.agg #[va, vb], planV pp, I (askE fs ss l [f])]) (fun h' hE hL => by rw [← hsh]; exact asked_fn _ h' fs ss l [f] _ _ _ (.slice (some ⟨β17, 0, none⟩) 1 1) (hf.ext hE) (hs.ext hE) (hl.ext hE) (Sl.mk (hL β17 _ (.head _)) rfl (Part.all [I f])) (by simp)) ?_
  refine oq (y_move rfl rfl) rfl wn rfl rfl ?_
  refine oq (y_extract rfl rfl rfl) rfl wn rfl rfl ?_
  refine oq (y_extract rfl rfl rfl) rfl wn rfl rfl ?_
  refine oq (y_extract rfl rfl rfl) rfl wn rfl rfl ?_
  refine Ops.new (fun β10 => ?_)
  refine Ops.new (fun β11 => ?_)
  first | refine Ops.stoW ?_ | refine Ops.stoA ?_
  first | refine Ops.stoW ?_ | refine Ops.stoA ?_
  refine oq (y_assign rfl rfl) rfl wn rfl rfl ?_
  refine Ops.nil ?_
  refine thn_n ?_
  refine W.seq ?_
  refine W.seq ?_
  refine W.region rfl ?_
  refine oq (y_move rfl rfl) rfl wn rfl rfl ?_
  refine oq (y_neq rfl rfl rfl) rfl wn rfl rfl ?_
  refine Ops.nil ?_
  refine thn_n ?_
  refine W.condp rfl (fun c23 => ?_) (fun c23 => ?_)
  · refine W.seq ?_
    refine W.region rfl ?_
    refine oq (y_build rfl rfl rfl) rfl wn rfl rfl ?_
    refine oq (y_move rfl rfl) rfl wn rfl rfl ?_
    first | refine Ops.stoW ?_ | refine Ops.stoA ?_
    refine oq (y_assign rfl rfl) rfl wn rfl rfl ?_
    refine Ops.nil ?_
    refine thn_n ?_
    refine W.ret ?_
    refine thn_r ?_
    refine lvc (hv := rAgg (rTmp rNil)) ⟨?_, by repeat (first | exact Shut.nil | refine Shut.cons rfl ?_)⟩
    simp only [standsV]; rw [if_pos c23]; rfl
  · have h0 : askE fs ss l [f] = 0 := by simpa using c23
    obtain ⟨rfl, rfl, rfl⟩ := hok h0
    obtain ⟨hck, hbf⟩ := askE0 h0
    obtain ⟨hall, hp, hll⟩ := plan_ck hck
    obtain ⟨hf0, hf1⟩ := badF1 hbf
    refine W.skip ?_
    refine thn_n ?_
    refine W.seq ?_
    refine W.seq ?_
    refine W.region rfl ?_
    refine oq (y_move rfl rfl) rfl wn rfl rfl ?_
    refine cp (fun h' hE hL => outside_fn _ h' _ _ _) ?_
    refine Ops.nil ?_
    refine thn_n ?_
    refine W.condp rfl (fun c27 => ?_) (fun c27 => ?_)
    · refine W.seq ?_
      refine W.region rfl ?_
      refine oq (y_build rfl rfl rfl) rfl wn rfl rfl ?_
      first | refine Ops.stoW ?_ | refine Ops.stoA ?_
      refine oq (y_assign rfl rfl) rfl wn rfl rfl ?_
      refine Ops.nil ?_
      refine thn_n ?_
      refine W.ret ?_
      refine thn_r ?_
      refine lvc (hv := rAgg (rTmp rNil)) ⟨?_, by repeat (first | exact Shut.nil | refine Shut.cons rfl ?_)⟩
      simp only [standsV]; rw [if_neg c23, if_pos c27]; rfl
    · have hd : 0 ≤ d ∧ d < 22 := by simp only [outs, not_or] at c27; omega
      obtain ⟨D, hD⟩ : ∃ D, standsD fs ss (padB l) f = D := ⟨_, rfl⟩
      have hDl : D.length = 22 := by rw [← hD]; exact standsD_len
      obtain ⟨s, hsk, -⟩ := has (show d.toNat < D.length by omega)
      have hex : (flat Sp.row D).toArray.extract (d.toNat * 2) (d.toNat * 2 + 2) = #[I s.lo, I s.hi] := days_ex hsk
      refine W.skip ?_
      refine thn_n ?_
      refine W.seq ?_
      refine W.region rfl ?_
      first | refine oq (yldW rfl rfl) rfl wn rfl rfl ?_ | refine oq (yldA rfl rfl) rfl wn rfl rfl ?_
      first | refine oq (yldW rfl rfl) rfl wn rfl rfl ?_ | refine oq (yldA rfl rfl) rfl wn rfl rfl ?_
      refine oq (y_move rfl rfl) rfl wn rfl rfl ?_
      refine cp (u := daysV D) (fun h' hE hL => by rw [← hD]; exact stands_fn _ h' fs ss (padB l) f _ _ (hf.ext hE) (hs.ext hE) hall hp hf0 hf1) ?_
      refine oq (y_move rfl rfl) rfl wn rfl rfl ?_
      first | refine oq (y_index rfl rfl rfl (by omega) (by omega) (by first | assumption | rfl)) rfl wn rfl rfl ?_ | refine oq (y_indexA rfl rfl rfl (by omega) (by omega) (by first | assumption | rfl)) rfl wn rfl rfl ?_
      first | refine Ops.stoW ?_ | refine Ops.stoA ?_
      refine oq (y_assign rfl rfl) rfl wn rfl rfl ?_
      refine Ops.nil ?_
      refine thn_n ?_
      refine W.ret ?_
      refine lvc (hv := rAgg (rTmp rNil)) ⟨?_, by repeat (first | exact Shut.nil | refine Shut.cons rfl ?_)⟩
      simp only [standsV]; rw [if_neg c23, if_neg c27, hD, List.getD, hsk]; rfl
end Go.Mus

/- What is wrong with a plan. Conditions: none; over the given program. -/
namespace Go.Mus
set_option maxRecDepth 100000
set_option maxHeartbeats 4000000

def wcell (c : Array Value) : Err → Array Value
  | none => c
  | some (q, f) => #[faultV (some q), I f]
theorem As2_fn (main : Side) (h : Hp) (e : Err) (β : Nat) (c : Array Value) (Eg : TypeId) (zg : Nat × Nat) (hc : c.size = 2) (hg : h 0 = some (.cells #[rtV t_error] Eg zg)) :
    Fnc prog main n_errors_As #[errV e, .iface t_p_wrong (.pointer (some ⟨β, 0, none⟩))] h [(β, .cells c t_wrong (0, 0))] (fun v A => v = .bool e.isSome ∧ Sb [(β, .cells (wcell c e) t_wrong (0, 0))] A) := by
  rcases e with _ | ⟨q, f⟩
  · refine (Fnc.frame (A := []) (B := [(β, .cells c t_wrong (0, 0))]) fun h' _ _ => AsNil_fn main h' (.iface t_p_wrong (.pointer (some ⟨β, 0, none⟩)))).mono ?_
    rintro v F ⟨A', ⟨rfl, hA⟩, rfl⟩
    exact ⟨rfl, Sb.left .refl hA⟩
  · exact As_fn main h (some q) f β c Eg zg hc hg

def errW : Err → Int × Int × Int
  | none => (-1, -1, 0)
  | some ((_, n), f) => (f, n, 0)
def wrongV (fs : List Fl) (ss : List St) (l : List Be) : Int × Int × Int :=
  if askE fs ss l [] ≠ 0 then (0, 0, askE fs ss l []) else errW (inspF fs ss (padB l))
theorem Wrong_fn (main : Side) (h : Hp) (fs : List Fl) (ss : List St) (l : List Be) (vf vs vl : Value) (Eg : TypeId) (zg : Nat × Nat) (hf : Sl h Fl.row vf fs) (hs : Sl h St.row vs ss) (hl : Sl h Be.row vl l) (hg : h 0 = some (.cells #[rtV t_error] Eg zg)) : Pu prog main n_floor_Wrong #[.agg #[vf, vs], vl] h (.tuple #[I (wrongV fs ss l).1, I (wrongV fs ss l).2.1, I (wrongV fs ss l).2.2]) := by
  obtain ⟨a, cap, rfl⟩ := hf.isSl
  obtain ⟨a', cap', rfl⟩ := hs.isSl
  obtain ⟨a2, cap2, rfl⟩ := hl.isSl
  obtain ⟨va, vb, pp, hsh, h1a, h1b, hpp, hok⟩ := askV_shape (.slice a fs.length cap) (.slice a' ss.length cap') fs ss l [] rfl rfl
  have hsz : (flat Be.row pp).toArray.size = 8 := by simp [flat_len, hpp]
  have hon : ones (flat Be.row pp).toArray.toList = true := plan_ones
  have hon2 : ones (#[va, vb] : Array Value).toList = true := by simp [ones, h1a, h1b]
  refine Fnc.of_body at_floor_Wrong rfl (by show 2 ≤ 30; decide) [(0, .agg #[.slice a fs.length cap, .slice a' ss.length cap']), (1, .slice a2 l.length cap2)] ⟨rfl, rfl, trivial⟩ ?_
  refine W.seq ?_
  refine W.region rfl ?_
  refine Ops.box (fun β2 => ?_)
  refine oq (y_assign rfl rfl) rfl wn rfl rfl ?_
  refine oq (y_assign rfl rfl) rfl wn rfl rfl ?_
  refine oq (y_assign rfl rfl) rfl wn rfl rfl ?_
  refine Ops.nil ?_
  refine thn_n ?_
  refine W.seq ?_
  refine W.region rfl ?_
  first | refine oq (yldW rfl rfl) rfl wn rfl rfl ?_ | refine oq (yldA rfl rfl) rfl wn rfl rfl ?_
  refine oq (y_move rfl rfl) rfl wn rfl rfl ?_
  refine cp (u := .tuple #[.agg #[va, vb], planV pp, I (askE fs ss l [])]) (fun h' hE hL => by rw [← hsh]; exact asked_fn _ h' fs ss l [] _ _ _ (.slice none 0 0) (hf.ext hE) (hs.ext hE) (hl.ext hE) .nil (by simp)) ?_
  refine oq (y_move rfl rfl) rfl wn rfl rfl ?_
  refine oq (y_extract rfl rfl rfl) rfl wn rfl rfl ?_
  refine oq (y_extract rfl rfl rfl) rfl wn rfl rfl ?_
  refine oq (y_extract rfl rfl rfl) rfl wn rfl rfl ?_
  refine Ops.new (fun β7 => ?_)
  refine Ops.new (fun β8 => ?_)
  first | refine Ops.stoW ?_ | refine Ops.stoA ?_
  first | refine Ops.stoW ?_ | refine Ops.stoA ?_
  refine oq (y_assign rfl rfl) rfl wn rfl rfl ?_
  refine Ops.nil ?_
  refine thn_n ?_
  refine W.seq ?_
  refine W.seq ?_
  refine W.region rfl ?_
  refine oq (y_move rfl rfl) rfl wn rfl rfl ?_
  refine oq (y_neq rfl rfl rfl) rfl wn rfl rfl ?_
  refine Ops.nil ?_
  refine thn_n ?_
  refine W.condp rfl (fun c18 => ?_) (fun c18 => ?_)
  · refine W.seq ?_
    refine W.region rfl ?_
    refine oq (y_move rfl rfl) rfl wn rfl rfl ?_
    refine oq (y_assign rfl rfl) rfl wn rfl rfl ?_
    refine oq (y_assign rfl rfl) rfl wn rfl rfl ?_
    refine oq (y_assign rfl rfl) rfl wn rfl rfl ?_
    refine Ops.nil ?_
    refine thn_n ?_
    refine W.ret ?_
    refine thn_r ?_
    refine lvp ?_
    simp only [wrongV]; rw [if_pos c18]; rfl
  · have h0 : askE fs ss l [] = 0 := by simpa using c18
    obtain ⟨rfl, rfl, rfl⟩ := hok h0
    obtain ⟨hall, hp, hll⟩ := plan_ck (askE0 h0).1
    obtain ⟨e, he⟩ : ∃ e, inspF fs ss (padB l) = e := ⟨_, rfl⟩
    have hw : wrongV fs ss l = errW e := by simp only [wrongV]; rw [if_neg c18, he]
    rw [hw]
    refine W.skip ?_
    refine thn_n ?_
    refine W.seq ?_
    refine W.region rfl ?_
    refine Ops.new (fun β9 => ?_)
    refine Ops.nil ?_
    refine thn_n ?_
    refine W.seq ?_
    refine W.seq ?_
    refine W.region rfl ?_
    first | refine oq (yldW rfl rfl) rfl wn rfl rfl ?_ | refine oq (yldA rfl rfl) rfl wn rfl rfl ?_
    first | refine oq (yldW rfl rfl) rfl wn rfl rfl ?_ | refine oq (yldA rfl rfl) rfl wn rfl rfl ?_
    refine cp (u := errV e) (fun h' hE hL => by rw [← he]; exact inspect_fn _ h' fs ss (padB l) _ _ Eg zg (hf.ext hE) (hs.ext hE) hall hp (hE.1 _ _ hg)) ?_
    first | refine oq (yfcN rfl rfl) rfl wn rfl rfl ?_ | refine oq (yfc rfl rfl) rfl wn rfl rfl ?_
    --abs B
    refine cg (A := [(β9, _)]) .head (fun h' hE hL => As2_fn _ h' e β9 _ Eg zg rfl (hE.1 _ _ hg)) (fun v A' hv => ?_)
    obtain ⟨rfl, hsb⟩ := hv
    refine Ops.sb (hsb.app .refl) ?_
    refine Ops.nil ?_
    refine thn_n ?_
    refine W.cond rfl (fun c24 => ?_) (fun c24 => ?_)
    · obtain ⟨⟨cc, n⟩, f, rfl⟩ : ∃ z f, e = some (z, f) := by
        cases e with
        | none => cases c24
        | some z => exact ⟨z.1, z.2, rfl⟩
      refine W.seq ?_
      refine W.drawP1 (n := 8) rfl ?_
      refine aq (i := 0) (y_fieldAddr rfl rfl) rfl an rfl rfl ?_
      refine aq (i := 1) (yld rfl rfl) rfl an rfl rfl ?_
      refine aq (i := 2) (y_fieldAddr rfl rfl) rfl an rfl rfl ?_
      refine aq (i := 3) (yld rfl rfl) rfl an rfl rfl ?_
      refine acday (i := 4) ?_ (.inr (Keeps.one (.head _) Keeps.nil))
      refine aq (i := 5) (y_assign rfl rfl) rfl an rfl rfl ?_
      refine aq (i := 6) (y_assign rfl rfl) rfl an rfl rfl ?_
      refine aq (i := 7) (y_assign rfl rfl) rfl an rfl rfl ?_
      refine az ?_
      refine thn_n ?_
      refine W.ret ?_
      refine thn_r ?_
      exact lvp rfl
    · have hen : e = none := by
        cases e with
        | none => rfl
        | some z => cases c24
      subst hen
      refine W.skip ?_
      refine thn_n ?_
      refine W.seq ?_
      refine W.region rfl ?_
      refine oq (y_assign rfl rfl) rfl wn rfl rfl ?_
      refine oq (y_assign rfl rfl) rfl wn rfl rfl ?_
      refine oq (y_assign rfl rfl) rfl wn rfl rfl ?_
      refine Ops.nil ?_
      refine thn_n ?_
      refine W.ret ?_
      exact lvp rfl
end Go.Mus

/- From a law's body to the run of the machine, and to what is claimed of it. Conditions: none; over any program. -/
namespace Go.Mus

/-- A function that answers u, called from outside. -/
def TopV (P : Program) (main : Side) (f : FuncId) (args : Array Value) (h : Hp) (u : Value) : Prop :=
  ∃ (fn : Func) (c : Code) (ρ : Env), P.funcs[f]? = some fn ∧ fn.body = some c ∧ args.size ≤ fn.ntmps ∧ Argu ρ args ∧ W ⟨P, main, f, fn.ntmps, none, h⟩ c (fun e ρ ds F => ds = [] ∧ Shut F ∧ leave P main fn h (fun v _ => v = u) e ρ [] F) ρ [] []

section
variable {P : Program} {main : Side} {h : Hp}
theorem TopV.of_body {f : FuncId} {fn : Func} {c : Code} {args : Array Value} {u : Value} (hf : P.funcs[f]? = some fn) (hb : fn.body = some c) (ha : args.size ≤ fn.ntmps) (ρ : Env) (hρ : Argu ρ args)
    (H : W ⟨P, main, f, fn.ntmps, none, h⟩ c (fun e ρ ds F => ds = [] ∧ Shut F ∧ leave P main fn h (fun v _ => v = u) e ρ [] F) ρ [] []) : TopV P main f args h u := ⟨fn, c, ρ, hf, hb, ha, hρ, H⟩
variable {fn : Func} {e : Exit} {ρ : Env} {F : Frag}
/-- .. its results. -/
theorem lvq {u : Value} {vs : List Value} (hu : pack vs = u) (he : e = .ret ∨ e = .normal := by first | exact .inl rfl | exact .inr rfl) (hv : resT ρ fn.results.toList = some vs := by rfl) (hs : Shut F := by repeat (first | exact Shut.nil | assumption | refine Shut.cons rfl ?_ | refine Shut.app ?_ ?_)) : ([] : List Deferred) = [] ∧ Shut F ∧ leave P main fn h (fun v _ => v = u) e ρ [] F :=
  ⟨rfl, hs, lvt hu he hv⟩
end

/-- ████ THE RUN OF SUCH A CALL. -/
theorem TopV.run {P : Program} {f : FuncId} {args : Array Value} {W : World} {u : Value} (hi : P.inits.idxOf? f = none) (T : TopV P (mainS P (FinOK P fun v _ => v = u)) f args (atStart W) u) :
    ∃ M last o w' t', runNT P (M + 1) (Conc.solo (Conc.G (Frame.enter P f args .normal) []) W) #[] = (.ended o w', t') ∧ runN P M (Conc.solo (Conc.G (Frame.enter P f args .normal) []) W) = .next last ∧ Go.step P last = .ended o w' ∧ Conc.Good P (fun v w' => v = u ∧ Kept W w') last o w' t' := by
  obtain ⟨fn, c, ρ, h1, h2, h3, h4, h5⟩ := T
  exact Mn.run (Mn.top (R := fun v => v = u) h1 h2 hi h3 ρ h4 atStart_sat (fun b o hb => (atStart_some.1 hb).2) (fun v w hv _ => hv) h5)

theorem Kept.below {w w' : World} (h : Kept w w') : Go.RowKit.Below w.heap.size w w' := ⟨h.os, h.tape, h.output, h.size, h.block⟩

/-- A slice of ints, as it lies in memory. -/
theorem flat_rowZ (l : List Int) : flat rowI l = l.map fun n => .int .i64 n := by
  induction l with
  | nil => rfl
  | cons a l ih => rw [flat_cons, ih]; rfl
theorem Part.of_get {c : Array Value} {off : Nat} {xs : List Value} (h : ∀ j, j < xs.length → c[off + j]? = xs[j]?) (hne : xs ≠ []) : Part c off xs := by
  have hlen : off + xs.length ≤ c.size := by
    have hpos : 0 < xs.length := List.length_pos_iff.2 hne
    have := h (xs.length - 1) (by omega)
    rw [List.getElem?_eq_getElem (by omega)] at this
    rcases Nat.lt_or_ge (off + (xs.length - 1)) c.size with h' | h'
    · omega
    · rw [Array.getElem?_eq_none h'] at this; cases this
  refine ⟨c.toList.take off, c.toList.drop (off + xs.length), ?_, by simp; omega⟩
  apply List.ext_getElem?
  intro i
  have hsz : c.toList.length = c.size := by simp
  rcases Nat.lt_or_ge i off with h1 | h1
  · rw [List.getElem?_append_left (by simp; omega), List.getElem?_take, if_pos h1]
  · rw [List.getElem?_append_right (by simp; omega)]
    have e1 : (c.toList.take off).length = off := by simp; omega
    rw [e1]
    rcases Nat.lt_or_ge (i - off) xs.length with h2 | h2
    · rw [List.getElem?_append_left h2, ← h _ h2]
      simp only [Array.getElem?_toList]
      congr 1; omega
    · rw [List.getElem?_append_right h2, List.getElem?_drop]
      congr 1; omega
theorem Sl.atStart {W : World} {a : Addr} {n cap : Nat} {zs : List Int} (hz : n ≤ zs.length) (h : ∀ i, i < zs.length → W.cell? (a.add i) = some (.int .i64 (zs.getD i 0))) : Sl (atStart W) rowI (.slice (some a) n cap) (zs.take n) := by
  refine ⟨some a, cap, by rw [List.length_take, Nat.min_eq_left hz], fun hne => ?_⟩
  have hpos : 0 < n := by
    rcases Nat.eq_zero_or_pos n with h' | h'
    · subst h'; simp at hne
    · exact h'
  obtain ⟨b, off, spot⟩ := a
  have hsp : spot = none := by
    have := h 0 (by omega)
    cases hs : spot with
    | none => rfl
    | some s =>
      subst hs
      exfalso
      simp only [World.cell?, Addr.add, if_true] at this
      split at this
      · simp at this
      · cases this
  subst hsp
  have cell : ∀ i, i < zs.length → ∃ c E fz, W.heap[b]? = some (.cells c E fz) ∧ c[off + i]? = some (.int .i64 (zs.getD i 0)) := fun i hi => by
    have := h i hi
    rw [show (⟨b, off, none⟩ : Addr).add i = ⟨b, off + i, none⟩ by unfold Addr.add; split <;> simp [*]] at this
    simp only [World.cell?] at this
    split at this
    · rename_i c E fz hb
      exact ⟨c, E, fz, hb, by simpa using this⟩
    · cases this
  obtain ⟨c, E, fz, hb, h0⟩ := cell 0 (by omega)
  refine ⟨b, off, c, E, fz, rfl, atStart_some.2 ⟨hb, rfl⟩, Part.of_get (fun j hj => ?_) ?_⟩
  · rw [flat_rowZ, List.length_map, List.length_take] at hj
    obtain ⟨c', E', fz', hb', hj'⟩ := cell j (by omega)
    rw [hb] at hb'
    cases hb'
    rw [hj', flat_rowZ, List.getElem?_map, List.getElem?_take, if_pos (by omega), List.getElem?_eq_getElem (by omega)]
    simp [List.getD, List.getElem?_eq_getElem (show j < zs.length by omega)]
  · rw [flat_rowZ]
    intro e
    exact hne (List.map_eq_nil_iff.1 e)
end Go.Mus

/- From a law that answers true to its card: the parts that all laws of this seat share. Conditions: as the cards say; over the given program. -/
namespace Go.Mus
open Go.Proofs.YtabnpjbnoedfgaaDoor
set_option maxRecDepth 100000
set_option maxHeartbeats 4000000

theorem own0 : ownKnob prog.godebug = none := by kernel_rfl
theorem laidOut0 : laidOutB prog = true := by kernel_rfl
theorem et0 : prog.globalNamed "errors.errorType" = some 0 := by kernel_rfl
/-- The name of the type of types. -/
abbrev rtName : String := match (Rows.laid_errors_errorType : DataW Unit) with
  | .iface s _ => s
  | _ => ""
theorem rt0 : (prog.cutTypes.find? (·.1 == rtName)).map (·.2) = some t_reflectlite_rtype := by kernel_rfl
theorem size0 : prog.types.size = 221 := by kernel_rfl
theorem oneRow0 : ((List.range 221).filter fun t => prog.rowNamed t [101, 114, 114, 111, 114]) = [t_error] := by kernel_rfl
theorem under_sl_int : prog.underlying t_sl_int = some (.slice t_int) := by kernel_rfl
theorem under_int : prog.underlying t_int = some (.int .i64) := by kernel_rfl
theorem under_bool : prog.underlying t_bool = some .bool := by kernel_rfl
theorem cells_int : prog.cellsOf t_int = 1 := by kernel_rfl

abbrev laid0 : List (String × DataW Unit) := [("errors.errorType", Rows.laid_errors_errorType)]
/-- What the condition says of the variable. -/
theorem handle0 {W : World} (h : laidMetH prog laid0 W) : ∃ E z, W.heap[0]? = some (.cells #[rtV t_error] E z) := by
  have h' : laidMet prog [] W ∧ handlesMet prog laid0 W := h
  obtain ⟨name, u, ty, e1, e2, e3, e4, e5⟩ := h'.2 _ (List.mem_singleton.2 rfl)
  have en : name = [101, 114, 114, 111, 114] := (Option.some.inj e1).symm
  subst en
  obtain rfl := Option.some.inj (rt0.symm.trans e2)
  have hm : ty ∈ (List.range 221).filter fun t => prog.rowNamed t [101, 114, 114, 111, 114] := List.mem_filter.2 ⟨List.mem_range.2 (by rw [← size0]; exact e3), e4⟩
  rw [oneRow0] at hm
  obtain rfl := List.mem_singleton.1 hm
  simp only [World.var?] at e5
  rw [et0, Option.bind_some] at e5
  split at e5
  · rename_i cs E z hb
    obtain rfl := Option.some.inj e5
    exact ⟨E, z, hb⟩
  · cases e5

/-- A world that meets the condition. -/
noncomputable def laidWorld (os : Go.Os) : World :=
  let w0 := World.holding prog os ⟨#[], #[], []⟩
  { w0 with heap := w0.heap.modify 0 fun
      | .cells _ t frozen => .cells #[rtV t_error] t frozen
      | o => o }
theorem laidWorld_met (os : Go.Os) (args : Array Value) : laidMetH prog laid0 ((laidWorld os).forCall (fun _ _ => 0) ⟨#[], args, []⟩).memory :=
  laidMetH_of_parts (laidMet_nil _ _) (by kernel_rfl)

theorem laidMetH_heap {P : Program} {l : List (String × DataW Unit)} {w w' : World} (hh : w.heap = w'.heap) (h : laidMetH P l w) : laidMetH P l w' := h.of_heap hh

section
open Go.ChangeShapes Go.WideShapes Go.RowKit
/-- ████ A LAW OF A LIST OF INTS. -/
theorem lift1 {s : ChangeSpec} {f : FuncId} {fn : Func} (os : Go.Os) (started : os.Started) (H : Type) (enc : TypeId × Value → H) (hfn : prog.funcs[f]? = some fn) (hinit : prog.inits.idxOf? f = none) (hp : fn.params.toList = [t_sl_int]) (hpa : fn.params = #[t_sl_int]) (hr : fn.resultTypes.toList = [t_bool]) (hrs : fn.resultTypes.size = 1) (hv : s.vars = [])
    (hs : ∀ d, s.fn H [d] = { results := [.lit (.bool true)], args := [d] })
    (witness : ∃ (w : World) (tape : Tape) (i : Input), w.os = os ∧ (w.forCall tape i).Shaped prog ∧ i.vars = [] ∧ Input.okWide prog (w.forCall tape i) .any w.heap.size f i ∧
      ((s.pre enc prog fn [] false (w.forCall tape i).memory i.args ∧ laidMetH prog laid0 (w.forCall tape i).memory) ∧ sizedMet enc prog fn (OpenSpec.ofChange s) false (w.forCall tape i).memory i.args) ∧ ({} : Assume).holds prog (lone (Frame.enter prog f i.args .normal) [] (w.forCall tape i)))
    (T : ∀ (main : Side) (_ : ∀ S, main.ok S → ∃ Fin, S = Mn prog Fin) (_ : main.b = true) (h : Hp) (nums : List Int) (lv : Value) (Eg : TypeId) (zg : Nat × Nat) (_ : Sl h rowI lv nums) (_ : h 0 = some (.cells #[rtV t_error] Eg zg)) (_ : h.z 0), TopV prog main f #[lv] h (.bool true)) :
    ReturnsInLeavingWide {} Go.Proofs.Tryd.checked os f .any (fun w args => (s.pre enc prog fn [] false w args ∧ laidMetH prog laid0 w) ∧ sizedMet enc prog fn (OpenSpec.ofChange s) false w args) (s.post enc prog fn false true false false) := by
  refine returnsInLeavingWide_of_good (C := Go.Proofs.Tryd.checked) own0 started witness ?_
  intro w tape i _ _ _ hok hpre _
  obtain ⟨_, _, _, fn', hfn', _, _, _, _, hval0⟩ := hok
  have e : fn' = fn := Option.some.inj (hfn'.symm.trans hfn)
  subst e
  obtain ⟨⟨⟨ds, gs, before, hw, -⟩, hx⟩, -⟩ := hpre
  have hW := DataW.Whole.of_heap (w' := w.forCall tape i) (by rfl) hw
  have hL : laidMetH prog laid0 (w.forCall tape i) := laidMetH_heap (by rfl) hx
  generalize w.forCall tape i = W at *
  have hval : ∀ (j : Nat) t v, fn'.params[j]? = some t → i.args[j]? = some v → Value.okWide prog W .any w.heap.size t v := hval0
  have hW' := hW
  obtain ⟨p, q, hA0, hV, rfl, _, _⟩ := hW
  have hA : DataW.TrodAll enc prog W 0 (fun _ => true) true fn'.params.toList i.args.toList ds p := hA0
  rw [hp] at hA
  rw [hpa] at hval
  obtain ⟨v0, d0, ha, rfl, h0⟩ := trodAll_one hA
  have hargs : i.args = #[v0] := by simpa using ha
  rw [hargs] at hval hW' ⊢
  rw [hv] at hV
  obtain ⟨rfl, rfl⟩ := trodVars_none hV
  simp only [List.append_nil] at hW'
  have hlt : ∀ x ∈ p, x.block < W.heap.size := fun x hx => by simpa using hW'.lt x hx
  obtain ⟨a0, len, cap, rfl⟩ := okWide_slice under_sl_int (hval 0 t_sl_int v0 rfl rfl)
  obtain ⟨E, z, hg⟩ := handle0 hL
  have hsl : ∃ nums, Sl (atStart W) rowI (.slice a0 len cap) nums := by
    obtain ⟨fuel, hf⟩ := h0
    rcases open_ints under_sl_int under_int cells_int hf with ⟨hcs, _⟩ | ⟨a, len', cap', zs, hcs, _, hl, hm, hz, _, hcell, _⟩
    · simp [Value.cells] at hcs
      obtain ⟨rfl, rfl, rfl⟩ := hcs
      exact ⟨[], .nil⟩
    · simp [Value.cells] at hcs
      obtain ⟨rfl, rfl, rfl⟩ := hcs
      simp only [if_true] at hz
      exact ⟨zs.take len, Sl.atStart (by omega) hcell⟩
  obtain ⟨nums, hsl⟩ := hsl
  have hgs : atStart W 0 = some (.cells #[rtV t_error] E z) := atStart_some.2 ⟨hg, rfl⟩
  obtain ⟨M, last, o, w', t', h1, h2, h3, h4⟩ := TopV.run hinit (T (mainS prog (FinOK prog fun v _ => v = .bool true)) (fun S h => ⟨_, h⟩) rfl (atStart W) nums _ E z hsl hgs ⟨_, hg, rfl⟩)
  refine ⟨M, last, o, w', t', h1, h2, h3, h4.mono fun v hF => ?_⟩
  obtain ⟨rfl, hk⟩ := hF
  have hb := hk.below
  refine ChangeSpec.post_blind ⟨[d0], [], p, [], p, [], hW', ?_, ?_, ?_, hb.frame _, fun h => by cases h⟩
  · have hrl : Value.resultList fn'.resultTypes.size (.bool true) = [.bool true] := by rw [hrs]; rfl
    rw [List.append_nil, hs, hrl, hr]; exact trodAll_mk1 (shut_bool under_bool true)
  · rw [List.append_nil, hs, hp]
    exact trodAll_mk1 (Below.trod laidOut0 (by kernel_rfl) (of_decide_eq_true (by kernel_rfl)) h0 hb hlt)
  · rw [List.append_nil, hs, hv]; rfl
end
/-- A tied card of a row whose call starts goroutines. -/
theorem tied_goes (Lk : Looks) {p : Pinned} {s : OpenSpec} {c : OpenClaim} (al : List (List PathCond)) (kinds : List LaidKind) (tests : Bool) (har : Bool × String) (lk : Bool)
    (hc : c.holds p s) (hal : ∀ D ∈ al, (c.withDomain D).holds p s) (hw : c.wfByText s = true) (hwal : ∀ D ∈ al, (c.withDomain D).wfByText s = true)
    (htie : c.laidByTextAt Lk p kinds tests)
    (hst : c.start = .entering) (hnb : c.noBlocks = false ∧ c.again = false) (hm : p.checked.prog.mainIs = some (har.1, har.2.toList)) (hn : (!har.1 && har.2.isEmpty && !lk) = false)
    (hl : ∀ f fn, p.checked.prog.funcNamed c.func = some f → p.checked.prog.funcs[f]? = some fn → lk = p.checked.prog.looks [] ∧ ∀ (j : Nat) t, fn.params[j]? = some t → p.checked.prog.wantsStandIn t = false)
    (hg : true = c.goesBy p.checked.prog) :
    Claim7.holds p (.plain s) { stood := { row := c, standIns := [], harness := har, looks := lk }, kinds := [], alts := al, goes := true, laidByText := true, laidKinds := kinds, laidTests := tests, laidLooks := Lk } := by
  have h6 : ∀ r : OpenClaim, Claim7.isSixth { stood := { row := r, standIns := [], harness := har, looks := lk }, kinds := [] } = false := fun r => by simpa [Claim7.isSixth] using hn
  refine ⟨Claim7.tied_new_at Lk kinds tests (Claim7.new_of_sixth hc har lk hst hnb hm (h6 c) hl) hw, fun D hD => ?_, htie, (fun h => by cases h), hg⟩
  exact Claim7.tied_new_at Lk kinds tests (Claim7.new_of_sixth (hal D hD) har lk hst hnb hm (h6 _) hl) (hwal D hD)

end Go.Mus

/- Numbers out of a hat. Conditions: none; over the given program. -/
namespace Go.Mus
set_option maxRecDepth 100000
set_option maxHeartbeats 4000000

/-- A hat, out of which k numbers were taken. -/
abbrev hatO (lv : Value) (k : Nat) (s : Int) : Obj := .cells #[lv, I k, .int .u64 s] t_Hat (0, 0)

theorem u64_nn (n : Int) : 0 ≤ IntKind.u64.wrap n := by
  show 0 ≤ n % (18446744073709551616 : Int)
  omega
theorem xor_nn (a b : Int) : 0 ≤ bits .xor IntKind.u64 a b := by
  unfold bits
  exact u64_nn _
theorem stir_fn (main : Side) (h : Hp) (nums : List Int) (lv : Value) (b k : Nat) (s : Int) (hl : Sl h rowI lv nums) (hk : k < 4000000000) : Fnc prog main n_kit_Hat_stir #[.pointer (some ⟨b, 0, none⟩)] h [(b, hatO lv k s)] (fun v A => ∃ x s', v = .int .u64 x ∧ 0 ≤ x ∧ Sb [(b, hatO lv (k + 1) s')] A) := by
  obtain ⟨a, cap, rfl⟩ := hl.isSl
  refine Fnc.of_body at_kit_Hat_stir rfl (by show 1 ≤ 75; decide) [(0, .pointer (some ⟨b, 0, none⟩))] ⟨rfl, trivial⟩ ?_
  refine W.seq ?_
  refine W.region rfl ?_
  refine oq (y_assign rfl rfl) rfl wn rfl rfl ?_
  refine Ops.nil ?_
  refine thn_n ?_
  refine W.seq ?_
  refine W.region rfl ?_
  refine oq (y_move rfl rfl) rfl wn rfl rfl ?_
  first | refine oq (y_nilCheck rfl rfl) rfl wn rfl rfl ?_ | refine oq (y_nilCheckF rfl rfl) rfl wn rfl rfl ?_
  refine oq (y_fieldAddr rfl rfl) rfl wn rfl rfl ?_
  refine oq (yld rfl rfl) rfl wn rfl rfl ?_
  refine oq (y_conv rfl rfl) rfl wn rfl rfl ?_
  first | refine oq (yadd rfl rfl rfl) rfl wn rfl rfl ?_ | refine oq (y_addw rfl rfl rfl) rfl wn rfl rfl ?_
  refine oq (y_assign rfl rfl) rfl wn rfl rfl ?_
  refine Ops.nil ?_
  refine thn_n ?_
  refine W.seq ?_
  refine W.seq ?_
  refine W.drawF (n := 10) rfl ?_
  refine aq (i := 0) (y_move rfl rfl) rfl an rfl rfl ?_
  first | refine aq (i := 1) (y_nilCheck rfl rfl) rfl an rfl rfl ?_ | refine aq (i := 1) (y_nilCheckF rfl rfl) rfl an rfl rfl ?_
  refine aq (i := 2) (y_fieldAddr rfl rfl) rfl an rfl rfl ?_
  refine aq (i := 3) (yld rfl rfl) rfl an rfl rfl ?_
  refine aq (i := 4) (y_move rfl rfl) rfl an rfl rfl ?_
  first | refine aq (i := 5) (y_nilCheck rfl rfl) rfl an rfl rfl ?_ | refine aq (i := 5) (y_nilCheckF rfl rfl) rfl an rfl rfl ?_
  refine aq (i := 6) (y_fieldAddr rfl rfl) rfl an rfl rfl ?_
  refine aq (i := 7) (yld rfl rfl) rfl an rfl rfl ?_
  refine aq (i := 8) (y_len rfl rfl) rfl an rfl rfl ?_
  refine aq (i := 9) (y_lss rfl rfl rfl) rfl an rfl rfl ?_
  refine az ?_
  refine thn_n ?_
  refine W.condp rfl (fun c20 => ?_) (fun c20 => ?_)
  · obtain ⟨p, hp, -⟩ := has (show k < nums.length by omega)
    obtain ⟨b1, off, c, E, fz, rfl, hb, hx, hy, hz⟩ := hl.at hp
    have hz0 := hz 0 (by decide)
    have hpa : c[off + k * 1]? = some (I p) := by simpa [rowI] using hz0
    refine W.drawF (n := 15) rfl ?_
    refine aq (i := 0) (y_move rfl rfl) rfl an rfl rfl ?_
    refine aq (i := 1) (y_move rfl rfl) rfl an rfl rfl ?_
    first | refine aq (i := 2) (y_nilCheck rfl rfl) rfl an rfl rfl ?_ | refine aq (i := 2) (y_nilCheckF rfl rfl) rfl an rfl rfl ?_
    refine aq (i := 3) (y_fieldAddr rfl rfl) rfl an rfl rfl ?_
    refine aq (i := 4) (yld rfl rfl) rfl an rfl rfl ?_
    refine aq (i := 5) (y_move rfl rfl) rfl an rfl rfl ?_
    first | refine aq (i := 6) (y_nilCheck rfl rfl) rfl an rfl rfl ?_ | refine aq (i := 6) (y_nilCheckF rfl rfl) rfl an rfl rfl ?_
    refine aq (i := 7) (y_fieldAddr rfl rfl) rfl an rfl rfl ?_
    refine aq (i := 8) (yld rfl rfl) rfl an rfl rfl ?_
    first | refine aq (i := 9) (yix rfl rfl rfl) rfl an rfl rfl ?_ | refine aq (i := 9) (yixI rfl rfl rfl) rfl an rfl rfl ?_
    refine aq (i := 10) (yld rfl rfl) rfl an rfl rfl ?_
    refine aq (i := 11) (y_conv rfl rfl) rfl an rfl rfl ?_
    first | refine aq (i := 12) (ymul rfl rfl rfl) rfl an rfl rfl ?_ | refine aq (i := 12) (y_mulw rfl rfl rfl) rfl an rfl rfl ?_
    refine aq (i := 13) (y_xor rfl rfl rfl) rfl an rfl rfl ?_
    refine aq (i := 14) (y_assign rfl rfl) rfl an rfl rfl ?_
    refine az ?_
    refine thn_n ?_
    refine W.seq ?_
    refine W.region rfl ?_
    refine oq (y_move rfl rfl) rfl wn rfl rfl ?_
    first | refine oq (y_nilCheck rfl rfl) rfl wn rfl rfl ?_ | refine oq (y_nilCheckF rfl rfl) rfl wn rfl rfl ?_
    refine oq (y_fieldAddr rfl rfl) rfl wn rfl rfl ?_
    refine oq (yld rfl rfl) rfl wn rfl rfl ?_
    first | refine oq (yadd rfl rfl rfl) rfl wn rfl rfl ?_ | refine oq (y_addw rfl rfl rfl) rfl wn rfl rfl ?_
    first | refine oq (y_nilCheck rfl rfl) rfl wn rfl rfl ?_ | refine oq (y_nilCheckF rfl rfl) rfl wn rfl rfl ?_
    refine oq (y_fieldAddr rfl rfl) rfl wn rfl rfl ?_
    refine Ops.sto ?_
    refine Ops.nil ?_
    refine thn_n ?_
    refine W.seq ?_
    refine W.region rfl ?_
    refine oq (y_move rfl rfl) rfl wn rfl rfl ?_
    refine oq (y_move rfl rfl) rfl wn rfl rfl ?_
    first | refine oq (y_nilCheck rfl rfl) rfl wn rfl rfl ?_ | refine oq (y_nilCheckF rfl rfl) rfl wn rfl rfl ?_
    refine oq (y_fieldAddr rfl rfl) rfl wn rfl rfl ?_
    refine oq (yld rfl rfl) rfl wn rfl rfl ?_
    refine oq (y_move rfl rfl) rfl wn rfl rfl ?_
    refine oq (y_xor rfl rfl rfl) rfl wn rfl rfl ?_
    first | refine oq (ymul rfl rfl rfl) rfl wn rfl rfl ?_ | refine oq (y_mulw rfl rfl rfl) rfl wn rfl rfl ?_
    first | refine oq (y_nilCheck rfl rfl) rfl wn rfl rfl ?_ | refine oq (y_nilCheckF rfl rfl) rfl wn rfl rfl ?_
    refine oq (y_fieldAddr rfl rfl) rfl wn rfl rfl ?_
    refine Ops.sto ?_
    refine Ops.nil ?_
    refine thn_n ?_
    refine W.seq ?_
    refine W.drawF (n := 14) rfl ?_
    refine aq (i := 0) (y_move rfl rfl) rfl an rfl rfl ?_
    refine aq (i := 1) (y_move rfl rfl) rfl an rfl rfl ?_
    first | refine aq (i := 2) (y_nilCheck rfl rfl) rfl an rfl rfl ?_ | refine aq (i := 2) (y_nilCheckF rfl rfl) rfl an rfl rfl ?_
    refine aq (i := 3) (y_fieldAddr rfl rfl) rfl an rfl rfl ?_
    refine aq (i := 4) (yld rfl rfl) rfl an rfl rfl ?_
    refine aq (i := 5) (y_move rfl rfl) rfl an rfl rfl ?_
    first | refine aq (i := 6) (y_nilCheck rfl rfl) rfl an rfl rfl ?_ | refine aq (i := 6) (y_nilCheckF rfl rfl) rfl an rfl rfl ?_
    refine aq (i := 7) (y_fieldAddr rfl rfl) rfl an rfl rfl ?_
    refine aq (i := 8) (yld rfl rfl) rfl an rfl rfl ?_
    refine aq (i := 9) (y_shr rfl rfl rfl (by omega)) rfl an rfl rfl ?_
    refine aq (i := 10) (y_xor rfl rfl rfl) rfl an rfl rfl ?_
    first | refine aq (i := 11) (y_nilCheck rfl rfl) rfl an rfl rfl ?_ | refine aq (i := 11) (y_nilCheckF rfl rfl) rfl an rfl rfl ?_
    refine aq (i := 12) (y_fieldAddr rfl rfl) rfl an rfl rfl ?_
    refine ae (i := 13) rfl an rfl rfl (eS rfl rfl rfl ?_)
    refine ⟨.inl (by kernel_rfl), ?_⟩
    refine az ?_
    refine thn_n ?_
    refine W.seq ?_
    refine W.region rfl ?_
    refine oq (y_move rfl rfl) rfl wn rfl rfl ?_
    first | refine oq (y_nilCheck rfl rfl) rfl wn rfl rfl ?_ | refine oq (y_nilCheckF rfl rfl) rfl wn rfl rfl ?_
    refine oq (y_fieldAddr rfl rfl) rfl wn rfl rfl ?_
    refine oq (yld rfl rfl) rfl wn rfl rfl ?_
    first | refine oq (ymul rfl rfl rfl) rfl wn rfl rfl ?_ | refine oq (y_mulw rfl rfl rfl) rfl wn rfl rfl ?_
    refine oq (y_assign rfl rfl) rfl wn rfl rfl ?_
    refine Ops.nil ?_
    refine thn_n ?_
    refine W.seq ?_
    refine W.region rfl ?_
    refine oq (y_move rfl rfl) rfl wn rfl rfl ?_
    refine oq (y_move rfl rfl) rfl wn rfl rfl ?_
    refine oq (y_shr rfl rfl rfl (by omega)) rfl wn rfl rfl ?_
    refine oq (y_xor rfl rfl rfl) rfl wn rfl rfl ?_
    refine oq (y_shr rfl rfl rfl (by omega)) rfl wn rfl rfl ?_
    refine oq (y_assign rfl rfl) rfl wn rfl rfl ?_
    refine Ops.nil ?_
    refine thn_n ?_
    refine W.ret ?_
    refine lvt ⟨_, _, rfl, ?_, .refl⟩
    exact Int.fdiv_nonneg (xor_nn _ _) (by decide)
  · refine W.skip ?_
    refine thn_n ?_
    refine W.seq ?_
    refine W.region rfl ?_
    refine oq (y_move rfl rfl) rfl wn rfl rfl ?_
    first | refine oq (y_nilCheck rfl rfl) rfl wn rfl rfl ?_ | refine oq (y_nilCheckF rfl rfl) rfl wn rfl rfl ?_
    refine oq (y_fieldAddr rfl rfl) rfl wn rfl rfl ?_
    refine oq (yld rfl rfl) rfl wn rfl rfl ?_
    first | refine oq (yadd rfl rfl rfl) rfl wn rfl rfl ?_ | refine oq (y_addw rfl rfl rfl) rfl wn rfl rfl ?_
    first | refine oq (y_nilCheck rfl rfl) rfl wn rfl rfl ?_ | refine oq (y_nilCheckF rfl rfl) rfl wn rfl rfl ?_
    refine oq (y_fieldAddr rfl rfl) rfl wn rfl rfl ?_
    refine Ops.sto ?_
    refine Ops.nil ?_
    refine thn_n ?_
    refine W.seq ?_
    refine W.region rfl ?_
    refine oq (y_move rfl rfl) rfl wn rfl rfl ?_
    refine oq (y_move rfl rfl) rfl wn rfl rfl ?_
    first | refine oq (y_nilCheck rfl rfl) rfl wn rfl rfl ?_ | refine oq (y_nilCheckF rfl rfl) rfl wn rfl rfl ?_
    refine oq (y_fieldAddr rfl rfl) rfl wn rfl rfl ?_
    refine oq (yld rfl rfl) rfl wn rfl rfl ?_
    refine oq (y_move rfl rfl) rfl wn rfl rfl ?_
    refine oq (y_xor rfl rfl rfl) rfl wn rfl rfl ?_
    first | refine oq (ymul rfl rfl rfl) rfl wn rfl rfl ?_ | refine oq (y_mulw rfl rfl rfl) rfl wn rfl rfl ?_
    first | refine oq (y_nilCheck rfl rfl) rfl wn rfl rfl ?_ | refine oq (y_nilCheckF rfl rfl) rfl wn rfl rfl ?_
    refine oq (y_fieldAddr rfl rfl) rfl wn rfl rfl ?_
    refine Ops.sto ?_
    refine Ops.nil ?_
    refine thn_n ?_
    refine W.seq ?_
    refine W.drawF (n := 14) rfl ?_
    refine aq (i := 0) (y_move rfl rfl) rfl an rfl rfl ?_
    refine aq (i := 1) (y_move rfl rfl) rfl an rfl rfl ?_
    first | refine aq (i := 2) (y_nilCheck rfl rfl) rfl an rfl rfl ?_ | refine aq (i := 2) (y_nilCheckF rfl rfl) rfl an rfl rfl ?_
    refine aq (i := 3) (y_fieldAddr rfl rfl) rfl an rfl rfl ?_
    refine aq (i := 4) (yld rfl rfl) rfl an rfl rfl ?_
    refine aq (i := 5) (y_move rfl rfl) rfl an rfl rfl ?_
    first | refine aq (i := 6) (y_nilCheck rfl rfl) rfl an rfl rfl ?_ | refine aq (i := 6) (y_nilCheckF rfl rfl) rfl an rfl rfl ?_
    refine aq (i := 7) (y_fieldAddr rfl rfl) rfl an rfl rfl ?_
    refine aq (i := 8) (yld rfl rfl) rfl an rfl rfl ?_
    refine aq (i := 9) (y_shr rfl rfl rfl (by omega)) rfl an rfl rfl ?_
    refine aq (i := 10) (y_xor rfl rfl rfl) rfl an rfl rfl ?_
    first | refine aq (i := 11) (y_nilCheck rfl rfl) rfl an rfl rfl ?_ | refine aq (i := 11) (y_nilCheckF rfl rfl) rfl an rfl rfl ?_
    refine aq (i := 12) (y_fieldAddr rfl rfl) rfl an rfl rfl ?_
    refine ae (i := 13) rfl an rfl rfl (eS rfl rfl rfl ?_)
    refine ⟨.inl (by kernel_rfl), ?_⟩
    refine az ?_
    refine thn_n ?_
    refine W.seq ?_
    refine W.region rfl ?_
    refine oq (y_move rfl rfl) rfl wn rfl rfl ?_
    first | refine oq (y_nilCheck rfl rfl) rfl wn rfl rfl ?_ | refine oq (y_nilCheckF rfl rfl) rfl wn rfl rfl ?_
    refine oq (y_fieldAddr rfl rfl) rfl wn rfl rfl ?_
    refine oq (yld rfl rfl) rfl wn rfl rfl ?_
    first | refine oq (ymul rfl rfl rfl) rfl wn rfl rfl ?_ | refine oq (y_mulw rfl rfl rfl) rfl wn rfl rfl ?_
    refine oq (y_assign rfl rfl) rfl wn rfl rfl ?_
    refine Ops.nil ?_
    refine thn_n ?_
    refine W.seq ?_
    refine W.region rfl ?_
    refine oq (y_move rfl rfl) rfl wn rfl rfl ?_
    refine oq (y_move rfl rfl) rfl wn rfl rfl ?_
    refine oq (y_shr rfl rfl rfl (by omega)) rfl wn rfl rfl ?_
    refine oq (y_xor rfl rfl rfl) rfl wn rfl rfl ?_
    refine oq (y_shr rfl rfl rfl (by omega)) rfl wn rfl rfl ?_
    refine oq (y_assign rfl rfl) rfl wn rfl rfl ?_
    refine Ops.nil ?_
    refine thn_n ?_
    refine W.ret ?_
    refine lvt ⟨_, _, rfl, ?_, .refl⟩
    exact Int.fdiv_nonneg (xor_nn _ _) (by decide)
end Go.Mus

/- Floors, strikes and plants out of a hat. Conditions: none; over the given program. -/
namespace Go.Mus
set_option maxRecDepth 100000
set_option maxHeartbeats 4000000

theorem hat_to {x n : Int} (hx : 0 ≤ x) (h1 : 1 ≤ n) (h2 : n ≤ 1000000) : ∃ r, IntKind.i64.wrap (x.tmod (IntKind.u64.wrap (IntKind.u64.wrap n + 1))) = r ∧ 0 ≤ r ∧ r ≤ n := by
  have e1 : IntKind.u64.wrap n = n := by show n % (18446744073709551616 : Int) = n; omega
  have e2 : IntKind.u64.wrap (n + 1) = n + 1 := by show (n + 1) % (18446744073709551616 : Int) = n + 1; omega
  have e3 : x.tmod (n + 1) = x % (n + 1) := Int.tmod_eq_emod_of_nonneg hx
  have h3 := Int.emod_nonneg x (show n + 1 ≠ 0 by omega)
  have h4 := Int.emod_lt_of_pos x (show 0 < n + 1 by omega)
  rw [e1, e2, e3]
  rw [wrap_id (by omega) (by omega)]
  exact ⟨_, rfl, h3, by omega⟩

theorem hat_u {n : Int} (h1 : 1 ≤ n) (h2 : n ≤ 1000000) : IntKind.u64.wrap (IntKind.u64.wrap n + 1) ≠ 0 := by
  have e1 : IntKind.u64.wrap n = n := by show n % (18446744073709551616 : Int) = n; omega
  have e2 : IntKind.u64.wrap (n + 1) = n + 1 := by show (n + 1) % (18446744073709551616 : Int) = n + 1; omega
  rw [e1, e2]; omega
theorem To_fn (main : Side) (h : Hp) (nums : List Int) (lv : Value) (b k : Nat) (s n : Int) (hl : Sl h rowI lv nums) (hk : k < 4000000000) (hn : -1000000 ≤ n ∧ n ≤ 1000000) : Fnc prog main n_kit_Hat_To #[.pointer (some ⟨b, 0, none⟩), I n] h [(b, hatO lv k s)] (fun v A => ∃ r s', v = I r ∧ (0 ≤ r ∧ (r ≤ n ∨ r = 0)) ∧ Sb [(b, hatO lv (k + 1) s')] A) := by
  refine Fnc.of_body at_kit_Hat_To rfl (by show 2 ≤ 16; decide) [(0, .pointer (some ⟨b, 0, none⟩)), (1, I n)] ⟨rfl, rfl, trivial⟩ ?_
  refine W.seq ?_
  refine W.region rfl ?_
  refine oq (y_assign rfl rfl) rfl wn rfl rfl ?_
  refine Ops.nil ?_
  refine thn_n ?_
  refine W.seq ?_
  refine W.region rfl ?_
  refine oq (y_move rfl rfl) rfl wn rfl rfl ?_
  refine cg (A := [(b, _)]) .head (fun h' hE hL => stir_fn _ h' nums lv b k s (hl.ext hE) hk) (fun v A' hv => ?_)
  obtain ⟨x, s', rfl, hx, hsb⟩ := hv
  refine Ops.sb (hsb.app .refl) ?_
  refine oq (y_assign rfl rfl) rfl wn rfl rfl ?_
  refine Ops.nil ?_
  refine thn_n ?_
  refine W.seq ?_
  refine W.seq ?_
  refine W.region rfl ?_
  refine oq (y_move rfl rfl) rfl wn rfl rfl ?_
  refine oq (y_lss rfl rfl rfl) rfl wn rfl rfl ?_
  refine Ops.nil ?_
  refine thn_n ?_
  refine W.condp rfl (fun c9 => ?_) (fun c9 => ?_)
  · refine W.seq ?_
    refine W.region rfl ?_
    refine oq (y_assign rfl rfl) rfl wn rfl rfl ?_
    refine Ops.nil ?_
    refine thn_n ?_
    refine W.ret ?_
    refine thn_r ?_
    exact lvt (vs := [_]) ⟨0, s', rfl, ⟨Int.le_refl _, .inr rfl⟩, .refl⟩
  · refine W.skip ?_
    refine thn_n ?_
    refine W.seq ?_
    refine W.region rfl ?_
    refine oq (y_move rfl rfl) rfl wn rfl rfl ?_
    refine oq (y_move rfl rfl) rfl wn rfl rfl ?_
    refine oq (y_conv rfl rfl) rfl wn rfl rfl ?_
    first | refine oq (yadd rfl rfl rfl) rfl wn rfl rfl ?_ | refine oq (y_addw rfl rfl rfl) rfl wn rfl rfl ?_
    refine oq (y_rem rfl rfl rfl (hat_u (by omega) hn.2)) rfl wn rfl rfl ?_
    refine oq (y_conv rfl rfl) rfl wn rfl rfl ?_
    refine oq (y_assign rfl rfl) rfl wn rfl rfl ?_
    refine Ops.nil ?_
    refine thn_n ?_
    refine W.ret ?_
    obtain ⟨r, hr, h0, h1⟩ := hat_to (n := n) hx (by omega) hn.2
    exact lvt (vs := [_]) ⟨r, s', congrArg (Value.int .i64) hr, ⟨h0, .inl h1⟩, .refl⟩

theorem From_fn (main : Side) (h : Hp) (nums : List Int) (lv : Value) (b k : Nat) (s lo hi : Int) (hl : Sl h rowI lv nums) (hk : k < 4000000000) (hn : -100000 ≤ lo ∧ lo ≤ 100000 ∧ -100000 ≤ hi ∧ hi ≤ 100000) : Fnc prog main n_kit_Hat_From #[.pointer (some ⟨b, 0, none⟩), I lo, I hi] h [(b, hatO lv k s)] (fun v A => ∃ r s', v = I r ∧ (lo ≤ r ∧ (r ≤ hi ∨ r = lo)) ∧ Sb [(b, hatO lv (k + 1) s')] A) := by
  refine Fnc.of_body at_kit_Hat_From rfl (by show 3 ≤ 14; decide) [(0, .pointer (some ⟨b, 0, none⟩)), (1, I lo), (2, I hi)] ⟨rfl, rfl, rfl, trivial⟩ ?_
  refine W.seq ?_
  refine W.region rfl ?_
  refine oq (y_assign rfl rfl) rfl wn rfl rfl ?_
  refine Ops.nil ?_
  refine thn_n ?_
  refine W.seq ?_
  refine W.region rfl ?_
  refine oq (y_move rfl rfl) rfl wn rfl rfl ?_
  refine oq (y_move rfl rfl) rfl wn rfl rfl ?_
  refine oq (y_move rfl rfl) rfl wn rfl rfl ?_
  refine oq (y_move rfl rfl) rfl wn rfl rfl ?_
  first | refine oq (ysub rfl rfl rfl) rfl wn rfl rfl ?_ | refine oq (y_subw rfl rfl rfl) rfl wn rfl rfl ?_
  refine cg (A := [(b, _)]) .head (fun h' hE hL => To_fn _ h' nums lv b k s (hi - lo) (hl.ext hE) hk (by omega)) (fun v A' hv => ?_)
  obtain ⟨r, s', rfl, hr, hsb⟩ := hv
  refine Ops.sb (hsb.app .refl) ?_
  first | refine oq (yadd rfl rfl rfl) rfl wn rfl rfl ?_ | refine oq (y_addw rfl rfl rfl) rfl wn rfl rfl ?_
  refine oq (y_assign rfl rfl) rfl wn rfl rfl ?_
  refine Ops.nil ?_
  refine thn_n ?_
  refine W.ret ?_
  exact lvt (vs := [_]) ⟨lo + r, s', rfl, ⟨by omega, by omega⟩, .refl⟩

theorem Seldom_fn (main : Side) (h : Hp) (nums : List Int) (lv : Value) (b k : Nat) (s n : Int) (hl : Sl h rowI lv nums) (hk : k < 4000000000) (hn : -100000 ≤ n ∧ n ≤ 100000) : Fnc prog main n_kit_Hat_Seldom #[.pointer (some ⟨b, 0, none⟩), I n] h [(b, hatO lv k s)] (fun v A => ∃ r s', v = .bool r ∧ Sb [(b, hatO lv (k + 1) s')] A) := by
  refine Fnc.of_body at_kit_Hat_Seldom rfl (by show 2 ≤ 10; decide) [(0, .pointer (some ⟨b, 0, none⟩)), (1, I n)] ⟨rfl, rfl, trivial⟩ ?_
  refine W.seq ?_
  refine W.region rfl ?_
  refine oq (y_assign rfl rfl) rfl wn rfl rfl ?_
  refine Ops.nil ?_
  refine thn_n ?_
  refine W.seq ?_
  refine W.region rfl ?_
  refine oq (y_move rfl rfl) rfl wn rfl rfl ?_
  refine oq (y_move rfl rfl) rfl wn rfl rfl ?_
  first | refine oq (ysub rfl rfl rfl) rfl wn rfl rfl ?_ | refine oq (y_subw rfl rfl rfl) rfl wn rfl rfl ?_
  refine cg (A := [(b, _)]) .head (fun h' hE hL => To_fn _ h' nums lv b k s (n - 1) (hl.ext hE) hk (by omega)) (fun v A' hv => ?_)
  obtain ⟨r, s', rfl, hr, hsb⟩ := hv
  refine Ops.sb (hsb.app .refl) ?_
  refine oq (y_eql rfl rfl rfl) rfl wn rfl rfl ?_
  refine oq (y_assign rfl rfl) rfl wn rfl rfl ?_
  refine Ops.nil ?_
  refine thn_n ?_
  refine W.ret ?_
  exact lvt (vs := [_]) ⟨_, s', rfl, .refl⟩

theorem One_fn (main : Side) (h : Hp) (nums : List Int) (lv : Value) (b k : Nat) (s : Int) (l : List Int) (vl : Value) (hl : Sl h rowI lv nums) (hs : Sl h rowI vl l) (hk : k < 4000000000) (h1 : 1 ≤ l.length) (h2 : l.length ≤ 1000) : Fnc prog main n_kit_Hat_One #[.pointer (some ⟨b, 0, none⟩), vl] h [(b, hatO lv k s)] (fun v A => ∃ r s', v = I r ∧ r ∈ l ∧ Sb [(b, hatO lv (k + 1) s')] A) := by
  obtain ⟨a, cap, rfl⟩ := hs.isSl
  refine Fnc.of_body at_kit_Hat_One rfl (by show 2 ≤ 13; decide) [(0, .pointer (some ⟨b, 0, none⟩)), (1, .slice a l.length cap)] ⟨rfl, rfl, trivial⟩ ?_
  refine W.seq ?_
  refine W.region rfl ?_
  refine oq (y_assign rfl rfl) rfl wn rfl rfl ?_
  refine Ops.nil ?_
  refine thn_n ?_
  refine W.seq ?_
  refine W.region rfl ?_
  refine oq (y_move rfl rfl) rfl wn rfl rfl ?_
  refine oq (y_move rfl rfl) rfl wn rfl rfl ?_
  refine oq (y_move rfl rfl) rfl wn rfl rfl ?_
  refine oq (y_len rfl rfl) rfl wn rfl rfl ?_
  first | refine oq (ysub rfl rfl rfl) rfl wn rfl rfl ?_ | refine oq (y_subw rfl rfl rfl) rfl wn rfl rfl ?_
  refine cg (A := [(b, _)]) .head (fun h' hE hL => To_fn _ h' nums lv b k s ((l.length : Int) - 1) (hl.ext hE) hk (by omega)) (fun v A' hv => ?_)
  obtain ⟨r, s', rfl, hr, hsb⟩ := hv
  refine Ops.sb (hsb.app .refl) ?_
  obtain ⟨rn, rfl⟩ : ∃ rn : Nat, r = rn := ⟨r.toNat, by omega⟩
  obtain ⟨p, hp, -⟩ := has (show rn < l.length by omega)
  obtain ⟨b1, off, c, E, fz, rfl, hb, hx, hy, hz⟩ := hs.at hp
  have hz0 := hz 0 (by decide)
  have hpa : c[off + rn * 1]? = some (I p) := by simpa [rowI] using hz0
  first | refine oq (yix rfl rfl rfl) rfl wn rfl rfl ?_ | refine oq (yixI rfl rfl rfl) rfl wn rfl rfl ?_
  refine oq (yld rfl rfl) rfl wn rfl rfl ?_
  refine oq (y_assign rfl rfl) rfl wn rfl rfl ?_
  refine Ops.nil ?_
  refine thn_n ?_
  refine W.ret ?_
  exact lvt (vs := [_]) ⟨p, s', rfl, List.mem_of_getElem? hp, .refl⟩

theorem NewHat_fn (main : Side) (h : Hp) (nums : List Int) (lv : Value) (hl : Sl h rowI lv nums) : Fnc prog main n_kit_NewHat #[lv] h [] (fun v A => ∃ b s, v = .pointer (some ⟨b, 0, none⟩) ∧ A = [(b, hatO lv 0 s)]) := by
  obtain ⟨a, cap, rfl⟩ := hl.isSl
  refine Fnc.of_body at_kit_NewHat rfl (by show 1 ≤ 6; decide) [(0, .slice a nums.length cap)] ⟨rfl, trivial⟩ ?_
  refine W.seq ?_
  refine W.region rfl ?_
  refine oq (y_assign rfl rfl) rfl wn rfl rfl ?_
  refine Ops.nil ?_
  refine thn_n ?_
  refine W.seq ?_
  refine W.region rfl ?_
  refine oq (y_move rfl rfl) rfl wn rfl rfl ?_
  refine oq (y_build rfl rfl rfl) rfl wn rfl rfl ?_
  refine Ops.box (fun β5 => ?_)
  refine oq (y_assign rfl rfl) rfl wn rfl rfl ?_
  refine Ops.nil ?_
  refine thn_n ?_
  refine W.ret ?_
  exact lvt (vs := [_]) ⟨_, _, rfl, rfl⟩
end Go.Mus

/- Floors out of a hat. Conditions: none; over the given program. -/
namespace Go.Mus
set_option maxRecDepth 100000
set_option maxHeartbeats 4000000

theorem pa (c : Array Value) (l : List Int) (h : c = (flat rowI l).toArray := by rfl) : Part c 0 (flat rowI l) := by
  subst h; exact Part.all _
theorem ckFloor_ok {f : Fl} (h1 : 1 ≤ f.pl ∧ f.pl ≤ 9) (h2 : 1 ≤ f.lo ∧ f.lo ≤ 6) (h3 : f.lo ≤ f.hi ∧ f.hi ≤ 6) (h4 : 0 ≤ f.co ∧ f.co ≤ 9) : ckFloor f = 0 := by
  unfold ckFloor
  rw [if_neg (by unfold outs; omega), if_neg (by omega), if_neg (by unfold outs; omega)]
theorem FloorOf_fn (main : Side) (h : Hp) (nums : List Int) (lv : Value) (b k : Nat) (s : Int) (hl : Sl h rowI lv nums) (hk : k < 3000000000) : Fnc prog main n_kit_FloorOf #[.pointer (some ⟨b, 0, none⟩)] h [(b, hatO lv k s)] (fun v A => ∃ f s', v = Fl.val f ∧ ckFloor f = 0 ∧ Sb [(b, hatO lv (k + 6) s')] A) := by
  refine Fnc.of_body at_kit_FloorOf rfl (by show 1 ≤ 26; decide) [(0, .pointer (some ⟨b, 0, none⟩))] ⟨rfl, trivial⟩ ?_
  refine W.seq ?_
  refine W.region rfl ?_
  refine Ops.new (fun β2 => ?_)
  refine Ops.nil ?_
  refine thn_n ?_
  refine W.seq ?_
  refine W.region rfl ?_
  refine oq (y_move rfl rfl) rfl wn rfl rfl ?_
  refine oq (y_move rfl rfl) rfl wn rfl rfl ?_
  refine cg (A := [(b, _)]) (.tail .head) (fun h' hE hL => From_fn _ h' nums lv b k s 1 6 (hl.ext hE) (by omega) (by omega)) (fun v A' hv => ?_)
  obtain ⟨r, s1, rfl, hr, hsb⟩ := hv
  refine Ops.sb (.cons (hsb.app .refl)) ?_
  refine Ops.bsl (cs := #[I 1, I 2, I 2, I 3, I r]) (fun β7 => ?_) rfl
  refine cg (A := [(b, _)]) (.tail (.tail .head)) (fun h' hE hL => One_fn _ h' nums lv b (k + 1) s1 [1, 2, 2, 3, r] _ (hl.ext hE) (Sl.mk (hL β7 _ (.head _)) rfl (pa _ _)) (by omega) (by simp) (by simp)) (fun v A' hv => ?_)
  obtain ⟨lo, s2, rfl, hlo, hsb⟩ := hv
  refine Ops.sb (F' := [(β2, _), (b, _)]) (.skip rfl (.cons (hsb.app .refl))) ?_
  refine oq (y_assign rfl rfl) rfl wn rfl rfl ?_
  refine Ops.nil ?_
  refine thn_n ?_
  refine W.seq ?_
  refine W.region rfl ?_
  refine oq (y_move rfl rfl) rfl wn rfl rfl ?_
  refine oq (y_move rfl rfl) rfl wn rfl rfl ?_
  refine cg (A := [(b, _)]) (.tail .head) (fun h' hE hL => From_fn _ h' nums lv b (k + 2) s2 1 9 (hl.ext hE) (by omega) (by omega)) (fun v A' hv => ?_)
  obtain ⟨r2, s3, rfl, hr2, hsb⟩ := hv
  refine Ops.sb (.cons (hsb.app .refl)) ?_
  refine Ops.bsl (cs := #[I 2, I 3, I 4, I 5, I r2]) (fun β12 => ?_) rfl
  refine cg (A := [(b, _)]) (.tail (.tail .head)) (fun h' hE hL => One_fn _ h' nums lv b (k + 3) s3 [2, 3, 4, 5, r2] _ (hl.ext hE) (Sl.mk (hL β12 _ (.head _)) rfl (pa _ _)) (by omega) (by simp) (by simp)) (fun v A' hv => ?_)
  obtain ⟨pl, s4, rfl, hpl, hsb⟩ := hv
  refine Ops.sb (F' := [(β2, _), (b, _)]) (.skip rfl (.cons (hsb.app .refl))) ?_
  refine oq (y_move rfl rfl) rfl wn rfl rfl ?_
  refine oq (y_move rfl rfl) rfl wn rfl rfl ?_
  refine oq (y_move rfl rfl) rfl wn rfl rfl ?_
  refine Ops.bsl (cs := #[I 0, I 1, I 1, I 2]) (fun β17 => ?_) rfl
  refine cg (A := [(b, _)]) (.tail (.tail .head)) (fun h' hE hL => One_fn _ h' nums lv b (k + 4) s4 [0, 1, 1, 2] _ (hl.ext hE) (Sl.mk (hL β17 _ (.head _)) rfl (pa _ _)) (by omega) (by simp) (by simp)) (fun v A' hv => ?_)
  obtain ⟨d, s5, rfl, hd, hsb⟩ := hv
  refine Ops.sb (F' := [(β2, _), (b, _)]) (.skip rfl (.cons (hsb.app .refl))) ?_
  have hlo6 : 1 ≤ lo ∧ lo ≤ 6 := by simp at hlo; omega
  have hd2 : 0 ≤ d ∧ d ≤ 2 := by simp at hd; omega
  obtain ⟨hi, hhi⟩ : ∃ hi, min 6 (lo + d) = hi := ⟨_, rfl⟩
  first | refine oq (yadd rfl rfl rfl) rfl wn rfl rfl ?_ | refine oq (y_addw rfl rfl rfl) rfl wn rfl rfl ?_
  refine oq ((y_min rfl rfl rfl).eq (u := I hi) (congrArg I hhi)) rfl wn rfl rfl ?_
  refine oq (y_build (cs := #[I lo, I hi]) rfl rfl rfl) rfl wn rfl rfl ?_
  refine oq (y_move rfl rfl) rfl wn rfl rfl ?_
  refine Ops.bsl (cs := #[I 0, I 1, I 2, I 3, I 9]) (fun β23 => ?_) rfl
  refine cg (A := [(b, _)]) (.tail (.tail .head)) (fun h' hE hL => One_fn _ h' nums lv b (k + 5) s5 [0, 1, 2, 3, 9] _ (hl.ext hE) (Sl.mk (hL β23 _ (.head _)) rfl (pa _ _)) (by omega) (by simp) (by simp)) (fun v A' hv => ?_)
  obtain ⟨co, s6, rfl, hco, hsb⟩ := hv
  refine Ops.sb (F' := [(β2, _), (b, _)]) (.skip rfl (.cons (hsb.app .refl))) ?_
  refine oq (y_build (cs := #[I pl, I lo, I hi, I co]) rfl rfl rfl) rfl wn rfl rfl ?_
  first | refine Ops.stoW ?_ | refine Ops.stoA ?_
  refine Ops.nil ?_
  refine thn_n ?_
  refine W.ret ?_
  refine lvc (hv := rAgg rNil) ⟨⟨pl, lo, hi, co⟩, s6, rfl, ?_, .skip rfl .refl⟩
  simp at hpl hco
  exact ckFloor_ok (by simp only; omega) (by simp only; omega) (by simp only; omega) (by simp only; omega)
end Go.Mus
