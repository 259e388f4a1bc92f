/- How much slower a floor may be, and that it is so. Conditions: none; over the given program. (And 21 texts more.) -/
import Derived.Test.YtabnpjbnoedfgaaDoorFloorKnownQ1
import Derived.Test.YtabnpjbnoedfgaaDoorR09
import Derived.Test.YtabnpjbnoedfgaaDoorR06
set_option linter.unusedVariables false
set_option linter.unusedSimpArgs false
set_option linter.unusedSectionVars false

/- How much slower a floor may be, and that it is so. Conditions: none; over the given program. -/
namespace Go.Mus
set_option maxRecDepth 100000
set_option maxHeartbeats 4000000
theorem mem_numsN {lo a : Int} : ∀ {m : Nat}, a ∈ numsN lo m ↔ lo ≤ a ∧ a < lo + m
  | 0 => by
    constructor
    · intro h; simp [numsN] at h
    · intro h; omega
  | m + 1 => by
    rw [numsN, List.mem_append, mem_numsN]
    simp; omega
def slowV (fs : List Fl) (ss : List St) (f : Int) : Int := ((nums 0 (6 - (flAt fs f).hi)).reverse.find? (slowQ fs ss f)).getD 0
theorem Slower_fn (main : Side) (hS : ∀ S, main.ok S → ∃ Fin, S = Mn prog Fin) (hmb : main.b = true) (h : Hp) (fs : List Fl) (ss : List St) (f : Nat) (vf vs : Value) (Eg : TypeId) (zg : Nat × Nat) (hf : Sl h Fl.row vf fs) (hs : Sl h St.row vs ss) (zf : Zs h vf) (zs : Zs h vs) (hck : ckPlant fs ss = 0) (hf0 : f < fs.length) (hg : h 0 = some (.cells #[rtV t_error] Eg zg)) (z0 : h.z 0) :
    Pu prog main n_floor_Slower #[.agg #[vf, vs], I f] h (.tuple #[I (slowV fs ss f), I 0]) := by
  have hall := hall_ck hck
  have hfl := fl_ok hall (show (0 : Int) ≤ (f : Int) by omega) (show (f : Int) < fs.length by omega)
  have hx := flAt_some (show (0 : Int) ≤ (f : Int) by omega) (show (f : Int) < fs.length by omega)
  rw [Int.toNat_natCast] at hx
  obtain ⟨x, hxe⟩ : ∃ x, flAt fs f = x := ⟨_, rfl⟩
  rw [hxe] at hx hfl
  obtain ⟨a, cap, rfl⟩ := hf.isSl
  obtain ⟨a', cap', rfl⟩ := hs.isSl
  obtain ⟨bf, off, c, E, fz, rfl, hb, -, hy1, hz1⟩ := hf.at hx
  have hc2 : c[off + f * 4 + 1 + 1]? = some (I x.hi) := hz1 2 (by decide)
  clear hz1
  refine Fnc.of_body at_floor_Slower rfl (by show 2 ≤ 39; decide) [(0, .agg #[.slice (some ⟨bf, off, none⟩) fs.length cap, .slice a' ss.length cap']), (1, I f)] ⟨rfl, rfl, trivial⟩ ?_
  refine W.seq <| W.region rfl ?_
  refine Ops.box (cs := #[.slice (some ⟨bf, off, none⟩) fs.length cap, .slice a' ss.length cap']) (fun β2 => ?_) rfl rfl rfl
  refine Ops.box (cs := #[I f]) (fun β3 => ?_) rfl rfl rfl
  refine qs rfl rfl rfl <| qs rfl rfl rfl <| Ops.nil <| thn_n <| W.seq <| W.seq <| W.region rfl ?_
  first | refine oq (yldW rfl rfl) rfl wn rfl rfl ?_ | refine oq (yldA rfl rfl) rfl wn rfl rfl ?_
  refine oq (yld rfl rfl) rfl wn rfl rfl ?_
  refine cp (fun h' hE hL => begin_fn _ h' fs ss f _ _ (hf.ext hE) (hs.ext hE) hck (by omega)) ?_
  refine qs rfl rfl rfl <| Ops.nil <| thn_n <| W.seq <| W.region rfl <| qm rfl rfl rfl ?_
  refine oq ((y_neq rfl rfl rfl).eq (u := .bool false) rfl) rfl wn rfl rfl ?_
  refine Ops.nil <| thn_n ?_
  refine W.condF ?_
  refine W.skip <| thn_n <| W.seq <| W.region rfl ?_
  first | refine oq (yldW rfl rfl) rfl wn rfl rfl ?_ | refine oq (yldA rfl rfl) rfl wn rfl rfl ?_
  refine oq (y_build (cs := #[.slice (some ⟨bf, off, none⟩) fs.length cap, .slice a' ss.length cap']) rfl rfl rfl) rfl wn rfl rfl ?_
  refine c0 (fun h' hE hL => best_fn _ hS hmb h' fs ss (.slice (some ⟨bf, off, none⟩) fs.length cap) (.slice a' ss.length cap') Eg zg (hf.ext hE) (hs.ext hE) (zf.ext hE) (zs.ext hE) hall (hE.1 _ _ hg) (hE.2 _ z0)) (fun v A' hv => ?_)
  obtain ⟨u, S, rfl, hO, hsb⟩ := hv
  obtain ⟨ua, uc, rfl⟩ := hO.isSl
  refine Ops.sb (.trans (Sb.left .refl hO.shut) (hsb.app .refl)) ?_
  first | refine oq (y_field rfl rfl rfl) rfl wn rfl rfl ?_ | refine oq (y_fieldA rfl rfl rfl) rfl wn rfl rfl ?_
  refine Ops.new (fun β7 => ?_)
  refine Ops.sto ?_
  refine Ops.nil <| thn_n <| W.seq <| W.region rfl ?_
  refine oq (y_fieldAddr rfl rfl) rfl wn rfl rfl ?_
  refine oq (yld rfl rfl) rfl wn rfl rfl ?_
  refine oq (yld rfl rfl) rfl wn rfl rfl ?_
  first | refine oq (yix rfl rfl rfl) rfl wn rfl rfl ?_ | refine oq (yixI rfl rfl rfl) rfl wn rfl rfl ?_
  refine oq (y_fieldAddr rfl rfl) rfl wn rfl rfl ?_
  refine oq (y_fieldAddr rfl rfl) rfl wn rfl rfl ?_
  refine oq (yld rfl rfl) rfl wn rfl rfl ?_
  refine oq (ysub rfl rfl rfl) rfl wn rfl rfl ?_
  refine c0 (fun h' hE hL => numbers_fn _ h' 0 (6 - x.hi) (by decide) (by omega) (by decide)) (fun v A' hv => ?_)
  obtain ⟨S1, hS1, hsb1⟩ := hv
  refine Ops.sb (hsb1.app .refl) ?_
  obtain ⟨sa, sc, rfl⟩ := hS1.isSl
  obtain ⟨xs, hxs⟩ : ∃ xs, nums 0 (6 - x.hi) = xs := ⟨_, rfl⟩
  rw [hxs] at hS1 ⊢
  have hlen : xs.length = (6 - x.hi + 1 - 0).toNat := by rw [← hxs, nums, numsN_len]
  rcases hS1 with ⟨hnil, _, _⟩ | ⟨β, cn, cp, J, hv, rfl, hc1, hcap, hP, hJ⟩
  · rw [hnil] at hlen; simp at hlen; omega
  obtain ⟨rfl, rfl⟩ : sa = some ⟨β, 0, none⟩ ∧ sc = cp := by injection hv with e1 e2 e3; exact ⟨e1, e3⟩
  refine qs rfl rfl rfl <| Ops.nil <| thn_n <| W.seq <| W.region rfl <| qm rfl rfl rfl ?_
  refine cg (A := [(β, _)]) .head (fun h' hE hL => Reverse_fn _ h' β sc cn xs hP (by omega)) (fun v A' hv => ?_)
  obtain ⟨cr, hcr, hPr, hsb2⟩ := hv
  refine Ops.sb (hsb2.app .refl) ?_
  refine Ops.nil <| thn_n <| W.seq <| W.region rfl <| qm rfl rfl rfl ?_
  refine oq (y_func rfl rfl rfl) rfl wn rfl rfl ?_
  refine cp (u := firstV (xs.reverse.find? (slowQ fs ss f))) (fun h' hE hL => first_fn _ h' xs.reverse (.slice (some ⟨β, 0, none⟩) xs.length sc) _ (slowQ fs ss f) (Sl.mk (hL β _ (.head _)) (by simp) hPr) (by simp; omega) (fun h2 e n hn => ?_)) ?_
  · have hnr : 0 ≤ n ∧ (flAt fs f).hi + n ≤ 6 := by
      rw [List.mem_reverse, ← hxs, nums, mem_numsN] at hn
      rw [hxe]; omega
    have mem : ∀ {p : Nat × Obj} {F : Frag}, p ∈ F → p ∈ (β, Obj.cells cr t_int (0, 0)) :: (J ++ F) := fun hp => .tail _ (List.mem_append_right _ hp)
    exact slow1_fn _ hS hmb h2 fs ss f n _ _ β2 β3 β7 _ _ _ Eg _ _ _ zg ((hf.ext hE).ext e) ((hs.ext hE).ext e) ((zs.ext hE).ext e) hck (by omega) hnr (e.1 _ _ (hL β2 _ (mem (.tail _ (.tail _ (.head _)))))) (e.1 _ _ (hL β3 _ (mem (.tail _ (.head _))))) (e.1 _ _ (hL β7 _ (mem (.head _)))) (e.1 _ _ (hE.1 _ _ hg)) (e.2 _ (hE.2 _ z0))
  refine qm rfl rfl rfl <| oq (y_extract rfl rfl rfl) rfl wn rfl rfl <| oq (y_extract rfl rfl rfl) rfl wn rfl rfl <| qs rfl rfl rfl <| qs rfl rfl rfl <| Ops.nil <| thn_n <| W.seq <| W.region rfl <| qm rfl rfl rfl ?_
  refine qs rfl rfl rfl <| qs rfl rfl rfl <| Ops.nil <| thn_n <| W.ret ?_
  refine lvp (hs := .cons rfl (hJ.app (.cons rfl (.cons rfl (.cons rfl .nil))))) ?_
  rw [slowV, hxe, hxs]; rfl
end Go.Mus

/- Whether a strike is in the best plans. Conditions: none; over the given program. -/
namespace Go.Mus
set_option maxRecDepth 100000
set_option maxHeartbeats 4000000
/-- In how many plans a strike is set. -/
def cntF (s : Nat) (l : List (List Be)) : Nat := l.countP fun p => decide (0 ≤ (beAt p s).fl)
def verdF (fs : List Fl) (ss : List St) (s : Nat) : Int := if 0 < cntF s (bestF fs ss).2 ∧ cntF s (bestF fs ss).2 < (bestF fs ss).2.length then 3 else if cntF s (bestF fs ss).2 = 0 then 2 else 1
theorem cntF_next {s i : Nat} {l : List (List Be)} {p : List Be} (h : l[i]? = some p) : cntF s (l.take (i + 1)) = cntF s (l.take i) + if 0 ≤ (beAt p s).fl then 1 else 0 := by
  rw [cntF, take_next h, List.countP_append]
  congr 1
  simp [List.countP_cons]
theorem cntF_le {s i : Nat} {l : List (List Be)} : cntF s (l.take i) ≤ i := Nat.le_trans List.countP_le_length (by simp; omega)

theorem Verdict_fn (main : Side) (hS : ∀ S, main.ok S → ∃ Fin, S = Mn prog Fin) (hmb : main.b = true) (h : Hp) (fs : List Fl) (ss : List St) (s : Nat) (vf vs : Value) (Eg : TypeId) (zg : Nat × Nat) (hf : Sl h Fl.row vf fs) (hs : Sl h St.row vs ss) (zf : Zs h vf) (zs : Zs h vs) (hck : ckPlant fs ss = 0) (hs0 : s < ss.length) (hg : h 0 = some (.cells #[rtV t_error] Eg zg)) (z0 : h.z 0) :
    Pu prog main n_floor_Verdict #[.agg #[vf, vs], I s] h (.tuple #[I (verdF fs ss s), I 0]) := by
  have hall := hall_ck hck
  have hns := hall.ns
  obtain ⟨a, cap, rfl⟩ := hf.isSl
  obtain ⟨a', cap', rfl⟩ := hs.isSl
  obtain ⟨bs, hbs⟩ : ∃ bs, (bestF fs ss).2 = bs := ⟨_, rfl⟩
  have hb4 : ∀ p ∈ bs, p.length = 4 := fun p hp => allF4 (bestF_mem (hbs ▸ hp))
  have hpo : ∀ p ∈ bs, PlanOf fs ss p := fun p hp => allF_PlanOf hall (bestF_mem (hbs ▸ hp))
  have hbl : bs.length ≤ 28561 := by
    rw [← hbs, (best_spec hall).2.2]
    exact Nat.le_trans (List.length_filter_le _ _) (allF_len hall)
  refine Fnc.of_body at_floor_Verdict rfl (by show 2 ≤ 61; decide) [(0, .agg #[.slice a fs.length cap, .slice a' ss.length cap']), (1, I s)] ⟨rfl, rfl, trivial⟩ ?_
  refine W.seq <| W.region rfl ?_
  refine Ops.box (cs := #[.slice a fs.length cap, .slice a' ss.length cap']) (fun β2 => ?_) rfl rfl rfl
  refine qs rfl rfl rfl <| qs rfl rfl rfl <| Ops.nil <| thn_n <| W.seq <| W.seq <| W.region rfl ?_
  first | refine oq (yldW rfl rfl) rfl wn rfl rfl ?_ | refine oq (yldA rfl rfl) rfl wn rfl rfl ?_
  refine cp (u := I 0) (fun h' hE hL => by have := Check_fn main h' fs ss _ _ (hf.ext hE) (hs.ext hE); rw [hck] at this; exact this) ?_
  refine qs rfl rfl rfl <| Ops.nil <| thn_n <| W.seq <| W.region rfl <| qm rfl rfl rfl ?_
  refine oq ((y_neq rfl rfl rfl).eq (u := .bool false) rfl) rfl wn rfl rfl ?_
  refine Ops.nil <| thn_n ?_
  refine W.condF ?_
  refine W.skip <| thn_n <| W.seq <| W.seq <| W.region rfl <| qm rfl rfl rfl ?_
  refine oq (y_fieldAddr rfl rfl) rfl wn rfl rfl ?_
  refine oq (yld rfl rfl) rfl wn rfl rfl ?_
  refine oq (y_len rfl rfl) rfl wn rfl rfl ?_
  first | refine oq (ysub rfl rfl rfl) rfl wn rfl rfl ?_ | refine oq (y_subw rfl rfl rfl) rfl wn rfl rfl ?_
  refine cp (u := .bool false) (fun h' hE hL => ?_) ?_
  · have := outside_fn main h' s 0 ((ss.length : Int) - 1)
    rw [decide_eq_false (show ¬ outs s 0 ((ss.length : Int) - 1) by unfold outs; omega)] at this
    exact this
  refine Ops.nil <| thn_n ?_
  refine W.condF ?_
  refine W.skip <| thn_n <| W.seq <| W.region rfl ?_
  first | refine oq (yldW rfl rfl) rfl wn rfl rfl ?_ | refine oq (yldA rfl rfl) rfl wn rfl rfl ?_
  refine oq (y_build (cs := #[.slice a fs.length cap, .slice a' ss.length cap']) rfl rfl rfl) rfl wn rfl rfl ?_
  refine c0 (fun h' hE hL => best_fn _ hS hmb h' fs ss (.slice a fs.length cap) (.slice a' ss.length cap') Eg zg (hf.ext hE) (hs.ext hE) (zf.ext hE) (zs.ext hE) hall (hE.1 _ _ hg) (hE.2 _ z0)) (fun v A' hv => ?_)
  rw [hbs] at hv
  obtain ⟨u, S, rfl, hO, hsb⟩ := hv
  obtain ⟨ua, uc, rfl⟩ := hO.isSl
  refine Ops.sb (F' := S ++ [(β2, .cells #[.slice a fs.length cap, .slice a' ss.length cap'] t_Plant (0, 0))]) (hsb.app .refl) ?_
  refine Ops.new (fun β7 => ?_)
  first | refine Ops.stoW ?_ | refine Ops.stoA ?_
  refine Ops.nil <| thn_n ?_
  refine W.sb (F' := S ++ [(β7, .cells #[I (bestF fs ss).1, .slice ua bs.length uc] t_most (0, 0)), (β2, .cells #[.slice a fs.length cap, .slice a' ss.length cap'] t_Plant (0, 0))]) (.of_perm List.perm_middle) ?_
  refine freezeOs hO (fun hx hEx hsl hzl => ?_)
  refine W.seq <| W.region rfl <| qs rfl rfl rfl <| Ops.nil <| thn_n <| W.seq <| W.seq <| W.region rfl ?_
  refine oq (y_fieldAddr rfl rfl) rfl wn rfl rfl ?_
  refine oq (yld rfl rfl) rfl wn rfl rfl ?_
  refine oq (y_len rfl rfl) rfl wn rfl rfl ?_
  refine qm rfl rfl rfl <| Ops.nil <| thn_n <| W.block ?_
  refine W.loop (σ := Nat) (fun k => k ≤ bs.length) (fun k => [(29, I k), (28, I bs.length), (27, .slice ua bs.length uc), (8, I (cntF s (bs.take k))), (7, .pointer (some ⟨β7, 0, none⟩)), (1, I s)]) (fun _ => [(β7, .cells #[I (bestF fs ss).1, .slice ua bs.length uc] t_most (0, 0))]) (fun k => bs.length - k) 0 (Nat.zero_le _) ⟨rfl, rfl, rfl, lk rfl (by simp [cntF]), rfl, rfl, trivial⟩ (.cons (.skip rfl .refl)) ?_
  rintro k hk
  have hck' := cntF_le (s := s) (i := k) (l := bs)
  refine W.seq <| W.region rfl ?_
  refine oq (y_lss rfl rfl rfl) rfl wn rfl rfl ?_
  refine Ops.nil <| thn_n <| W.seq ?_
  refine W.condp rfl (fun c30 => ?_) (fun c30 => ?_)
  · obtain ⟨p, hp, -⟩ := has (show k < bs.length by omega)
    have hp4 := hb4 p (List.mem_of_getElem? hp)
    have hpk := (hpo p (List.mem_of_getElem? hp)).ok
    obtain ⟨b, off, c, E, fz, rfl, hb, hx1, hy1, hz1⟩ := hsl.at hp
    have hx2 : c.extract (off + k * 8) (off + k * 8 + 8) = (flat Be.row p).toArray := by rw [hx1, rowP_eq hp4]
    clear hx1 hz1
    have hsz := plan_sz hpk
    have hon : ones (flat Be.row p).toArray.toList = true := plan_ones
    have hpa : (flat Be.row p).toArray[0 + s * 2 + 0]? = some (I (beAt p s).fl) := by simpa using (plan_at hpk (show s < 4 by omega)).1
    have hnx := cntF_next (s := s) hp
    refine W.skip <| thn_n <| W.seq <| W.block <| W.seq <| W.region rfl ?_
    first | refine oq (yix rfl rfl rfl) rfl wn rfl rfl ?_ | refine oq (yixI rfl rfl rfl) rfl wn rfl rfl ?_
    first | refine oq (yldW rfl rfl) rfl wn rfl rfl ?_ | refine oq (yldA rfl rfl) rfl wn rfl rfl ?_
    refine Ops.new (fun β10 => ?_)
    first | refine Ops.stoW ?_ | refine Ops.stoA ?_
    refine Ops.nil <| thn_n <| W.seq <| W.region rfl <| qm rfl rfl rfl ?_
    first | refine oq (yixA rfl rfl rfl) rfl wn rfl rfl ?_ | refine oq (yixAI rfl rfl rfl) rfl wn rfl rfl ?_
    refine oq (y_fieldAddr rfl rfl) rfl wn rfl rfl ?_
    refine oq (yld rfl rfl) rfl wn rfl rfl ?_
    refine oq (y_geq rfl rfl rfl) rfl wn rfl rfl ?_
    refine Ops.nil <| thn_n ?_
    refine W.condp rfl (fun c37 => ?_) (fun c37 => ?_)
    · refine W.region rfl <| qm rfl rfl rfl ?_
      first | refine oq (yadd rfl rfl rfl) rfl wn rfl rfl ?_ | refine oq (y_addw rfl rfl rfl) rfl wn rfl rfl ?_
      refine qs rfl rfl rfl <| Ops.nil <| blk_n <| thn_n <| W.region rfl ?_
      first | refine oq (yadd rfl rfl rfl) rfl wn rfl rfl ?_ | refine oq (y_addw rfl rfl rfl) rfl wn rfl rfl ?_
      refine qm rfl rfl rfl <| Ops.nil <| thn_n ?_
      first
      | exact ⟨rfl, k + 1, by omega, by omega, ⟨rfl, rfl, rfl, lk rfl (show I _ = I _ by congr 1; rw [hnx, if_pos c37]; omega), rfl, rfl, trivial⟩, .skip rfl .refl⟩
      | exact ⟨rfl, k + 1, by omega, by omega, ⟨rfl, rfl, rfl, lk rfl (show I _ = I _ by congr 1; rw [hnx, if_neg c37]; omega), rfl, rfl, trivial⟩, .skip rfl .refl⟩
    · refine W.skip <| blk_n <| thn_n <| W.region rfl ?_
      first | refine oq (yadd rfl rfl rfl) rfl wn rfl rfl ?_ | refine oq (y_addw rfl rfl rfl) rfl wn rfl rfl ?_
      refine qm rfl rfl rfl <| Ops.nil <| thn_n ?_
      first
      | exact ⟨rfl, k + 1, by omega, by omega, ⟨rfl, rfl, rfl, lk rfl (show I _ = I _ by congr 1; rw [hnx, if_pos c37]; omega), rfl, rfl, trivial⟩, .skip rfl .refl⟩
      | exact ⟨rfl, k + 1, by omega, by omega, ⟨rfl, rfl, rfl, lk rfl (show I _ = I _ by congr 1; rw [hnx, if_neg c37]; omega), rfl, rfl, trivial⟩, .skip rfl .refl⟩
  · have hkl : k = bs.length := by omega
    subst hkl
    rw [List.take_length] at hck' ⊢
    have hvd : verdF fs ss s = if 0 < cntF s bs ∧ cntF s bs < bs.length then 3 else if cntF s bs = 0 then 2 else 1 := by rw [verdF, hbs]
    obtain ⟨n, hn⟩ : ∃ n, cntF s bs = n := ⟨_, rfl⟩
    rw [hn] at hck' hvd ⊢
    refine W.exit <| thn_x <| thn_x <| blk_x <| thn_n <| W.seq <| W.region rfl <| qs rfl rfl rfl <| Ops.nil <| thn_n ?_
    refine W.seq <| W.block <| W.seq <| W.block <| W.seq <| W.block <| W.seq <| W.block <| W.seq <| W.seq ?_
    refine W.seq <| W.region rfl <| qm rfl rfl rfl ?_
    refine oq (y_gtr rfl rfl rfl) rfl wn rfl rfl ?_
    refine qm rfl rfl rfl ?_
    refine Ops.ask (fun a15_3 => ?_) (fun a15_3 => ?_)
    · refine oq (y_move rfl rfl) rfl (want_some rfl rfl rfl) rfl rfl ?_
      refine oq (y_fieldAddr rfl rfl) rfl (want_some rfl rfl rfl) rfl rfl ?_
      refine oq (yld rfl rfl) rfl (want_some rfl rfl rfl) rfl rfl ?_
      refine oq (y_len rfl rfl) rfl (want_some rfl rfl rfl) rfl rfl ?_
      refine oq (y_lss rfl rfl rfl) rfl (want_some rfl rfl rfl) rfl rfl ?_
      refine oq (y_pickT rfl rfl rfl) rfl wn rfl rfl ?_
      refine qs rfl rfl rfl <| Ops.nil <| thn_n ?_
      refine W.condp rfl (fun c41 => ?_) (fun c41 => ?_)
      · refine W.exit <| thn_x <| thn_x <| blk_x <| thn_n <| W.region rfl <| qm rfl rfl rfl ?_
        first | refine oq (yadd rfl rfl rfl) rfl wn rfl rfl ?_ | refine oq (y_addw rfl rfl rfl) rfl wn rfl rfl ?_
        refine qs rfl rfl rfl <| Ops.nil <| blk_n <| thn_n <| W.region rfl <| qm rfl rfl rfl ?_
        first | refine oq (yadd rfl rfl rfl) rfl wn rfl rfl ?_ | refine oq (y_addw rfl rfl rfl) rfl wn rfl rfl ?_
        refine qs rfl rfl rfl <| Ops.nil <| blk_n <| thn_n <| W.seq <| W.region rfl <| qm rfl rfl rfl ?_
        first | refine oq (yadd rfl rfl rfl) rfl wn rfl rfl ?_ | refine oq (y_addw rfl rfl rfl) rfl wn rfl rfl ?_
        refine qs rfl rfl rfl <| Ops.nil <| thn_n <| W.exit <| blk_x <| thn_n <| W.seq <| W.region rfl <| qm rfl rfl rfl <| qs rfl rfl rfl ?_
        refine qs rfl rfl rfl <| Ops.nil <| thn_n <| W.ret ?_
        refine lvp ?_
        rw [hvd]
        first
        | (rw [if_pos (by omega)]; rfl)
        | (rw [if_neg (by omega), if_pos (by omega)]; rfl)
        | (rw [if_neg (by omega), if_neg (by omega)]; rfl)
      · refine W.skip <| thn_n <| W.seq <| W.region rfl <| qm rfl rfl rfl ?_
        refine oq (y_eql rfl rfl rfl) rfl wn rfl rfl ?_
        refine qs rfl rfl rfl <| Ops.nil <| thn_n ?_
        refine W.condp rfl (fun c51 => ?_) (fun c51 => ?_)
        · refine W.exit <| thn_x <| blk_o <| thn_x <| blk_x <| thn_n <| W.region rfl <| qm rfl rfl rfl ?_
          first | refine oq (yadd rfl rfl rfl) rfl wn rfl rfl ?_ | refine oq (y_addw rfl rfl rfl) rfl wn rfl rfl ?_
          refine qs rfl rfl rfl <| Ops.nil <| blk_n <| thn_n <| W.seq <| W.region rfl <| qm rfl rfl rfl ?_
          first | refine oq (yadd rfl rfl rfl) rfl wn rfl rfl ?_ | refine oq (y_addw rfl rfl rfl) rfl wn rfl rfl ?_
          refine qs rfl rfl rfl <| Ops.nil <| thn_n <| W.exit <| blk_x <| thn_n <| W.seq <| W.region rfl <| qm rfl rfl rfl <| qs rfl rfl rfl ?_
          refine qs rfl rfl rfl <| Ops.nil <| thn_n <| W.ret ?_
          refine lvp ?_
          rw [hvd]
          first
          | (rw [if_pos (by omega)]; rfl)
          | (rw [if_neg (by omega), if_pos (by omega)]; rfl)
          | (rw [if_neg (by omega), if_neg (by omega)]; rfl)
        · refine W.skip <| thn_n <| W.exit <| blk_o <| thn_x <| blk_o <| thn_x <| blk_x <| thn_n <| W.seq ?_
          refine W.region rfl <| qm rfl rfl rfl ?_
          first | refine oq (yadd rfl rfl rfl) rfl wn rfl rfl ?_ | refine oq (y_addw rfl rfl rfl) rfl wn rfl rfl ?_
          refine qs rfl rfl rfl <| Ops.nil <| thn_n <| W.exit <| blk_x <| thn_n <| W.seq <| W.region rfl <| qm rfl rfl rfl <| qs rfl rfl rfl ?_
          refine qs rfl rfl rfl <| Ops.nil <| thn_n <| W.ret ?_
          refine lvp ?_
          rw [hvd]
          first
          | (rw [if_pos (by omega)]; rfl)
          | (rw [if_neg (by omega), if_pos (by omega)]; rfl)
          | (rw [if_neg (by omega), if_neg (by omega)]; rfl)
    · refine Ops.no ?_
      refine Ops.no ?_
      refine Ops.no ?_
      refine Ops.no ?_
      refine Ops.no ?_
      refine oq (y_pickF rfl rfl rfl) rfl wn rfl rfl ?_
      refine qs rfl rfl rfl <| Ops.nil <| thn_n ?_
      refine W.condF ?_
      refine W.skip <| thn_n <| W.seq <| W.region rfl <| qm rfl rfl rfl ?_
      refine oq (y_eql rfl rfl rfl) rfl wn rfl rfl ?_
      refine qs rfl rfl rfl <| Ops.nil <| thn_n ?_
      refine W.condp rfl (fun c51 => ?_) (fun c51 => ?_)
      · refine W.exit <| thn_x <| blk_o <| thn_x <| blk_x <| thn_n <| W.region rfl <| qm rfl rfl rfl ?_
        first | refine oq (yadd rfl rfl rfl) rfl wn rfl rfl ?_ | refine oq (y_addw rfl rfl rfl) rfl wn rfl rfl ?_
        refine qs rfl rfl rfl <| Ops.nil <| blk_n <| thn_n <| W.seq <| W.region rfl <| qm rfl rfl rfl ?_
        first | refine oq (yadd rfl rfl rfl) rfl wn rfl rfl ?_ | refine oq (y_addw rfl rfl rfl) rfl wn rfl rfl ?_
        refine qs rfl rfl rfl <| Ops.nil <| thn_n <| W.exit <| blk_x <| thn_n <| W.seq <| W.region rfl <| qm rfl rfl rfl <| qs rfl rfl rfl ?_
        refine qs rfl rfl rfl <| Ops.nil <| thn_n <| W.ret ?_
        refine lvp ?_
        rw [hvd]
        first
        | (rw [if_pos (by omega)]; rfl)
        | (rw [if_neg (by omega), if_pos (by omega)]; rfl)
        | (rw [if_neg (by omega), if_neg (by omega)]; rfl)
      · refine W.skip <| thn_n <| W.exit <| blk_o <| thn_x <| blk_o <| thn_x <| blk_x <| thn_n <| W.seq ?_
        refine W.region rfl <| qm rfl rfl rfl ?_
        first | refine oq (yadd rfl rfl rfl) rfl wn rfl rfl ?_ | refine oq (y_addw rfl rfl rfl) rfl wn rfl rfl ?_
        refine qs rfl rfl rfl <| Ops.nil <| thn_n <| W.exit <| blk_x <| thn_n <| W.seq <| W.region rfl <| qm rfl rfl rfl <| qs rfl rfl rfl ?_
        refine qs rfl rfl rfl <| Ops.nil <| thn_n <| W.ret ?_
        refine lvp ?_
        rw [hvd]
        first
        | (rw [if_pos (by omega)]; rfl)
        | (rw [if_neg (by omega), if_pos (by omega)]; rfl)
        | (rw [if_neg (by omega), if_neg (by omega)]; rfl)
end Go.Mus

/- Whether two plants have the same answers. Conditions: none; over the given program. -/
namespace Go.Mus
set_option maxRecDepth 100000
set_option maxHeartbeats 4000000
end Go.Mus

/- Plants whose plans answer to each other; floors with other numbers. Conditions: none. -/
namespace Go.Mus
theorem perm_of_mem {α : Type} [DecidableEq α] {l l' : List α} (h : l.Nodup) (h' : l'.Nodup) (hm : ∀ a, a ∈ l ↔ a ∈ l') : l.Perm l' := by
  rw [List.perm_iff_count]
  intro a
  by_cases ha : a ∈ l
  · have h1 := List.count_pos_iff.2 ha
    have h2 := List.count_pos_iff.2 ((hm a).1 ha)
    have h3 := List.nodup_iff_count.1 h a
    have h4 := List.nodup_iff_count.1 h' a
    omega
  · rw [List.count_eq_zero.2 ha, List.count_eq_zero.2 fun h => ha ((hm a).2 h)]

theorem valid_free {fs : List Fl} {ss : List St} {may : May} {p : List Be} (h : Valid fs ss may p) : Valid fs ss freeM p := by
  refine ⟨h.len, fun i hi => ?_, h.out⟩
  have := h.at_ i hi
  rw [mem_berths] at this ⊢
  rcases this with ⟨_, h1⟩ | ⟨_, h1⟩
  · exact .inl ⟨rfl, h1⟩
  · exact .inr ⟨rfl, h1⟩
/-- Each right plan of the one answers to one of the other. -/
structure Sym (fs fs' : List Fl) (ss ss' : List St) (σ τ : List Be → List Be) : Prop where
  hall : HallOK fs ss
  hall' : HallOK fs' ss'
  len : ss'.length = ss.length
  val : ∀ may p, Valid fs ss may p → Valid fs' ss' may (σ p)
  val' : ∀ may p, Valid fs' ss' may p → Valid fs ss may (τ p)
  rgt : ∀ p, Valid fs ss freeM p → inspF fs ss p = none → inspF fs' ss' (σ p) = none
  rgt' : ∀ p, Valid fs' ss' freeM p → inspF fs' ss' p = none → inspF fs ss (τ p) = none
  inv : ∀ p, Valid fs ss freeM p → τ (σ p) = p
  inv' : ∀ p, Valid fs' ss' freeM p → σ (τ p) = p
  lo : ∀ p, Valid fs ss freeM p → loavesF ss' (σ p) = loavesF ss p
  on : ∀ p i, Valid fs ss freeM p → (0 ≤ (beAt (σ p) i).fl ↔ 0 ≤ (beAt p i).fl)
section
variable {fs fs' : List Fl} {ss ss' : List St} {σ τ : List Be → List Be} (Y : Sym fs fs' ss ss' σ τ)
include Y
theorem Sym.lo' {p : List Be} (h : Valid fs' ss' freeM p) : loavesF ss (τ p) = loavesF ss' p := by
  rw [← Y.lo _ (Y.val' _ _ h), Y.inv' p h]
theorem Sym.top : (bestF fs' ss').1 = (bestF fs ss).1 := by
  have h1 := best_le Y.hall Y.hall' fun p hv hi => ⟨σ p, Y.val _ _ hv, Y.rgt p hv hi, by rw [Y.lo p hv]; exact Int.le_refl _⟩
  have h2 := best_le Y.hall' Y.hall fun p hv hi => ⟨τ p, Y.val' _ _ hv, Y.rgt' p hv hi, by rw [Y.lo' hv]; exact Int.le_refl _⟩
  omega
theorem Sym.all : (allF fs' ss' freeM).Perm ((allF fs ss freeM).map σ) := by
  refine perm_of_mem (allF_nodup Y.hall') ?_ fun p => ?_
  · rw [List.Nodup, List.pairwise_map]
    refine (allF_nodup Y.hall).imp_of_mem fun {a b} ha hb hab e => hab ?_
    rw [← Y.inv a ((mem_allF Y.hall).1 ha).1, e, Y.inv b ((mem_allF Y.hall).1 hb).1]
  · rw [mem_allF Y.hall', List.mem_map]
    constructor
    · rintro ⟨h1, h2⟩
      exact ⟨τ p, (mem_allF Y.hall).2 ⟨Y.val' _ _ h1, Y.rgt' p h1 h2⟩, Y.inv' p h1⟩
    · rintro ⟨q, hq, rfl⟩
      obtain ⟨h1, h2⟩ := (mem_allF Y.hall).1 hq
      exact ⟨Y.val _ _ h1, Y.rgt q h1 h2⟩
theorem Sym.best : (bestF fs' ss').2.Perm ((bestF fs ss).2.map σ) := by
  rw [(best_spec Y.hall').2.2, (best_spec Y.hall).2.2, Y.top]
  refine (Y.all.filter _).trans (.of_eq ?_)
  rw [List.filter_map]
  congr 1
  refine List.filter_congr fun p hp => ?_
  show decide (loavesF ss' (σ p) = _) = _
  rw [Y.lo p ((mem_allF Y.hall).1 hp).1]
theorem Sym.count : (bestF fs' ss').2.length = (bestF fs ss).2.length := by rw [Y.best.length_eq, List.length_map]
theorem Sym.someR (may : May) : someR fs' ss' may = Go.Mus.someR fs ss may := by
  refine Bool.eq_iff_iff.2 ?_
  rw [some_iff Y.hall', some_iff Y.hall]
  constructor
  · rintro ⟨p, h1, h2⟩; exact ⟨τ p, Y.val' _ _ h1, Y.rgt' p (valid_free h1) h2⟩
  · rintro ⟨p, h1, h2⟩; exact ⟨σ p, Y.val _ _ h1, Y.rgt p (valid_free h1) h2⟩
theorem Sym.late : lateF fs' ss' = lateF fs ss := by
  have key : ∀ m n, lateFrom fs' ss' m n = lateFrom fs ss m n := by
    intro m
    induction m with
    | zero => intro n; rfl
    | succ m ih => intro n; rw [lateFrom, lateFrom, Y.someR, ih]
  rw [lateF, lateF, Y.len, key]
end
/-! Floors with other numbers -/
end Go.Mus

/- Floors with other numbers. Conditions: none; over the given program. -/
namespace Go.Mus
set_option maxRecDepth 100000
set_option maxHeartbeats 4000000
end Go.Mus

/- Plans out of a hat; copies of plans. Conditions: none; over the given program. -/
namespace Go.Mus
set_option maxRecDepth 100000
set_option maxHeartbeats 4000000
end Go.Mus

/- Small plants and plans out of a hat; plans a day later. Conditions: none; over the given program. -/
namespace Go.Mus
set_option maxRecDepth 100000
set_option maxHeartbeats 4000000
end Go.Mus

/- All strikes a day later. Conditions: none. -/
namespace Go.Mus
theorem fm_congr {α β : Type} {f g : α → List β} : ∀ {l : List α}, (∀ a ∈ l, f a = g a) → l.flatMap f = l.flatMap g
  | [], _ => rfl
  | a :: l, h => by
    rw [List.flatMap_cons, List.flatMap_cons, h a (List.mem_cons_self ..), fm_congr fun b hb => h b (List.mem_cons_of_mem _ hb)]
section
variable {fs : List Fl} {ss : List St}
/-! The searches -/
end
end Go.Mus

/- All strikes a day later: the same answers, a day later. Conditions: none. -/
namespace Go.Mus
section
variable {fs : List Fl} {ss : List St}
variable (hck : ckPlant fs ss = 0) (h11 : ∀ s ∈ ss, s.day ≤ 11)
include hck h11
end
/-! A plan a day later -/
end Go.Mus

/- Operations that come up in any order and only add to what is owned. Conditions: none; over any program. -/
namespace Go.Mus
/-- What is said of one that adds: its number, its slot, what it bears with what it adds. -/
abbrev Spc := Nat × Nat × (Value → Frag → Prop)
def waits (ops : Array Oper) : Nat → Nat → Nat → Bool
  | 0, _, _ => false
  | n + 1, k, b => match ops[k]? with | some o => o.after.any fun e => bindsTo e && (Nat.beq e.on b || waits ops n e.on b) | none => false
structure BagI (ops : Array Oper) (listed : Nat) (B : List Nat) : Prop where
  cl : Closed ops listed
  low : ∀ k o, ops[k]? = some o → ∀ e ∈ o.after, bindsTo e = true → e.on < k
  or : ∀ k, k < ops.size → listed.testBit k = false → k ∈ B ∨ ∀ b ∈ B, waits ops 6 k b = true
  un : ∀ b ∈ B, b < ops.size ∧ listed.testBit b = false
  nd : B.Nodup

theorem BagI.some {ops : Array Oper} {listed : Nat} {B : List Nat} (h : BagI ops listed B) {b : Nat} (hb : b ∈ B) : rdys ops listed ≠ [] := by
  have key : ∀ (n k : Nat), k < n → k < ops.size → listed.testBit k = false → ∃ i, rdy ops listed i = true := by
    intro n
    induction n with
    | zero => intro k hk; omega
    | succ n ih =>
      intro k hk hlt hl
      by_cases hr : rdy ops listed k = true
      · exact ⟨k, hr⟩
      · simp only [rdy, Array.getElem?_eq_getElem hlt, hl, Bool.not_false, Bool.true_and, Array.all_eq_true_iff_forall_mem, Bool.or_eq_true, Bool.not_eq_true'] at hr
        have : ∃ e ∈ (ops[k]).after, bindsTo e = true ∧ listed.testBit e.on = false := by
          refine Classical.byContradiction fun hn => hr fun e he => ?_
          cases hbe : bindsTo e with
          | false => exact .inl rfl
          | true =>
            cases ht : listed.testBit e.on with
            | true => exact .inr rfl
            | false => exact absurd ⟨e, he, hbe, ht⟩ hn
        obtain ⟨e, he, h1, h2⟩ := this
        have := h.low k _ (Array.getElem?_eq_getElem hlt) e he h1
        exact ih e.on (by omega) (by omega) h2
  obtain ⟨i, hi⟩ := key (b + 1) b (by omega) (h.un b hb).1 (h.un b hb).2
  intro e
  have := mem_rdys.2 hi
  rw [e] at this
  cases this

theorem BagI.step {ops : Array Oper} {listed j : Nat} {B1 B2 : List Nat} (h : BagI ops listed (B1 ++ j :: B2)) (hj : rdy ops listed j = true) : BagI ops (listed ||| 2 ^ j) (B1 ++ B2) := by
  have hnd : j ∉ B1 ++ B2 := by
    have := (List.perm_middle (a := j) (l₁ := B1) (l₂ := B2)).nodup_iff.1 h.nd
    exact (List.nodup_cons.1 this).1
  refine ⟨h.cl.step hj, h.low, fun k hk hl => ?_, fun b hb => ?_, ?_⟩
  · rw [testBit_or, Bool.or_eq_false_iff] at hl
    have hne : j ≠ k := by simpa using hl.2
    rcases h.or k hk hl.1 with h' | h'
    · left
      rcases List.mem_append.1 h' with h' | h'
      · exact List.mem_append_left _ h'
      · rcases List.mem_cons.1 h' with h' | h'
        · exact absurd h'.symm hne
        · exact List.mem_append_right _ h'
    · right
      intro b hb
      refine h' b ?_
      rcases List.mem_append.1 hb with hb | hb
      · exact List.mem_append_left _ hb
      · exact List.mem_append_right _ (List.mem_cons_of_mem _ hb)
  · have hb' : b ∈ B1 ++ j :: B2 := by
      rcases List.mem_append.1 hb with hb | hb
      · exact List.mem_append_left _ hb
      · exact List.mem_append_right _ (List.mem_cons_of_mem _ hb)
    refine ⟨(h.un b hb').1, ?_⟩
    rw [testBit_or, (h.un b hb').2, Bool.false_or, decide_eq_false_iff_not]
    rintro rfl
    exact hnd hb
  · have := (List.perm_middle (a := j) (l₁ := B1) (l₂ := B2)).nodup_iff.1 h.nd
    exact (List.nodup_cons.1 this).2

/-- One that adds. -/
def Adds (x : Cx) (ops : Array Oper) (ε : Ev) (s : Spc) : Prop :=
  ∃ o, ops[s.1]? = some o ∧ o.dst = some s.2.1 ∧ slotOK o.dst x.n = true ∧ (∀ c, o.op ≠ .defer c) ∧ o.guard = none ∧ ∀ e, Cons ε e → ∀ F, Run1 x o e F fun v F' => ∃ A F'', F''.Perm F' ∧ s.2.2 v A ∧ F'' = A ++ F

theorem Cons.back {ε : Ev} {d : Nat} {v : Value} {e : Operand → Value} (h : Cons (upd ε (some d) v) e) (hd : ε d = none) : Cons ε e := fun y u hy => h y u (by
  cases y with
  | tmp t =>
    simp only [evε, upd] at hy ⊢
    cases hb : Nat.beq t d with
    | true => rw [Nat.eq_of_beq_eq_true hb, hd] at hy; cases hy
    | false => exact hy
  | _ => exact hy)

section rules
variable {x : Cx} {Q : Post} {ρ : Env} {ds : List Deferred} {F : Frag} {ops : Array Oper} {L : Frag} {fuel listed : Nat}
theorem Adds.of {i d : Nat} {P : Value → Frag → Prop} {op : Op} {ty : TypeId} {pos : String} {aft : Array Edge} (ho : nthO ops.toList i = some ⟨some d, op, ty, pos, aft, none⟩) (hd : Nat.blt d x.n = true) (hn : noDefer op = true) (H : ∀ F, Ef x ρ ⟨some d, op, ty, pos, aft, none⟩ F fun v F' => ∃ A, P v A ∧ F' = A ++ F) : Adds x ops (look ρ) (i, d, P) :=
  ⟨_, nthO_get ho, rfl, hd, noDefer_spec hn, rfl, fun e he F => (H F e fun y v hy => he y v (by rw [ev_look]; exact hy)).mono fun v F' ⟨F'', p, A, hv, e⟩ => ⟨A, F'', p, hv, e⟩⟩
theorem Adds.call {i d f : Nat} {P : Value → Frag → Prop} {args : List Operand} {ts : Array TypeId} {vs : List Value} {ty : TypeId} {pos : String} {aft : Array Edge} (H : ∀ h', Ext x.h h' → Fnc x.P x.main f vs.toArray h' [] P) (ho : nthO ops.toList i = some ⟨some d, .call ⟨.value (.func f), args.toArray, ts⟩, ty, pos, aft, none⟩ := by rfl) [FB x.P f] (hv : evs ρ args = some vs := by rfl) (hd : Nat.blt d x.n = true := by rfl) : Adds x ops (look ρ) (i, d, P) :=
  .of ho hd rfl fun F => e_call0 rfl hv (fun h' hE _ => H h' hE) fun v A' hv => ⟨A', hv, rfl⟩
def NewP (t : TypeId) (zc : Array Value) (v : Value) (A : Frag) : Prop := ∃ β, v = .pointer (some ⟨β, 0, none⟩) ∧ A = [(β, .cells zc t (0, 0))]
theorem Adds.new {i d t s b : Nat} {z : Value} {zc : Array Value} {ty : TypeId} {pos : String} {aft : Array Edge} (ho : nthO ops.toList i = some ⟨some d, .alloc t, ty, pos, aft, none⟩ := by rfl) [TI x.P t s b z zc] (hd : Nat.blt d x.n = true := by rfl) : Adds x ops (look ρ) (i, d, NewP t zc) :=
  .of ho hd rfl fun F => e_alloc rfl fun β _ _ => ⟨_, ⟨β, rfl, rfl⟩, rfl⟩
end rules
end Go.Mus
namespace Go.Mus
section
variable {α : Type} {row : α → List Value} {w : Nat} [rw' : Rw row w]
section
variable {x : Cx} {ρ : Env} {F : Frag} {o : Oper} {R : Value → Frag → Prop}
end
end
section
variable {x : Cx} {S : Frag → Prop} {ρ : Env} {o : Oper}
end
end Go.Mus
namespace Go.Mus
section
variable {x : Cx} {Q : Post} {ρ : Env} {ds : List Deferred} {ops : Array Oper} {G : Frag} {y₁ y₂ y₃ y₄ y₅ y₆ : Nat × Obj} {id n : Nat}
end
/-- The same, in another order. -/
theorem perm_cnt {α : Type} {l l' : List α} (h : ∀ [DecidableEq α] (a : α), l.count a = l'.count a) : l.Perm l' := by
  classical
  exact List.perm_iff_count.2 fun a => h a
end Go.Mus
namespace Go.Mus
theorem Os.open {α : Type} {row : α → List Value} {w : Nat} [Rw row w] {E : TypeId} {a : Option Addr} {n cap : Nat} {l : List α} {A : Frag} (h : Os E row (.slice a n cap) l A) (hne : 0 < l.length) : ∃ β c J, a = some ⟨β, 0, none⟩ ∧ A = (β, .cells c E (0, 0)) :: J ∧ n = l.length ∧ c.size = cap * w ∧ l.length ≤ cap ∧ Part c 0 (flat row l) ∧ Shut J := by
  rcases h with ⟨rfl, _, _⟩ | ⟨β, c, cp, J, hv, rfl, h1, h2, h3, h4⟩
  · simp at hne
  · injection hv with e1 e2 e3
    subst e1 e2 e3
    exact ⟨β, c, J, rfl, rfl, rfl, h1, h2, h3, h4⟩
end Go.Mus

/- Plants a little changed. Conditions: none. -/
namespace Go.Mus
end Go.Mus

/- What shows in a heat, and what is wrong. Conditions: none. -/
namespace Go.Mus
set_option linter.unusedSectionVars false
/-! Days on which something shows -/
theorem be_pad {l : List Be} {i : Nat} : beAt (padB l) i = beAt l i := by
  simp only [beAt, padB, List.getD]
  rcases Nat.lt_or_ge i l.length with h | h
  · rw [List.getElem?_append_left h]
  · rw [List.getElem?_append_right h, List.getElem?_eq_none (l := l) h]
    cases hx : (List.replicate (4 - l.length) bnone)[i - l.length]? with
    | none => rfl
    | some b => rw [List.eq_of_mem_replicate (List.mem_of_getElem? hx)]; rfl
theorem be_out {l : List Be} {i : Nat} (h : l.length ≤ i) : beAt l i = bnone := by simp [beAt, List.getD, List.getElem?_eq_none h]
section
variable {fs : List Fl} {ss : List St} {l : List Be} (hall : HallOK fs ss) (hp : PlanOf fs ss (padB l)) (hn : l.length = ss.length)
include hall hp hn
end
/-! The first of all -/
def MinS (R : Nat → Nat → Prop) (on first : Int) : Prop := (on = -1 ∧ first = -1 ∧ ∀ f d, ¬ R f d) ∨ ∃ f d : Nat, on = f ∧ first = d ∧ R f d ∧ ∀ f' d', R f' d' → d < d' ∨ d = d' ∧ f ≤ f'
theorem MinS.eq {R : Nat → Nat → Prop} {a b c d : Int} (h : MinS R a b) (h' : MinS R c d) : a = c ∧ b = d := by
  rcases h with ⟨rfl, rfl, h⟩ | ⟨f, n, rfl, rfl, h, hm⟩ <;> rcases h' with ⟨rfl, rfl, h'⟩ | ⟨f', n', rfl, rfl, h', hm'⟩
  · exact ⟨rfl, rfl⟩
  · exact absurd h' (h _ _)
  · exact absurd h (h' _ _)
  · have := hm _ _ h'
    have := hm' _ _ h
    omega
theorem MinS.new {R R' : Nat → Nat → Prop} {on first g day : Int} (h : MinS R on first) (h' : MinS R' g day) (hc : 0 ≤ day ∧ (first < 0 ∨ day < first ∨ day = first ∧ g < on)) : MinS (fun f d => R f d ∨ R' f d) g day := by
  rcases h' with ⟨rfl, rfl, h'⟩ | ⟨f', n', rfl, rfl, h', hm'⟩
  · omega
  · refine .inr ⟨f', n', rfl, rfl, .inr h', fun x y hxy => ?_⟩
    rcases hxy with hxy | hxy
    · rcases h with ⟨rfl, rfl, h⟩ | ⟨f, n, rfl, rfl, h, hm⟩
      · exact absurd hxy (h _ _)
      · have := hm _ _ hxy
        omega
    · exact hm' _ _ hxy
theorem MinS.old {R R' : Nat → Nat → Prop} {on first g day : Int} (h : MinS R on first) (h' : MinS R' g day) (hc : ¬ (0 ≤ day ∧ (first < 0 ∨ day < first ∨ day = first ∧ g < on))) : MinS (fun f d => R f d ∨ R' f d) on first := by
  rcases h' with ⟨rfl, rfl, h'⟩ | ⟨f', n', rfl, rfl, h', hm'⟩
  · rcases h with ⟨rfl, rfl, h⟩ | ⟨f, n, rfl, rfl, h, hm⟩
    · exact .inl ⟨rfl, rfl, fun f d hx => hx.elim (h _ _) (h' _ _)⟩
    · exact .inr ⟨f, n, rfl, rfl, .inl h, fun x y hxy => hxy.elim (hm _ _) (fun hx => absurd hx (h' _ _))⟩
  · rcases h with ⟨rfl, rfl, h⟩ | ⟨f, n, rfl, rfl, h, hm⟩
    · omega
    · refine .inr ⟨f, n, rfl, rfl, .inl h, fun x y hxy => ?_⟩
      rcases hxy with hxy | hxy
      · exact hm _ _ hxy
      · have := hm' _ _ hxy
        omega
end Go.Mus

/- Slices of slices; makeSlice. Conditions: none; over any program. -/
namespace Go.Mus
/-- A slice as an element. -/
structure Sv where
  a : Option Addr
  n : Nat
  cap : Nat
abbrev Sv.val (s : Sv) : Value := .slice s.a s.n s.cap
def rowS (s : Sv) : List Value := [.slice s.a s.n s.cap]
instance : Rw rowS 1 := ⟨fun _ => rfl, fun _ => rfl⟩

section
variable {α : Type} {row : α → List Value} {w : Nat} [rw' : Rw row w] {E : TypeId}
/-- Slices of one's own, one by one. -/
inductive Oss (E : TypeId) (row : α → List Value) [Rw row w] : List Sv → List (List α) → Frag → Prop
  | nil : Oss E row [] [] []
  | cons {s : Sv} {l : List α} {A B : Frag} {vs : List Sv} {ls : List (List α)} : Os E row s.val l A → Oss E row vs ls B → Oss E row (s :: vs) (l :: ls) (A ++ B)
theorem Oss.len {vs : List Sv} {ls : List (List α)} {A : Frag} (h : Oss E row vs ls A) : vs.length = ls.length := by
  induction h with
  | nil => rfl
  | cons _ _ ih => simp [ih]
theorem Oss.shut {vs : List Sv} {ls : List (List α)} {A : Frag} (h : Oss E row vs ls A) : Shut A := by
  induction h with
  | nil => exact .nil
  | cons h _ ih => exact h.shut.app ih
theorem Oss.snoc {vs : List Sv} {ls : List (List α)} {A B : Frag} {s : Sv} {l : List α} (h : Oss E row vs ls A) (hs : Os E row s.val l B) : Oss E row (vs ++ [s]) (ls ++ [l]) (A ++ B) := by
  induction h with
  | nil => have := Oss.cons hs .nil; simpa using this
  | cons h1 _ ih => have := Oss.cons h1 ih; rw [← List.append_assoc] at this; exact this
theorem Oss.sl {vs : List Sv} {ls : List (List α)} {A : Frag} {h' : Hp} (h : Oss E row vs ls A) (hL : ∀ b o, (b, o) ∈ A → h' b = some o) : ∀ {k : Nat} {s : Sv} {l : List α}, vs[k]? = some s → ls[k]? = some l → Sl h' row s.val l := by
  induction h with
  | nil => intro k s l hs; simp at hs
  | cons h1 _ ih =>
    intro k s l hs hl
    rcases k with _ | k
    · simp at hs hl; subst hs hl
      exact h1.sl fun b o hb => hL b o (List.mem_append_left _ hb)
    · simp at hs hl
      exact ih (fun b o hb => hL b o (List.mem_append_right _ hb)) hs hl
end
/-! makeSlice -/
section
variable {x : Cx} {ρ : Env} {F : Frag} {o : Oper} {R : Value → Frag → Prop}
end
end Go.Mus

/- All heats of a plan. Conditions: none; over the given program. -/
namespace Go.Mus
set_option maxRecDepth 100000
set_option maxHeartbeats 4000000
theorem ext2 {c : Array Value} {o : Nat} {u v w y : Value} (h : c.extract o (o + 4) = #[u, v, w, y]) : c.extract (o + 1) (o + 1 + 2) = #[v, w] := by
  have e : (c.extract o (o + 4)).extract 1 3 = c.extract (o + 1) (o + 1 + 2) := by
    rw [Array.extract_extract, show min (o + 3) (o + 4) = o + 1 + 2 by omega]
  rw [← e, h]; rfl

end Go.Mus

/- Cones on a day, days between, what shows in a heat. Conditions: none; over the given program. -/
namespace Go.Mus
set_option maxRecDepth 100000
set_option maxHeartbeats 4000000
end Go.Mus

/- Whatever the heat is. Conditions: none; over the given program. -/
namespace Go.Mus
set_option maxRecDepth 100000
set_option maxHeartbeats 4000000
end Go.Mus

/- When a floor is empty, when cones are done, days of doubt; what is said of them by all heats. Conditions: none. -/
namespace Go.Mus
def emptyS (s : Sp) : Int := if s.lo = 0 ∧ s.hi = 0 then 1 else if 0 < s.lo then 2 else 3
def emptyV (fs : List Fl) (ss : List St) (l : List Be) (f d : Int) : Int × Int :=
  if (standsV fs ss l f d).2 ≠ 0 then (0, (standsV fs ss l f d).2) else (emptyS (standsV fs ss l f d).1, 0)
def readyV (fs : List Fl) (ss : List St) (l : List Be) (i : Int) : Sp × Int :=
  if askE fs ss l [] ≠ 0 then (⟨0, 0⟩, askE fs ss l []) else if outs i 0 (ss.length - 1) then (⟨0, 0⟩, 3) else if (beAt l i.toNat).fl < 0 then (⟨0, 0⟩, 8)
  else (⟨(beAt l i.toNat).day + (flAt fs (beAt l i.toNat).fl).lo, (beAt l i.toNat).day + (flAt fs (beAt l i.toNat).fl).hi⟩, 0)
def dbK (f : Nat) (D : List Sp) : Nat → List (List Int)
  | 0 => []
  | d + 1 => if (D.getD d ⟨0, 0⟩).lo ≠ (D.getD d ⟨0, 0⟩).hi then dbK f D d ++ [[(f : Int), (d : Int)]] else dbK f D d
def dbF (fs : List Fl) (ss : List St) (p : List Be) : Nat → List (List Int)
  | 0 => []
  | f + 1 => dbF fs ss p f ++ dbK f (standsD fs ss p f) 22
def doubtV (fs : List Fl) (ss : List St) (l : List Be) : List (List Int) × Int :=
  if askE fs ss l [] ≠ 0 then ([], askE fs ss l []) else (dbF fs ss (padB l) fs.length, 0)
theorem dbK_len {f : Nat} {D : List Sp} : ∀ k, (dbK f D k).length ≤ k
  | 0 => Nat.le_refl _
  | k + 1 => by
    have := dbK_len (f := f) (D := D) k
    rw [dbK]; split
    · rw [List.length_append, List.length_singleton]; omega
    · omega
theorem dbF_len {fs : List Fl} {ss : List St} {p : List Be} : ∀ k, (dbF fs ss p k).length ≤ 22 * k
  | 0 => Nat.le_refl _
  | k + 1 => by
    have := dbF_len (fs := fs) (ss := ss) (p := p) k
    have := dbK_len (f := k) (D := standsD fs ss p k) 22
    rw [dbF, List.length_append]; omega
theorem dbK_zero {f : Nat} : ∀ k, dbK f days0 k = []
  | 0 => rfl
  | k + 1 => by
    have e : days0.getD k (⟨0, 0⟩ : Sp) = ⟨0, 0⟩ := by
      simp only [days0, List.getD, List.getElem?_replicate]; split <;> rfl
    rw [dbK, e, if_neg (by simp), dbK_zero k]
/-! Counted over all heats -/
def MmS (g : Nat → Int) (k : Nat) (lo hi : Int) : Prop := (k = 0 ∧ lo = 0 ∧ hi = 0) ∨ (0 < k ∧ (∀ i, i < k → lo ≤ g i ∧ g i ≤ hi) ∧ (∃ i, i < k ∧ g i = lo) ∧ ∃ i, i < k ∧ g i = hi)
theorem MmS.first {g : Nat → Int} {lo hi : Int} (h : MmS g 0 lo hi) : MmS g 1 (min (g 0) (g 0)) (max (g 0) (g 0)) := by
  refine .inr ⟨by omega, fun i hi => ?_, ⟨0, by omega, by omega⟩, ⟨0, by omega, by omega⟩⟩
  obtain rfl : i = 0 := by omega
  omega
theorem MmS.next {g : Nat → Int} {k : Nat} {lo hi : Int} (h : MmS g k lo hi) (hk : k ≠ 0) : MmS g (k + 1) (min lo (g k)) (max hi (g k)) := by
  rcases h with ⟨rfl, -, -⟩ | ⟨h0, h1, ⟨i, hi1, hi2⟩, ⟨j, hj1, hj2⟩⟩
  · exact absurd rfl hk
  refine .inr ⟨by omega, fun x hx => ?_, ?_, ?_⟩
  · rcases (by omega : x < k ∨ x = k) with h | rfl
    · have := h1 x h; omega
    · omega
  · rcases Int.le_total lo (g k) with h | h
    · exact ⟨i, by omega, by omega⟩
    · exact ⟨k, by omega, by omega⟩
  · rcases Int.le_total hi (g k) with h | h
    · exact ⟨k, by omega, by omega⟩
    · exact ⟨j, by omega, by omega⟩
theorem MmS.eq {g : Nat → Int} {n : Nat} {lo hi lo' hi' : Int} (h : MmS g n lo hi) (h' : MmS g n lo' hi') : lo = lo' ∧ hi = hi' := by
  rcases h with ⟨rfl, rfl, rfl⟩ | ⟨h0, h1, ⟨i, hi1, hi2⟩, ⟨j, hj1, hj2⟩⟩ <;> rcases h' with ⟨h0', rfl, rfl⟩ | ⟨h0', h1', ⟨i', hi1', hi2'⟩, ⟨j', hj1', hj2'⟩⟩
  · exact ⟨rfl, rfl⟩
  · omega
  · omega
  · have := h1 i' hi1'
    have := h1 j' hj1'
    have := h1' i hi1
    have := h1' j hj1
    omega
end Go.Mus

/- All plans gone through: the right ones among them are those that are found, and what is kept of them. Conditions: none. -/
namespace Go.Mus
/-- All plans of the first strikes, in order. -/
def listF (fs : List Fl) (ss : List St) : Nat → List (List Be)
  | 0 => [[]]
  | i + 1 => (listF fs ss i).flatMap fun l => (berthsK fs ss freeM i).map fun b => l ++ [b]
def extF (fs : List Fl) (ss : List St) : Nat → List Be → List (List Be)
  | 0, l => [l]
  | m + 1, l => (berthsK fs ss freeM l.length).flatMap fun b => extF fs ss m (l ++ [b])
def isR (fs : List Fl) (ss : List St) (l : List Be) : Bool := (inspF fs ss (padB l)).isNone
def loaL (ss : List St) (l : List Be) : Int := loavesF ss (padB l)
theorem listF_len {fs : List Fl} {ss : List St} : ∀ i l, l ∈ listF fs ss i → l.length = i
  | 0, l, h => by have : l = [] := by simpa [listF] using h
                  subst this; rfl
  | i + 1, l, h => by
    obtain ⟨g, hg, hm⟩ := List.mem_flatMap.1 h
    obtain ⟨b, -, rfl⟩ := List.mem_map.1 hm
    rw [List.length_append, listF_len i g hg]; rfl
theorem list_ext {fs : List Fl} {ss : List St} : ∀ m k, (listF fs ss k).flatMap (extF fs ss m) = listF fs ss (k + m)
  | 0, k => by
    have : extF fs ss 0 = fun l => [l] := rfl
    rw [this, List.flatMap_singleton']; rfl
  | m + 1, k => by
    rw [show k + (m + 1) = (k + 1) + m by omega, ← list_ext m (k + 1), listF, List.flatMap_assoc]
    refine fm_congr fun l hl => ?_
    rw [extF, listF_len k l hl, List.flatMap_map]
theorem ext_nil {fs : List Fl} {ss : List St} {n : Nat} : extF fs ss n [] = listF fs ss n := by
  have := list_ext (fs := fs) (ss := ss) n 0
  rw [Nat.zero_add] at this
  rw [← this]; simp [listF]
theorem padB_set {l : List Be} {b : Be} (h : l.length < 4) : (padB l).set l.length b = padB (l ++ [b]) := by
  have e : 4 - l.length = (4 - (l ++ [b]).length) + 1 := by simp; omega
  unfold padB
  rw [e, List.set_append_right _ _ (Nat.le_refl _), Nat.sub_self, List.replicate_succ, List.set_cons_zero, List.append_assoc]
  rfl
theorem ext_pre {fs : List Fl} {ss : List St} : ∀ m l l', l' ∈ extF fs ss m l → ∃ r, l' = l ++ r
  | 0, l, l', h => by
    have : l' = l := by simpa [extF] using h
    exact ⟨[], by rw [this, List.append_nil]⟩
  | m + 1, l, l', h => by
    obtain ⟨b, -, hb⟩ := List.mem_flatMap.1 h
    obtain ⟨r, rfl⟩ := ext_pre m _ l' hb
    exact ⟨b :: r, by simp⟩
theorem ext_plan {fs : List Fl} {ss : List St} (hall : HallOK fs ss) : ∀ m l l', l.length + m = ss.length → PlanOf fs ss (padB l) → l' ∈ extF fs ss m l → PlanOf fs ss (padB l')
  | 0, l, l', _, hp, h => by
    have : l' = l := by simpa [extF] using h
    rw [this]; exact hp
  | m + 1, l, l', hl, hp, h => by
    have h4 := hall.ns
    obtain ⟨b, hb, hb'⟩ := List.mem_flatMap.1 h
    refine ext_plan hall m (l ++ [b]) l' (by simp; omega) ?_ hb'
    rw [← padB_set (by omega)]
    exact plan_set hp (by omega) (berth_ok hall (by omega) hb)
theorem rights_ext {fs : List Fl} {ss : List St} (hall : HallOK fs ss) : ∀ m l, l.length + m = ss.length → PlanOf fs ss (padB l) → rights fs ss freeM m l.length (padB l) = ((extF fs ss m l).filter (isR fs ss)).map padB
  | 0, l, _, _ => by
    rw [rights, extF, List.filter_cons]
    unfold isR
    split <;> rfl
  | m + 1, l, hl, hp => by
    have h4 := hall.ns
    rw [rights, extF, List.filter_flatMap, List.map_flatMap]
    refine fm_congr fun b hb => ?_
    rw [padB_set (by omega)]
    have hp' : PlanOf fs ss (padB (l ++ [b])) := by
      rw [← padB_set (by omega)]
      exact plan_set hp (by omega) (berth_ok hall (by omega) hb)
    have hbk := berth_ok hall (by omega) hb
    have ih := rights_ext hall m (l ++ [b]) (by simp; omega) hp'
    rw [List.length_append, List.length_singleton] at ih
    split
    · rename_i hpr
      have : (extF fs ss m (l ++ [b])).filter (isR fs ss) = [] := by
        refine List.filter_eq_nil_iff.2 fun l' hl' hr => ?_
        obtain ⟨r, rfl⟩ := ext_pre m _ l' hl'
        have hq := ext_plan hall m _ _ (by simp; omega) hp' hl'
        have hn : inspF fs ss (padB (l ++ [b] ++ r)) = none := by simpa [isR] using hr
        have := prune_no (b := b) hall hq.ok hp'.ok hbk.2.2.1 hn fun i hi => by
          rw [be_pad, be_pad]
          rcases Nat.lt_or_ge i (l ++ [b]).length with h | h
          · left; simp only [beAt, List.getD]; rw [List.getElem?_append_left h]
          · right; rw [be_out h]; simp [bnone]
        rw [hpr] at this; cases this
      rw [this]; rfl
    · exact ih
/-- ████ What is found is what is right, of all. -/
theorem allF_list {fs : List Fl} {ss : List St} (hall : HallOK fs ss) : allF fs ss freeM = ((listF fs ss ss.length).filter (isR fs ss)).map padB := by
  have h4 := hall.ns
  unfold allF
  split
  · rename_i h0
    have := rights_ext hall ss.length [] (by simp) (pad_nil hall.nf.1)
    rw [ext_nil] at this
    exact this
  · rename_i h0
    obtain ⟨n, hn⟩ : ∃ n, ss.length = n + 1 := ⟨ss.length - 1, by omega⟩
    have e : listF fs ss ss.length = (berthsK fs ss freeM 0).flatMap fun b => extF fs ss n ([] ++ [b]) := by
      rw [← ext_nil, hn, extF]; rfl
    rw [e, List.filter_flatMap, List.map_flatMap]
    refine fm_congr fun b hb => ?_
    have hp' : PlanOf fs ss (padB [b]) := by
      have := plan_set (pad_nil (ss := ss) hall.nf.1) (k := 0) (by omega) (berth_ok hall (by omega) hb)
      rwa [← pad_one] at this
    have := rights_ext hall n [b] (by simp; omega) hp'
    rw [rightsOf, show ss.length - [b].length = n by simp; omega]
    exact this
/-! What is kept of those that are gone through -/
structure BI (ss : List St) (R B : List (List Be)) (most : Int) : Prop where
  eq : B = R.filter fun l => decide (loaL ss l = most)
  top : ∀ l ∈ R, loaL ss l ≤ most
  ne : R ≠ [] → B ≠ []
  em : R = [] → most = -1
theorem BI.nil {ss : List St} : BI ss [] [] (-1) := ⟨rfl, fun l h => by simp at h, fun h => absurd rfl h, fun _ => rfl⟩
theorem BI.less {ss : List St} {R B : List (List Be)} {most : Int} {l : List Be} (h : BI ss R B most) (hl : loaL ss l < most) (h0 : 0 ≤ loaL ss l) : BI ss (R ++ [l]) B most := by
  have hR : R ≠ [] := fun e => by have := h.em e; omega
  refine ⟨?_, fun x hx => ?_, fun _ => h.ne hR, fun e => by simp at e⟩
  · rw [List.filter_append, ← h.eq, List.filter_cons, if_neg (by simp; omega)]; simp
  · rcases List.mem_append.1 hx with hx | hx
    · exact h.top x hx
    · have : x = l := by simpa using hx
      subst this; omega
theorem BI.same {ss : List St} {R B : List (List Be)} {most : Int} {l : List Be} (h : BI ss R B most) (hl : loaL ss l = most) (h0 : 0 ≤ loaL ss l) : BI ss (R ++ [l]) (B ++ [l]) most := by
  refine ⟨?_, fun x hx => ?_, fun _ e => by simp at e, fun e => by simp at e⟩
  · rw [List.filter_append, ← h.eq, List.filter_cons, if_pos (by simpa using hl)]; simp
  · rcases List.mem_append.1 hx with hx | hx
    · exact h.top x hx
    · have : x = l := by simpa using hx
      subst this; omega
theorem BI.more {ss : List St} {R B : List (List Be)} {most : Int} {l : List Be} (h : BI ss R B most) (hl : most < loaL ss l) : BI ss (R ++ [l]) [l] (loaL ss l) := by
  refine ⟨?_, fun x hx => ?_, fun _ e => by simp at e, fun e => by simp at e⟩
  · rw [List.filter_append, filter_none fun q hq => ?_, List.filter_cons, if_pos (by simp)]
    · simp
    · have := h.top q hq
      exact decide_eq_false (by omega)
  · rcases List.mem_append.1 hx with hx | hx
    · have := h.top x hx; omega
    · have : x = l := by simpa using hx
      subst this; omega
/-- ████ What is kept is what Best says. -/
theorem BI.best {fs : List Fl} {ss : List St} (hall : HallOK fs ss) {B : List (List Be)} {most : Int} (h : BI ss ((listF fs ss ss.length).filter (isR fs ss)) B most) : (bestF fs ss).1 = most ∧ (bestF fs ss).2 = B.map padB ∧ B ≠ [] ∧ ∀ l ∈ B, l ∈ listF fs ss ss.length := by
  obtain ⟨⟨q, hq, hq1⟩, htop, hout⟩ := best_spec hall
  rw [allF_list hall] at hq htop hout
  obtain ⟨l, hl, rfl⟩ := List.mem_map.1 hq
  have hne : (listF fs ss ss.length).filter (isR fs ss) ≠ [] := fun e => by rw [e] at hl; simp at hl
  have hB := h.ne hne
  have e : (bestF fs ss).1 = most := by
    obtain ⟨x, hx⟩ := List.exists_mem_of_ne_nil _ hB
    have hx' := hx
    rw [h.eq, List.mem_filter] at hx'
    have h1 : loaL ss x = most := by simpa using hx'.2
    have h2 := htop (padB x) (List.mem_map.2 ⟨x, hx'.1, rfl⟩)
    have h3 := h.top l hl
    simp only [loaL] at h1 h3
    omega
  refine ⟨e, ?_, hB, fun x hx => ?_⟩
  · rw [hout, List.filter_map, e, h.eq]
    rfl
  · rw [h.eq] at hx
    exact (List.mem_filter.1 (List.mem_filter.1 hx).1).1
end Go.Mus

/- When a floor is empty, when cones are done, days of doubt. Conditions: none; over the given program. -/
namespace Go.Mus
set_option maxRecDepth 100000
set_option maxHeartbeats 4000000
theorem Empty_fn (main : Side) (h : Hp) (fs : List Fl) (ss : List St) (l : List Be) (f d : Int) (vf vs vl : Value) (hf : Sl h Fl.row vf fs) (hs : Sl h St.row vs ss) (hl : Sl h Be.row vl l) : Pu prog main n_floor_Empty #[.agg #[vf, vs], vl, I f, I d] h (.tuple #[I (emptyV fs ss l f d).1, I (emptyV fs ss l f d).2]) := by
  obtain ⟨a, cap, rfl⟩ := hf.isSl
  obtain ⟨a', cap', rfl⟩ := hs.isSl
  obtain ⟨a2, cap2, rfl⟩ := hl.isSl
  obtain ⟨s, e, hV⟩ : ∃ s e, standsV fs ss l f d = (s, e) := ⟨_, _, rfl⟩
  refine Fnc.of_body at_floor_Empty rfl (by show 4 ≤ 32; decide) [(0, .agg #[.slice a fs.length cap, .slice a' ss.length cap']), (1, .slice a2 l.length cap2), (2, I f), (3, I d)] ⟨rfl, rfl, rfl, rfl, trivial⟩ ?_
  refine W.seq <| W.region rfl ?_
  refine Ops.box (fun β4 => ?_)
  refine qs rfl rfl rfl <| qs rfl rfl rfl <| Ops.nil <| thn_n <| W.seq <| W.region rfl ?_
  first | refine oq (yldW rfl rfl) rfl wn rfl rfl ?_ | refine oq (yldA rfl rfl) rfl wn rfl rfl ?_
  refine qm rfl rfl rfl <| qm rfl rfl rfl <| qm rfl rfl rfl ?_
  refine cp (u := .tuple #[.agg #[I s.lo, I s.hi], I e]) (fun h' hE hL => ?_) ?_
  · have := Stands_fn main h' fs ss l f d _ _ _ (hf.ext hE) (hs.ext hE) (hl.ext hE)
    rw [hV] at this
    exact this
  refine qm rfl rfl rfl <| oq (y_extract rfl rfl rfl) rfl wn rfl rfl <| oq (y_extract rfl rfl rfl) rfl wn rfl rfl ?_
  refine Ops.new (fun β10 => ?_)
  first | refine Ops.stoW ?_ | refine Ops.stoA ?_
  refine qs rfl rfl rfl <| Ops.nil <| thn_n <| W.seq <| W.block <| W.seq <| W.region rfl <| qm rfl rfl rfl ?_
  refine oq (y_neq rfl rfl rfl) rfl wn rfl rfl ?_
  refine qs rfl rfl rfl <| Ops.nil <| thn_n ?_
  refine W.condp rfl (fun c20 => ?_) (fun c20 => ?_)
  · refine W.seq <| W.region rfl <| qm rfl rfl rfl <| qs rfl rfl rfl <| qs rfl rfl rfl <| Ops.nil <| thn_n <| W.ret <| blk_r <| thn_r ?_
    refine lvp ?_
    simp only [emptyV, hV]; rw [if_pos c20]; rfl
  · refine W.seq <| W.region rfl ?_
    first | refine oq (yldW rfl rfl) rfl wn rfl rfl ?_ | refine oq (yldA rfl rfl) rfl wn rfl rfl ?_
    refine oq (y_build (parts := []) (cs := #[I 0, I 0]) rfl rfl rfl) rfl wn rfl rfl ?_
    refine oq (Yv.eq (u := .bool (decide (s.lo = 0 ∧ s.hi = 0))) (y_eqA [s.lo, s.hi] [0, 0] rfl rfl rfl rfl rfl rfl rfl) (by simp)) rfl wn rfl rfl ?_
    refine qs rfl rfl rfl <| Ops.nil <| thn_n ?_
    refine W.condp rfl (fun c24 => ?_) (fun c24 => ?_)
    · refine W.seq <| W.region rfl <| qs rfl rfl rfl <| qs rfl rfl rfl <| Ops.nil <| thn_n <| W.ret <| blk_r <| thn_r ?_
      refine lvp ?_
      simp only [emptyV, hV]; rw [if_neg c20, emptyS, if_pos c24]; rfl
    · refine W.seq <| W.region rfl ?_
      refine oq (y_fieldAddr rfl rfl) rfl wn rfl rfl ?_
      refine oq (yld rfl rfl) rfl wn rfl rfl ?_
      refine oq (y_gtr rfl rfl rfl) rfl wn rfl rfl ?_
      refine qs rfl rfl rfl <| Ops.nil <| thn_n ?_
      refine W.condp rfl (fun c28 => ?_) (fun c28 => ?_)
      · refine W.seq <| W.region rfl <| qs rfl rfl rfl <| qs rfl rfl rfl <| Ops.nil <| thn_n <| W.ret <| blk_r <| thn_r ?_
        refine lvp ?_
        simp only [emptyV, hV]; rw [if_neg c20, emptyS, if_neg c24, if_pos c28]; rfl
      · refine W.skip <| blk_n <| thn_n <| W.seq <| W.region rfl <| qs rfl rfl rfl <| qs rfl rfl rfl <| Ops.nil <| thn_n <| W.ret ?_
        refine lvp ?_
        simp only [emptyV, hV]; rw [if_neg c20, emptyS, if_neg c24, if_neg c28]; rfl

theorem Ready_fn (main : Side) (h : Hp) (fs : List Fl) (ss : List St) (l : List Be) (i : Int) (vf vs vl : Value) (hf : Sl h Fl.row vf fs) (hs : Sl h St.row vs ss) (hl : Sl h Be.row vl l) : Pu prog main n_floor_Ready #[.agg #[vf, vs], vl, I i] h (.tuple #[(readyV fs ss l i).1.val, I (readyV fs ss l i).2]) := by
  obtain ⟨a, cap, rfl⟩ := hf.isSl
  obtain ⟨a', cap', rfl⟩ := hs.isSl
  obtain ⟨a2, cap2, rfl⟩ := hl.isSl
  obtain ⟨va, vb, pp, hsh, h1a, h1b, hpp, hok⟩ := askV_shape (.slice a fs.length cap) (.slice a' ss.length cap') fs ss l [] rfl rfl
  have hsz : (flat Be.row pp).toArray.size = 8 := by simp [flat_len, hpp]
  have hon : ones (flat Be.row pp).toArray.toList = true := plan_ones
  have hon2 : ones (#[va, vb] : Array Value).toList = true := by simp [ones, h1a, h1b]
  refine Fnc.of_body at_floor_Ready rfl (by show 3 ≤ 57; decide) [(0, .agg #[.slice a fs.length cap, .slice a' ss.length cap']), (1, .slice a2 l.length cap2), (2, I i)] ⟨rfl, rfl, rfl, trivial⟩ ?_
  refine W.seq <| W.region rfl ?_
  refine Ops.box (fun β3 => ?_)
  refine Ops.new (fun β6 => ?_)
  refine qs rfl rfl rfl <| Ops.nil <| thn_n <| W.seq <| W.region rfl ?_
  first | refine oq (yldW rfl rfl) rfl wn rfl rfl ?_ | refine oq (yldA rfl rfl) rfl wn rfl rfl ?_
  refine qm rfl rfl rfl ?_
  refine cp (u := .tuple #[.agg #[va, vb], planV pp, I (askE fs ss l [])]) (fun h' hE hL => by rw [← hsh]; exact asked_fn _ h' fs ss l [] _ _ _ (.slice none 0 0) (hf.ext hE) (hs.ext hE) (hl.ext hE) .nil (by simp)) ?_
  refine qm rfl rfl rfl <| oq (y_extract rfl rfl rfl) rfl wn rfl rfl <| oq (y_extract rfl rfl rfl) rfl wn rfl rfl <| oq (y_extract rfl rfl rfl) rfl wn rfl rfl ?_
  refine Ops.new (fun β8 => ?_)
  refine Ops.new (fun β9 => ?_)
  first | refine Ops.stoW ?_ | refine Ops.stoA ?_
  first | refine Ops.stoW ?_ | refine Ops.stoA ?_
  refine qs rfl rfl rfl <| Ops.nil <| thn_n <| W.seq <| W.seq <| W.region rfl <| qm rfl rfl rfl ?_
  refine oq (y_neq rfl rfl rfl) rfl wn rfl rfl ?_
  refine Ops.nil <| thn_n ?_
  refine W.condp rfl (fun c21 => ?_) (fun c21 => ?_)
  · refine W.seq <| W.region rfl ?_
    refine oq (y_build (parts := []) (cs := #[I 0, I 0]) rfl rfl rfl) rfl wn rfl rfl ?_
    refine qm rfl rfl rfl ?_
    first | refine Ops.stoW ?_ | refine Ops.stoA ?_
    refine qs rfl rfl rfl <| Ops.nil <| thn_n <| W.ret <| thn_r ?_
    refine lvc (hv := rAgg (rTmp rNil)) ⟨?_, by repeat (first | exact Shut.nil | refine Shut.cons rfl ?_)⟩
    simp only [readyV]; rw [if_pos c21]; rfl
  · have h0 : askE fs ss l [] = 0 := by simpa using c21
    obtain ⟨rfl, rfl, rfl⟩ := hok h0
    obtain ⟨hck, -⟩ := askE0 h0
    obtain ⟨hall, hp, hll⟩ := plan_ck hck
    have hns := hall.ns
    refine W.skip <| thn_n <| W.seq <| W.seq <| W.region rfl <| qm rfl rfl rfl ?_
    refine oq (y_fieldAddr rfl rfl) rfl wn rfl rfl ?_
    refine oq (yld rfl rfl) rfl wn rfl rfl ?_
    refine oq (y_len rfl rfl) rfl wn rfl rfl ?_
    first | refine oq (ysub rfl rfl rfl) rfl wn rfl rfl ?_ | refine oq (y_subw rfl rfl rfl) rfl wn rfl rfl ?_
    refine cp (fun h' hE hL => outside_fn _ h' _ _ _) ?_
    refine Ops.nil <| thn_n ?_
    refine W.condp rfl (fun c29 => ?_) (fun c29 => ?_)
    · refine W.seq <| W.region rfl ?_
      refine oq (y_build (parts := []) (cs := #[I 0, I 0]) rfl rfl rfl) rfl wn rfl rfl ?_
      first | refine Ops.stoW ?_ | refine Ops.stoA ?_
      refine qs rfl rfl rfl <| Ops.nil <| thn_n <| W.ret <| thn_r ?_
      refine lvc (hv := rAgg (rTmp rNil)) ⟨?_, by repeat (first | exact Shut.nil | refine Shut.cons rfl ?_)⟩
      simp only [readyV]; rw [if_neg c21, if_pos c29]; rfl
    · have hi : 0 ≤ i ∧ i < ss.length := by simp only [outs, not_or] at c29; omega
      obtain ⟨k, rfl⟩ : ∃ k : Nat, i = k := ⟨i.toNat, by omega⟩
      obtain ⟨hbk, hb1, hb2, hb3, hb4⟩ := beAt_some hp.ok (show k < 4 by omega)
      have hex : (flat Be.row (padB l)).toArray.extract (0 + k * 2) (0 + k * 2 + 2) = #[I (beAt (padB l) k).fl, I (beAt (padB l) k).day] := by
        have hP : Part (flat Be.row (padB l)).toArray 0 (flat Be.row (padB l)) := Part.all _
        have := (hP.rowE hbk).1
        simpa [Be.row] using this
      have hsz8 : 0 + k * 2 + 2 ≤ (flat Be.row (padB l)).toArray.size := by omega
      have hb5 := hp.fl _ (List.mem_of_getElem? hbk)
      rw [be_pad] at hex hb1 hb2 hb3 hb4 hb5
      refine W.skip <| thn_n <| W.seq <| W.region rfl <| qm rfl rfl rfl ?_
      first | refine oq (yixA rfl rfl rfl) rfl wn rfl rfl ?_ | refine oq (yixAI rfl rfl rfl) rfl wn rfl rfl ?_
      refine oq (yldA (vs := #[I (beAt l k).fl, I (beAt l k).day]) rfl rfl (hn := hsz8) (hv := hex)) rfl wn rfl rfl ?_
      refine Ops.new (fun β11 => ?_)
      first | refine Ops.stoW ?_ | refine Ops.stoA ?_
      refine Ops.nil <| thn_n <| W.seq <| W.seq <| W.region rfl ?_
      refine oq (y_fieldAddr rfl rfl) rfl wn rfl rfl ?_
      refine oq (yld rfl rfl) rfl wn rfl rfl ?_
      refine oq (y_lss rfl rfl rfl) rfl wn rfl rfl ?_
      refine Ops.nil <| thn_n ?_
      refine W.condp rfl (fun c36 => ?_) (fun c36 => ?_)
      · refine W.seq <| W.region rfl ?_
        refine oq (y_build (parts := []) (cs := #[I 0, I 0]) rfl rfl rfl) rfl wn rfl rfl ?_
        first | refine Ops.stoW ?_ | refine Ops.stoA ?_
        refine qs rfl rfl rfl <| Ops.nil <| thn_n <| W.ret <| thn_r ?_
        refine lvc (hv := rAgg (rTmp rNil)) ⟨?_, by repeat (first | exact Shut.nil | refine Shut.cons rfl ?_)⟩
        simp only [readyV, Int.toNat_natCast]; rw [if_neg c21, if_neg c29, if_pos c36]; rfl
      · have hx0 := flAt_some (fs := fs) (f := (beAt l k).fl) (by omega) hb5
        have hfo := fl_ok hall (f := (beAt l k).fl) (by omega) hb5
        generalize hb : beAt l k = b at *
        obtain ⟨⟨pl, lo, hi', co⟩, hfa⟩ : ∃ x, flAt fs b.fl = x := ⟨_, rfl⟩
        rw [hfa] at hx0 hfo
        obtain ⟨bf, off, c, E, fz, rfl, hbk', hx1, hy1, hz1⟩ := hf.at hx0
        have hx2 := ext2 hx1
        clear hx1 hz1
        refine W.skip <| thn_n <| W.seq <| W.region rfl ?_
        refine oq (y_fieldAddr rfl rfl) rfl wn rfl rfl ?_
        refine oq (y_fieldAddr rfl rfl) rfl wn rfl rfl ?_
        refine oq (yld rfl rfl) rfl wn rfl rfl ?_
        refine oq (y_fieldAddr rfl rfl) rfl wn rfl rfl ?_
        refine oq (yld rfl rfl) rfl wn rfl rfl ?_
        first | refine oq (yix rfl rfl rfl) rfl wn rfl rfl ?_ | refine oq (yixI rfl rfl rfl) rfl wn rfl rfl ?_
        refine oq (y_fieldAddr rfl rfl) rfl wn rfl rfl ?_
        first | refine oq (yldW rfl rfl) rfl wn rfl rfl ?_ | refine oq (yldA rfl rfl) rfl wn rfl rfl ?_
        refine Ops.new (fun β12 => ?_)
        first | refine Ops.stoW ?_ | refine Ops.stoA ?_
        refine Ops.nil <| thn_n <| W.seq <| W.region rfl ?_
        refine oq (y_fieldAddr rfl rfl) rfl wn rfl rfl ?_
        refine oq (yld rfl rfl) rfl wn rfl rfl ?_
        refine oq (y_fieldAddr rfl rfl) rfl wn rfl rfl ?_
        refine oq (yld rfl rfl) rfl wn rfl rfl ?_
        first | refine oq (yadd rfl rfl rfl) rfl wn rfl rfl ?_ | refine oq (y_addw rfl rfl rfl) rfl wn rfl rfl ?_
        refine oq (y_fieldAddr rfl rfl) rfl wn rfl rfl ?_
        refine oq (yld rfl rfl) rfl wn rfl rfl ?_
        refine oq (y_fieldAddr rfl rfl) rfl wn rfl rfl ?_
        refine oq (yld rfl rfl) rfl wn rfl rfl ?_
        first | refine oq (yadd rfl rfl rfl) rfl wn rfl rfl ?_ | refine oq (y_addw rfl rfl rfl) rfl wn rfl rfl ?_
        refine oq (y_build rfl rfl rfl) rfl wn rfl rfl ?_
        first | refine Ops.stoW ?_ | refine Ops.stoA ?_
        refine qs rfl rfl rfl <| Ops.nil <| thn_n <| W.ret ?_
        refine lvc (hv := rAgg (rTmp rNil)) ⟨?_, by repeat (first | exact Shut.nil | refine Shut.cons rfl ?_)⟩
        simp only [readyV, Int.toNat_natCast]; rw [if_neg c21, if_neg c29, hb, if_neg c36, hfa]; rfl

/-! Days, beside each other -/
theorem eqv_days : EqV prog t_days 44 3 := EqV.array (n := 22) (w := 2) (K := 2) eqv_span.at
instance : EV prog t_days 44 := ⟨eqv_days.le (by decide)⟩
instance : NS prog t_days := ⟨by kernel_rfl, by kernel_rfl⟩
def spI (D : List Sp) : List Int := D.flatMap fun s => [s.lo, s.hi]
theorem spI_flat {D : List Sp} : (spI D).map nI = flat Sp.row D := by
  induction D with
  | nil => rfl
  | cons s D ih => show nI s.lo :: nI s.hi :: (spI D).map nI = _; rw [ih]; rfl
theorem spI_len {D : List Sp} : (spI D).length = D.length * 2 := by
  induction D with
  | nil => rfl
  | cons s D ih => show (spI D).length + 1 + 1 = _; rw [ih, List.length_cons]; omega
theorem spI_inj : ∀ {D D' : List Sp}, D.length = D'.length → spI D = spI D' → D = D'
  | [], [], _, _ => rfl
  | [], _ :: _, h, _ => by simp at h
  | _ :: _, [], h, _ => by simp at h
  | ⟨a, b⟩ :: D, ⟨a', b'⟩ :: D', h, he => by
    have he' : a :: b :: spI D = a' :: b' :: spI D' := he
    simp only [List.cons.injEq] at he'
    obtain ⟨rfl, rfl, h3⟩ := he'
    rw [spI_inj (by simpa using h) h3]

theorem Doubt_fn (main : Side) (h : Hp) (fs : List Fl) (ss : List St) (l : List Be) (vf vs vl : Value) (hf : Sl h Fl.row vf fs) (hs : Sl h St.row vs ss) (hl : Sl h Be.row vl l) : Fnc prog main n_floor_Doubt #[.agg #[vf, vs], vl] h [] (fun v A => ∃ u N us C, v = .tuple #[u, I (doubtV fs ss l).2] ∧ Os t_sl_int rowS u us N ∧ Oss t_int rowI us (doubtV fs ss l).1 C ∧ Sb (N ++ C) A) := by
  obtain ⟨a, cap, rfl⟩ := hf.isSl
  obtain ⟨a', cap', rfl⟩ := hs.isSl
  obtain ⟨a2, cap2, rfl⟩ := hl.isSl
  obtain ⟨va, vb, pp, hsh, h1a, h1b, hpp, hok⟩ := askV_shape (.slice a fs.length cap) (.slice a' ss.length cap') fs ss l [] rfl rfl
  have hsz : (flat Be.row pp).toArray.size = 8 := by simp [flat_len, hpp]
  have hon : ones (flat Be.row pp).toArray.toList = true := plan_ones
  have hon2 : ones (#[va, vb] : Array Value).toList = true := by simp [ones, h1a, h1b]
  refine Fnc.of_body at_floor_Doubt rfl (by show 2 ≤ 57; decide) [(0, .agg #[.slice a fs.length cap, .slice a' ss.length cap']), (1, .slice a2 l.length cap2)] ⟨rfl, rfl, trivial⟩ ?_
  refine W.seq <| W.region rfl ?_
  refine Ops.box (fun β2 => ?_)
  refine qs rfl rfl rfl <| qs rfl rfl rfl <| Ops.nil <| thn_n <| W.seq <| W.region rfl ?_
  first | refine oq (yldW rfl rfl) rfl wn rfl rfl ?_ | refine oq (yldA rfl rfl) rfl wn rfl rfl ?_
  refine qm rfl rfl rfl ?_
  refine cp (u := .tuple #[.agg #[va, vb], planV pp, I (askE fs ss l [])]) (fun h' hE hL => by rw [← hsh]; exact asked_fn _ h' fs ss l [] _ _ _ (.slice none 0 0) (hf.ext hE) (hs.ext hE) (hl.ext hE) .nil (by simp)) ?_
  refine qm rfl rfl rfl <| oq (y_extract rfl rfl rfl) rfl wn rfl rfl <| oq (y_extract rfl rfl rfl) rfl wn rfl rfl <| oq (y_extract rfl rfl rfl) rfl wn rfl rfl ?_
  refine Ops.new (fun β6 => ?_)
  refine Ops.new (fun β7 => ?_)
  first | refine Ops.stoW ?_ | refine Ops.stoA ?_
  first | refine Ops.stoW ?_ | refine Ops.stoA ?_
  refine qs rfl rfl rfl <| Ops.nil <| thn_n <| W.seq <| W.seq <| W.region rfl <| qm rfl rfl rfl ?_
  refine oq (y_neq rfl rfl rfl) rfl wn rfl rfl ?_
  refine Ops.nil <| thn_n ?_
  refine W.condp rfl (fun c22 => ?_) (fun c22 => ?_)
  · refine W.seq <| W.region rfl <| qm rfl rfl rfl <| qs rfl rfl rfl <| qs rfl rfl rfl <| Ops.nil <| thn_n <| W.ret <| thn_r ?_
    refine lvt (vs := [_, _]) ⟨.slice none 0 0, [], [], [], ?_, .nil .nil, ?_, ?_⟩
    · simp only [doubtV]; rw [if_pos c22]; rfl
    · simp only [doubtV]; rw [if_pos c22]; exact .nil
    · repeat (first | exact Sb.refl | refine Sb.skip rfl ?_)
  · have h0 : askE fs ss l [] = 0 := by simpa using c22
    obtain ⟨rfl, rfl, rfl⟩ := hok h0
    obtain ⟨hck, -⟩ := askE0 h0
    obtain ⟨hall, hp, hll⟩ := plan_ck hck
    have hnf := hall.nf
    have hdv : doubtV fs ss l = (dbF fs ss (padB l) fs.length, 0) := by simp only [doubtV]; rw [if_neg c22]
    rw [hdv]
    refine W.skip <| thn_n <| W.seq <| W.region rfl <| qs rfl rfl rfl <| Ops.nil <| thn_n <| W.seq <| W.seq <| W.region rfl ?_
    refine oq (y_fieldAddr rfl rfl) rfl wn rfl rfl ?_
    refine oq (y_fieldAddr rfl rfl) rfl wn rfl rfl ?_
    refine oq (yld rfl rfl) rfl wn rfl rfl ?_
    refine oq (y_len rfl rfl) rfl wn rfl rfl ?_
    refine qm rfl rfl rfl <| Ops.nil <| thn_n <| W.block ?_
    refine W.loop (σ := Nat × List Sv × Option Addr × Nat × Frag × Frag) (fun q => q.1 ≤ fs.length ∧ Os t_sl_int rowS (.slice q.2.2.1 q.2.1.length q.2.2.2.1) q.2.1 q.2.2.2.2.1 ∧ Oss t_int rowI q.2.1 (dbF fs ss (padB l) q.1) q.2.2.2.2.2) (fun q => [(28, I q.1), (27, I fs.length), (9, .slice q.2.2.1 q.2.1.length q.2.2.2.1), (7, .pointer (some ⟨β7, 0, none⟩)), (6, .pointer (some ⟨β6, 0, none⟩))]) (fun q => (β7, .cells (flat Be.row (padB l)).toArray t_plan (0, 0)) :: (β6, .cells #[.slice a fs.length cap, .slice a' ss.length cap'] t_hall (0, 0)) :: (q.2.2.2.2.1 ++ q.2.2.2.2.2)) (fun q => fs.length - q.1) (0, [], none, 0, [], []) ⟨Nat.zero_le _, .nil .nil, .nil⟩ ⟨rfl, rfl, rfl, rfl, rfl, trivial⟩ (.cons (.cons (.skip rfl .refl))) ?_
    rintro ⟨k, us, na, nc, N, C⟩ ⟨hk, hN, hC⟩
    dsimp only at *
    refine W.seq <| W.region rfl ?_
    refine oq (y_lss rfl rfl rfl) rfl wn rfl rfl ?_
    refine Ops.nil <| thn_n <| W.seq ?_
    refine W.condp rfl (fun c29 => ?_) (fun c29 => ?_)
    · have hk1 : k < fs.length := by omega
      obtain ⟨D, hD⟩ : ∃ D, standsD fs ss (padB l) k = D := ⟨_, rfl⟩
      have hDl : D.length = 22 := by rw [← hD]; exact standsD_len
      have hDs := days_sz hDl
      have hon3 : ones (flat Sp.row D).toArray.toList = true := by simpa using flat_ones _
      have hul := hC.len
      have hdl := dbF_len (fs := fs) (ss := ss) (p := padB l) k
      have hdF : dbF fs ss (padB l) (k + 1) = dbF fs ss (padB l) k ++ dbK k D 22 := by rw [dbF, hD]
      refine W.skip <| thn_n <| W.seq <| W.block <| W.seq <| W.region rfl <| qm rfl rfl rfl <| qs rfl rfl rfl <| Ops.nil <| thn_n ?_
      refine W.seq <| W.region rfl ?_
      first | refine oq (yldW rfl rfl) rfl wn rfl rfl ?_ | refine oq (yldA rfl rfl) rfl wn rfl rfl ?_
      first | refine oq (yldW rfl rfl) rfl wn rfl rfl ?_ | refine oq (yldA rfl rfl) rfl wn rfl rfl ?_
      refine qm rfl rfl rfl ?_
      refine cp (u := daysV D) (fun h' hE hL => by rw [← hD]; exact stands_fn _ h' fs ss (padB l) k _ _ (hf.ext hE) (hs.ext hE) hall hp (by omega) (by omega)) ?_
      refine Ops.new (fun β11 => ?_)
      first | refine Ops.stoW ?_ | refine Ops.stoA ?_
      refine Ops.nil <| thn_n <| W.seq <| W.seq <| W.region rfl ?_
      first | refine oq (yldW rfl rfl) rfl wn rfl rfl ?_ | refine oq (yldA rfl rfl) rfl wn rfl rfl ?_
      refine oq (y_build0 rfl) rfl wn rfl rfl ?_
      refine oq (Yv.eq (u := .bool (decide (spI D = spI days0))) (y_eqA (w := 44) (spI D) (spI days0) rfl rfl rfl (by rw [spI_flat]) (by rw [spI_flat]) (by rw [spI_len, hDl]) rfl) rfl) rfl wn rfl rfl ?_
      refine Ops.nil <| thn_n ?_
      refine W.condp rfl (fun c37 => ?_) (fun c37 => ?_)
      · have hz : dbK k D 22 = [] := by rw [spI_inj (by rw [hDl]; rfl) c37]; exact dbK_zero 22
        refine W.exit <| thn_x <| blk_x <| thn_n <| W.region rfl ?_
        first | refine oq (yadd rfl rfl rfl) rfl wn rfl rfl ?_ | refine oq (y_addw rfl rfl rfl) rfl wn rfl rfl ?_
        refine qm rfl rfl rfl <| Ops.nil <| thn_n ?_
        exact ⟨rfl, (k + 1, us, na, nc, N, C), ⟨by simp only; omega, hN, by simp only; rw [hdF, hz, List.append_nil]; exact hC⟩, by simp only; omega, ⟨rfl, rfl, rfl, rfl, rfl, trivial⟩, .skip rfl .refl⟩
      · refine W.skip <| thn_n <| W.seq <| W.region rfl ?_
        first | refine oq (yldW rfl rfl) rfl wn rfl rfl ?_ | refine oq (yldA rfl rfl) rfl wn rfl rfl ?_
        refine qm rfl rfl rfl <| Ops.nil <| thn_n <| W.block ?_
        refine W.loop (σ := Nat × List Sv × Option Addr × Nat × Frag × Frag) (fun q => q.1 ≤ 22 ∧ Os t_sl_int rowS (.slice q.2.2.1 q.2.1.length q.2.2.2.1) q.2.1 q.2.2.2.2.1 ∧ Oss t_int rowI q.2.1 (dbF fs ss (padB l) k ++ dbK k D q.1) q.2.2.2.2.2) (fun q => [(39, I q.1), (38, daysV D), (10, I k), (28, I k), (27, I fs.length), (9, .slice q.2.2.1 q.2.1.length q.2.2.2.1), (7, .pointer (some ⟨β7, 0, none⟩)), (6, .pointer (some ⟨β6, 0, none⟩))]) (fun q => (β7, .cells (flat Be.row (padB l)).toArray t_plan (0, 0)) :: (β6, .cells #[.slice a fs.length cap, .slice a' ss.length cap'] t_hall (0, 0)) :: (q.2.2.2.2.1 ++ q.2.2.2.2.2)) (fun q => 22 - q.1) (0, us, na, nc, N, C) ⟨Nat.zero_le _, hN, by simp only [dbK, List.append_nil]; exact hC⟩ ⟨rfl, rfl, rfl, rfl, rfl, rfl, rfl, rfl, trivial⟩ (.skip rfl .refl) ?_
        rintro ⟨j, us, na, nc, N, C⟩ ⟨hj, hN, hC⟩
        dsimp only at *
        refine W.seq <| W.region rfl ?_
        refine oq (y_lss rfl rfl rfl) rfl wn rfl rfl ?_
        refine Ops.nil <| thn_n <| W.seq ?_
        refine W.condp rfl (fun c40 => ?_) (fun c40 => ?_)
        · obtain ⟨s, hsk, hdr⟩ := has (show j < D.length by omega)
          have hex : (flat Sp.row D).toArray.extract ((j : Int).toNat * 2) ((j : Int).toNat * 2 + 2) = #[I s.lo, I s.hi] := days_ex hsk
          have hgD : D.getD j ⟨0, 0⟩ = s := by simp [List.getD, hsk]
          have hkl := dbK_len (f := k) (D := D) j
          have hul2 := hC.len
          rw [List.length_append] at hul2
          refine W.skip <| thn_n <| W.seq <| W.block <| W.seq <| W.region rfl <| qm rfl rfl rfl ?_
          first | refine oq (y_index rfl rfl rfl (by omega) (by omega) (by first | assumption | rfl)) rfl wn rfl rfl ?_ | refine oq (y_indexA rfl rfl rfl (by omega) (by omega) (by first | assumption | rfl)) rfl wn rfl rfl ?_
          refine Ops.new (fun β13 => ?_)
          refine qs rfl rfl rfl ?_
          first | refine Ops.stoW ?_ | refine Ops.stoA ?_
          refine Ops.nil <| thn_n <| W.seq <| W.region rfl ?_
          refine oq (y_fieldAddr rfl rfl) rfl wn rfl rfl ?_
          refine oq (yld rfl rfl) rfl wn rfl rfl ?_
          refine oq (y_fieldAddr rfl rfl) rfl wn rfl rfl ?_
          refine oq (yld rfl rfl) rfl wn rfl rfl ?_
          refine oq (y_neq rfl rfl rfl) rfl wn rfl rfl ?_
          refine Ops.nil <| thn_n ?_
          refine W.condp rfl (fun c47 => ?_) (fun c47 => ?_)
          · refine W.region rfl <| qm rfl rfl rfl <| qm rfl rfl rfl <| qm rfl rfl rfl ?_
            refine Ops.bsl (cs := #[I k, I j]) (fun β51 => ?_) rfl
            refine Ops.bsl (cs := #[.slice (some ⟨β51, 0, none⟩) 2 2]) (fun β52 => ?_) rfl
            have hOn : Os t_int rowI (.slice (some ⟨β51, 0, none⟩) 2 2) [(k : Int), (j : Int)] [(β51, .cells #[I k, I j] t_int (0, 0))] := .inr ⟨β51, _, 2, [], rfl, rfl, rfl, Nat.le_refl _, Part.all _, .nil⟩
            refine oe rfl wn rfl rfl (e_append (row := rowS) (l' := [(⟨some ⟨β51, 0, none⟩, 2, 2⟩ : Sv)]) rfl rfl rfl hN (.tail (.tail (.tail (.tail (.tail .head))))) (fun h2 _ hl => Sl.mk (hl β52 _ (.head _)) rfl (Part.all (rowS (⟨some ⟨β51, 0, none⟩, 2, 2⟩ : Sv)))) (by simp; omega) (by decide) rfl (fun v3 N3 hN3 => ?_))
            obtain ⟨na3, nc3, rfl⟩ := hN3.isSl
            refine qs rfl rfl rfl <| Ops.nil <| blk_n <| thn_n <| W.region rfl ?_
            first | refine oq (yadd rfl rfl rfl) rfl wn rfl rfl ?_ | refine oq (y_addw rfl rfl rfl) rfl wn rfl rfl ?_
            refine qm rfl rfl rfl <| Ops.nil <| thn_n ?_
            refine ⟨rfl, (j + 1, us ++ [⟨some ⟨β51, 0, none⟩, 2, 2⟩], na3, nc3, N3, C ++ [(β51, .cells #[I k, I j] t_int (0, 0))]), ⟨by simp only; omega, hN3, ?_⟩, by simp only; omega, ⟨rfl, rfl, rfl, rfl, rfl, rfl, rfl, rfl, trivial⟩, ?_⟩
            · have := hC.snoc (s := ⟨some ⟨β51, 0, none⟩, 2, 2⟩) hOn
              simp only [dbK]
              rw [hgD, if_pos c47, ← List.append_assoc]
              exact this
            · dsimp only
              show Sb _ ((β52, .cells #[.slice (some ⟨β51, 0, none⟩) 2 2] t_sl_int (0, 0)) :: (β51, .cells #[I k, I j] t_int (0, 0)) :: (β13, .cells #[I s.lo, I s.hi] t_Span (0, 0)) :: _)
              refine ⟨[(β52, .cells #[.slice (some ⟨β51, 0, none⟩) 2 2] t_sl_int (0, 0)), (β13, .cells #[I s.lo, I s.hi] t_Span (0, 0))], perm_cnt fun y => ?_, .cons rfl (.cons rfl .nil)⟩
              simp only [List.count_append, List.count_cons, List.count_nil]; omega
          · refine W.skip <| blk_n <| thn_n <| W.region rfl ?_
            first | refine oq (yadd rfl rfl rfl) rfl wn rfl rfl ?_ | refine oq (y_addw rfl rfl rfl) rfl wn rfl rfl ?_
            refine qm rfl rfl rfl <| Ops.nil <| thn_n ?_
            refine ⟨rfl, (j + 1, us, na, nc, N, C), ⟨by simp only; omega, hN, ?_⟩, by simp only; omega, ⟨rfl, rfl, rfl, rfl, rfl, rfl, rfl, rfl, trivial⟩, .skip rfl .refl⟩
            simp only [dbK]
            rw [hgD, if_neg c47]
            exact hC
        · refine W.exit <| thn_x <| thn_x <| blk_x <| blk_n <| thn_n <| W.region rfl ?_
          first | refine oq (yadd rfl rfl rfl) rfl wn rfl rfl ?_ | refine oq (y_addw rfl rfl rfl) rfl wn rfl rfl ?_
          refine qm rfl rfl rfl <| Ops.nil <| thn_n ?_
          have hje : j = 22 := by omega
          subst hje
          exact ⟨rfl, (k + 1, us, na, nc, N, C), ⟨by simp only; omega, hN, by simp only; rw [hdF]; exact hC⟩, by simp only; omega, ⟨rfl, rfl, rfl, rfl, rfl, trivial⟩, .refl⟩
    · have hke : k = fs.length := by omega
      subst hke
      refine W.exit <| thn_x <| thn_x <| blk_x <| thn_n <| W.seq <| W.region rfl <| qm rfl rfl rfl <| qs rfl rfl rfl <| qs rfl rfl rfl ?_
      refine Ops.nil <| thn_n <| W.ret ?_
      exact lvt (vs := [_, _]) ⟨_, N, us, C, rfl, hN, hC, .skip rfl (.skip rfl .refl)⟩
end Go.Mus

/- All heats gone through. Conditions: none; over the given program. -/
namespace Go.Mus
set_option maxRecDepth 100000
set_option maxHeartbeats 40000000
theorem EqInts_fn (main : Side) (h : Hp) (l l' : List Int) (v v' : Value) (hl : Sl h rowI v l) (hl' : Sl h rowI v' l') (hn : l.length ≤ 100000) : Pu prog main n_kit_EqInts #[v, v'] h (.bool (decide (l = l'))) := by
  obtain ⟨a, cap, rfl⟩ := hl.isSl
  obtain ⟨a', cap', rfl⟩ := hl'.isSl
  refine Fnc.of_body at_kit_EqInts rfl (by show 2 ≤ 32; decide) [(0, .slice a l.length cap), (1, .slice a' l'.length cap')] ⟨rfl, rfl, trivial⟩ ?_
  refine W.seq <| W.region rfl <| qs rfl rfl rfl <| Ops.nil <| thn_n <| W.seq <| W.seq <| W.region rfl <| qs rfl rfl rfl <| Ops.nil ?_
  refine thn_n <| W.block ?_
  refine W.loop (σ := Nat) (fun k => k ≤ l.length ∧ k ≤ l'.length ∧ l.take k = l'.take k) (fun k => [(5, I k), (0, .slice a l.length cap), (1, .slice a' l'.length cap')]) (fun _ => []) (fun k => l.length - k) 0 ⟨Nat.zero_le _, Nat.zero_le _, rfl⟩ ⟨rfl, rfl, rfl, trivial⟩ sbA ?_
  rintro k ⟨hk, hk', he⟩
  refine W.seq <| W.seq <| W.region rfl <| qm rfl rfl rfl <| qm rfl rfl rfl ?_
  refine oq (y_len rfl rfl) rfl wn rfl rfl ?_
  refine oq (y_lss rfl rfl rfl) rfl wn rfl rfl ?_
  refine qm rfl rfl rfl ?_
  refine Ops.ask (fun a2_5 => ?_) (fun a2_5 => ?_)
  · refine oq (y_move rfl rfl) rfl (want_some rfl rfl rfl) rfl rfl ?_
    refine oq (y_move rfl rfl) rfl (want_some rfl rfl rfl) rfl rfl ?_
    refine oq (y_len rfl rfl) rfl (want_some rfl rfl rfl) rfl rfl ?_
    refine oq (y_lss rfl rfl rfl) rfl (want_some rfl rfl rfl) rfl rfl ?_
    refine oq (y_pickT rfl rfl rfl) rfl wn rfl rfl ?_
    refine Ops.nil <| thn_n ?_
    refine W.condp rfl (fun c15 => ?_) (fun c15 => ?_)
    · obtain ⟨p, hp, -⟩ := has (show k < l.length by omega)
      obtain ⟨q, hq, -⟩ := has (show k < l'.length by omega)
      obtain ⟨b, off, c, E, fz, rfl, hb, -, hy1, hz1⟩ := hl.at hp
      have hx2 : c[off + k * 1 + 0]? = some (I p) := hz1 0 (by decide)
      clear hz1
      obtain ⟨b', off', c', E', fz', rfl, hb', -, hy2, hz1⟩ := hl'.at hq
      have hx3 : c'[off' + k * 1 + 0]? = some (I q) := hz1 0 (by decide)
      clear hz1
      refine W.skip <| thn_n <| W.seq <| W.block <| W.seq ?_
      refine W.drawF (n := 9) rfl ?_
      refine aq (i := 0) (y_move rfl rfl) rfl an rfl rfl ?_
      refine aq (i := 1) (y_move rfl rfl) rfl an rfl rfl ?_
      first | refine aq (i := 2) (yix rfl rfl rfl) rfl an rfl rfl ?_ | refine aq (i := 2) (yixI rfl rfl rfl) rfl an rfl rfl ?_
      refine aq (i := 3) (yld rfl rfl) rfl an rfl rfl ?_
      refine aq (i := 4) (y_move rfl rfl) rfl an rfl rfl ?_
      refine aq (i := 5) (y_move rfl rfl) rfl an rfl rfl ?_
      first | refine aq (i := 6) (yix rfl rfl rfl) rfl an rfl rfl ?_ | refine aq (i := 6) (yixI rfl rfl rfl) rfl an rfl rfl ?_
      refine aq (i := 7) (yld rfl rfl) rfl an rfl rfl ?_
      refine aq (i := 8) (y_neq rfl rfl rfl) rfl an rfl rfl ?_
      refine az ?_
      refine thn_n ?_
      refine W.condp rfl (fun c26 => ?_) (fun c26 => ?_)
      · refine W.seq <| W.region rfl <| qs rfl rfl rfl <| Ops.nil <| thn_n <| W.ret <| blk_r <| thn_r <| thn_r <| blk_r ?_
        refine thn_r ?_
        refine lvp ?_
        refine congrArg Value.bool (decide_eq_false fun e => ?_).symm
        subst e
        rw [hp] at hq
        cases hq
        exact c26 rfl
      · refine W.skip <| blk_n <| thn_n <| W.region rfl <| qm rfl rfl rfl ?_
        first | refine oq (yadd rfl rfl rfl) rfl wn rfl rfl ?_ | refine oq (y_addw rfl rfl rfl) rfl wn rfl rfl ?_
        refine qs rfl rfl rfl <| Ops.nil <| thn_n ?_
        have hpq : p = q := Decidable.byContradiction c26
        subst hpq
        exact ⟨rfl, k + 1, ⟨by omega, by omega, by rw [take_next hp, take_next hq, he]⟩, by omega, ⟨rfl, rfl, rfl, trivial⟩, sbA⟩
    · refine W.exit <| thn_x <| thn_x <| blk_x <| thn_n <| W.seq <| W.region rfl <| qm rfl rfl rfl ?_
      refine oq (y_len rfl rfl) rfl wn rfl rfl ?_
      refine qm rfl rfl rfl ?_
      refine oq (y_len rfl rfl) rfl wn rfl rfl ?_
      refine oq (y_eql rfl rfl rfl) rfl wn rfl rfl ?_
      refine qs rfl rfl rfl <| Ops.nil <| thn_n <| W.ret ?_
      refine lvp ?_
      refine congrArg Value.bool (decide_eq_decide.2 ⟨fun e => ?_, fun e => ?_⟩)
      · have e' : l.length = l'.length := by omega
        have hkl : k = l.length := by omega
        rw [← List.take_length (l := l), ← List.take_length (l := l'), ← e', ← hkl, he]
      · rw [e]
  · refine Ops.no ?_
    refine Ops.no ?_
    refine Ops.no ?_
    refine Ops.no ?_
    refine oq (y_pickF rfl rfl rfl) rfl wn rfl rfl ?_
    refine Ops.nil <| thn_n ?_
    refine W.condF ?_
    refine W.exit <| thn_x <| thn_x <| blk_x <| thn_n <| W.seq <| W.region rfl <| qm rfl rfl rfl ?_
    refine oq (y_len rfl rfl) rfl wn rfl rfl ?_
    refine qm rfl rfl rfl ?_
    refine oq (y_len rfl rfl) rfl wn rfl rfl ?_
    refine oq (y_eql rfl rfl rfl) rfl wn rfl rfl ?_
    refine qs rfl rfl rfl <| Ops.nil <| thn_n <| W.ret ?_
    refine lvp ?_
    refine congrArg Value.bool (decide_eq_decide.2 ⟨fun e => ?_, fun e => ?_⟩)
    · have e' : l.length = l'.length := by omega
      have hkl : k = l.length := by omega
      rw [← List.take_length (l := l), ← List.take_length (l := l'), ← e', ← hkl, he]
    · rw [e]

end Go.Mus

/- All plans of a plant, in their order; the loaves of a plan. Conditions: none; over the given program. -/
namespace Go.Mus
set_option maxRecDepth 100000
set_option maxHeartbeats 40000000
end Go.Mus

/- What the chapter's examples come to. Conditions: none. -/
namespace Go.Mus
set_option maxRecDepth 100000
def exFull : List Fl := [⟨0, 2, 3, 1⟩, ⟨3, 3, 5, 2⟩]
def exTurn : List Fl := [⟨4, 3, 2, 1⟩, ⟨3, 3, 5, 2⟩]
def exLate : List St := [⟨0, 3, 0⟩, ⟨1, 2, 1⟩, ⟨7, 4, 1⟩, ⟨6, 2, 0⟩]
theorem kn1 : ckPlant (exF 1) (exS 6) = 0 := by decide +kernel
theorem kn2 : ckPlant [] (exS 6) = 7 := by decide +kernel
theorem kn3 : ckPlant exFull (exS 6) = 1 := by decide +kernel
theorem kn4 : ckPlant exTurn (exS 6) = 5 := by decide +kernel
theorem kn5 : ckPlant (exF 1) exLate = 5 := by decide +kernel
theorem kn6 : ckPlan (exF 1) (exS 6) exP = 0 := by decide +kernel
theorem kn7 : ckPlan (exF 1) (exS 6) (exP.take 3) = 7 := by decide +kernel
theorem kn8 : ckPlan (exF 1) (exS 6) [⟨2, 0⟩, ⟨1, 1⟩, ⟨0, 3⟩, ⟨0, 6⟩] = 3 := by decide +kernel
theorem kn9 : ckPlan (exF 1) (exS 6) [⟨0, 0⟩, ⟨1, 1⟩, ⟨0, 3⟩, ⟨-1, 3⟩] = 8 := by decide +kernel
theorem kn10 : ckPlan (exF 1) (exS 6) [⟨0, 0⟩, ⟨1, 3⟩, ⟨0, 3⟩, ⟨0, 6⟩] = 12 := by decide +kernel
theorem kn11 : standsV (exF 1) (exS 6) exP 1 1 = (⟨2, 2⟩, 0) := by decide +kernel
theorem kn12 : standsV (exF 1) (exS 6) exP 1 4 = (⟨0, 2⟩, 0) := by decide +kernel
theorem kn13 : standsV (exF 1) (exS 6) exP 2 0 = (⟨0, 0⟩, 3) := by decide +kernel
theorem kn14 : standsV (exF 1) (exS 6) exP 0 22 = (⟨0, 0⟩, 1) := by decide +kernel
theorem kn15 : emptyV (exF 1) (exS 6) exP 0 2 = (3, 0) := by decide +kernel
theorem kn16 : emptyV (exF 1) (exS 6) exP 0 7 = (2, 0) := by decide +kernel
theorem kn17 : emptyV (exF 1) (exS 6) exP 0 9 = (1, 0) := by decide +kernel
theorem kn18 : wrongV (exF 1) (exS 6) exP = (-1, -1, 0) := by decide +kernel
theorem kn19 : wrongV (exF 1) (exS 6) [⟨0, 0⟩, ⟨-1, 0⟩, ⟨0, 4⟩, ⟨-1, 0⟩] = (0, 3, 0) := by decide +kernel
theorem kn20 : readyV (exF 1) (exS 6) exP 1 = (⟨4, 6⟩, 0) := by decide +kernel
theorem kn21 : readyV (exF 1) (exS 6) [⟨0, 0⟩, ⟨-1, 0⟩, ⟨-1, 0⟩, ⟨-1, 0⟩] 1 = (⟨0, 0⟩, 8) := by decide +kernel
theorem kn22 : doubtV (exF 1) (exS 6) exP = ([[0, 2], [0, 5], [0, 8], [1, 4], [1, 5]], 0) := by decide +kernel
theorem kn23 : bestB (exF 1) (exS 4) = ([⟨0, 0⟩, ⟨-1, 0⟩, ⟨0, 3⟩, ⟨1, 4⟩], 9, 0) := by decide +kernel
theorem kn24 : countB (exF 1) (exS 6) = (3, 0) := by decide +kernel
theorem kn25 : lateF (exF 1) (exS 6) = -1 := by decide +kernel
theorem kn26 : lateF (exF 1) (exS 4) = 3 := by decide +kernel
theorem kn26c : ckPlant (exF 1) (exS 4) = 0 := by decide +kernel
theorem kn27 : verdF (exF 1) (exS 4) 0 = 1 := by decide +kernel
theorem kn28 : verdF (exF 1) (exS 4) 1 = 3 := by decide +kernel
theorem kn29 : verdF (exF 1) (exS 4) 3 = 3 := by decide +kernel
theorem kn30 : patV (exF 1) (exS 6) = (0, 0) := by decide +kernel
theorem kn31 : patV (exF 0) (exS 6) = (0, 11) := by decide +kernel
theorem kn32 : needV (exF 1) (exS 6) 0 = (4, 0) := by decide +kernel
theorem kn33 : needV (exF 1) (exS 6) 1 = (2, 0) := by decide +kernel
theorem kn34 : needV (exF 1) (exS 4) 1 = (4, 0) := by decide +kernel
theorem kn35 : slowV (exF 1) (exS 6) 0 = 0 := by decide +kernel
theorem kn36 : slowV (exF 1) (exS 6) 1 = 1 := by decide +kernel
end Go.Mus
