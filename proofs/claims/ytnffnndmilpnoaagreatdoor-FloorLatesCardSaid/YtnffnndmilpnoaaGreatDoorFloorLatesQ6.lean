/- The plans of the first strikes, as the document lists them: whether one is right. Conditions: none. (And 3 texts more.) -/
import Derived.Test.YtnffnndmilpnoaaGreatDoorFloorLatesQ3
import Derived.Test.YtnffnndmilpnoaaGreatDoorFloorLatesQ5
import Derived.Test.YtnffnndmilpnoaaGreatDoorFloorLatesQ2
set_option linter.unusedVariables false
set_option linter.unusedSimpArgs false
set_option linter.unusedSectionVars false

/- The plans of the first strikes, as the document lists them: whether one is right. Conditions: none. -/
namespace Go.Mus
def extM (fs : List Fl) (ss : List St) (may : May) : Nat → List Be → List (List Be)
 | 0, l => [l]
 | m + 1, l => (berthsK fs ss may l.length).flatMap fun b => extM fs ss may m (l ++ [b])
theorem may_free {fs : List Fl} {ss : List St} {may : May} {k : Nat} {b : Be} (h : b ∈ berthsK fs ss may k) : b ∈ berthsK fs ss freeM k := by
 simp only [berthsK, freeM, if_true]
 simp only [berthsK] at h
 rcases List.mem_append.1 h with h | h
 ·split at h
  ·exact List.mem_append_left _ h
  ·cases h
 ·split at h
  ·exact List.mem_append_right _ h
  ·cases h
theorem extM_sub {fs : List Fl} {ss : List St} {may : May} : ∀ m l l', l' ∈ extM fs ss may m l → l' ∈ extF fs ss m l
 | 0, l, l', h => h
 | m + 1, l, l', h => by
  obtain ⟨b, hb, hm⟩ := List.mem_flatMap.1 h
  exact List.mem_flatMap.2 ⟨b, may_free hb, extM_sub m _ l' hm⟩
theorem ext_len {fs : List Fl} {ss : List St} : ∀ m l l', l' ∈ extF fs ss m l → l'.length = l.length + m
 | 0, l, l', h => by
  have : l' = l := by simpa [extF] using h
  rw [this]; rfl
 | m + 1, l, l', h => by
  obtain ⟨b, -, hm⟩ := List.mem_flatMap.1 h
  rw [ext_len m _ l' hm]; simp; omega
theorem rights_extM {fs : List Fl} {ss : List St} {may : May} (hall : HallOK fs ss) : ∀ m l, l.length + m = ss.length → PlanOf fs ss (padB l) → rights fs ss may m l.length (padB l) = ((extM fs ss may m l).filter (isR fs ss)).map padB
 | 0, l, _, _ => by
  rw [rights, extM, List.filter_cons]
  unfold isR
  split <;> rfl
 | m + 1, l, hl, hp => by
  have h4 := hall.ns
  rw [rights, extM, List.filter_flatMap, List.map_flatMap]
  refine fm_congr fun b hb => ?_
  rw [padB_set (by omega)]
  have hbk := berth_ok hall (by omega) (may_free hb)
  have hp' : PlanOf fs ss (padB (l ++ [b])) := by
   rw [← padB_set (by omega)]
   exact plan_set hp (by omega) hbk
  have ih := rights_extM (may := may) hall m (l ++ [b]) (by simp; omega) hp'
  rw [List.length_append, List.length_singleton] at ih
  split
  ·rename_i hpr
   have : (extM fs ss may m (l ++ [b])).filter (isR fs ss) = [] := by
    refine List.filter_eq_nil_iff.2 fun l' hl' hr => ?_
    have hl2 := extM_sub _ _ _ hl'
    obtain ⟨r, rfl⟩ := ext_pre m _ l' hl2
    have hq := ext_plan hall m _ _ (by simp; omega) hp' hl2
    have hn : inspF fs ss (padB (l ++ [b] ++ r)) = none := by simpa [isR] using hr
    have := prune_no (b := b) hall hq.ok hp'.ok hbk.2.2.1 hn fun i hi => by
     rw [be_pad, be_pad]
     rcases Nat.lt_or_ge i (l ++ [b]).length with h | h
     ·left; simp only [beAt, List.getD]; rw [List.getElem?_append_left h]
     ·right; rw [be_out h]; simp [bnone]
    rw [hpr] at this; cases this
   rw [this]; rfl
  ·exact ih
theorem plans_late {fs : List Fl} {ss : List St} {n : Nat} (hall : HallOK fs ss) : ∀ m l, l.length + m = ss.length → PlanOf fs ss (padB l) → (plansF fs ss n m l).filter (isR fs ss) = (extM fs ss (lateM n) m l).filter (isR fs ss)
 | 0, l, _, _ => rfl
 | m + 1, l, hl, hp => by
  have h4 := hall.ns
  have hk : l.length < ss.length := by omega
  have hpb : ∀ b, b ∈ berthsK fs ss freeM l.length → PlanOf fs ss (padB (l ++ [b])) := fun b hb => by
   rw [← padB_set (by omega)]
   exact plan_set hp (by omega) (berth_ok hall hk hb)
  have e : berthsK fs ss freeM l.length = bnone :: floorsFrom (stAt ss l.length) 0 fs.length := by simp [berthsK, freeM]
  have hm : ∀ b, b ∈ floorsFrom (stAt ss l.length) 0 fs.length → b ∈ berthsK fs ss freeM l.length := fun b hb => by rw [e]; exact List.mem_cons_of_mem _ hb
  have h0 : bnone ∈ berthsK fs ss freeM l.length := by rw [e]; exact List.mem_cons_self ..
  rw [plansF, extM]
  by_cases hn : n < l.length
  ·have eb : berthsK fs ss (lateM n) l.length = [bnone] := by simp [berthsK, lateM, hn]; omega
   rw [eb, if_pos (.inr (by omega)), if_pos ⟨by omega, by omega⟩, List.append_nil, List.flatMap_cons, List.flatMap_nil, List.append_nil]
   exact plans_late hall m _ (by simp; omega) (hpb _ h0)
  ·have eb : berthsK fs ss (lateM n) l.length = floorsFrom (stAt ss l.length) 0 fs.length := by simp [berthsK, lateM, hn]
   rw [eb, if_neg (by omega), if_neg (by omega), List.nil_append, List.filter_flatMap, List.filter_flatMap]
   refine fm_congr fun b hb => ?_
   split
   ·rename_i hf
    rw [List.filter_nil]
    refine (List.filter_eq_nil_iff.2 fun l' hl' hr => ?_).symm
    have hl2 := extM_sub _ _ _ hl'
    obtain ⟨r, rfl⟩ := ext_pre m _ l' hl2
    have hq := ext_plan hall m _ _ (by simp; omega) (hpb b (hm b hb)) hl2
    have hbf := mem_floorsFrom hb
    have hlen : (l ++ [b] ++ r).length = ss.length := by
     rw [ext_len m _ _ hl2]; simp; omega
    have := full_no hall hq (by omega) (by omega) (by omega) hf
    rw [this] at hr; cases hr
   ·exact plans_late hall m _ (by simp; omega) (hpb b (hm b hb))
/-- ████ Whether the first strikes can be set. -/
theorem late_some {fs : List Fl} {ss : List St} {n : Nat} (hall : HallOK fs ss) : someR fs ss (lateM n) = (plansF fs ss n ss.length []).any (isR fs ss) := by
 have h1 := rights_extM (may := lateM n) hall ss.length [] (by simp) (pad_nil hall.nf.1)
 have h2 := plans_late (n := n) hall ss.length [] (by simp) (pad_nil hall.nf.1)
 rw [← h2] at h1
 have e : rightsOf fs ss (lateM n) [] = rights fs ss (lateM n) ss.length ([] : List Be).length (padB []) := by rw [rightsOf]; rfl
 rw [someR, e, h1]
 cases hx : (plansF fs ss n ss.length []).any (isR fs ss) with
 | false =>
  have : (plansF fs ss n ss.length []).filter (isR fs ss) = [] := List.filter_eq_nil_iff.2 fun l hl hr => by
   have := List.any_eq_true.2 ⟨l, hl, hr⟩
   rw [hx] at this; cases this
  rw [this]; rfl
 | true =>
  obtain ⟨l, hl, hr⟩ := List.any_eq_true.1 hx
  have hm : l ∈ (plansF fs ss n ss.length []).filter (isR fs ss) := List.mem_filter.2 ⟨hl, hr⟩
  cases hy : (plansF fs ss n ss.length []).filter (isR fs ss) with
  | nil => rw [hy] at hm; cases hm
  | cons a r => rfl
end Go.Mus

/- The document's first strike that must wait, and its verdict. Conditions: none; over the given program. -/
namespace Go.Mus
set_option maxRecDepth 100000
set_option maxHeartbeats 40000000
theorem Rserved_fn (main : Side) (h : Hp) (fs : List Fl) (ss : List St) (n : Nat) (vf vs : Value) (hf : Sl h Fl.row vf fs) (hs : Sl h St.row vs ss) (hck : ckPlant fs ss = 0) : Pu prog main n_ref_served #[.agg #[vf, vs], I n] h (.bool (someR fs ss (lateM n))) := by
 have hall := hall_ck hck
 have hns := hall.ns
 obtain ⟨a, cap, rfl⟩ := hf.isSl
 obtain ⟨a', cap', rfl⟩ := hs.isSl
 have hpn := pad_nil (ss := ss) hall.nf.1
 have hsm := late_some (n := n) hall
 have hlen := plansF_len (fs := fs) (ss := ss) (u := n) hall ss.length [] (by simp)
 have hlen2 := Nat.le_trans hlen (pow13 hns)
 have hmem : ∀ g, g ∈ plansF fs ss n ss.length [] → g ∈ listF fs ss ss.length := fun g hg => by rw [← ext_nil]; exact plans_sub _ _ g hg
 refine Fnc.of_body at_ref_served rfl (by show 2 ≤ 29; decide) [(0, .agg #[.slice a fs.length cap, .slice a' ss.length cap']), (1, I n)] ⟨rfl, rfl, trivial⟩ ?_
 refine W.seq <| W.region rfl ?_
 refine Ops.box (cs := #[.slice a fs.length cap, .slice a' ss.length cap']) (fun β2 => ?_) rfl rfl rfl
 refine qs rfl rfl rfl <| Ops.nil <| thn_n <| W.seq <| W.region rfl ?_
 first | refine o1 (yldW rfl rfl) rfl ?_ | refine o1 (yldA rfl rfl) rfl ?_
 refine qm rfl rfl rfl ?_
 refine c0 (fun h' hE hL => Plans_fn main fs ss n hall ss.length h' [] [] _ _ (.slice none 0 0) (hf.ext hE) (hs.ext hE) (.nil .nil) (by simp) hpn) (fun v A' hv => ?_)
 obtain ⟨O, us, B, hO, hB, hsb⟩ := hv
 obtain ⟨ua, uc, rfl⟩ := hO.isSl
 refine Ops.sb (F' := (β2, .cells #[.slice a fs.length cap, .slice a' ss.length cap'] t_Plant (0, 0)) :: (O ++ B)) (Sb.trans (.of_perm (List.perm_append_comm (l₁ := [_]))) (hsb.app .refl)) ?_
 refine qs rfl rfl rfl <| Ops.nil <| thn_n ?_
 have hul := hB.len
 generalize hLL : plansF fs ss n ss.length [] = LL at *
 refine W.freeze (b := β2) rfl (fun g1 hE1 hb2 _ => ?_)
 refine freezeOs hO (fun g2 hE2 hslO _ => ?_)
 have hE0 := hE1.trans hE2
 replace hb2 := hE2.1 _ _ hb2
 refine W.seq <| W.seq <| W.region rfl <| qs rfl rfl rfl <| Ops.nil <| thn_n <| W.block ?_
 refine W.loop (σ := Nat) (fun i => i ≤ us.length ∧ ∀ g ∈ LL.take i, isR fs ss g = false) (fun i => [(6, I i), (5, .slice ua us.length uc), (2, .pointer (some ⟨β2, 0, none⟩))]) (fun _ => B) (fun i => us.length - i) 0 ⟨Nat.zero_le _, fun g hg => by simp at hg⟩ ⟨rfl, rfl, rfl, trivial⟩ .refl ?_
 rintro i ⟨hi, hno⟩
 refine W.seq <| W.seq <| W.region rfl <| qm rfl rfl rfl <| qm rfl rfl rfl ?_
 refine o1 (y_len rfl rfl) rfl ?_
 refine o1 (y_lss rfl rfl rfl) rfl ?_
 refine Ops.nil <| thn_n ?_
 refine W.condp rfl (fun c15 => ?_) (fun c15 => ?_)
 ·have hi1 : i < us.length := by omega
  obtain ⟨g, hgk, -⟩ := has (show i < LL.length by omega)
  obtain ⟨s, hs0, -⟩ := has hi1
  obtain ⟨bo, offo, co, Eo, fzo, rfl, hbo, -, hyo, hzo⟩ := hslO.at hs0
  have hcell : co[offo + i * 1 + 0]? = some (.slice s.a s.n s.cap) := hzo 0 (by decide)
  clear hzo
  have hcp := list_ck hck (hmem g (List.mem_of_getElem? hgk))
  obtain ⟨wf, wd, hwr, hwi⟩ := wrong_ok hcp
  obtain ⟨wf2, wd2, hwr2, hmin⟩ := wrong_rb hcp
  rw [hwr] at hwr2
  obtain ⟨rfl, hwr3⟩ := Prod.mk.inj hwr2
  have htk := take_next hgk
  have hslg : ∀ h', Lent B h' → Sl h' Be.row s.val g := fun h' hL => hB.sl hL hs0 hgk
  refine W.skip <| thn_n <| W.seq <| W.block <| W.seq ?_
  refine W.drawL [] (n := 11) rfl ?_
  first | refine a1 0 (yldW rfl rfl) rfl ?_ | refine a1 0 (yldA rfl rfl) rfl ?_
  refine a1 1 (y_move rfl rfl) rfl ?_
  refine a1 2 (y_move rfl rfl) rfl ?_
  first | refine a1 3 (yix rfl rfl rfl) rfl ?_ | refine a1 3 (yixI rfl rfl rfl) rfl ?_
  refine a1 4 (yld rfl rfl) rfl ?_
  refine ae (i := 5) rfl an rfl rfl (e_call0 (args := [_, _]) (vs := [.agg #[.slice a fs.length cap, .slice a' ss.length cap'], s.val]) rfl rfl (fun h' hE hL => Rwrong_fn _ h' fs ss g _ _ _ (hf.ext (hE0.trans hE)) (hs.ext (hE0.trans hE)) (hslg h' hL) hcp) (fun v A' hv => ?_))
  obtain ⟨x1, x2, rfl, hM, hsh⟩ := hv
  obtain ⟨rfl, rfl⟩ := hM.eq hmin
  refine ⟨.inr Keeps.nil, Any.sb (Sb.left .refl hsh) ?_⟩
  refine a1 6 (y_move rfl rfl) rfl ?_
  refine a1 7 (y_extract rfl rfl rfl) rfl ?_
  refine a1 8 (y_extract rfl rfl rfl) rfl ?_
  refine a1 9 (y_assign rfl rfl) rfl ?_
  refine a1 10 (y_assign rfl rfl) rfl ?_
  refine az ?_
  refine thn_n <| W.seq <| W.region rfl <| qm rfl rfl rfl ?_
  refine o1 (y_lss rfl rfl rfl) rfl ?_
  refine Ops.nil <| thn_n ?_
  refine W.condp rfl (fun c28 => ?_) (fun c28 => ?_)
  ·refine W.seq <| W.region rfl <| qs rfl rfl rfl <| Ops.nil <| thn_n <| W.ret <| blk_r <| thn_r <| thn_r <| blk_r ?_
   refine thn_r ?_
   have hR : isR fs ss g = true := hwi.1 (by omega)
   have : LL.any (isR fs ss) = true := List.any_eq_true.2 ⟨g, List.mem_of_getElem? hgk, hR⟩
   rw [hsm, this]
   exact lvp (hs := hB.shut) rfl
  ·refine W.skip <| blk_n <| thn_n <| W.region rfl <| qm rfl rfl rfl ?_
   first | refine o1 (yadd rfl rfl rfl) rfl ?_ | refine o1 (y_addw rfl rfl rfl) rfl ?_
   refine qs rfl rfl rfl <| Ops.nil <| thn_n ?_
   have hR : isR fs ss g = false := by
    cases hx : isR fs ss g with
    | false => rfl
    | true => have := hwi.2 hx; omega
   exact ⟨rfl, i + 1, ⟨by omega, fun q hq => by
    rw [htk] at hq
    rcases List.mem_append.1 hq with hq | hq
    ·exact hno q hq
    ·have : q = g := by simpa using hq
     rw [this]; exact hR⟩, by omega, ⟨rfl, rfl, rfl, trivial⟩, .refl⟩
 ·have hie : i = us.length := by omega
  subst hie
  rw [hul, List.take_length] at hno
  refine W.exit <| thn_x <| thn_x <| blk_x <| thn_n <| W.seq <| W.region rfl <| qs rfl rfl rfl <| Ops.nil <| thn_n ?_
  refine W.ret ?_
  have : LL.any (isR fs ss) = false := List.any_eq_false.2 fun q hq => by rw [hno q hq]; decide
  rw [hsm, this]
  exact lvp (hs := hB.shut) rfl

def lateV (fs : List Fl) (ss : List St) : Int × Int := if ckPlant fs ss ≠ 0 then (0, ckPlant fs ss) else (lateF fs ss, 0)
theorem late_step {fs : List Fl} {ss : List St} {k : Nat} (hk : k < ss.length) : lateFrom fs ss (ss.length - k) k = if someR fs ss (lateM k) then lateFrom fs ss (ss.length - (k + 1)) (k + 1) else k := by
 have : ss.length - k = (ss.length - (k + 1)) + 1 := by omega
 rw [this, lateFrom]
theorem RLate_fn (main : Side) (h : Hp) (fs : List Fl) (ss : List St) (vf vs : Value) (hf : Sl h Fl.row vf fs) (hs : Sl h St.row vs ss) : Pu prog main n_ref_Late #[.agg #[vf, vs]] h (.tuple #[I (lateV fs ss).1, I (lateV fs ss).2]) := by
 obtain ⟨a, cap, rfl⟩ := hf.isSl
 obtain ⟨a', cap', rfl⟩ := hs.isSl
 refine Fnc.of_body at_ref_Late rfl (by show 1 ≤ 23; decide) [(0, .agg #[.slice a fs.length cap, .slice a' ss.length cap'])] ⟨rfl, trivial⟩ ?_
 refine W.seq <| W.region rfl ?_
 refine Ops.box (cs := #[.slice a fs.length cap, .slice a' ss.length cap']) (fun β1 => ?_) rfl rfl rfl
 refine qs rfl rfl rfl <| qs rfl rfl rfl <| Ops.nil <| thn_n <| W.seq <| W.seq <| W.region rfl ?_
 first | refine o1 (yldW rfl rfl) rfl ?_ | refine o1 (yldA rfl rfl) rfl ?_
 refine cp (fun h' hE hL => RCheck_fn _ h' _ _ _ _ (hf.ext hE) (hs.ext hE)) ?_
 refine qs rfl rfl rfl <| Ops.nil <| thn_n <| W.seq <| W.region rfl <| qm rfl rfl rfl ?_
 refine o1 (y_neq rfl rfl rfl) rfl ?_
 refine Ops.nil <| thn_n ?_
 refine W.condp rfl (fun c9 => ?_) (fun c9 => ?_)
 ·refine W.seq <| W.region rfl <| qm rfl rfl rfl <| qs rfl rfl rfl <| qs rfl rfl rfl <| Ops.nil <| thn_n <| W.ret <| thn_r ?_
  refine lvp (hs := .cons rfl .nil) ?_
  simp only [lateV]; rw [if_pos c9]; rfl
 ·have hck : ckPlant fs ss = 0 := by simpa using c9
  have hns := (hall_ck hck).ns
  have hlv : lateV fs ss = (lateFrom fs ss (ss.length - 0) 0, 0) := by simp only [lateV]; rw [if_neg c9]; rfl
  refine W.skip <| thn_n <| W.seq <| W.seq <| W.region rfl <| qs rfl rfl rfl <| Ops.nil <| thn_n <| W.block ?_
  refine W.loop (σ := Nat) (fun k => k ≤ ss.length ∧ lateV fs ss = (lateFrom fs ss (ss.length - k) k, 0)) (fun k => [(5, I k), (1, .pointer (some ⟨β1, 0, none⟩))]) (fun _ => [(β1, .cells #[.slice a fs.length cap, .slice a' ss.length cap'] t_Plant (0, 0))]) (fun k => ss.length - k) 0 ⟨Nat.zero_le _, hlv⟩ ⟨rfl, rfl, trivial⟩ .refl ?_
  rintro k ⟨hk, hlk⟩
  refine W.seq <| W.seq <| W.region rfl <| qm rfl rfl rfl ?_
  refine o1 (y_fieldAddr rfl rfl) rfl ?_
  refine o1 (yld rfl rfl) rfl ?_
  refine o1 (y_len rfl rfl) rfl ?_
  refine o1 (y_lss rfl rfl rfl) rfl ?_
  refine Ops.nil <| thn_n ?_
  refine W.condp rfl (fun c15 => ?_) (fun c15 => ?_)
  ·have hk1 : k < ss.length := by omega
   rw [late_step hk1] at hlk
   refine W.skip <| thn_n <| W.seq <| W.block <| W.seq <| W.region rfl ?_
   first | refine o1 (yldW rfl rfl) rfl ?_ | refine o1 (yldA rfl rfl) rfl ?_
   refine qm rfl rfl rfl ?_
   refine cp (fun h' hE hL => Rserved_fn _ h' fs ss k _ _ (hf.ext hE) (hs.ext hE) hck) ?_
   refine o1 (y_not rfl rfl) rfl ?_
   refine Ops.nil <| thn_n ?_
   refine W.cond rfl (fun c21 => ?_) (fun c21 => ?_)
   ·refine W.seq <| W.region rfl <| qm rfl rfl rfl <| qs rfl rfl rfl <| qs rfl rfl rfl <| Ops.nil <| thn_n <| W.ret <| blk_r <| thn_r ?_
    refine thn_r <| blk_r <| thn_r ?_
    rw [if_neg (by simpa using c21)] at hlk
    rw [hlk]
    exact lvp (hs := .cons rfl .nil) rfl
   ·refine W.skip <| blk_n <| thn_n <| W.region rfl <| qm rfl rfl rfl ?_
    first | refine o1 (yadd rfl rfl rfl) rfl ?_ | refine o1 (y_addw rfl rfl rfl) rfl ?_
    refine qs rfl rfl rfl <| Ops.nil <| thn_n ?_
    rw [if_pos (by simpa using c21)] at hlk
    exact ⟨rfl, k + 1, ⟨by omega, hlk⟩, by omega, ⟨rfl, rfl, trivial⟩, .refl⟩
  ·have hke : k = ss.length := by omega
   subst hke
   rw [Nat.sub_self, lateFrom] at hlk
   refine W.exit <| thn_x <| thn_x <| blk_x <| thn_n <| W.seq <| W.region rfl <| qs rfl rfl rfl <| qs rfl rfl rfl <| Ops.nil ?_
   refine thn_n <| W.ret ?_
   rw [hlk]
   exact lvp (hs := .cons rfl .nil) rfl

def verdV (fs : List Fl) (ss : List St) (n : Int) : Int × Int := if ckPlant fs ss ≠ 0 then (0, ckPlant fs ss) else if outs n 0 ((ss.length : Int) - 1) then (0, 3) else (verdF fs ss n.toNat, 0)
theorem VerdictG_fn (main : Side) (hS : ∀ S, main.ok S → ∃ Fin, S = Mn prog Fin) (hmb : main.b = true) (h : Hp) (fs : List Fl) (ss : List St) (n : Int) (vf vs : Value) (Eg : TypeId) (zg : Nat × Nat) (hf : Sl h Fl.row vf fs) (hs : Sl h St.row vs ss) (zf : Zs h vf) (zs : Zs h vs) (hn : ss.length ≤ 1000) (hg : h 0 = some (.cells #[rtV t_error] Eg zg)) (z0 : h.z 0) :
  Pu prog main n_floor_Verdict #[.agg #[vf, vs], I n] h (.tuple #[I (verdV fs ss n).1, I (verdV fs ss n).2]) := by
 by_cases hok : ckPlant fs ss = 0 ∧ ¬ outs n 0 ((ss.length : Int) - 1)
 ·obtain ⟨hck, hno⟩ := hok
  have e : verdV fs ss n = (verdF fs ss n.toNat, 0) := by simp only [verdV]; rw [if_neg (by simp [hck]), if_neg hno]
  have hn : ((n.toNat : Nat) : Int) = n := by unfold outs at hno; omega
  have := Verdict_fn main hS hmb h fs ss n.toNat vf vs Eg zg hf hs zf zs hck (by unfold outs at hno; omega) hg z0
  rw [hn] at this
  rw [e]; exact this
 obtain ⟨a, cap, rfl⟩ := hf.isSl
 obtain ⟨a', cap', rfl⟩ := hs.isSl
 refine Fnc.of_body at_floor_Verdict rfl (by show 2 ≤ 61; decide) [(0, .agg #[.slice a fs.length cap, .slice a' ss.length cap']), (1, I n)] ⟨rfl, rfl, trivial⟩ ?_
 refine W.seq <| W.region rfl ?_
 refine Ops.box (cs := #[.slice a fs.length cap, .slice a' ss.length cap']) (fun β2 => ?_) rfl rfl rfl
 refine qs rfl rfl rfl <| qs rfl rfl rfl <| Ops.nil <| thn_n <| W.seq <| W.seq <| W.region rfl ?_
 first | refine o1 (yldW rfl rfl) rfl ?_ | refine o1 (yldA rfl rfl) rfl ?_
 refine cp (fun h' hE hL => Check_fn _ h' fs ss _ _ (hf.ext hE) (hs.ext hE)) ?_
 refine qs rfl rfl rfl <| Ops.nil <| thn_n <| W.seq <| W.region rfl <| qm rfl rfl rfl ?_
 refine o1 (y_neq rfl rfl rfl) rfl ?_
 refine Ops.nil <| thn_n ?_
 refine W.condp rfl (fun c15 => ?_) (fun c15 => ?_)
 ·refine W.seq <| W.region rfl <| qm rfl rfl rfl <| qs rfl rfl rfl <| qs rfl rfl rfl <| Ops.nil <| thn_n <| W.ret <| thn_r ?_
  refine lvp (hs := .cons rfl .nil) ?_
  simp only [verdV]; rw [if_pos c15]; rfl
 ·refine W.skip <| thn_n <| W.seq <| W.seq <| W.region rfl <| qm rfl rfl rfl ?_
  refine o1 (y_fieldAddr rfl rfl) rfl ?_
  refine o1 (yld rfl rfl) rfl ?_
  refine o1 (y_len rfl rfl) rfl ?_
  first | refine o1 (ysub rfl rfl rfl) rfl ?_ | refine o1 (y_subw rfl rfl rfl) rfl ?_
  refine cp (fun h' hE hL => outside_fn _ h' n 0 ((ss.length : Int) - 1)) ?_
  refine Ops.nil <| thn_n ?_
  refine W.cond rfl (fun c22 => ?_) (fun c22 => ?_)
  ·refine W.seq <| W.region rfl <| qs rfl rfl rfl <| qs rfl rfl rfl <| Ops.nil <| thn_n <| W.ret <| thn_r ?_
   refine lvp (hs := .cons rfl .nil) ?_
   simp only [verdV]; rw [if_neg c15, if_pos (by simpa using c22)]; rfl
  ·exact absurd ⟨by simpa using c15, by simpa using c22⟩ hok
theorem RVerdict_fn (main : Side) (h : Hp) (fs : List Fl) (ss : List St) (n : Int) (vf vs : Value) (hf : Sl h Fl.row vf fs) (hs : Sl h St.row vs ss) (hn : ss.length ≤ 1000) : Pu prog main n_ref_Verdict #[.agg #[vf, vs], I n] h (.tuple #[I (verdV fs ss n).1, I (verdV fs ss n).2]) := by
 obtain ⟨a, cap, rfl⟩ := hf.isSl
 obtain ⟨a', cap', rfl⟩ := hs.isSl
 refine Fnc.of_body at_ref_Verdict rfl (by show 2 ≤ 52; decide) [(0, .agg #[.slice a fs.length cap, .slice a' ss.length cap']), (1, I n)] ⟨rfl, rfl, trivial⟩ ?_
 refine W.seq <| W.region rfl ?_
 refine Ops.box (cs := #[.slice a fs.length cap, .slice a' ss.length cap']) (fun β2 => ?_) rfl rfl rfl
 refine qs rfl rfl rfl <| qs rfl rfl rfl <| Ops.nil <| thn_n <| W.seq <| W.seq <| W.region rfl ?_
 first | refine o1 (yldW rfl rfl) rfl ?_ | refine o1 (yldA rfl rfl) rfl ?_
 refine cp (fun h' hE hL => RCheck_fn _ h' _ _ _ _ (hf.ext hE) (hs.ext hE)) ?_
 refine qs rfl rfl rfl <| Ops.nil <| thn_n <| W.seq <| W.region rfl <| qm rfl rfl rfl ?_
 refine o1 (y_neq rfl rfl rfl) rfl ?_
 refine Ops.nil <| thn_n ?_
 refine W.condp rfl (fun c14 => ?_) (fun c14 => ?_)
 ·refine W.seq <| W.region rfl <| qm rfl rfl rfl <| qs rfl rfl rfl <| qs rfl rfl rfl <| Ops.nil <| thn_n <| W.ret <| thn_r ?_
  refine lvp (hs := .cons rfl .nil) ?_
  simp only [verdV]; rw [if_pos c14]; rfl
 ·have hck : ckPlant fs ss = 0 := by simpa using c14
  refine W.skip <| thn_n <| W.seq <| W.seq <| W.region rfl <| qm rfl rfl rfl ?_
  refine o1 (y_fieldAddr rfl rfl) rfl ?_
  refine o1 (yld rfl rfl) rfl ?_
  refine o1 (y_len rfl rfl) rfl ?_
  first | refine o1 (ysub rfl rfl rfl) rfl ?_ | refine o1 (y_subw rfl rfl rfl) rfl ?_
  refine cp (fun h' hE hL => among_fn _ h' n 0 ((ss.length : Int) - 1)) ?_
  refine o1 (y_not rfl rfl) rfl ?_
  refine Ops.nil <| thn_n ?_
  refine W.cond rfl (fun c22 => ?_) (fun c22 => ?_)
  ·refine W.seq <| W.region rfl <| qs rfl rfl rfl <| qs rfl rfl rfl <| Ops.nil <| thn_n <| W.ret <| thn_r ?_
   refine lvp (hs := .cons rfl .nil) ?_
   simp only [verdV]; rw [if_neg c14, if_pos (by simpa using c22)]; rfl
  ·have hno : ¬ outs n 0 ((ss.length : Int) - 1) := by simpa using c22
   have hvv : verdV fs ss n = (verdF fs ss n.toNat, 0) := by simp only [verdV]; rw [if_neg (by simp [hck]), if_neg hno]
   obtain ⟨m, rfl⟩ : ∃ m : Nat, n = m := ⟨n.toNat, by unfold outs at hno; omega⟩
   have hm : m < ss.length := by unfold outs at hno; omega
   rw [hvv, Int.toNat_natCast]
   clear hvv hno
   have hall := hall_ck hck
   refine W.skip <| thn_n <| W.seq <| W.region rfl ?_
   first | refine o1 (yldW rfl rfl) rfl ?_ | refine o1 (yldA rfl rfl) rfl ?_
   refine c0 (fun h' hE hL => RBests_fn _ h' fs ss _ _ (hf.ext hE) (hs.ext hE) hck) (fun v A' hv => ?_)
   obtain ⟨u, O2, us2, us, B, BL, ls, most, rfl, hN, hB, hSel, hBI, hsb⟩ := hv
   obtain ⟨-, -, -, -, hBn⟩ := best_sel hck hBI
   obtain ⟨-, hbe, -, hbm⟩ := hBI.best hall
   have hvm := verd_met (s := m) hbe
   obtain ⟨ua, uc, rfl⟩ := hN.isSl
   refine Ops.sb (F' := O2 ++ B) (Sb.right hsb (.cons rfl .nil)) ?_
   refine qm rfl rfl rfl <| oq (y_extract rfl rfl rfl) rfl wn rfl rfl <| oq (y_extract rfl rfl rfl) rfl wn rfl rfl <| qs rfl rfl rfl <| qs rfl rfl rfl <| Ops.nil <| thn_n ?_
   refine freezeOs hN (fun g2 hE2 hslO _ => ?_)
   refine W.perm (F' := B ++ []) (by rw [List.append_nil]) (freezeOss hB (fun g3 hE3 hslB => ?_))
   replace hslO := hslO.ext hE3
   refine W.seq <| W.region rfl <| qs rfl rfl rfl <| Ops.nil <| thn_n <| W.seq <| W.seq <| W.region rfl <| qs rfl rfl rfl <| Ops.nil ?_
   refine thn_n <| W.block ?_
   refine W.loop (σ := Nat) (fun i => i ≤ us2.length) (fun i => [(10, I i), (9, I (cntB (BL.take i) m)), (7, .slice ua us2.length uc), (1, I m)]) (fun _ => []) (fun i => us2.length - i) 0 (Nat.zero_le _) ⟨rfl, rfl, rfl, rfl, trivial⟩ .refl ?_
   rintro i hi
   have hul := hSel.1
   refine W.seq <| W.seq <| W.region rfl <| qm rfl rfl rfl <| qm rfl rfl rfl ?_
   refine o1 (y_len rfl rfl) rfl ?_
   refine o1 (y_lss rfl rfl rfl) rfl ?_
   refine Ops.nil <| thn_n ?_
   refine W.condp rfl (fun c31 => ?_) (fun c31 => ?_)
   ·have hi1 : i < us2.length := by omega
    obtain ⟨g, hgk, -⟩ := has (show i < BL.length by omega)
    obtain ⟨s, hs0, -⟩ := has hi1
    obtain ⟨j, hj1, hj2⟩ := hSel.2 i s g hs0 hgk
    obtain ⟨bo, offo, co, Eo, fzo, rfl, hbo, -, hyo, hzo⟩ := hslO.at hs0
    have hcell : co[offo + i * 1 + 0]? = some (.slice s.a s.n s.cap) := hzo 0 (by decide)
    clear hzo
    have hgl := listF_len _ g (hbm g (List.mem_of_getElem? hgk))
    have hnx := cntB_snoc (B := BL.take i) (l := g) (s := m)
    rw [← take_next hgk] at hnx
    have hsn := hB.num hj1 hj2
    have hslg := (hslB j s g hj1 hj2).1
    obtain ⟨q, hq, -⟩ := has (show m < g.length by omega)
    obtain ⟨sa, sn, sc⟩ := s
    simp only at hsn
    subst hsn
    obtain ⟨b2, off2, c2, E2, fz2, rfl, hb2, -, hy2, hz2⟩ := hslg.at hq
    have hc2 : c2[off2 + m * 2 + 0]? = some (I q.fl) := hz2 0 (by decide)
    clear hz2
    replace hcell : co[offo + i * 1 + 0]? = some (.slice (some ⟨b2, off2, none⟩) g.length sc) := hcell
    have hqb : beAt g m = q := by simp only [beAt, List.getD]; rw [hq]; rfl
    rw [hqb] at hnx
    have hcb : 0 ≤ cntB (BL.take i) m ∧ cntB (BL.take i) m ≤ i := by
     have := List.countP_le_length (p := fun p => decide (0 ≤ (beAt p m).fl)) (l := BL.take i)
     unfold cntB cntF
     rw [List.length_take] at this
     omega
    refine W.skip <| thn_n <| W.seq <| W.block <| W.seq <| W.region rfl <| qm rfl rfl rfl <| qm rfl rfl rfl ?_
    first | refine o1 (yix rfl rfl rfl) rfl ?_ | refine o1 (yixI rfl rfl rfl) rfl ?_
    refine o1 (yld rfl rfl) rfl ?_
    refine qm rfl rfl rfl ?_
    first | refine o1 (yix rfl rfl rfl) rfl ?_ | refine o1 (yixI rfl rfl rfl) rfl ?_
    refine o1 (y_fieldAddr rfl rfl) rfl ?_
    refine o1 (yld rfl rfl) rfl ?_
    refine o1 (y_geq rfl rfl rfl) rfl ?_
    refine Ops.nil <| thn_n ?_
    refine W.condp rfl (fun c42 => ?_) (fun c42 => ?_)
    ·refine W.region rfl <| qm rfl rfl rfl ?_
     first | refine o1 (yadd rfl rfl rfl) rfl ?_ | refine o1 (y_addw rfl rfl rfl) rfl ?_
     refine qs rfl rfl rfl <| Ops.nil <| blk_n <| thn_n <| W.region rfl <| qm rfl rfl rfl ?_
     first | refine o1 (yadd rfl rfl rfl) rfl ?_ | refine o1 (y_addw rfl rfl rfl) rfl ?_
     refine qs rfl rfl rfl <| Ops.nil <| thn_n ?_
     first
     | exact ⟨rfl, i + 1, by omega, by omega, ⟨rfl, lk rfl (show I _ = I _ by congr 1; rw [hnx, if_pos c42]), rfl, rfl, trivial⟩, .refl⟩
     | exact ⟨rfl, i + 1, by omega, by omega, ⟨rfl, lk rfl (show I _ = I _ by congr 1; rw [hnx, if_neg c42, Int.add_zero]), rfl, rfl, trivial⟩, .refl⟩
    ·refine W.skip <| blk_n <| thn_n <| W.region rfl <| qm rfl rfl rfl ?_
     first | refine o1 (yadd rfl rfl rfl) rfl ?_ | refine o1 (y_addw rfl rfl rfl) rfl ?_
     refine qs rfl rfl rfl <| Ops.nil <| thn_n ?_
     first
     | exact ⟨rfl, i + 1, by omega, by omega, ⟨rfl, lk rfl (show I _ = I _ by congr 1; rw [hnx, if_pos c42]), rfl, rfl, trivial⟩, .refl⟩
     | exact ⟨rfl, i + 1, by omega, by omega, ⟨rfl, lk rfl (show I _ = I _ by congr 1; rw [hnx, if_neg c42, Int.add_zero]), rfl, rfl, trivial⟩, .refl⟩
   ·have hie : i = us2.length := by omega
    subst hie
    rw [hul, List.take_length]
    refine W.exit <| thn_x <| thn_x <| blk_x <| thn_n <| W.seq <| W.seq <| W.region rfl <| qm rfl rfl rfl <| Ops.nil ?_
    refine thn_n <| W.block <| W.seq <| W.region rfl ?_
    refine o1 (y_eql rfl rfl rfl) rfl ?_
    refine qs rfl rfl rfl <| Ops.nil <| thn_n ?_
    refine W.condp rfl (fun c46 => ?_) (fun c46 => ?_)
    ·refine W.seq <| W.region rfl <| qs rfl rfl rfl <| qs rfl rfl rfl <| Ops.nil <| thn_n <| W.ret <| blk_r <| thn_r ?_
     refine lvp ?_
     rw [hvm]
     first
     | (rw [if_pos (by omega)]; rfl)
     | (rw [if_neg (by omega), if_pos (by omega)]; rfl)
     | (rw [if_neg (by omega), if_neg (by omega)]; rfl)
    ·refine W.seq <| W.region rfl <| qm rfl rfl rfl ?_
     refine o1 (y_len rfl rfl) rfl ?_
     refine o1 (y_eql rfl rfl rfl) rfl ?_
     refine qs rfl rfl rfl <| Ops.nil <| thn_n ?_
     refine W.condp rfl (fun c48 => ?_) (fun c48 => ?_)
     ·refine W.seq <| W.region rfl <| qs rfl rfl rfl <| qs rfl rfl rfl <| Ops.nil <| thn_n <| W.ret <| blk_r <| thn_r ?_
      refine lvp ?_
      rw [hvm]
      first
      | (rw [if_pos (by omega)]; rfl)
      | (rw [if_neg (by omega), if_pos (by omega)]; rfl)
      | (rw [if_neg (by omega), if_neg (by omega)]; rfl)
     ·refine W.skip <| blk_n <| thn_n <| W.seq <| W.region rfl <| qs rfl rfl rfl <| qs rfl rfl rfl <| Ops.nil <| thn_n <| W.ret ?_
      refine lvp ?_
      rw [hvm]
      first
      | (rw [if_pos (by omega)]; rfl)
      | (rw [if_neg (by omega), if_pos (by omega)]; rfl)
      | (rw [if_neg (by omega), if_neg (by omega)]; rfl)
end Go.Mus

/- The first strike that must wait too long. Conditions: none; over the given program. -/
namespace Go.Mus
set_option maxRecDepth 100000
set_option maxHeartbeats 40000000
theorem lateV_eq {fs : List Fl} {ss : List St} : lateV fs ss = (if ckPlant fs ss ≠ 0 then 0 else lateF fs ss, ckPlant fs ss) := by
 simp only [lateV]
 by_cases h : ckPlant fs ss = 0
 ·rw [if_neg (by simp [h]), if_neg (by simp [h]), h]
 ·rw [if_pos h, if_pos h]
theorem FloorLates_top (main : Side) (hS : ∀ S, main.ok S → ∃ Fin, S = Mn prog Fin) (hmb : main.b = true) (h : Hp) (fs : List Fl) (ss : List St) (f : Fl) (st : St) (number : Int) (nums : List Int) (vf vs lv : Value) (Eg : TypeId) (zg : Nat × Nat) (hf : Sl h Fl.row vf fs) (hs : Sl h St.row vs ss) (hnl : Sl h rowI lv nums) (hg : h 0 = some (.cells #[rtV t_error] Eg zg)) (z0 : h.z 0) : TopV prog main n_law_FloorLates #[.agg #[vf, vs], f.val, st.val, I number, lv] h (.bool true) := by
 obtain ⟨a, cap, rfl⟩ := hf.isSl
 obtain ⟨a', cap', rfl⟩ := hs.isSl
 refine TopV.of_body at_law_FloorLates rfl (by show 5 ≤ 112; decide) [(0, .agg #[.slice a fs.length cap, .slice a' ss.length cap']), (1, f.val), (2, st.val), (3, I number), (4, lv)] ⟨rfl, rfl, rfl, rfl, rfl, trivial⟩ ?_
 refine W.seq <| W.region rfl ?_
 refine Ops.box (cs := #[.slice a fs.length cap, .slice a' ss.length cap']) (fun β5 => ?_) rfl rfl rfl
 refine Ops.box (cs := #[I f.pl, I f.lo, I f.hi, I f.co]) (fun β6 => ?_) rfl rfl rfl
 refine Ops.box (cs := #[I st.day, I st.co, I st.wa]) (fun β7 => ?_) rfl rfl rfl
 refine qs rfl rfl rfl <| Ops.nil <| thn_n <| W.seq <| W.seq <| W.region rfl ?_
 first | refine o1 (yldW rfl rfl) rfl ?_ | refine o1 (yldA rfl rfl) rfl ?_
 refine cp (fun h' hE hL => vast_fn _ h' fs ss _ _ (hf.ext hE) (hs.ext hE)) ?_
 refine Ops.nil <| thn_n ?_
 refine W.cond rfl (fun c25 => ?_) (fun c25 => ?_)
 ·refine W.seq <| W.region rfl ?_
  refine cp (fun h' hE hL => exs_fn _ hS hmb h' Eg zg (hE.1 _ _ hg) (hE.2 _ z0)) ?_
  refine qs rfl rfl rfl <| Ops.nil <| thn_n <| W.ret <| thn_r ?_
  exact lvq rfl
 ·have hfs : fs.length ≤ 20 ∧ ss.length ≤ 20 := by simp at c25; omega
  refine W.skip <| thn_n <| W.seq <| W.region rfl <| qm rfl rfl rfl ?_
  refine c0 (fun h' hE hL => NewHat_fn _ h' nums lv (hnl.ext hE)) (fun v A' hv => ?_)
  obtain ⟨bh, s0, rfl, rfl⟩ := hv
  refine qs rfl rfl rfl <| Ops.nil <| thn_n <| W.seq <| W.region rfl ?_
  first | refine o1 (yldW rfl rfl) rfl ?_ | refine o1 (yldA rfl rfl) rfl ?_
  first | refine o1 (yldW rfl rfl) rfl ?_ | refine o1 (yldA rfl rfl) rfl ?_
  first | refine o1 (yldW rfl rfl) rfl ?_ | refine o1 (yldA rfl rfl) rfl ?_
  refine qm rfl rfl rfl ?_
  refine cg (A := [(bh, _)]) .head (fun h' hE hL => several_fn _ h' nums lv bh s0 fs ss f st _ _ (hnl.ext hE) (hf.ext hE) (hs.ext hE)) (fun v A' hv => ?_)
  obtain ⟨βp, p0, p1, p2, fs1, ss1, fs2, ss2, Sf1, Ss1, Sf2, Ss2, k1, s1, rfl, ⟨hp0f, hp0s⟩, ⟨hOf1, hOs1⟩, ⟨hOf2, hOs2⟩, ⟨hck1, hn3, hl2f, hl2s⟩, hk1, hsb⟩ := hv
  have hnf1 := (hall_ck hck1).nf
  refine Ops.sb (hsb.trans (Sb.right .refl (.cons rfl (.cons rfl (.cons rfl .nil))))) ?_
  refine qs rfl rfl rfl <| Ops.nil <| thn_n <| W.seq <| W.region rfl <| qm rfl rfl rfl <| qm rfl rfl rfl ?_
  refine cg (A := [(bh, _)]) (.tail .head) (fun h' hE hL => To_fn _ h' nums lv bh k1 s1 2 (hnl.ext hE) (by omega) (by decide)) (fun v A' hv => ?_)
  obtain ⟨r1, s2, rfl, -, hb3⟩ := hv
  refine Ops.sb (.cons (Sb.app1 hb3)) ?_
  refine qm rfl rfl rfl ?_
  refine Ops.bsl (cs := (flat rowI [number, r1, number]).toArray) (fun β38 => ?_) rfl (hf := by kernel_rfl)
  refine qs rfl rfl rfl <| Ops.nil <| thn_n ?_
  refine freezeAt hOf1 (.tail (.tail (.tail .head))) (fun g2 hE2 hslf1 _ => ?_)
  refine freezeAt hOs1 (.tail (.tail (.tail .head))) (fun g3 hE3 hsls1 _ => ?_)
  refine freezeAt hOf2 (.tail (.tail (.tail .head))) (fun g4 hE4 hslf2 _ => ?_)
  refine freezeAt hOs2 (.tail (.tail (.tail .all))) (fun g5 hE5 hsls2 _ => ?_)
  refine freezeK (b := β38) Kn.nil rfl .head (fun g7 hK => ?_)
  refine freezeK (b := βp) hK rfl .head (fun g9 hK => ?_)
  show W ⟨prog, main, n_law_FloorLates, F_law_FloorLates.ntmps, none, g9⟩ _ _ _ _ _
  have e5 := hK.ext
  have e4 := hE5.trans e5
  have e3 := hE4.trans e4
  have e2 := hE3.trans e3
  have e0 := hE2.trans e2
  have hg9 := e0.1 _ _ hg
  have z9 := e0.2 _ z0
  have hps := (hK.sl (l := [p0, p1, p2]) (row := Pl.row) (n := 3) (cap := 3) 0 rfl rfl).1
  have hns := (hK.sl (l := [number, r1, number]) (row := rowI) (n := 3) (cap := 3) 1 rfl rfl).1
  have each : ∀ (i : Nat) (p : Pl), [p0, p1, p2][i]? = some p → ∃ fs ss, Sl g9 Fl.row p.f.val fs ∧ Sl g9 St.row p.s.val ss ∧ fs.length ≤ 20 ∧ ss.length ≤ 20 := by
   intro i p hp
   rcases i with _ | _ | _ | i
   ·cases hp; rw [← hp0f, ← hp0s]; exact ⟨fs, ss, hf.ext e0, hs.ext e0, hfs.1, hfs.2⟩
   ·cases hp; exact ⟨fs1, ss1, hslf1.ext e2, hsls1.ext e3, by omega, by omega⟩
   ·cases hp; exact ⟨fs2, ss2, hslf2.ext e4, hsls2.ext e5, by omega, by omega⟩
   ·simp at hp
  clear hK
  generalize hPL : [p0, p1, p2] = PL at hps each
  generalize hML : [number, r1, number] = ML at hns
  have hMLn : ML.length = 3 := by rw [← hML]; rfl
  have hPLn : PL.length = 3 := by rw [← hPL]; rfl
  refine W.seq <| W.seq <| W.region rfl <| qs rfl rfl rfl <| Ops.nil <| thn_n <| W.block ?_
  refine W.loop (σ := Nat) (fun i => i ≤ 3) (fun i => [(14, I i), (13, .slice (some ⟨β38, 0, none⟩) 3 3), (12, .slice (some ⟨βp, 0, none⟩) 3 3)]) (fun _ => []) (fun i => 3 - i) 0 (Nat.zero_le _) ⟨rfl, rfl, rfl, trivial⟩ (by repeat (first | exact Sb.refl | refine Sb.skip rfl ?_)) ?_
  rintro i hi
  refine W.seq <| W.seq <| W.region rfl <| qm rfl rfl rfl <| qm rfl rfl rfl ?_
  refine o1 (y_len rfl rfl) rfl ?_
  refine o1 (y_lss rfl rfl rfl) rfl ?_
  refine Ops.nil <| thn_n ?_
  refine W.condp rfl (fun c42 => ?_) (fun c42 => ?_)
  ·have hi1 : i < 3 := by omega
   obtain ⟨p, hp, -⟩ := has (show i < PL.length by omega)
   obtain ⟨xfs, xss, hxf, hxs, hxn⟩ := each i p hp
   obtain ⟨b, off, c, E, fz, hae, hb, hx, hyp, -⟩ := hps.at hp
   cases hae
   have hx1 : c.extract (0 + i * 2) (0 + i * 2 + 2) = #[.slice p.f.a p.f.n p.f.cap, .slice p.s.a p.s.n p.s.cap] := hx
   obtain ⟨n, hn, -⟩ := has (show i < ML.length by omega)
   obtain ⟨b, off, c3, E3, fz3, hae, hb3, -, hyn, hz3⟩ := hns.at hn
   cases hae
   have hx3 : c3[0 + i * 1 + 0]? = some (I n) := hz3 0 (by decide)
   clear hx hz3
   refine W.skip <| thn_n <| W.seq <| W.block <| W.seq <| W.region rfl <| qm rfl rfl rfl <| qm rfl rfl rfl ?_
   first | refine o1 (yix rfl rfl rfl) rfl ?_ | refine o1 (yixI rfl rfl rfl) rfl ?_
   first | refine o1 (yldW rfl rfl) rfl ?_ | refine o1 (yldA rfl rfl) rfl ?_
   refine c0 (fun h' hE hL => DupPlant_fn _ h' xfs xss _ _ (hxf.ext hE) (hxs.ext hE) (by omega)) (fun v A' hv => ?_)
   obtain ⟨yf, ys, Syf, Sys, rfl, ⟨hYf, hYs⟩, hbA⟩ := hv
   obtain ⟨yfa, yfc, rfl⟩ := hYf.isSl
   obtain ⟨ysa, ysc, rfl⟩ := hYs.isSl
   refine Ops.sb (F' := Syf ++ Sys) (Sb.right hbA .nil) ?_
   refine Ops.new (fun β15 => ?_)
   first | refine Ops.stoW ?_ | refine Ops.stoA ?_
   refine Ops.nil <| thn_n ?_
   refine freezeAt hYf (.tail .head) (fun w2 hW2 hsyf zyf => ?_)
   refine freezeAt hYs (.tail .all) (fun w3 hW3 hsys zys => ?_)
   refine freezeK (b := β15) Kn.nil rfl .head (fun w4 hK => ?_)
   show W ⟨prog, main, n_law_FloorLates, F_law_FloorLates.ntmps, none, w4⟩ _ _ _ _ _
   have f3 := hK.ext
   have f2 := hW3.trans f3
   have f0 := hW2.trans f2
   have hb11 : w4 β15 = some (.cells #[.slice yfa xfs.length yfc, .slice ysa xss.length ysc] t_Plant (0, 0)) := (hK.all _ (.head _)).1
   clear hK
   replace hsyf := hsyf.ext f2
   replace hsys := hsys.ext f3
   replace zyf := zyf.ext f2
   replace zys := zys.ext f3
   replace hxf := hxf.ext f0
   replace hxs := hxs.ext f0
   replace hb := f0.1 _ _ hb
   replace hb3 := f0.1 _ _ hb3
   have hgw := f0.1 _ _ hg9
   have hzw := f0.2 _ z9
   refine W.seq ?_
   obtain ⟨l1, l2, hlv⟩ : ∃ a b, lateV xfs xss = (a, b) := ⟨_, _, rfl⟩
   obtain ⟨v1, v2, hvv⟩ : ∃ a b, verdV xfs xss n = (a, b) := ⟨_, _, rfl⟩
   refine W.region rfl ?_
   first | refine o1 (yldW rfl rfl) rfl ?_ | refine o1 (yldA rfl rfl) rfl ?_
   refine cp (u := .tuple #[I l1, I l2]) (fun h' hE hL => ?_) ?_
   ·have := Late_fn main h' xfs xss _ _ Eg zg (hsyf.ext hE) (hsys.ext hE) (hE.1 _ _ hgw)
    rw [lateV_eq] at hlv
    obtain ⟨e1, e2⟩ := Prod.mk.inj hlv
    rw [e1, e2] at this
    exact this
   refine qm rfl rfl rfl <| oq (y_extract rfl rfl rfl) rfl wn rfl rfl <| oq (y_extract rfl rfl rfl) rfl wn rfl rfl <| qs rfl rfl rfl <| qs rfl rfl rfl <| Ops.nil <| thn_n <| W.seq <| W.region rfl <| qm rfl rfl rfl ?_
   refine qm rfl rfl rfl ?_
   first | refine o1 (yix rfl rfl rfl) rfl ?_ | refine o1 (yixI rfl rfl rfl) rfl ?_
   first | refine o1 (yldW rfl rfl) rfl ?_ | refine o1 (yldA rfl rfl) rfl ?_
   refine cp (u := .tuple #[I l1, I l2]) (fun h' hE hL => ?_) ?_
   ·have := RLate_fn main h' xfs xss _ _ (hxf.ext hE) (hxs.ext hE)
    rw [hlv] at this
    exact this
   refine qm rfl rfl rfl <| oq (y_extract rfl rfl rfl) rfl wn rfl rfl <| oq (y_extract rfl rfl rfl) rfl wn rfl rfl <| qs rfl rfl rfl <| qs rfl rfl rfl <| Ops.nil <| thn_n <| W.seq ?_
   refine W.drawL [] (n := 11) rfl ?_
   first | refine a1 0 (yldW rfl rfl) rfl ?_ | refine a1 0 (yldA rfl rfl) rfl ?_
   refine a1 1 (y_move rfl rfl) rfl ?_
   refine a1 2 (y_move rfl rfl) rfl ?_
   first | refine a1 3 (yix rfl rfl rfl) rfl ?_ | refine a1 3 (yixI rfl rfl rfl) rfl ?_
   refine a1 4 (yld rfl rfl) rfl ?_
   refine acp (i := 5) (u := .tuple #[I v1, I v2]) (vs := [.agg #[.slice yfa xfs.length yfc, .slice ysa xss.length ysc], I n]) (fun h' hE hL => ?_) ?_
   ·have := VerdictG_fn _ hS hmb h' xfs xss n _ _ Eg zg (hsyf.ext hE) (hsys.ext hE) (zyf.ext hE) (zys.ext hE) (by omega) (hE.1 _ _ hgw) (hE.2 _ hzw)
    rw [hvv] at this
    exact this
   refine a1 6 (y_move rfl rfl) rfl ?_
   refine a1 7 (y_extract rfl rfl rfl) rfl ?_
   refine a1 8 (y_extract rfl rfl rfl) rfl ?_
   refine a1 9 (y_assign rfl rfl) rfl ?_
   refine a1 10 (y_assign rfl rfl) rfl ?_
   refine az ?_
   refine thn_n <| W.seq ?_
   refine W.drawL [] (n := 14) rfl ?_
   refine a1 0 (y_move rfl rfl) rfl ?_
   refine a1 1 (y_move rfl rfl) rfl ?_
   first | refine a1 2 (yix rfl rfl rfl) rfl ?_ | refine a1 2 (yixI rfl rfl rfl) rfl ?_
   first | refine a1 3 (yldW rfl rfl) rfl ?_ | refine a1 3 (yldA rfl rfl) rfl ?_
   refine a1 4 (y_move rfl rfl) rfl ?_
   refine a1 5 (y_move rfl rfl) rfl ?_
   first | refine a1 6 (yix rfl rfl rfl) rfl ?_ | refine a1 6 (yixI rfl rfl rfl) rfl ?_
   refine a1 7 (yld rfl rfl) rfl ?_
   refine acp (i := 8) (u := .tuple #[I v1, I v2]) (vs := [.agg #[.slice p.f.a p.f.n p.f.cap, .slice p.s.a p.s.n p.s.cap], I n]) (fun h' hE hL => ?_) ?_
   ·have := RVerdict_fn main h' xfs xss n _ _ (hxf.ext hE) (hxs.ext hE) (by omega)
    rw [hvv] at this
    exact this
   refine a1 9 (y_move rfl rfl) rfl ?_
   refine a1 10 (y_extract rfl rfl rfl) rfl ?_
   refine a1 11 (y_extract rfl rfl rfl) rfl ?_
   refine a1 12 (y_assign rfl rfl) rfl ?_
   refine a1 13 (y_assign rfl rfl) rfl ?_
   refine az ?_
   refine thn_n <| W.seq ?_
   refine W.drawL [] (n := 27) rfl ?_
   refine a1 0 (y_move rfl rfl) rfl ?_
   refine a1 1 (y_move rfl rfl) rfl ?_
   refine a1 2 ((y_neq rfl rfl rfl).eq (u := .bool false) (by simp)) rfl ?_
   refine a1 3 (y_move rfl rfl) rfl ?_
   refine aq (i := 4) (y_move rfl rfl) rfl (wantε_some rfl rfl rfl rfl) rfl rfl ?_
   refine aq (i := 5) (y_move rfl rfl) rfl (wantε_some rfl rfl rfl rfl) rfl rfl ?_
   refine aq (i := 6) ((y_neq rfl rfl rfl).eq (u := .bool false) (by simp)) rfl (wantε_some rfl rfl rfl rfl) rfl rfl ?_
   refine a1 7 (y_pickF rfl rfl rfl) rfl ?_
   refine a1 8 (y_move rfl rfl) rfl ?_
   refine aq (i := 9) (y_move rfl rfl) rfl (wantε_some rfl rfl rfl rfl) rfl rfl ?_
   refine aq (i := 10) (y_move rfl rfl) rfl (wantε_some rfl rfl rfl rfl) rfl rfl ?_
   refine aq (i := 11) ((y_neq rfl rfl rfl).eq (u := .bool false) (by simp)) rfl (wantε_some rfl rfl rfl rfl) rfl rfl ?_
   refine a1 12 (y_pickF rfl rfl rfl) rfl ?_
   refine a1 13 (y_move rfl rfl) rfl ?_
   refine aq (i := 14) (y_move rfl rfl) rfl (wantε_some rfl rfl rfl rfl) rfl rfl ?_
   refine aq (i := 15) (y_move rfl rfl) rfl (wantε_some rfl rfl rfl rfl) rfl rfl ?_
   refine aq (i := 16) ((y_neq rfl rfl rfl).eq (u := .bool false) (by simp)) rfl (wantε_some rfl rfl rfl rfl) rfl rfl ?_
   refine a1 17 (y_pickF rfl rfl rfl) rfl ?_
   refine a1 18 (y_move rfl rfl) rfl ?_
   first | refine aq (i := 19) (yldW rfl rfl) rfl (wantε_some rfl rfl rfl rfl) rfl rfl ?_ | refine aq (i := 19) (yldA rfl rfl) rfl (wantε_some rfl rfl rfl rfl) rfl rfl ?_
   refine aq (i := 20) (y_move rfl rfl) rfl (wantε_some rfl rfl rfl rfl) rfl rfl ?_
   refine aq (i := 21) (y_move rfl rfl) rfl (wantε_some rfl rfl rfl rfl) rfl rfl ?_
   first | refine aq (i := 22) (yix rfl rfl rfl) rfl (wantε_some rfl rfl rfl rfl) rfl rfl ?_ | refine aq (i := 22) (yixI rfl rfl rfl) rfl (wantε_some rfl rfl rfl rfl) rfl rfl ?_
   first | refine aq (i := 23) (yldW rfl rfl) rfl (wantε_some rfl rfl rfl rfl) rfl rfl ?_ | refine aq (i := 23) (yldA rfl rfl) rfl (wantε_some rfl rfl rfl rfl) rfl rfl ?_
   refine acp (i := 24) (u := .bool true) (vs := [.agg #[.slice yfa xfs.length yfc, .slice ysa xss.length ysc], .agg #[.slice p.f.a p.f.n p.f.cap, .slice p.s.a p.s.n p.s.cap]]) (fun h' hE hL => EqPlants_fn _ h' xfs xss _ _ _ _ (hsyf.ext hE) (hsys.ext hE) (hxf.ext hE) (hxs.ext hE) (by omega)) ?_
   refine aq (i := 25) (y_not rfl rfl) rfl (wantε_some rfl rfl rfl rfl) rfl rfl ?_
   refine a1 26 (y_pickF rfl rfl rfl) rfl ?_
   refine az ?_
   refine thn_n ?_
   refine W.condF ?_
   refine W.skip <| blk_n <| thn_n <| W.region rfl <| qm rfl rfl rfl ?_
   first | refine o1 (yadd rfl rfl rfl) rfl ?_ | refine o1 (y_addw rfl rfl rfl) rfl ?_
   refine qs rfl rfl rfl <| Ops.nil <| thn_n ?_
   exact ⟨rfl, i + 1, by omega, by omega, ⟨rfl, rfl, rfl, trivial⟩, .refl⟩
  ·refine W.exit <| thn_x <| thn_x <| blk_x <| thn_n <| W.seq <| W.region rfl ?_
   refine cp (fun h' hE hL => exs_fn _ hS hmb h' Eg zg (hE.1 _ _ hg9) (hE.2 _ z9)) ?_
   refine qs rfl rfl rfl <| Ops.nil <| thn_n <| W.ret ?_
   exact lvq rfl
end Go.Mus

/- FloorLates's card. Conditions: as the card says; over the given program. -/
namespace Go.Proofs.YtnffnndmilpnoaaGreatDoor
open Go Go.Mus
set_option maxRecDepth 100000
set_option maxHeartbeats 4000000
theorem floorLates_args (main : Side) (hS : ∀ S, main.ok S → ∃ Fin, S = Mn prog Fin) (hmb : main.b = true) (h : Hp) : ∀ (args : List Value) (_ : ArgsOK h [t_Plant, t_Floor, t_Strike, t_int, t_sl_int] args) (Eg : TypeId) (zg : Nat × Nat) (_ : h 0 = some (.cells #[rtV t_error] Eg zg)) (_ : h.z 0), TopV prog main n_law_FloorLates args.toArray h (.bool true)
 | [v0, v1, v2, v3, v4], ⟨h0, h1, h2, h3, h4, _⟩, Eg, zg, hg, z0 => by
  obtain ⟨vf0, vs0, fs0, ss0, rfl, hf0, hs0⟩ := h0.plant rfl
  obtain ⟨f1, rfl⟩ := h1.floor rfl
  obtain ⟨s2, rfl⟩ := h2.strike rfl
  obtain ⟨n3, rfl⟩ := h3.int rfl
  obtain ⟨x4, hx4⟩ := h4.ints rfl
  apply FloorLates_top main hS hmb h
  all_goals first | assumption | exact hg | exact z0
 | [], h, _, _, _, _ => h.elim
 | [v0], ⟨h0, h⟩, _, _, _, _ => h.elim
 | [v0, v1], ⟨h0, h1, h⟩, _, _, _, _ => h.elim
 | [v0, v1, v2], ⟨h0, h1, h2, h⟩, _, _, _, _ => h.elim
 | [v0, v1, v2, v3], ⟨h0, h1, h2, h3, h⟩, _, _, _, _ => h.elim
 | v0 :: v1 :: v2 :: v3 :: v4 :: v5 :: r, ⟨h0, h1, h2, h3, h4, h⟩, _, _, _, _ => h.elim
theorem floorLates_row : Rows.FloorLatesSaid :=
 OpenClaim.holds_of_wide_leaving n_law_FloorLates F_law_FloorLates rfl rfl rfl rfl rfl rfl rfl ⟨rfl, rfl, rfl, rfl, rfl⟩ rfl rfl rfl rfl rfl (by kernel_rfl) at_law_FloorLates (by kernel_rfl)
  (of_decide_eq_true (by kernel_rfl)) (by unfold Func.isWrapper; first | (rw [if_pos (by decide +kernel)]; kernel_rfl) | (rw [if_neg (by decide +kernel)]; exact ⟨rfl, rfl⟩))
  (fun os started H enc _ => liftN (s := Rows.floorLatesSpec) os started H enc at_law_FloorLates (by kernel_rfl) [t_Plant, t_Floor, t_Strike, t_int, t_sl_int] (by kernel_rfl) (fun t ht => by
    have h0 : ([t_Plant, t_Floor, t_Strike, t_int, t_sl_int] : List TypeId).all (fun t => prog.readableRec t && Nat.blt t prog.types.size) = true := by kernel_rfl
    have h1 := List.all_eq_true.1 h0 t ht
    rw [Bool.and_eq_true] at h1
    exact ⟨h1.1, Nat.le_of_ble_eq_true h1.2⟩) (by kernel_rfl) (by kernel_rfl) rfl (fun ds hd => by
    match ds, hd with
    | [d0, d1, d2, d3, d4], _ => rfl)
   (ChangeSpec.witness_at (enc := enc) (C := Tryz.checked) (os := os) (X := fun w _ => laidMetH prog laid0 w) false (laidWorld os) #[.agg #[.slice none 0 0, .slice none 0 0], .agg #[I 0, I 0, I 0, I 0], .agg #[I 0, I 0, I 0], I 0, .slice none 0 0] 8 rfl (by kernel_rfl) (by kernel_rfl) (by kernel_rfl) (by kernel_rfl) (by kernel_rfl) (laidWorld_met os _))
   (fun main hS hmb h args ha Eg zg hg z0 => floorLates_args main hS hmb h args ha Eg zg hg z0))

theorem FloorLates_card : Rows.FloorLatesCardSaid :=
 tied_goes .later [] [.handle] true (true, "932c88532bdd9f747448356d9505525067ce9e853f4d287a395f8a57faaf4fbd") true
  floorLates_row (fun _ h => by cases h) (by kernel_rfl) (fun _ h => by cases h) floorLates_row_tie rfl ⟨rfl, rfl⟩ (by kernel_rfl) rfl
  (fun f fn hf hfn => by
   obtain rfl : f = n_law_FloorLates := (Option.some.inj ((show prog.funcNamed Rows.floorLatesRow.func = some n_law_FloorLates by kernel_rfl).symm.trans hf)).symm
   obtain rfl : fn = F_law_FloorLates := (Option.some.inj (at_law_FloorLates.symm.trans hfn)).symm
   exact ⟨by kernel_rfl, fun j t ht => by
    rw [← Array.getElem?_toList, show (F_law_FloorLates).params.toList = [t_Plant, t_Floor, t_Strike, t_int, t_sl_int] by kernel_rfl] at ht
    have h3 := List.mem_of_getElem? ht
    simp only [List.mem_cons, List.not_mem_nil, or_false] at h3
    rcases h3 with rfl | rfl | rfl | rfl | rfl <;> (show prog.wantsStandIn _ = false; kernel_rfl)⟩)
  (by kernel_rfl)
#print axioms FloorLates_card
end Go.Proofs.YtnffnndmilpnoaaGreatDoor
