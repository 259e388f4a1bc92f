/- The document's first strike that must wait, and its verdict. Conditions: none; over the given program. (And 4 texts more.) -/
import Derived.Test.YtnffnndmilpnoaaGreatDoorFloorNeedsQ5
import Derived.Test.YtnffnndmilpnoaaGreatDoorFloorNeedsQ2
import Derived.Test.YtnffnndmilpnoaaGreatDoorFloorNeedsQ3
set_option linter.unusedVariables false
set_option linter.unusedSimpArgs false
set_option linter.unusedSectionVars false

/- The document's first strike that must wait, and its verdict. Conditions: none; over the given program. -/
namespace Go.Mus
set_option maxRecDepth 100000
set_option maxHeartbeats 40000000
theorem Rserved_fn (main : Side) (h : Hp) (fs : List Fl) (ss : List St) (n : Nat) (vf vs : Value) (hf : Sl h Fl.row vf fs) (hs : Sl h St.row vs ss) (hall : HallOK fs ss) : Pu prog main n_ref_served #[.agg #[vf, vs], I n] h (.bool (someR fs ss (lateM n))) := by
 have hns := hall.ns
 obtain ⟨a, cap, rfl⟩ := hf.isSl
 obtain ⟨a', cap', rfl⟩ := hs.isSl
 have hpn := pad_nil (ss := ss) hall.nf.1
 have hsm := late_some (n := n) hall
 have hlen := plansF_len (fs := fs) (ss := ss) (u := n) hall ss.length [] (by simp)
 have hlen2 := Nat.le_trans hlen (pow13 hns)
 have hmem : ∀ g, g ∈ plansF fs ss n ss.length [] → g ∈ listF fs ss ss.length := fun g hg => by rw [← ext_nil]; exact plans_sub _ _ g hg
 refine Fnc.of_body at_ref_served rfl (by show 2 ≤ 29; decide) [(0, .agg #[.slice a fs.length cap, .slice a' ss.length cap']), (1, I n)] ⟨rfl, rfl, trivial⟩ ?_
 refine W.seq <| W.region rfl ?_
 refine Ops.box (cs := #[.slice a fs.length cap, .slice a' ss.length cap']) (fun β2 => ?_) rfl rfl rfl
 refine qs rfl rfl rfl <| nn <| W.seq <| W.region rfl ?_
 refine lq rfl ?_
 refine qm rfl rfl rfl ?_
 refine c0 (fun h' hE hL => Plans_fn main fs ss n hall ss.length h' [] [] _ _ (.slice none 0 0) (hf.ext hE) (hs.ext hE) (.nil .nil) (by simp) hpn) (fun v A' hv => ?_)
 obtain ⟨O, us, B, hO, hB, hsb⟩ := hv
 obtain ⟨ua, uc, rfl⟩ := hO.isSl
 refine Ops.sb (F' := (β2, .cells #[.slice a fs.length cap, .slice a' ss.length cap'] t_Plant (0, 0)) :: (O ++ B)) (Sb.trans (.of_perm (List.perm_append_comm (l₁ := [_]))) (hsb.app .refl)) ?_
 refine qs rfl rfl rfl <| nn ?_
 have hul := hB.len
 generalize hLL : plansF fs ss n ss.length [] = LL at *
 refine W.freeze (b := β2) rfl (fun g1 hE1 hb2 _ => ?_)
 refine freezeOs hO (fun g2 hE2 hslO _ => ?_)
 have hE0 := hE1.trans hE2
 replace hb2 := hE2.1 _ _ hb2
 refine W.seq <| W.seq <| W.region rfl <| qs rfl rfl rfl <| nn <| W.block ?_
 refine W.loop (σ := Nat) (fun i => i ≤ us.length ∧ ∀ g ∈ LL.take i, isR fs ss g = false) (fun i => [(6, I i), (5, .slice ua us.length uc), (2, .pointer (some ⟨β2, 0, none⟩))]) (fun _ => B) (fun i => us.length - i) 0 ⟨Nat.zero_le _, fun g hg => by simp at hg⟩ ⟨rfl, rfl, rfl, trivial⟩ .refl ?_
 rintro i ⟨hi, hno⟩
 refine W.seq <| W.seq <| W.region rfl <| qm rfl rfl rfl <| qm rfl rfl rfl ?_
 refine o1 (y_len rfl rfl) rfl ?_
 refine o1 (y_lss rfl rfl rfl) rfl ?_
 refine nn ?_
 refine W.condp rfl (fun c15 => ?_) (fun c15 => ?_)
 ·have hi1 : i < us.length := by omega
  obtain ⟨g, hgk, -⟩ := has (show i < LL.length by omega)
  obtain ⟨s, hs0, -⟩ := has hi1
  obtain ⟨bo, offo, co, Eo, fzo, rfl, hbo, -, hyo, hzo⟩ := hslO.at hs0
  have hcell : co[offo + i * 1 + 0]? = some (.slice s.a s.n s.cap) := hzo 0 (by decide)
  clear hzo
  have hgm := hmem g (List.mem_of_getElem? hgk)
  have hgp := ext_plan hall ss.length [] g (by simp) hpn (by rw [ext_nil]; exact hgm)
  have hgn := listF_len _ g hgm
  have htk := take_next hgk
  have hslg : ∀ h', Lent B h' → Sl h' Be.row s.val g := fun h' hL => hB.sl hL hs0 hgk
  refine W.skip <| thn_n <| W.seq <| W.block <| W.seq ?_
  refine W.drawL [] (n := 11) rfl ?_
  first | refine a1 0 (yldW rfl rfl) rfl ?_ | refine a1 0 (yldA rfl rfl) rfl ?_
  refine a1 1 (y_move rfl rfl) rfl ?_
  refine a1 2 (y_move rfl rfl) rfl ?_
  first | refine a1 3 (yix rfl rfl rfl) rfl ?_ | refine a1 3 (yixI rfl rfl rfl) rfl ?_
  refine a1 4 (yld rfl rfl) rfl ?_
  refine ae (i := 5) rfl an rfl rfl (e_call0 (args := [_, _]) (vs := [.agg #[.slice a fs.length cap, .slice a' ss.length cap'], s.val]) rfl rfl (fun h' hE hL => RwrongP_fn _ h' fs ss g _ _ _ (hf.ext (hE0.trans hE)) (hs.ext (hE0.trans hE)) (hslg h' hL) hall hgp hgn) (fun v A' hv => ?_))
  obtain ⟨x1, x2, rfl, hM, hsh⟩ := hv
  have hwi := wrong_isR hall hgp hgn hM
  refine ⟨.inr Keeps.nil, Any.sb (Sb.left .refl hsh) ?_⟩
  refine a1 6 (y_move rfl rfl) rfl ?_
  refine a1 7 (y_extract rfl rfl rfl) rfl ?_
  refine a1 8 (y_extract rfl rfl rfl) rfl ?_
  refine a1 9 (y_assign rfl rfl) rfl ?_
  refine a1 10 (y_assign rfl rfl) rfl ?_
  refine az ?_
  refine thn_n <| W.seq <| W.region rfl <| qm rfl rfl rfl ?_
  refine o1 (y_lss rfl rfl rfl) rfl ?_
  refine nn ?_
  refine W.condp rfl (fun c28 => ?_) (fun c28 => ?_)
  ·refine W.seq <| W.region rfl <| qs rfl rfl rfl <| nn <| W.ret <| blk_r <| thn_r <| thn_r <| blk_r ?_
   refine thn_r ?_
   have hR : isR fs ss g = true := hwi.1 (by omega)
   have : LL.any (isR fs ss) = true := List.any_eq_true.2 ⟨g, List.mem_of_getElem? hgk, hR⟩
   rw [hsm, this]
   exact lvp (hs := hB.shut) rfl
  ·refine W.skip <| blk_n <| thn_n <| W.region rfl <| qm rfl rfl rfl ?_
   refine pq rfl ?_
   refine qs rfl rfl rfl <| nn ?_
   have hR : isR fs ss g = false := by
    cases hx : isR fs ss g with
    | false => rfl
    | true => have := hwi.2 hx; omega
   exact ⟨rfl, i + 1, ⟨by omega, fun q hq => by
    rw [htk] at hq
    rcases List.mem_append.1 hq with hq | hq
    ·exact hno q hq
    ·have : q = g := by simpa using hq
     rw [this]; exact hR⟩, by omega, ⟨rfl, rfl, rfl, trivial⟩, .refl⟩
 ·have hie : i = us.length := by omega
  subst hie
  rw [hul, List.take_length] at hno
  refine W.exit <| thn_x <| thn_x <| blk_x <| thn_n <| W.seq <| W.region rfl <| qs rfl rfl rfl <| nn ?_
  refine W.ret ?_
  have : LL.any (isR fs ss) = false := List.any_eq_false.2 fun q hq => by rw [hno q hq]; decide
  rw [hsm, this]
  exact lvp (hs := hB.shut) rfl

end Go.Mus

/- A plant with another floor; whether all strikes can be set; the patience, as the document says it. Conditions: none; over the given program. -/
namespace Go.Mus
set_option maxRecDepth 100000
set_option maxHeartbeats 40000000
theorem rights_may {fs : List Fl} {ss : List St} {may may' : May} (he : ∀ i, i < ss.length → may i = may' i) : ∀ m k p, k + m ≤ ss.length → rights fs ss may m k p = rights fs ss may' m k p
 | 0, k, p, _ => by rw [rights, rights]
 | m + 1, k, p, h => by
  rw [rights, rights]
  have e : berthsK fs ss may k = berthsK fs ss may' k := by simp only [berthsK, he k (by omega)]
  rw [e]
  refine fm_congr fun b hb => ?_
  split
  ·rfl
  ·exact rights_may he m (k + 1) _ (by omega)
theorem some_last {fs : List Fl} {ss : List St} (h : 0 < ss.length) : someR fs ss (lateM (ss.length - 1)) = someR fs ss boundM := by
 have e : rightsOf fs ss (lateM (ss.length - 1)) [] = rightsOf fs ss boundM [] := by
  rw [rightsOf, rightsOf]
  exact rights_may (fun i hi => by simp [lateM, boundM]; omega) _ _ _ (by simp)
 rw [someR, e, someR]
theorem some_nil {fs : List Fl} {ss : List St} {may : May} (hall : HallOK fs ss) (h : ss.length = 0) : someR fs ss may = true := by
 obtain rfl := List.eq_nil_of_length_eq_zero h
 have h0 := rights_p0 hall 0 0
 have e : rightsOf fs [] may [] = rights fs [] freeM 0 0 (padB []) := rfl
 rw [someR, e]
 cases hx : rights fs [] freeM 0 0 (padB []) with
 | nil => rw [hx] at h0; cases h0
 | cons a r => rfl
theorem RWith_fn (main : Side) (h : Hp) (fs : List Fl) (ss : List St) (k : Nat) (x g : Fl) (vf vs : Value) (hf : Sl h Fl.row vf fs) (hs : Sl h St.row vs ss) (hn : fs.length ≤ 1000) (hx : fs[k]? = some x) : Fnc prog main n_ref_With #[.agg #[vf, vs], I k, g.val] h [] (fun v A => ∃ vf' S, v = .agg #[vf', vs] ∧ Os t_Floor Fl.row vf' (fs.set k g) S ∧ Sb S A) := by
 obtain ⟨a, cap, rfl⟩ := hf.isSl
 obtain ⟨a', cap', rfl⟩ := hs.isSl
 refine Fnc.of_body at_ref_With rfl (by show 3 ≤ 18; decide) [(0, .agg #[.slice a fs.length cap, .slice a' ss.length cap']), (1, I k), (2, g.val)] ⟨rfl, rfl, rfl, trivial⟩ ?_
 refine W.seq <| W.region rfl ?_
 refine Ops.box (cs := #[.slice a fs.length cap, .slice a' ss.length cap']) (fun β3 => ?_) rfl rfl rfl
 refine Ops.box (cs := #[I g.pl, I g.lo, I g.hi, I g.co]) (fun β5 => ?_) rfl rfl rfl
 refine Ops.new (fun β6 => ?_)
 refine nn <| W.seq <| W.region rfl ?_
 refine Ops.bsl0 (fun β7 => ?_)
 refine fq rfl ?_
 refine dq rfl ?_
 have hO : Os t_Floor Fl.row (.slice (some ⟨β7, 0, none⟩) 0 0) ([] : List Fl) [(β7, .cells #[] t_Floor (0, 0))] := .inr ⟨β7, #[], 0, [], rfl, rfl, rfl, Nat.le_refl _, Part.all [], .nil⟩
 refine oe rfl wn rfl rfl (e_append (row := Fl.row) (l := []) (l' := fs) rfl rfl rfl hO .head (fun h2 hE hl => hf.ext hE) (by simp; omega) (by decide) rfl (fun v' S hS => ?_))
 rw [List.nil_append] at hS
 refine Ops.perm (List.perm_append_comm (l₁ := [_, _, _])) ?_
 obtain ⟨a3, cap3, rfl⟩ := hS.isSl
 rcases hS with ⟨hnil, _, _⟩ | ⟨β, c, cp, J, hv, rfl, hc1, hc2, hP, hJ⟩
 ·rw [hnil] at hx; simp at hx
 obtain ⟨rfl, rfl⟩ : a3 = some ⟨β, 0, none⟩ ∧ cap3 = cp := by injection hv with e1 e2 e3; exact ⟨e1, e3⟩
 have hk := lt_of_get hx
 have hP2 := hP.setF (y := g) hx
 have hsz := (hP.rowE hx).2
 refine fq rfl ?_
 refine Ops.sto ?_
 refine nn <| W.seq <| W.region rfl ?_
 refine fq rfl ?_
 refine dq rfl ?_
 refine qm rfl rfl rfl ?_
 refine lq rfl ?_
 refine xq rfl ?_
 first | refine Ops.stoW ?_ | refine Ops.stoA ?_
 refine nn <| W.seq <| W.region rfl ?_
 refine lq rfl ?_
 first | refine Ops.stoW ?_ | refine Ops.stoA ?_
 refine nn <| W.ret ?_
 refine lvc (hv := rAgg rNil) ⟨.slice (some ⟨β, 0, none⟩) fs.length cap3, (β, _) :: J, rfl, .inr ⟨β, _, cap3, J, by simp, rfl, by rw [putAll_size]; exact hc1, by simpa using hc2, hP2, hJ⟩, .skip rfl (.skip rfl (.skip rfl .refl))⟩
theorem Rall_fn (main : Side) (h : Hp) (fs : List Fl) (ss : List St) (vf vs : Value) (hf : Sl h Fl.row vf fs) (hs : Sl h St.row vs ss) (hall : HallOK fs ss) : Pu prog main n_ref_all #[.agg #[vf, vs]] h (.bool (someR fs ss boundM)) := by
 obtain ⟨a, cap, rfl⟩ := hf.isSl
 obtain ⟨a', cap', rfl⟩ := hs.isSl
 refine Fnc.of_body at_ref_all rfl (by show 1 ≤ 15; decide) [(0, .agg #[.slice a fs.length cap, .slice a' ss.length cap'])] ⟨rfl, trivial⟩ ?_
 refine W.seq <| W.region rfl ?_
 refine Ops.box (cs := #[.slice a fs.length cap, .slice a' ss.length cap']) (fun β1 => ?_) rfl rfl rfl
 refine qs rfl rfl rfl <| nn <| W.seq <| W.region rfl ?_
 refine fq rfl ?_
 refine dq rfl ?_
 refine o1 (y_len rfl rfl) rfl ?_
 refine o1 (y_eql rfl rfl rfl) rfl ?_
 refine qm rfl rfl rfl ?_
 refine Ops.ask (fun a1_5 => ?_) (fun a1_5 => ?_)
 ·refine Ops.no ?_
  refine Ops.no ?_
  refine Ops.no ?_
  refine Ops.no ?_
  refine Ops.no ?_
  refine Ops.no ?_
  refine o1 (y_pickT rfl rfl rfl) rfl ?_
  refine qs rfl rfl rfl <| nn <| W.ret ?_
  refine lvp (hs := .cons rfl .nil) ?_
  first | (rw [some_nil hall (by omega)]; rfl) | exact rfl
 ·first | refine oq (yldW rfl rfl) rfl (want_some rfl rfl rfl) rfl rfl ?_ | refine oq (yldA rfl rfl) rfl (want_some rfl rfl rfl) rfl rfl ?_
  refine oq (y_fieldAddr rfl rfl) rfl (want_some rfl rfl rfl) rfl rfl ?_
  refine oq (yld rfl rfl) rfl (want_some rfl rfl rfl) rfl rfl ?_
  refine oq (y_len rfl rfl) rfl (want_some rfl rfl rfl) rfl rfl ?_
  first | refine oq (ysub rfl rfl rfl) rfl (want_some rfl rfl rfl) rfl rfl ?_ | refine oq (y_subw rfl rfl rfl) rfl (want_some rfl rfl rfl) rfl rfl ?_
  refine cp (u := .bool (someR fs ss boundM)) (fun h' hE hL => ?_) ?_ (hw := want_some rfl rfl rfl)
  ·have hp : 0 < ss.length := by omega
   have := Rserved_fn main h' fs ss (ss.length - 1) _ _ (hf.ext hE) (hs.ext hE) hall
   rw [some_last hp] at this
   have hns := hall.ns
   have e : IntKind.i64.wrap ((ss.length : Int) - 1) = ((ss.length - 1 : Nat) : Int) := by
    rw [show ((ss.length : Int) - 1) = ((ss.length - 1 : Nat) : Int) by omega]
    exact wrap_id (by omega) (by omega)
   rw [e]
   exact this
  refine o1 (y_pickF rfl rfl rfl) rfl ?_
  refine qs rfl rfl rfl <| nn <| W.ret ?_
  refine lvp (hs := .cons rfl .nil) ?_
  first | (rw [some_nil hall (by omega)]; rfl) | exact rfl
theorem RPatience_fn (main : Side) (h : Hp) (fs : List Fl) (ss : List St) (vf vs : Value) (hf : Sl h Fl.row vf fs) (hs : Sl h St.row vs ss) : Pu prog main n_ref_Patience #[.agg #[vf, vs]] h (.tuple #[I (patV fs ss).1, I (patV fs ss).2]) := by
 obtain ⟨a, cap, rfl⟩ := hf.isSl
 obtain ⟨a', cap', rfl⟩ := hs.isSl
 refine Fnc.of_body at_ref_Patience rfl (by show 1 ≤ 20; decide) [(0, .agg #[.slice a fs.length cap, .slice a' ss.length cap'])] ⟨rfl, trivial⟩ ?_
 refine W.seq <| W.region rfl ?_
 refine Ops.box (cs := #[.slice a fs.length cap, .slice a' ss.length cap']) (fun β1 => ?_) rfl rfl rfl
 refine qs rfl rfl rfl <| qs rfl rfl rfl <| nn <| W.seq <| W.seq <| W.region rfl ?_
 refine lq rfl ?_
 refine cp (fun h' hE hL => RCheck_fn _ h' _ _ _ _ (hf.ext hE) (hs.ext hE)) ?_
 refine qs rfl rfl rfl <| nn <| W.seq <| W.region rfl <| qm rfl rfl rfl ?_
 refine o1 (y_neq rfl rfl rfl) rfl ?_
 refine nn ?_
 refine W.condp rfl (fun c9 => ?_) (fun c9 => ?_)
 ·refine W.seq <| W.region rfl <| qm rfl rfl rfl <| qs rfl rfl rfl <| qs rfl rfl rfl <| nn <| W.ret <| thn_r ?_
  refine lvp (hs := .cons rfl .nil) ?_
  simp only [patV]; rw [if_pos c9]; rfl
 ·have hck : ckPlant fs ss = 0 := by simpa using c9
  refine W.skip <| thn_n <| W.seq <| W.seq <| W.region rfl <| qs rfl rfl rfl <| nn <| W.block ?_
  refine W.loop (σ := Nat) (fun k => k ≤ 3 ∧ ∀ i : Nat, i < k → someR fs (waitS ss (i : Int)) boundM = false) (fun k => [(5, I k), (1, .pointer (some ⟨β1, 0, none⟩))]) (fun _ => [(β1, .cells #[.slice a fs.length cap, .slice a' ss.length cap'] t_Plant (0, 0))]) (fun k => 3 - k) 0 ⟨by omega, fun i hi => by omega⟩ ⟨rfl, rfl, trivial⟩ .refl ?_
  rintro k ⟨hk3, hno⟩
  refine W.seq <| W.seq <| W.region rfl <| qm rfl rfl rfl ?_
  refine o1 (y_leq rfl rfl rfl) rfl ?_
  refine nn ?_
  refine W.condp rfl (fun c12 => ?_) (fun c12 => ?_)
  ·have hk2 : k ≤ 2 := by omega
   refine W.skip <| thn_n <| W.seq <| W.block <| W.seq <| W.region rfl ?_
   refine lq rfl ?_
   refine qm rfl rfl rfl ?_
   refine c0 (fun h' hE hL => Waiting_fn _ h' fs ss k _ _ (hf.ext hE) (hs.ext hE) hck (by omega) (by omega)) (fun v A' hv => ?_)
   obtain ⟨vs2, Ss2, rfl, hOs2, hsb⟩ := hv
   obtain ⟨a3, cap3, rfl⟩ := hOs2.isSl
   refine Ops.sb (hsb.app .refl) ?_
   refine cp (fun h' hE hL => Rall_fn _ h' fs (waitS ss k) _ _ (hf.ext hE) (hOs2.sl fun b o hb => hL b o (List.mem_append_left _ hb)) (hall_wait hck (by omega) (by omega))) ?_
   refine nn ?_
   refine W.cond rfl (fun c18 => ?_) (fun c18 => ?_)
   ·refine W.seq <| W.region rfl <| qm rfl rfl rfl <| qs rfl rfl rfl <| qs rfl rfl rfl <| nn <| W.ret <| blk_r <| thn_r ?_
    refine thn_r <| blk_r <| thn_r ?_
    have hpat := pat_at hck (by omega) c18 hno
    refine lvp (hs := hOs2.shut.app (.cons rfl .nil)) ?_
    rw [hpat]; rfl
   ·refine W.skip <| blk_n <| thn_n <| W.region rfl <| qm rfl rfl rfl ?_
    refine pq rfl ?_
    refine qs rfl rfl rfl <| nn ?_
    refine ⟨rfl, k + 1, ⟨by omega, fun j hj => ?_⟩, by omega, ⟨rfl, rfl, trivial⟩, (Sb.nil hOs2.shut).app .refl⟩
    by_cases e : j = k
    ·subst e; exact c18
    ·exact hno j (by omega)
  ·have hpat := pat_no hck (fun i hi => hno i (by omega))
   refine W.exit <| thn_x <| thn_x <| blk_x <| thn_n <| W.seq <| W.region rfl <| qs rfl rfl rfl <| qs rfl rfl rfl <| Ops.nil ?_
   refine thn_n <| W.ret ?_
   refine lvp (hs := .cons rfl .nil) ?_
   rw [hpat]; rfl
end Go.Mus

/- The places and the slower floor, as the document says them. Conditions: none; over the given program. -/
namespace Go.Mus
set_option maxRecDepth 100000
set_option maxHeartbeats 40000000
def needG (fs : List Fl) (ss : List St) (f : Int) : Int × Int := if ckPlant fs ss ≠ 0 then (0, ckPlant fs ss) else if outs f 0 ((fs.length : Int) - 1) then (0, 3) else needV fs ss f
def slowG (fs : List Fl) (ss : List St) (f : Int) : Int × Int := if ckPlant fs ss ≠ 0 then (0, ckPlant fs ss) else if outs f 0 ((fs.length : Int) - 1) then (0, 3) else (slowV fs ss f, 0)
def begV (fs : List Fl) (ss : List St) (f : Int) : Int := if ckPlant fs ss ≠ 0 then ckPlant fs ss else if outs f 0 ((fs.length : Int) - 1) then 3 else 0

theorem RNeed_fn (main : Side) (h : Hp) (fs : List Fl) (ss : List St) (f : Int) (vf vs : Value) (hf : Sl h Fl.row vf fs) (hs : Sl h St.row vs ss) (hn : fs.length ≤ 1000) : Pu prog main n_ref_Need #[.agg #[vf, vs], I f] h (.tuple #[I (needG fs ss f).1, I (needG fs ss f).2]) := by
 obtain ⟨a, cap, rfl⟩ := hf.isSl
 obtain ⟨a', cap', rfl⟩ := hs.isSl
 refine Fnc.of_body at_ref_Need rfl (by show 2 ≤ 38; decide) [(0, .agg #[.slice a fs.length cap, .slice a' ss.length cap']), (1, I f)] ⟨rfl, rfl, trivial⟩ ?_
 refine W.seq <| W.region rfl ?_
 refine Ops.box (cs := #[.slice a fs.length cap, .slice a' ss.length cap']) (fun β2 => ?_) rfl rfl rfl
 refine qs rfl rfl rfl <| qs rfl rfl rfl <| nn <| W.seq <| W.seq <| W.region rfl ?_
 refine lq rfl ?_
 refine cp (fun h' hE hL => RCheck_fn _ h' _ _ _ _ (hf.ext hE) (hs.ext hE)) ?_
 refine qs rfl rfl rfl <| nn <| W.seq <| W.region rfl <| qm rfl rfl rfl ?_
 refine o1 (y_neq rfl rfl rfl) rfl ?_
 refine nn ?_
 refine W.condp rfl (fun c12 => ?_) (fun c12 => ?_)
 ·refine W.seq <| W.region rfl <| qm rfl rfl rfl <| qs rfl rfl rfl <| qs rfl rfl rfl <| nn <| W.ret <| thn_r ?_
  refine lvp (hs := .cons rfl .nil) ?_
  simp only [needG]; rw [if_pos c12]; rfl
 ·have hck : ckPlant fs ss = 0 := by simpa using c12
  refine W.skip <| thn_n <| W.seq <| W.seq <| W.region rfl <| qm rfl rfl rfl ?_
  refine fq rfl ?_
  refine dq rfl ?_
  refine o1 (y_len rfl rfl) rfl ?_
  refine mq rfl ?_
  refine cp (fun h' hE hL => among_fn _ h' f 0 ((fs.length : Int) - 1)) ?_
  refine o1 (y_not rfl rfl) rfl ?_
  refine nn ?_
  refine W.cond rfl (fun c20 => ?_) (fun c20 => ?_)
  ·refine W.seq <| W.region rfl <| qs rfl rfl rfl <| qs rfl rfl rfl <| nn <| W.ret <| thn_r ?_
   refine lvp (hs := .cons rfl .nil) ?_
   simp only [needG]; rw [if_neg c12, if_pos (by simpa using c20)]; rfl
  ·have hno : ¬ outs f 0 ((fs.length : Int) - 1) := by simpa using c20
   have hgg : needG fs ss f = needV fs ss f := by simp only [needG]; rw [if_neg (by simp [hck]), if_neg hno]
   obtain ⟨m, rfl⟩ : ∃ m : Nat, f = m := ⟨f.toNat, by unfold outs at hno; omega⟩
   have hm : m < fs.length := by unfold outs at hno; omega
   rw [hgg]
   clear hgg hno c20
   have hx := flAt_some (show (0 : Int) ≤ (m : Int) by omega) (show (m : Int) < fs.length by omega)
   rw [Int.toNat_natCast] at hx
   obtain ⟨x, hxe⟩ : ∃ x, flAt fs m = x := ⟨_, rfl⟩
   rw [hxe] at hx
   have hf' := hf
   obtain ⟨bf, off, c, E, fz, rfl, hb, hx1, hy1, hz1⟩ := hf'.at hx
   have hx2 : c.extract (off + m * 4) (off + m * 4 + 4) = #[I x.pl, I x.lo, I x.hi, I x.co] := hx1
   clear hx1 hz1
   refine W.skip <| thn_n <| W.seq <| W.seq <| W.region rfl <| qs rfl rfl rfl <| nn <| W.block ?_
   refine W.loop (σ := Nat) (fun k => k ≤ 9 ∧ ∀ i : Nat, i < k → someR (flS fs m (plF (1 + (i : Int)))) ss boundM = false) (fun k => [(7, I (1 + (k : Int))), (2, .pointer (some ⟨β2, 0, none⟩)), (1, I m)]) (fun _ => [(β2, .cells #[.slice (some ⟨bf, off, none⟩) fs.length cap, .slice a' ss.length cap'] t_Plant (0, 0))]) (fun k => 9 - k) 0 ⟨by omega, fun i hi => by omega⟩ ⟨rfl, rfl, rfl, trivial⟩ .refl ?_
   rintro k ⟨hk9, hno⟩
   refine W.seq <| W.seq <| W.region rfl <| qm rfl rfl rfl ?_
   refine o1 (y_leq rfl rfl rfl) rfl ?_
   refine nn ?_
   refine W.condp rfl (fun c22 => ?_) (fun c22 => ?_)
   ·have hk8 : k < 9 := by omega
    have hfe : flS fs m (plF (1 + (k : Int))) = fs.set m (plF (1 + (k : Int)) x) := by simp only [flS, hxe, Int.toNat_natCast]
    refine W.skip <| thn_n <| W.seq <| W.block <| W.seq <| W.region rfl ?_
    refine fq rfl ?_
    refine dq rfl ?_
    refine qm rfl rfl rfl ?_
    refine xq rfl ?_
    refine lq rfl ?_
    refine Ops.new (fun β8 => ?_)
    first | refine Ops.stoW ?_ | refine Ops.stoA ?_
    refine nn <| W.seq <| W.region rfl <| qm rfl rfl rfl ?_
    refine fq rfl ?_
    refine Ops.sto ?_
    refine nn <| W.seq <| W.region rfl ?_
    refine lq rfl ?_
    refine qm rfl rfl rfl ?_
    refine lq rfl ?_
    refine c0 (fun h' hE hL => RWith_fn _ h' fs ss m x (plF (1 + (k : Int)) x) _ _ (hf.ext hE) (hs.ext hE) hn hx) (fun v A' hv => ?_)
    obtain ⟨vf2, S, rfl, hO, hsb⟩ := hv
    rw [← hfe] at hO
    obtain ⟨a3, cap3, rfl⟩ := hO.isSl
    refine Ops.sb (hsb.app .refl) ?_
    refine cp (fun h' hE hL => Rall_fn _ h' (flS fs m (plF (1 + (k : Int)))) ss _ _ (hO.sl fun b o hb => hL b o (List.mem_append_left _ hb)) (hs.ext hE) (hall_ck (ck_pl hck (by omega) (by omega) (by omega)))) ?_
    refine nn ?_
    refine W.cond rfl (fun c36 => ?_) (fun c36 => ?_)
    ·refine W.seq <| W.region rfl <| qm rfl rfl rfl <| qs rfl rfl rfl <| qs rfl rfl rfl <| nn <| W.ret <| blk_r <| thn_r ?_
     refine thn_r <| blk_r <| thn_r ?_
     have hpat := need_at hk8 c36 hno
     refine lvp (hs := hO.shut.app (.cons rfl (.cons rfl .nil))) ?_
     rw [hpat]; rfl
    ·refine W.skip <| blk_n <| thn_n <| W.region rfl <| qm rfl rfl rfl ?_
     refine pq rfl ?_
     refine qs rfl rfl rfl <| nn ?_
     refine ⟨rfl, k + 1, ⟨by omega, fun j hj => ?_⟩, by omega, ⟨lk rfl (show I _ = I _ by congr 1), rfl, rfl, trivial⟩, (Sb.nil hO.shut).app (.skip rfl .refl)⟩
     by_cases e : j = k
     ·subst e; exact c36
     ·exact hno j (by omega)
   ·have hpat := need_no (fun i hi => hno i (by omega))
    refine W.exit <| thn_x <| thn_x <| blk_x <| thn_n <| W.seq <| W.region rfl <| qs rfl rfl rfl <| qs rfl rfl rfl <| Ops.nil ?_
    refine thn_n <| W.ret ?_
    refine lvp (hs := .cons rfl .nil) ?_
    rw [hpat]; rfl
theorem RSlower_fn (main : Side) (h : Hp) (fs : List Fl) (ss : List St) (f : Int) (vf vs : Value) (hf : Sl h Fl.row vf fs) (hs : Sl h St.row vs ss) (hn : fs.length ≤ 1000) : Pu prog main n_ref_Slower #[.agg #[vf, vs], I f] h (.tuple #[I (slowG fs ss f).1, I (slowG fs ss f).2]) := by
 obtain ⟨a, cap, rfl⟩ := hf.isSl
 obtain ⟨a', cap', rfl⟩ := hs.isSl
 refine Fnc.of_body at_ref_Slower rfl (by show 2 ≤ 61; decide) [(0, .agg #[.slice a fs.length cap, .slice a' ss.length cap']), (1, I f)] ⟨rfl, rfl, trivial⟩ ?_
 refine W.seq <| W.region rfl ?_
 refine Ops.box (cs := #[.slice a fs.length cap, .slice a' ss.length cap']) (fun β2 => ?_) rfl rfl rfl
 refine qs rfl rfl rfl <| qs rfl rfl rfl <| nn <| W.seq <| W.seq <| W.region rfl ?_
 refine lq rfl ?_
 refine cp (fun h' hE hL => RCheck_fn _ h' _ _ _ _ (hf.ext hE) (hs.ext hE)) ?_
 refine qs rfl rfl rfl <| nn <| W.seq <| W.region rfl <| qm rfl rfl rfl ?_
 refine o1 (y_neq rfl rfl rfl) rfl ?_
 refine nn ?_
 refine W.condp rfl (fun c16 => ?_) (fun c16 => ?_)
 ·refine W.seq <| W.region rfl <| qm rfl rfl rfl <| qs rfl rfl rfl <| qs rfl rfl rfl <| nn <| W.ret <| thn_r ?_
  refine lvp (hs := .cons rfl .nil) ?_
  simp only [slowG]; rw [if_pos c16]; rfl
 ·have hck : ckPlant fs ss = 0 := by simpa using c16
  refine W.skip <| thn_n <| W.seq <| W.seq <| W.region rfl <| qm rfl rfl rfl ?_
  refine fq rfl ?_
  refine dq rfl ?_
  refine o1 (y_len rfl rfl) rfl ?_
  refine mq rfl ?_
  refine cp (fun h' hE hL => among_fn _ h' f 0 ((fs.length : Int) - 1)) ?_
  refine o1 (y_not rfl rfl) rfl ?_
  refine nn ?_
  refine W.cond rfl (fun c24 => ?_) (fun c24 => ?_)
  ·refine W.seq <| W.region rfl <| qs rfl rfl rfl <| qs rfl rfl rfl <| nn <| W.ret <| thn_r ?_
   refine lvp (hs := .cons rfl .nil) ?_
   simp only [slowG]; rw [if_neg c16, if_pos (by simpa using c24)]; rfl
  ·have hno : ¬ outs f 0 ((fs.length : Int) - 1) := by simpa using c24
   have hgg : slowG fs ss f = (slowV fs ss f, 0) := by simp only [slowG]; rw [if_neg (by simp [hck]), if_neg hno]
   obtain ⟨m, rfl⟩ : ∃ m : Nat, f = m := ⟨f.toNat, by unfold outs at hno; omega⟩
   have hm : m < fs.length := by unfold outs at hno; omega
   rw [hgg]
   clear hgg hno c24
   have hall := hall_ck hck
   have hfl := fl_ok hall (show (0 : Int) ≤ (m : Int) by omega) (show (m : Int) < fs.length by omega)
   have hx := flAt_some (show (0 : Int) ≤ (m : Int) by omega) (show (m : Int) < fs.length by omega)
   obtain ⟨hsl0, hsl1, hsl2⟩ := slow_spec hck hm
   rw [Int.toNat_natCast] at hx
   obtain ⟨x, hxe⟩ : ∃ x, flAt fs m = x := ⟨_, rfl⟩
   obtain ⟨sv, hsv⟩ : ∃ sv, slowV fs ss m = sv := ⟨_, rfl⟩
   rw [hxe] at hx hfl hsl1 hsl2
   rw [hsv] at hsl0 hsl1 hsl2 ⊢
   have hf' := hf
   obtain ⟨bf, off, c, E, fz, rfl, hb, hx1, hy1, hz1⟩ := hf'.at hx
   have hx2 : c.extract (off + m * 4) (off + m * 4 + 4) = #[I x.pl, I x.lo, I x.hi, I x.co] := hx1
   clear hx1 hz1
   refine W.skip <| thn_n <| W.seq <| W.region rfl ?_
   refine lq rfl ?_
   refine c0 (fun h' hE hL => RBests_fn _ h' fs ss _ _ (hf.ext hE) (hs.ext hE) hck) (fun v A' hv => ?_)
   obtain ⟨u, O2, us2, us, B, BL, ls, most, rfl, hN, hB, hSel, hBI, hsb⟩ := hv
   obtain ⟨hb1, -, -, -⟩ := hBI.best hall
   refine Ops.sb (F' := [(β2, .cells #[.slice (some ⟨bf, off, none⟩) fs.length cap, .slice a' ss.length cap'] t_Plant (0, 0))]) (((Sb.nil (hN.shut.app hB.shut)).trans hsb).app .refl) ?_
   clear hsb hSel hN hB hBI
   refine qm rfl rfl rfl <| oq (y_extract rfl rfl rfl) rfl wn rfl rfl <| oq (y_extract rfl rfl rfl) rfl wn rfl rfl <| qs rfl rfl rfl <| qs rfl rfl rfl <| nn <| W.seq <| W.region rfl <| qs rfl rfl rfl ?_
   refine nn <| W.seq <| W.seq <| W.region rfl ?_
   refine fq rfl ?_
   refine dq rfl ?_
   refine qm rfl rfl rfl ?_
   refine xq rfl ?_
   refine lq rfl ?_
   refine Ops.new (fun β10 => ?_)
   first | refine Ops.stoW ?_ | refine Ops.stoA ?_
   refine nn <| W.block ?_
   refine W.loop (σ := Nat × Nat) (fun q => x.hi + q.1 ≤ 6 ∧ (q.1 : Int) ≤ sv) (fun q => [(10, .pointer (some ⟨q.2, 0, none⟩)), (9, I q.1), (8, I most), (2, .pointer (some ⟨β2, 0, none⟩)), (1, I m)]) (fun q => [(q.2, .cells #[I x.pl, I x.lo, I (x.hi + q.1), I x.co] t_Floor (0, 0)), (β2, .cells #[.slice (some ⟨bf, off, none⟩) fs.length cap, .slice a' ss.length cap'] t_Plant (0, 0))]) (fun q => 6 - q.1) (0, β10) ⟨by simp only; omega, by simp only; omega⟩ ⟨rfl, rfl, rfl, rfl, rfl, trivial⟩ (by rw [show x.hi + (((0, β10) : Nat × Nat).1 : Int) = x.hi by simp]; exact .refl) ?_
   rintro ⟨k, b10⟩ ⟨hk6, hkv⟩
   dsimp only at *
   refine W.seq <| W.seq <| W.region rfl ?_
   refine fq rfl ?_
   refine fq rfl ?_
   refine dq rfl ?_
   refine o1 (y_lss rfl rfl rfl) rfl ?_
   refine nn ?_
   refine W.condp rfl (fun c38 => ?_) (fun c38 => ?_)
   ·have hk5 : x.hi + ((k + 1 : Nat) : Int) ≤ 6 := by omega
    obtain ⟨hiff, hle⟩ := hsl2 ((k + 1 : Nat) : Int) (by omega) hk5
    have hadd : wadd x.hi ((k + 1 : Nat) : Int) = x.hi + ((k + 1 : Nat) : Int) := wadd_small (by omega) (by omega) (by omega) (by omega)
    have hfe : flS fs m (hiF ((k + 1 : Nat) : Int)) = fs.set m ⟨x.pl, x.lo, x.hi + ((k + 1 : Nat) : Int), x.co⟩ := by simp only [flS, hiF, hxe, Int.toNat_natCast, hadd]
    have hck2 : ckPlant (flS fs m (hiF ((k + 1 : Nat) : Int))) ss = 0 := ck_hi hck (by omega) (by omega) (by rw [hxe]; omega)
    refine W.skip <| thn_n <| W.seq <| W.block <| W.seq <| W.region rfl ?_
    refine fq rfl ?_
    refine fq rfl ?_
    refine dq rfl ?_
    refine o1 (Yv.eq (u := I (x.hi + ((k + 1 : Nat) : Int))) (yadd rfl rfl rfl) (show I _ = I _ by congr 1; omega)) rfl ?_
    refine fq rfl ?_
    refine fq rfl ?_
    refine Ops.sto ?_
    refine nn <| W.seq <| W.region rfl ?_
    refine lq rfl ?_
    refine qm rfl rfl rfl ?_
    refine lq rfl ?_
    refine c0 (fun h' hE hL => RWith_fn _ h' fs ss m x ⟨x.pl, x.lo, x.hi + ((k + 1 : Nat) : Int), x.co⟩ _ _ (hf.ext hE) (hs.ext hE) hn hx) (fun v A' hv => ?_)
    obtain ⟨vf2, S, rfl, hO, hsb⟩ := hv
    rw [← hfe] at hO
    obtain ⟨a3, cap3, rfl⟩ := hO.isSl
    refine Ops.sb (hsb.app .refl) ?_
    refine c0 (fun h' hE hL => RBests_fn _ h' (flS fs m (hiF ((k + 1 : Nat) : Int))) ss _ _ (hO.sl fun b o hb => hL b o (List.mem_append_left _ hb)) (hs.ext hE) hck2) (fun v A' hv => ?_)
    obtain ⟨u2, O3, us3, us4, B3, BL3, ls3, most2, rfl, hN, hB, hSel, hBI, hsb⟩ := hv
    obtain ⟨hb2, -, -, -⟩ := hBI.best (hall_ck hck2)
    refine Ops.sb (F' := [(b10, .cells #[I x.pl, I x.lo, I (x.hi + ((k + 1 : Nat) : Int)), I x.co] t_Floor (0, 0)), (β2, .cells #[.slice (some ⟨bf, off, none⟩) fs.length cap, .slice a' ss.length cap'] t_Plant (0, 0))]) (((Sb.nil (hN.shut.app hB.shut)).trans hsb).app ((Sb.nil hO.shut).app .refl)) ?_
    clear hsb hSel hN hB hBI
    refine qm rfl rfl rfl <| oq (y_extract rfl rfl rfl) rfl wn rfl rfl <| oq (y_extract rfl rfl rfl) rfl wn rfl rfl <| qs rfl rfl rfl <| qs rfl rfl rfl <| nn <| W.seq <| W.region rfl <| qm rfl rfl rfl ?_
    refine qm rfl rfl rfl ?_
    refine o1 (y_lss rfl rfl rfl) rfl ?_
    refine nn ?_
    refine W.condp rfl (fun c57 => ?_) (fun c57 => ?_)
    ·refine W.seq <| W.region rfl <| qm rfl rfl rfl <| qs rfl rfl rfl <| qs rfl rfl rfl <| nn <| W.ret <| blk_r <| thn_r ?_
     refine thn_r <| blk_r <| thn_r ?_
     have : sv = (k : Int) := by
      have h1 : most2 < most := by simpa using c57
      have h2 : ¬ (((k + 1 : Nat) : Int) ≤ sv) := fun hc => by have := hiff.2 hc; omega
      omega
     rw [this]
     exact lvp (hs := .cons rfl (.cons rfl .nil)) rfl
    ·refine W.skip <| blk_n <| thn_n <| W.seq <| W.seq <| W.region rfl ?_
     refine lq rfl ?_
     refine nn <| W.region rfl ?_
     refine Ops.new (fun β10 => ?_)
     first | refine Ops.stoW ?_ | refine Ops.stoA ?_
     refine nn <| W.region rfl <| qm rfl rfl rfl ?_
     refine pq rfl ?_
     refine qs rfl rfl rfl <| nn ?_
     have h1 : ¬ most2 < most := by simpa using c57
     have h2 : ((k + 1 : Nat) : Int) ≤ sv := hiff.1 (by omega)
     exact ⟨rfl, (k + 1, β10), ⟨by simp only; omega, by simp only; omega⟩, by simp only; omega, ⟨rfl, rfl, rfl, rfl, rfl, trivial⟩, .cons (.skip rfl .refl)⟩
   ·have : sv = (k : Int) := by omega
    rw [this]
    refine W.exit <| thn_x <| thn_x <| blk_x <| thn_n <| W.seq <| W.region rfl <| qm rfl rfl rfl <| qs rfl rfl rfl <| qs rfl rfl rfl ?_
    refine nn <| W.ret ?_
    exact lvp (hs := .cons rfl (.cons rfl .nil)) rfl

theorem beg_ok {fs : List Fl} {ss : List St} {f : Int} (h : begV fs ss f = 0) : ckPlant fs ss = 0 ∧ ¬ outs f 0 ((fs.length : Int) - 1) := by
 by_cases h1 : ckPlant fs ss = 0
 ·refine ⟨h1, fun h2 => ?_⟩
  rw [begV, if_neg (by simp [h1]), if_pos h2] at h
  cases h
 ·rw [begV, if_pos h1] at h; exact absurd h h1
theorem beg_bad {fs : List Fl} {ss : List St} {f : Int} (h : begV fs ss f ≠ 0) : needG fs ss f = (0, begV fs ss f) ∧ slowG fs ss f = (0, begV fs ss f) := by
 by_cases h1 : ckPlant fs ss = 0
 ·have h1' : ¬ ckPlant fs ss ≠ 0 := by simp [h1]
  by_cases h2 : outs f 0 ((fs.length : Int) - 1)
  ·exact ⟨by rw [needG, begV, if_neg h1', if_pos h2, if_neg h1', if_pos h2], by rw [slowG, begV, if_neg h1', if_pos h2, if_neg h1', if_pos h2]⟩
  ·rw [begV, if_neg h1', if_neg h2] at h; exact absurd rfl h
 ·exact ⟨by rw [needG, begV, if_pos h1, if_pos h1], by rw [slowG, begV, if_pos h1, if_pos h1]⟩
theorem beginG_fn (main : Side) (h : Hp) (fs : List Fl) (ss : List St) (f : Int) (vf vs : Value) (hf : Sl h Fl.row vf fs) (hs : Sl h St.row vs ss) : Pu prog main n_floor_begin #[.agg #[vf, vs], I f] h (I (begV fs ss f)) := by
 obtain ⟨a, cap, rfl⟩ := hf.isSl
 obtain ⟨a', cap', rfl⟩ := hs.isSl
 refine Fnc.of_body at_floor_begin rfl (by show 2 ≤ 17; decide) [(0, .agg #[.slice a fs.length cap, .slice a' ss.length cap']), (1, I f)] ⟨rfl, rfl, trivial⟩ ?_
 refine W.seq <| W.region rfl ?_
 refine Ops.box (cs := #[.slice a fs.length cap, .slice a' ss.length cap']) (fun β2 => ?_) rfl rfl rfl
 refine qs rfl rfl rfl <| nn <| W.seq <| W.seq <| W.region rfl ?_
 refine lq rfl ?_
 refine cp (fun h' hE hL => Check_fn _ h' fs ss _ _ (hf.ext hE) (hs.ext hE)) ?_
 refine qs rfl rfl rfl <| nn <| W.seq <| W.region rfl <| qm rfl rfl rfl ?_
 refine o1 (y_neq rfl rfl rfl) rfl ?_
 refine nn ?_
 refine W.condp rfl (fun c9 => ?_) (fun c9 => ?_)
 ·refine W.seq <| W.region rfl <| qm rfl rfl rfl <| qs rfl rfl rfl <| nn <| W.ret <| thn_r ?_
  refine lvp (hs := .cons rfl .nil) ?_
  simp only [begV]; rw [if_pos c9]; rfl
 ·have hck : ckPlant fs ss = 0 := by simpa using c9
  have hnf := (hall_ck hck).nf
  refine W.skip <| thn_n <| W.seq <| W.seq <| W.region rfl <| qm rfl rfl rfl ?_
  refine fq rfl ?_
  refine dq rfl ?_
  refine o1 (y_len rfl rfl) rfl ?_
  refine mq rfl ?_
  refine cp (fun h' hE hL => outside_fn _ h' f 0 ((fs.length : Int) - 1)) ?_
  refine nn ?_
  refine W.cond rfl (fun c16 => ?_) (fun c16 => ?_)
  ·refine W.seq <| W.region rfl <| qs rfl rfl rfl <| nn <| W.ret <| thn_r ?_
   refine lvp (hs := .cons rfl .nil) ?_
   simp only [begV]; rw [if_neg c9, if_pos (by simpa using c16)]; rfl
  ·refine W.skip <| thn_n <| W.seq <| W.region rfl <| qs rfl rfl rfl <| nn <| W.ret ?_
   refine lvp (hs := .cons rfl .nil) ?_
   simp only [begV]; rw [if_neg c9, if_neg (by simpa using c16)]; rfl
theorem NeedG_fn (main : Side) (h : Hp) (fs : List Fl) (ss : List St) (f : Int) (vf vs : Value) (Eg : TypeId) (zg : Nat × Nat) (hf : Sl h Fl.row vf fs) (hs : Sl h St.row vs ss) (hg : h 0 = some (.cells #[rtV t_error] Eg zg)) : Pu prog main n_floor_Need #[.agg #[vf, vs], I f] h (.tuple #[I (needG fs ss f).1, I (needG fs ss f).2]) := by
 by_cases hok : ckPlant fs ss = 0 ∧ ¬ outs f 0 ((fs.length : Int) - 1)
 ·obtain ⟨hck, hno⟩ := hok
  have e : needG fs ss f = needV fs ss f := by simp only [needG]; rw [if_neg (by simp [hck]), if_neg hno]
  rw [e]
  exact Need_fn main h fs ss f vf vs Eg zg hf hs hck (by unfold outs at hno; omega) hg
 obtain ⟨a, cap, rfl⟩ := hf.isSl
 obtain ⟨a', cap', rfl⟩ := hs.isSl
 refine Fnc.of_body at_floor_Need rfl (by show 2 ≤ 24; decide) [(0, .agg #[.slice a fs.length cap, .slice a' ss.length cap']), (1, I f)] ⟨rfl, rfl, trivial⟩ ?_
 refine W.seq <| W.region rfl ?_
 refine Ops.box (cs := #[.slice a fs.length cap, .slice a' ss.length cap']) (fun β2 => ?_) rfl rfl rfl
 refine Ops.box (fun β3 => ?_)
 refine qs rfl rfl rfl <| qs rfl rfl rfl <| nn <| W.seq <| W.seq <| W.region rfl ?_
 refine lq rfl ?_
 refine dq rfl ?_
 refine cp (fun h' hE hL => beginG_fn _ h' fs ss f _ _ (hf.ext hE) (hs.ext hE)) ?_
 refine qs rfl rfl rfl <| nn <| W.seq <| W.region rfl <| qm rfl rfl rfl ?_
 refine o1 (y_neq rfl rfl rfl) rfl ?_
 refine nn ?_
 refine W.condp rfl (fun c13 => ?_) (fun c13 => ?_)
 ·refine W.seq <| W.region rfl <| qm rfl rfl rfl <| qs rfl rfl rfl <| qs rfl rfl rfl <| nn <| W.ret <| thn_r ?_
  refine lvp (hs := .cons rfl (.cons rfl .nil)) ?_
  rw [(beg_bad c13).1]; rfl
 ·exact absurd (beg_ok (by simpa using c13)) hok
theorem SlowerG_fn (main : Side) (hS : ∀ S, main.ok S → ∃ Fin, S = Mn prog Fin) (hmb : main.b = true) (h : Hp) (fs : List Fl) (ss : List St) (f : Int) (vf vs : Value) (Eg : TypeId) (zg : Nat × Nat) (hf : Sl h Fl.row vf fs) (hs : Sl h St.row vs ss) (zf : Zs h vf) (zs : Zs h vs) (hg : h 0 = some (.cells #[rtV t_error] Eg zg)) (z0 : h.z 0) : Pu prog main n_floor_Slower #[.agg #[vf, vs], I f] h (.tuple #[I (slowG fs ss f).1, I (slowG fs ss f).2]) := by
 by_cases hok : ckPlant fs ss = 0 ∧ ¬ outs f 0 ((fs.length : Int) - 1)
 ·obtain ⟨hck, hno⟩ := hok
  have e : slowG fs ss f = (slowV fs ss f, 0) := by simp only [slowG]; rw [if_neg (by simp [hck]), if_neg hno]
  rw [e]
  obtain ⟨m, rfl⟩ : ∃ m : Nat, f = m := ⟨f.toNat, by unfold outs at hno; omega⟩
  exact Slower_fn main hS hmb h fs ss m vf vs Eg zg hf hs zf zs hck (by unfold outs at hno; omega) hg z0
 obtain ⟨a, cap, rfl⟩ := hf.isSl
 obtain ⟨a', cap', rfl⟩ := hs.isSl
 refine Fnc.of_body at_floor_Slower rfl (by show 2 ≤ 39; decide) [(0, .agg #[.slice a fs.length cap, .slice a' ss.length cap']), (1, I f)] ⟨rfl, rfl, trivial⟩ ?_
 refine W.seq <| W.region rfl ?_
 refine Ops.box (cs := #[.slice a fs.length cap, .slice a' ss.length cap']) (fun β2 => ?_) rfl rfl rfl
 refine Ops.box (fun β3 => ?_)
 refine qs rfl rfl rfl <| qs rfl rfl rfl <| nn <| W.seq <| W.seq <| W.region rfl ?_
 refine lq rfl ?_
 refine dq rfl ?_
 refine cp (fun h' hE hL => beginG_fn _ h' fs ss f _ _ (hf.ext hE) (hs.ext hE)) ?_
 refine qs rfl rfl rfl <| nn <| W.seq <| W.region rfl <| qm rfl rfl rfl ?_
 refine o1 (y_neq rfl rfl rfl) rfl ?_
 refine nn ?_
 refine W.condp rfl (fun c15 => ?_) (fun c15 => ?_)
 ·refine W.seq <| W.region rfl <| qm rfl rfl rfl <| qs rfl rfl rfl <| qs rfl rfl rfl <| nn <| W.ret <| thn_r ?_
  refine lvp (hs := .cons rfl (.cons rfl .nil)) ?_
  rw [(beg_bad c15).2]; rfl
 ·exact absurd (beg_ok (by simpa using c15)) hok
end Go.Mus

/- Patience, places, and slower floors. Conditions: none; over the given program. -/
namespace Go.Mus
set_option maxRecDepth 100000
set_option maxHeartbeats 40000000
theorem FloorNeeds_top (main : Side) (hS : ∀ S, main.ok S → ∃ Fin, S = Mn prog Fin) (hmb : main.b = true) (h : Hp) (fs : List Fl) (ss : List St) (f : Fl) (st : St) (number : Int) (nums : List Int) (vf vs lv : Value) (Eg : TypeId) (zg : Nat × Nat) (hf : Sl h Fl.row vf fs) (hs : Sl h St.row vs ss) (hnl : Sl h rowI lv nums) (hg : h 0 = some (.cells #[rtV t_error] Eg zg)) (z0 : h.z 0) : TopV prog main n_law_FloorNeeds #[.agg #[vf, vs], f.val, st.val, I number, lv] h (.bool true) := by
 obtain ⟨a, cap, rfl⟩ := hf.isSl
 obtain ⟨a', cap', rfl⟩ := hs.isSl
 refine TopV.of_body at_law_FloorNeeds rfl (by show 5 ≤ 147; decide) [(0, .agg #[.slice a fs.length cap, .slice a' ss.length cap']), (1, f.val), (2, st.val), (3, I number), (4, lv)] ⟨rfl, rfl, rfl, rfl, rfl, trivial⟩ ?_
 refine W.seq <| W.region rfl ?_
 refine Ops.box (cs := #[.slice a fs.length cap, .slice a' ss.length cap']) (fun β5 => ?_) rfl rfl rfl
 refine Ops.box (cs := #[I f.pl, I f.lo, I f.hi, I f.co]) (fun β6 => ?_) rfl rfl rfl
 refine Ops.box (cs := #[I st.day, I st.co, I st.wa]) (fun β7 => ?_) rfl rfl rfl
 refine qs rfl rfl rfl <| nn <| W.seq <| W.seq <| W.region rfl ?_
 refine lq rfl ?_
 refine cp (fun h' hE hL => vast_fn _ h' fs ss _ _ (hf.ext hE) (hs.ext hE)) ?_
 refine qm rfl rfl rfl ?_
 refine Ops.askB (fun a1_3 => ?_) (fun a1_3 => ?_)
 ·refine Ops.no ?_
  refine Ops.no ?_
  refine Ops.no ?_
  refine Ops.no ?_
  refine o1 (y_pickT rfl rfl rfl) rfl ?_
  refine nn ?_
  refine W.condT ?_
  refine W.seq <| W.region rfl ?_
  refine cp (fun h' hE hL => exs_fn _ hS hmb h' Eg zg (hE.1 _ _ hg) (hE.2 _ z0)) ?_
  refine qs rfl rfl rfl <| nn <| W.ret <| thn_r ?_
  exact lvq rfl
 ·refine oq (y_fieldAddr rfl rfl) rfl (want_some rfl rfl rfl) rfl rfl ?_
  refine oq (yld rfl rfl) rfl (want_some rfl rfl rfl) rfl rfl ?_
  refine oq (y_len rfl rfl) rfl (want_some rfl rfl rfl) rfl rfl ?_
  refine oq (y_eql rfl rfl rfl) rfl (want_some rfl rfl rfl) rfl rfl ?_
  refine o1 (y_pickF rfl rfl rfl) rfl ?_
  refine nn ?_
  refine W.condp rfl (fun c31 => ?_) (fun c31 => ?_)
  ·refine W.seq <| W.region rfl ?_
   refine cp (fun h' hE hL => exs_fn _ hS hmb h' Eg zg (hE.1 _ _ hg) (hE.2 _ z0)) ?_
   refine qs rfl rfl rfl <| nn <| W.ret <| thn_r ?_
   exact lvq rfl
  ·have hfs : fs.length ≤ 20 ∧ ss.length ≤ 20 := by have := a1_3; simp at this; omega
   refine W.skip <| thn_n <| W.seq <| W.region rfl <| qm rfl rfl rfl ?_
   refine c0 (fun h' hE hL => NewHat_fn _ h' nums lv (hnl.ext hE)) (fun v A' hv => ?_)
   obtain ⟨bh, s0, rfl, rfl⟩ := hv
   refine qs rfl rfl rfl <| nn <| W.seq <| W.region rfl ?_
   refine lq rfl ?_
   refine lq rfl ?_
   refine lq rfl ?_
   refine qm rfl rfl rfl ?_
   refine cg (A := [(bh, _)]) .head (fun h' hE hL => several_fn _ h' nums lv bh s0 fs ss f st _ _ (hnl.ext hE) (hf.ext hE) (hs.ext hE)) (fun v A' hv => ?_)
   obtain ⟨βp, p0, p1, p2, fs1, ss1, fs2, ss2, Sf1, Ss1, Sf2, Ss2, k1, s1, rfl, ⟨hp0f, hp0s⟩, ⟨hOf1, hOs1⟩, ⟨hOf2, hOs2⟩, ⟨hck1, hn3, hl2f, hl2s⟩, hk1, hsb⟩ := hv
   have hnf1 := (hall_ck hck1).nf
   refine Ops.sb (hsb.trans (Sb.right .refl (.cons rfl (.cons rfl (.cons rfl .nil))))) ?_
   refine qs rfl rfl rfl <| nn <| W.seq <| W.region rfl <| qm rfl rfl rfl <| qm rfl rfl rfl ?_
   refine cg (A := [(bh, _)]) (.tail .head) (fun h' hE hL => To_fn _ h' nums lv bh k1 s1 1 (hnl.ext hE) (by omega) (by decide)) (fun v A' hv => ?_)
   obtain ⟨r1, s2, rfl, -, hb3⟩ := hv
   refine Ops.sb (.cons (Sb.app1 hb3)) ?_
   refine qm rfl rfl rfl ?_
   refine Ops.bsl (cs := (flat rowI [number, r1, number]).toArray) (fun β44 => ?_) rfl (hf := by kernel_rfl)
   refine qs rfl rfl rfl <| nn ?_
   refine freezeAt hOf1 (.tail (.tail (.tail .head))) (fun g2 hE2 hslf1 _ => ?_)
   refine freezeAt hOs1 (.tail (.tail (.tail .head))) (fun g3 hE3 hsls1 _ => ?_)
   refine freezeAt hOf2 (.tail (.tail (.tail .head))) (fun g4 hE4 hslf2 _ => ?_)
   refine freezeAt hOs2 (.tail (.tail (.tail .all))) (fun g5 hE5 hsls2 _ => ?_)
   refine freezeK (b := β44) Kn.nil rfl .head (fun g7 hK => ?_)
   refine freezeK (b := βp) hK rfl .head (fun g9 hK => ?_)
   show W ⟨prog, main, n_law_FloorNeeds, F_law_FloorNeeds.ntmps, none, g9⟩ _ _ _ _ _
   have e5 := hK.ext
   have e4 := hE5.trans e5
   have e3 := hE4.trans e4
   have e2 := hE3.trans e3
   have e0 := hE2.trans e2
   have hg9 := e0.1 _ _ hg
   have z9 := e0.2 _ z0
   have hps := (hK.sl (l := [p0, p1, p2]) (row := Pl.row) (n := 3) (cap := 3) 0 rfl rfl).1
   have hns := (hK.sl (l := [number, r1, number]) (row := rowI) (n := 3) (cap := 3) 1 rfl rfl).1
   have each : ∀ (i : Nat) (p : Pl), [p0, p1, p2][i]? = some p → ∃ fs ss, Sl g9 Fl.row p.f.val fs ∧ Sl g9 St.row p.s.val ss ∧ fs.length ≤ 20 ∧ ss.length ≤ 20 := by
    intro i p hp
    rcases i with _ | _ | _ | i
    ·cases hp; rw [← hp0f, ← hp0s]; exact ⟨fs, ss, hf.ext e0, hs.ext e0, hfs.1, hfs.2⟩
    ·cases hp; exact ⟨fs1, ss1, hslf1.ext e2, hsls1.ext e3, by omega, by omega⟩
    ·cases hp; exact ⟨fs2, ss2, hslf2.ext e4, hsls2.ext e5, by omega, by omega⟩
    ·simp at hp
   clear hK
   generalize hPL : [p0, p1, p2] = PL at hps each
   generalize hML : [number, r1, number] = ML at hns
   have hMLn : ML.length = 3 := by rw [← hML]; rfl
   have hPLn : PL.length = 3 := by rw [← hPL]; rfl
   refine W.seq <| W.seq <| W.region rfl <| qs rfl rfl rfl <| nn <| W.block ?_
   refine W.loop (σ := Nat) (fun i => i ≤ 3) (fun i => [(14, I i), (13, .slice (some ⟨β44, 0, none⟩) 3 3), (12, .slice (some ⟨βp, 0, none⟩) 3 3)]) (fun _ => []) (fun i => 3 - i) 0 (Nat.zero_le _) ⟨rfl, rfl, rfl, trivial⟩ (by repeat (first | exact Sb.refl | refine Sb.skip rfl ?_)) ?_
   rintro i hi
   refine W.seq <| W.seq <| W.region rfl <| qm rfl rfl rfl <| qm rfl rfl rfl ?_
   refine o1 (y_len rfl rfl) rfl ?_
   refine o1 (y_lss rfl rfl rfl) rfl ?_
   refine nn ?_
   refine W.condp rfl (fun c48 => ?_) (fun c48 => ?_)
   ·have hi1 : i < 3 := by omega
    obtain ⟨p, hp, -⟩ := has (show i < PL.length by omega)
    obtain ⟨xfs, xss, hxf, hxs, hxn⟩ := each i p hp
    obtain ⟨b, off, c, E, fz, hae, hb, hx, hyp, -⟩ := hps.at hp
    cases hae
    have hx1 : c.extract (0 + i * 2) (0 + i * 2 + 2) = #[.slice p.f.a p.f.n p.f.cap, .slice p.s.a p.s.n p.s.cap] := hx
    obtain ⟨n, hn, -⟩ := has (show i < ML.length by omega)
    obtain ⟨b, off, c3, E3, fz3, hae, hb3, -, hyn, hz3⟩ := hns.at hn
    cases hae
    have hx3 : c3[0 + i * 1 + 0]? = some (I n) := hz3 0 (by decide)
    clear hx hz3
    refine W.skip <| thn_n <| W.seq <| W.block <| W.seq <| W.region rfl <| qm rfl rfl rfl <| qm rfl rfl rfl ?_
    refine xq rfl ?_
    refine lq rfl ?_
    refine c0 (fun h' hE hL => DupPlant_fn _ h' xfs xss _ _ (hxf.ext hE) (hxs.ext hE) (by omega)) (fun v A' hv => ?_)
    obtain ⟨yf, ys, Syf, Sys, rfl, ⟨hYf, hYs⟩, hbA⟩ := hv
    obtain ⟨yfa, yfc, rfl⟩ := hYf.isSl
    obtain ⟨ysa, ysc, rfl⟩ := hYs.isSl
    refine Ops.sb (F' := Syf ++ Sys) (Sb.right hbA .nil) ?_
    refine Ops.new (fun β15 => ?_)
    first | refine Ops.stoW ?_ | refine Ops.stoA ?_
    refine nn ?_
    refine freezeAt hYf (.tail .head) (fun w2 hW2 hsyf zyf => ?_)
    refine freezeAt hYs (.tail .all) (fun w3 hW3 hsys zys => ?_)
    refine freezeK (b := β15) Kn.nil rfl .head (fun w4 hK => ?_)
    show W ⟨prog, main, n_law_FloorNeeds, F_law_FloorNeeds.ntmps, none, w4⟩ _ _ _ _ _
    have f3 := hK.ext
    have f2 := hW3.trans f3
    have f0 := hW2.trans f2
    have hb11 : w4 β15 = some (.cells #[.slice yfa xfs.length yfc, .slice ysa xss.length ysc] t_Plant (0, 0)) := (hK.all _ (.head _)).1
    clear hK
    replace hsyf := hsyf.ext f2
    replace hsys := hsys.ext f3
    replace zyf := zyf.ext f2
    replace zys := zys.ext f3
    replace hxf := hxf.ext f0
    replace hxs := hxs.ext f0
    replace hb := f0.1 _ _ hb
    replace hb3 := f0.1 _ _ hb3
    have hgw := f0.1 _ _ hg9
    have hzw := f0.2 _ z9
    refine W.seq ?_
    obtain ⟨l1, l2, hlv⟩ : ∃ a b, patV xfs xss = (a, b) := ⟨_, _, rfl⟩
    obtain ⟨v1, v2, hvv⟩ : ∃ a b, needG xfs xss n = (a, b) := ⟨_, _, rfl⟩
    obtain ⟨w1, w2, hww⟩ : ∃ a b, slowG xfs xss n = (a, b) := ⟨_, _, rfl⟩
    refine W.region rfl ?_
    refine lq rfl ?_
    refine cp (u := .tuple #[I l1, I l2]) (fun h' hE hL => ?_) ?_
    ·have := Patience_fn main h' xfs xss _ _ Eg zg (hsyf.ext hE) (hsys.ext hE) (hE.1 _ _ hgw)
     rw [hlv] at this
     exact this
    refine qm rfl rfl rfl <| oq (y_extract rfl rfl rfl) rfl wn rfl rfl <| oq (y_extract rfl rfl rfl) rfl wn rfl rfl <| qs rfl rfl rfl <| qs rfl rfl rfl <| nn <| W.seq <| W.region rfl <| qm rfl rfl rfl ?_
    refine qm rfl rfl rfl ?_
    refine xq rfl ?_
    refine lq rfl ?_
    refine cp (u := .tuple #[I l1, I l2]) (fun h' hE hL => ?_) ?_
    ·have := RPatience_fn main h' xfs xss _ _ (hxf.ext hE) (hxs.ext hE)
     rw [hlv] at this
     exact this
    refine qm rfl rfl rfl <| oq (y_extract rfl rfl rfl) rfl wn rfl rfl <| oq (y_extract rfl rfl rfl) rfl wn rfl rfl <| qs rfl rfl rfl <| qs rfl rfl rfl <| nn <| W.seq ?_
    refine W.drawL [] (n := 11) rfl ?_
    first | refine a1 0 (yldW rfl rfl) rfl ?_ | refine a1 0 (yldA rfl rfl) rfl ?_
    refine a1 1 (y_move rfl rfl) rfl ?_
    refine a1 2 (y_move rfl rfl) rfl ?_
    first | refine a1 3 (yix rfl rfl rfl) rfl ?_ | refine a1 3 (yixI rfl rfl rfl) rfl ?_
    refine a1 4 (yld rfl rfl) rfl ?_
    refine acp (i := 5) (u := .tuple #[I v1, I v2]) (vs := [.agg #[.slice yfa xfs.length yfc, .slice ysa xss.length ysc], I n]) (fun h' hE hL => ?_) ?_
    ·have := NeedG_fn main h' xfs xss n _ _ Eg zg (hsyf.ext hE) (hsys.ext hE) (hE.1 _ _ hgw)
     rw [hvv] at this
     exact this
    refine a1 6 (y_move rfl rfl) rfl ?_
    refine a1 7 (y_extract rfl rfl rfl) rfl ?_
    refine a1 8 (y_extract rfl rfl rfl) rfl ?_
    refine a1 9 (y_assign rfl rfl) rfl ?_
    refine a1 10 (y_assign rfl rfl) rfl ?_
    refine az ?_
    refine thn_n <| W.seq ?_
    refine W.drawL [] (n := 14) rfl ?_
    refine a1 0 (y_move rfl rfl) rfl ?_
    refine a1 1 (y_move rfl rfl) rfl ?_
    first | refine a1 2 (yix rfl rfl rfl) rfl ?_ | refine a1 2 (yixI rfl rfl rfl) rfl ?_
    first | refine a1 3 (yldW rfl rfl) rfl ?_ | refine a1 3 (yldA rfl rfl) rfl ?_
    refine a1 4 (y_move rfl rfl) rfl ?_
    refine a1 5 (y_move rfl rfl) rfl ?_
    first | refine a1 6 (yix rfl rfl rfl) rfl ?_ | refine a1 6 (yixI rfl rfl rfl) rfl ?_
    refine a1 7 (yld rfl rfl) rfl ?_
    refine acp (i := 8) (u := .tuple #[I v1, I v2]) (vs := [.agg #[.slice p.f.a p.f.n p.f.cap, .slice p.s.a p.s.n p.s.cap], I n]) (fun h' hE hL => ?_) ?_
    ·have := RNeed_fn main h' xfs xss n _ _ (hxf.ext hE) (hxs.ext hE) (by omega)
     rw [hvv] at this
     exact this
    refine a1 9 (y_move rfl rfl) rfl ?_
    refine a1 10 (y_extract rfl rfl rfl) rfl ?_
    refine a1 11 (y_extract rfl rfl rfl) rfl ?_
    refine a1 12 (y_assign rfl rfl) rfl ?_
    refine a1 13 (y_assign rfl rfl) rfl ?_
    refine az ?_
    refine thn_n <| W.seq <| W.seq <| W.region rfl <| qm rfl rfl rfl <| qm rfl rfl rfl ?_
    refine o1 ((y_neq rfl rfl rfl).eq (u := .bool false) (by simp)) rfl ?_
    refine qm rfl rfl rfl ?_
    refine oq (y_move rfl rfl) rfl (want_some rfl rfl rfl) rfl rfl ?_
    refine oq (y_move rfl rfl) rfl (want_some rfl rfl rfl) rfl rfl ?_
    refine oq ((y_neq rfl rfl rfl).eq (u := .bool false) (by simp)) rfl (want_some rfl rfl rfl) rfl rfl ?_
    refine o1 (y_pickF rfl rfl rfl) rfl ?_
    refine qm rfl rfl rfl ?_
    refine oq (y_move rfl rfl) rfl (want_some rfl rfl rfl) rfl rfl ?_
    refine oq (y_move rfl rfl) rfl (want_some rfl rfl rfl) rfl rfl ?_
    refine oq ((y_neq rfl rfl rfl).eq (u := .bool false) (by simp)) rfl (want_some rfl rfl rfl) rfl rfl ?_
    refine o1 (y_pickF rfl rfl rfl) rfl ?_
    refine qm rfl rfl rfl ?_
    refine oq (y_move rfl rfl) rfl (want_some rfl rfl rfl) rfl rfl ?_
    refine oq (y_move rfl rfl) rfl (want_some rfl rfl rfl) rfl rfl ?_
    refine oq ((y_neq rfl rfl rfl).eq (u := .bool false) (by simp)) rfl (want_some rfl rfl rfl) rfl rfl ?_
    refine o1 (y_pickF rfl rfl rfl) rfl ?_
    refine nn ?_
    refine W.condF ?_
    refine W.skip <| thn_n <| W.seq ?_
    refine W.drawL [] (n := 11) rfl ?_
    first | refine a1 0 (yldW rfl rfl) rfl ?_ | refine a1 0 (yldA rfl rfl) rfl ?_
    refine a1 1 (y_move rfl rfl) rfl ?_
    refine a1 2 (y_move rfl rfl) rfl ?_
    first | refine a1 3 (yix rfl rfl rfl) rfl ?_ | refine a1 3 (yixI rfl rfl rfl) rfl ?_
    refine a1 4 (yld rfl rfl) rfl ?_
    refine acp (i := 5) (u := .tuple #[I w1, I w2]) (vs := [.agg #[.slice yfa xfs.length yfc, .slice ysa xss.length ysc], I n]) (fun h' hE hL => ?_) ?_
    ·have := SlowerG_fn _ hS hmb h' xfs xss n _ _ Eg zg (hsyf.ext hE) (hsys.ext hE) (zyf.ext hE) (zys.ext hE) (hE.1 _ _ hgw) (hE.2 _ hzw)
     rw [hww] at this
     exact this
    refine a1 6 (y_move rfl rfl) rfl ?_
    refine a1 7 (y_extract rfl rfl rfl) rfl ?_
    refine a1 8 (y_extract rfl rfl rfl) rfl ?_
    refine a1 9 (y_assign rfl rfl) rfl ?_
    refine a1 10 (y_assign rfl rfl) rfl ?_
    refine az ?_
    refine thn_n <| W.seq ?_
    refine W.drawL [] (n := 14) rfl ?_
    refine a1 0 (y_move rfl rfl) rfl ?_
    refine a1 1 (y_move rfl rfl) rfl ?_
    first | refine a1 2 (yix rfl rfl rfl) rfl ?_ | refine a1 2 (yixI rfl rfl rfl) rfl ?_
    first | refine a1 3 (yldW rfl rfl) rfl ?_ | refine a1 3 (yldA rfl rfl) rfl ?_
    refine a1 4 (y_move rfl rfl) rfl ?_
    refine a1 5 (y_move rfl rfl) rfl ?_
    first | refine a1 6 (yix rfl rfl rfl) rfl ?_ | refine a1 6 (yixI rfl rfl rfl) rfl ?_
    refine a1 7 (yld rfl rfl) rfl ?_
    refine acp (i := 8) (u := .tuple #[I w1, I w2]) (vs := [.agg #[.slice p.f.a p.f.n p.f.cap, .slice p.s.a p.s.n p.s.cap], I n]) (fun h' hE hL => ?_) ?_
    ·have := RSlower_fn main h' xfs xss n _ _ (hxf.ext hE) (hxs.ext hE) (by omega)
     rw [hww] at this
     exact this
    refine a1 9 (y_move rfl rfl) rfl ?_
    refine a1 10 (y_extract rfl rfl rfl) rfl ?_
    refine a1 11 (y_extract rfl rfl rfl) rfl ?_
    refine a1 12 (y_assign rfl rfl) rfl ?_
    refine a1 13 (y_assign rfl rfl) rfl ?_
    refine az ?_
    refine thn_n <| W.seq ?_
    refine W.drawL [] (n := 17) rfl ?_
    refine a1 0 (y_move rfl rfl) rfl ?_
    refine a1 1 (y_move rfl rfl) rfl ?_
    refine a1 2 ((y_neq rfl rfl rfl).eq (u := .bool false) (by simp)) rfl ?_
    refine a1 3 (y_move rfl rfl) rfl ?_
    refine aq (i := 4) (y_move rfl rfl) rfl (wantε_some rfl rfl rfl rfl) rfl rfl ?_
    refine aq (i := 5) (y_move rfl rfl) rfl (wantε_some rfl rfl rfl rfl) rfl rfl ?_
    refine aq (i := 6) ((y_neq rfl rfl rfl).eq (u := .bool false) (by simp)) rfl (wantε_some rfl rfl rfl rfl) rfl rfl ?_
    refine a1 7 (y_pickF rfl rfl rfl) rfl ?_
    refine a1 8 (y_move rfl rfl) rfl ?_
    first | refine aq (i := 9) (yldW rfl rfl) rfl (wantε_some rfl rfl rfl rfl) rfl rfl ?_ | refine aq (i := 9) (yldA rfl rfl) rfl (wantε_some rfl rfl rfl rfl) rfl rfl ?_
    refine aq (i := 10) (y_move rfl rfl) rfl (wantε_some rfl rfl rfl rfl) rfl rfl ?_
    refine aq (i := 11) (y_move rfl rfl) rfl (wantε_some rfl rfl rfl rfl) rfl rfl ?_
    first | refine aq (i := 12) (yix rfl rfl rfl) rfl (wantε_some rfl rfl rfl rfl) rfl rfl ?_ | refine aq (i := 12) (yixI rfl rfl rfl) rfl (wantε_some rfl rfl rfl rfl) rfl rfl ?_
    first | refine aq (i := 13) (yldW rfl rfl) rfl (wantε_some rfl rfl rfl rfl) rfl rfl ?_ | refine aq (i := 13) (yldA rfl rfl) rfl (wantε_some rfl rfl rfl rfl) rfl rfl ?_
    refine acp (i := 14) (u := .bool true) (vs := [.agg #[.slice yfa xfs.length yfc, .slice ysa xss.length ysc], .agg #[.slice p.f.a p.f.n p.f.cap, .slice p.s.a p.s.n p.s.cap]]) (fun h' hE hL => EqPlants_fn _ h' xfs xss _ _ _ _ (hsyf.ext hE) (hsys.ext hE) (hxf.ext hE) (hxs.ext hE) (by omega)) ?_
    refine aq (i := 15) (y_not rfl rfl) rfl (wantε_some rfl rfl rfl rfl) rfl rfl ?_
    refine a1 16 (y_pickF rfl rfl rfl) rfl ?_
    refine az ?_
    refine thn_n ?_
    refine W.condF ?_
    refine W.skip <| blk_n <| thn_n <| W.region rfl <| qm rfl rfl rfl ?_
    refine pq rfl ?_
    refine qs rfl rfl rfl <| nn ?_
    exact ⟨rfl, i + 1, by omega, by omega, ⟨rfl, rfl, rfl, trivial⟩, .refl⟩
   ·refine W.exit <| thn_x <| thn_x <| blk_x <| thn_n <| W.seq <| W.region rfl ?_
    refine cp (fun h' hE hL => exs_fn _ hS hmb h' Eg zg (hE.1 _ _ hg9) (hE.2 _ z9)) ?_
    refine qs rfl rfl rfl <| nn <| W.ret ?_
    exact lvq rfl
end Go.Mus

/- FloorNeeds's card. Conditions: as the card says; over the given program. -/
namespace Go.Proofs.YtnffnndmilpnoaaGreatDoor
open Go Go.Mus
set_option maxRecDepth 100000
set_option maxHeartbeats 4000000
theorem floorNeeds_args (main : Side) (hS : ∀ S, main.ok S → ∃ Fin, S = Mn prog Fin) (hmb : main.b = true) (h : Hp) : ∀ (args : List Value) (_ : ArgsOK h [t_Plant, t_Floor, t_Strike, t_int, t_sl_int] args) (Eg : TypeId) (zg : Nat × Nat) (_ : h 0 = some (.cells #[rtV t_error] Eg zg)) (_ : h.z 0), TopV prog main n_law_FloorNeeds args.toArray h (.bool true)
 | [v0, v1, v2, v3, v4], ⟨h0, h1, h2, h3, h4, _⟩, Eg, zg, hg, z0 => by
  obtain ⟨vf0, vs0, fs0, ss0, rfl, hf0, hs0⟩ := h0.plant rfl
  obtain ⟨f1, rfl⟩ := h1.floor rfl
  obtain ⟨s2, rfl⟩ := h2.strike rfl
  obtain ⟨n3, rfl⟩ := h3.int rfl
  obtain ⟨x4, hx4⟩ := h4.ints rfl
  apply FloorNeeds_top main hS hmb h
  all_goals first | assumption | exact hg | exact z0
 | [], h, _, _, _, _ => h.elim
 | [v0], ⟨h0, h⟩, _, _, _, _ => h.elim
 | [v0, v1], ⟨h0, h1, h⟩, _, _, _, _ => h.elim
 | [v0, v1, v2], ⟨h0, h1, h2, h⟩, _, _, _, _ => h.elim
 | [v0, v1, v2, v3], ⟨h0, h1, h2, h3, h⟩, _, _, _, _ => h.elim
 | v0 :: v1 :: v2 :: v3 :: v4 :: v5 :: r, ⟨h0, h1, h2, h3, h4, h⟩, _, _, _, _ => h.elim
theorem floorNeeds_row : Rows.FloorNeedsSaid :=
 OpenClaim.holds_of_wide_leaving n_law_FloorNeeds F_law_FloorNeeds rfl rfl rfl rfl rfl rfl rfl ⟨rfl, rfl, rfl, rfl, rfl⟩ rfl rfl rfl rfl rfl (by kernel_rfl) at_law_FloorNeeds (by kernel_rfl)
  (of_decide_eq_true (by kernel_rfl)) (by unfold Func.isWrapper; first | (rw [if_pos (by decide +kernel)]; kernel_rfl) | (rw [if_neg (by decide +kernel)]; exact ⟨rfl, rfl⟩))
  (fun os started H enc _ => liftN (s := Rows.floorNeedsSpec) os started H enc at_law_FloorNeeds (by kernel_rfl) [t_Plant, t_Floor, t_Strike, t_int, t_sl_int] (by kernel_rfl) (fun t ht => by
    have h0 : ([t_Plant, t_Floor, t_Strike, t_int, t_sl_int] : List TypeId).all (fun t => prog.readableRec t && Nat.blt t prog.types.size) = true := by kernel_rfl
    have h1 := List.all_eq_true.1 h0 t ht
    rw [Bool.and_eq_true] at h1
    exact ⟨h1.1, Nat.le_of_ble_eq_true h1.2⟩) (by kernel_rfl) (by kernel_rfl) rfl (fun ds hd => by
    match ds, hd with
    | [d0, d1, d2, d3, d4], _ => rfl)
   (ChangeSpec.witness_at (enc := enc) (C := Tryz.checked) (os := os) (X := fun w _ => laidMetH prog laid0 w) false (laidWorld os) #[.agg #[.slice none 0 0, .slice none 0 0], .agg #[I 0, I 0, I 0, I 0], .agg #[I 0, I 0, I 0], I 0, .slice none 0 0] 8 rfl (by kernel_rfl) (by kernel_rfl) (by kernel_rfl) (by kernel_rfl) (by kernel_rfl) (laidWorld_met os _))
   (fun main hS hmb h args ha Eg zg hg z0 => floorNeeds_args main hS hmb h args ha Eg zg hg z0))

theorem FloorNeeds_card : Rows.FloorNeedsCardSaid :=
 tied_goes .later [] [.handle] true (true, "932c88532bdd9f747448356d9505525067ce9e853f4d287a395f8a57faaf4fbd") true
  floorNeeds_row (fun _ h => by cases h) (by kernel_rfl) (fun _ h => by cases h) floorNeeds_row_tie rfl ⟨rfl, rfl⟩ (by kernel_rfl) rfl
  (fun f fn hf hfn => by
   obtain rfl : f = n_law_FloorNeeds := (Option.some.inj ((show prog.funcNamed Rows.floorNeedsRow.func = some n_law_FloorNeeds by kernel_rfl).symm.trans hf)).symm
   obtain rfl : fn = F_law_FloorNeeds := (Option.some.inj (at_law_FloorNeeds.symm.trans hfn)).symm
   exact ⟨by kernel_rfl, fun j t ht => by
    rw [← Array.getElem?_toList, show (F_law_FloorNeeds).params.toList = [t_Plant, t_Floor, t_Strike, t_int, t_sl_int] by kernel_rfl] at ht
    have h3 := List.mem_of_getElem? ht
    simp only [List.mem_cons, List.not_mem_nil, or_false] at h3
    rcases h3 with rfl | rfl | rfl | rfl | rfl <;> (show prog.wantsStandIn _ = false; kernel_rfl)⟩)
  (by kernel_rfl)
#print axioms FloorNeeds_card
end Go.Proofs.YtnffnndmilpnoaaGreatDoor
