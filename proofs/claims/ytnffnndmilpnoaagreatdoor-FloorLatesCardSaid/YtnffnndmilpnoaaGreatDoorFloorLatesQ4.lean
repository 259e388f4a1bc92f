/- The document's way through all plans. Conditions: none; over the given program. -/
import Derived.Test.YtnffnndmilpnoaaGreatDoorFloorLatesQ3
import Derived.Test.YtnffnndmilpnoaaGreatDoorFloorLatesQ2
set_option linter.unusedVariables false
set_option linter.unusedSimpArgs false
set_option linter.unusedSectionVars false

/- The document's way through all plans. Conditions: none; over the given program. -/
namespace Go.Mus
set_option maxRecDepth 100000
set_option maxHeartbeats 40000000
theorem Rstandsp_fn (main : Side) (h : Hp) (fs : List Fl) (ss : List St) (l : List Be) (f d : Int) (vf vs vl : Value) (hf : Sl h Fl.row vf fs) (hs : Sl h St.row vs ss) (hl : Sl h Be.row vl l) (hall : HallOK fs ss) (hpl : PlanOf fs ss (padB l)) (hn : l.length ≤ ss.length) (hf0 : 0 ≤ f ∧ f < fs.length) : Pu prog main n_ref_stands #[.agg #[vf, vs], vl, I f, I d] h (.agg #[I (sumK (loG fs ss l f d) l.length), I (sumK (hiG fs ss l f d) l.length)]) := by
 have hns := hall.ns
 have hfo := fl_ok hall hf0.1 hf0.2
 have hx0 := flAt_some hf0.1 hf0.2
 obtain ⟨⟨pl, lo, hi', co⟩, hfa⟩ : ∃ x, flAt fs f = x := ⟨_, rfl⟩
 rw [hfa] at hx0 hfo
 dsimp only at hfo
 obtain ⟨a', cap', rfl⟩ := hs.isSl
 obtain ⟨a2, cap2, rfl⟩ := hl.isSl
 obtain ⟨a, cap, rfl⟩ := hf.isSl
 obtain ⟨bf, off, c, E, fz, rfl, hbk, hx1, hy1, hz1⟩ := hf.at hx0
 have hx2 := ext2 hx1
 clear hx1 hz1
 refine Fnc.of_body at_ref_stands rfl (by show 4 ≤ 81; decide) [(0, .agg #[.slice (some ⟨bf, off, none⟩) fs.length cap, .slice a' ss.length cap']), (1, .slice a2 l.length cap2), (2, I f), (3, I d)] ⟨rfl, rfl, rfl, rfl, trivial⟩ ?_
 refine W.seq <| W.region rfl ?_
 refine Ops.box (cs := #[.slice (some ⟨bf, off, none⟩) fs.length cap, .slice a' ss.length cap']) (fun β4 => ?_) rfl rfl rfl
 refine Ops.new (fun β8 => ?_)
 refine Ops.nil <| thn_n <| W.seq <| W.region rfl ?_
 refine Ops.new (fun β9 => ?_)
 refine Ops.nil <| thn_n <| W.seq <| W.region rfl ?_
 refine o1 (y_fieldAddr rfl rfl) rfl ?_
 refine o1 (yld rfl rfl) rfl ?_
 refine qm rfl rfl rfl ?_
 first | refine o1 (yix rfl rfl rfl) rfl ?_ | refine o1 (yixI rfl rfl rfl) rfl ?_
 refine o1 (y_fieldAddr rfl rfl) rfl ?_
 first | refine o1 (yldW rfl rfl) rfl ?_ | refine o1 (yldA rfl rfl) rfl ?_
 refine Ops.new (fun β10 => ?_)
 first | refine Ops.stoW ?_ | refine Ops.stoA ?_
 refine Ops.nil <| thn_n <| W.seq <| W.seq <| W.region rfl <| qs rfl rfl rfl <| Ops.nil <| thn_n <| W.block ?_
 refine W.loop (σ := Nat) (fun k => k ≤ l.length) (fun k => [(11, I k), (10, .pointer (some ⟨β10, 0, none⟩)), (9, .pointer (some ⟨β9, 0, none⟩)), (8, .pointer (some ⟨β8, 0, none⟩)), (4, .pointer (some ⟨β4, 0, none⟩)), (1, .slice a2 l.length cap2), (2, I f), (3, I d)]) (fun k => [(β10, .cells #[I lo, I hi'] t_Span (0, 0)), (β9, .cells #[I (sumK (loG fs ss l f d) k), I (sumK (hiG fs ss l f d) k)] t_Span (0, 0)), (β8, .cells #[I 0, I 0] t_Span (0, 0)), (β4, .cells #[.slice (some ⟨bf, off, none⟩) fs.length cap, .slice a' ss.length cap'] t_Plant (0, 0))]) (fun k => l.length - k) 0 (Nat.zero_le _) ⟨rfl, rfl, rfl, rfl, rfl, rfl, rfl, rfl, trivial⟩ .refl ?_
 rintro k hk
 refine W.seq <| W.seq <| W.region rfl <| qm rfl rfl rfl <| qm rfl rfl rfl ?_
 refine o1 (y_len rfl rfl) rfl ?_
 refine o1 (y_lss rfl rfl rfl) rfl ?_
 refine Ops.nil <| thn_n ?_
 refine W.condp rfl (fun c21 => ?_) (fun c21 => ?_)
 ·have hk1 : k < l.length := by omega
  have hb0 : l[k]? = some (beAt l k) := by simp [beAt, List.getD, List.getElem?_eq_getElem hk1]
  have hpo := hpl.ok.ok _ (List.mem_append_left _ (List.mem_of_getElem? hb0))
  obtain ⟨s, hs0, -⟩ := has (show k < ss.length by omega)
  have hsa : stAt ss k = s := by simp [stAt, List.getD, hs0]
  have hco := co_ok hall k
  rw [hsa] at hco
  have hsum := sums_le (l := l) (d := d) hall hf0.1 hf0.2 k
  have hlg : loG fs ss l f d k = if (beAt l k).fl = f ∧ (beAt l k).day ≤ d ∧ d < (beAt l k).day + lo then s.co else 0 := by rw [loG, hfa, hsa]
  have hhg : hiG fs ss l f d k = if (beAt l k).fl = f ∧ (beAt l k).day ≤ d ∧ d < (beAt l k).day + hi' then s.co else 0 := by rw [hiG, hfa, hsa]
  have hs1 : sumK (loG fs ss l f d) (k + 1) = sumK (loG fs ss l f d) k + loG fs ss l f d k := rfl
  have hs2 : sumK (hiG fs ss l f d) (k + 1) = sumK (hiG fs ss l f d) k + hiG fs ss l f d k := rfl
  rw [hlg] at hs1
  rw [hhg] at hs2
  generalize sumK (loG fs ss l f d) k = x1 at *
  generalize sumK (hiG fs ss l f d) k = x2 at *
  obtain ⟨bl, offl, cl, El, fzl, rfl, hbl, -, hyl, hzl⟩ := hl.at hb0
  have hfl0 : cl[offl + k * 2 + 0]? = some (I (beAt l k).fl) := hzl 0 (by decide)
  have hfl1 : cl[offl + k * 2 + 1]? = some (I (beAt l k).day) := hzl 1 (by decide)
  clear hzl
  obtain ⟨bs, offs, cs, Es, fzs, rfl, hbs, -, hys, hzs⟩ := hs.at hs0
  have hfs : cs[offs + k * 3 + 1]? = some (I s.co) := hzs 1 (by decide)
  clear hzs
  generalize beAt l k = b at *
  refine W.skip <| thn_n <| W.seq <| W.block <| W.seq <| W.seq <| W.region rfl <| qm rfl rfl rfl <| qm rfl rfl rfl ?_
  first | refine o1 (yix rfl rfl rfl) rfl ?_ | refine o1 (yixI rfl rfl rfl) rfl ?_
  refine o1 (y_fieldAddr rfl rfl) rfl ?_
  refine o1 (yld rfl rfl) rfl ?_
  refine qm rfl rfl rfl ?_
  refine o1 (y_neq rfl rfl rfl) rfl ?_
  refine qm rfl rfl rfl ?_
  refine Ops.ask (fun a6_8 => ?_) (fun a6_8 => ?_)
  ·refine Ops.no ?_
   refine Ops.no ?_
   refine Ops.no ?_
   refine Ops.no ?_
   refine Ops.no ?_
   refine Ops.no ?_
   refine Ops.no ?_
   refine o1 (y_pickT rfl rfl rfl) rfl ?_
   refine Ops.nil <| thn_n ?_
   refine W.condT ?_
   refine W.exit <| thn_x <| blk_x <| thn_n <| W.region rfl <| qm rfl rfl rfl ?_
   first | refine o1 (yadd rfl rfl rfl) rfl ?_ | refine o1 (y_addw rfl rfl rfl) rfl ?_
   refine qs rfl rfl rfl <| Ops.nil <| thn_n ?_
   refine ⟨rfl, k + 1, by omega, by omega, ⟨rfl, rfl, rfl, rfl, rfl, rfl, rfl, rfl, trivial⟩, ?_⟩
   rw [hs1, hs2]
   first
   | (exfalso; omega)
   | (rw [if_neg (by omega), if_neg (by omega), Int.add_zero, Int.add_zero]; exact .refl)
   | (rw [if_neg (by omega), if_pos (by omega), Int.add_zero]; exact .refl)
   | (rw [if_pos (by omega), if_pos (by omega)]; exact .refl)
  ·refine oq (y_move rfl rfl) rfl (want_some rfl rfl rfl) rfl rfl ?_
   refine oq (y_move rfl rfl) rfl (want_some rfl rfl rfl) rfl rfl ?_
   refine oq (y_move rfl rfl) rfl (want_some rfl rfl rfl) rfl rfl ?_
   first | refine oq (yix rfl rfl rfl) rfl (want_some rfl rfl rfl) rfl rfl ?_ | refine oq (yixI rfl rfl rfl) rfl (want_some rfl rfl rfl) rfl rfl ?_
   refine oq (y_fieldAddr rfl rfl) rfl (want_some rfl rfl rfl) rfl rfl ?_
   refine oq (yld rfl rfl) rfl (want_some rfl rfl rfl) rfl rfl ?_
   refine oq (y_lss rfl rfl rfl) rfl (want_some rfl rfl rfl) rfl rfl ?_
   refine o1 (y_pickF rfl rfl rfl) rfl ?_
   refine Ops.nil <| thn_n ?_
   refine W.condp rfl (fun c39 => ?_) (fun c39 => ?_)
   ·refine W.exit <| thn_x <| blk_x <| thn_n <| W.region rfl <| qm rfl rfl rfl ?_
    first | refine o1 (yadd rfl rfl rfl) rfl ?_ | refine o1 (y_addw rfl rfl rfl) rfl ?_
    refine qs rfl rfl rfl <| Ops.nil <| thn_n ?_
    refine ⟨rfl, k + 1, by omega, by omega, ⟨rfl, rfl, rfl, rfl, rfl, rfl, rfl, rfl, trivial⟩, ?_⟩
    rw [hs1, hs2]
    first
    | (exfalso; omega)
    | (rw [if_neg (by omega), if_neg (by omega), Int.add_zero, Int.add_zero]; exact .refl)
    | (rw [if_neg (by omega), if_pos (by omega), Int.add_zero]; exact .refl)
    | (rw [if_pos (by omega), if_pos (by omega)]; exact .refl)
   ·refine W.skip <| thn_n <| W.seq <| W.seq ?_
    refine W.drawP4 (n := 10) rfl ?_
    refine a1 0 (y_move rfl rfl) rfl ?_
    refine a1 1 (y_move rfl rfl) rfl ?_
    refine a1 2 (y_move rfl rfl) rfl ?_
    first | refine a1 3 (yix rfl rfl rfl) rfl ?_ | refine a1 3 (yixI rfl rfl rfl) rfl ?_
    refine a1 4 (y_fieldAddr rfl rfl) rfl ?_
    refine a1 5 (yld rfl rfl) rfl ?_
    refine a1 6 (y_fieldAddr rfl rfl) rfl ?_
    refine a1 7 (yld rfl rfl) rfl ?_
    first | refine a1 8 (yadd rfl rfl rfl) rfl ?_ | refine a1 8 (y_addw rfl rfl rfl) rfl ?_
    refine a1 9 (y_lss rfl rfl rfl) rfl ?_
    refine az ?_
    refine thn_n ?_
    refine W.condp rfl (fun c49 => ?_) (fun c49 => ?_)
    ·refine W.drawP4 (n := 11) rfl ?_
     refine a1 0 (y_fieldAddr rfl rfl) rfl ?_
     refine a1 1 (yld rfl rfl) rfl ?_
     refine a1 2 (y_fieldAddr rfl rfl) rfl ?_
     refine a1 3 (yld rfl rfl) rfl ?_
     refine a1 4 (y_move rfl rfl) rfl ?_
     first | refine a1 5 (yix rfl rfl rfl) rfl ?_ | refine a1 5 (yixI rfl rfl rfl) rfl ?_
     refine a1 6 (y_fieldAddr rfl rfl) rfl ?_
     refine a1 7 (yld rfl rfl) rfl ?_
     first | refine a1 8 (yadd rfl rfl rfl) rfl ?_ | refine a1 8 (y_addw rfl rfl rfl) rfl ?_
     refine a1 9 (y_fieldAddr rfl rfl) rfl ?_
     refine ae (i := 10) rfl an rfl rfl (eS rfl rfl rfl ?_)
     refine ⟨.inl (by kernel_rfl), ?_⟩
     refine az ?_
     refine thn_n <| W.seq ?_
     refine W.drawP4 (n := 10) rfl ?_
     refine a1 0 (y_move rfl rfl) rfl ?_
     refine a1 1 (y_move rfl rfl) rfl ?_
     refine a1 2 (y_move rfl rfl) rfl ?_
     first | refine a1 3 (yix rfl rfl rfl) rfl ?_ | refine a1 3 (yixI rfl rfl rfl) rfl ?_
     refine a1 4 (y_fieldAddr rfl rfl) rfl ?_
     refine a1 5 (yld rfl rfl) rfl ?_
     refine a1 6 (y_fieldAddr rfl rfl) rfl ?_
     refine a1 7 (yld rfl rfl) rfl ?_
     first | refine a1 8 (yadd rfl rfl rfl) rfl ?_ | refine a1 8 (y_addw rfl rfl rfl) rfl ?_
     refine a1 9 (y_lss rfl rfl rfl) rfl ?_
     refine az ?_
     refine thn_n ?_
     refine W.condp rfl (fun c69 => ?_) (fun c69 => ?_)
     ·refine W.drawP4 (n := 11) rfl ?_
      refine a1 0 (y_fieldAddr rfl rfl) rfl ?_
      refine a1 1 (yld rfl rfl) rfl ?_
      refine a1 2 (y_fieldAddr rfl rfl) rfl ?_
      refine a1 3 (yld rfl rfl) rfl ?_
      refine a1 4 (y_move rfl rfl) rfl ?_
      first | refine a1 5 (yix rfl rfl rfl) rfl ?_ | refine a1 5 (yixI rfl rfl rfl) rfl ?_
      refine a1 6 (y_fieldAddr rfl rfl) rfl ?_
      refine a1 7 (yld rfl rfl) rfl ?_
      first | refine a1 8 (yadd rfl rfl rfl) rfl ?_ | refine a1 8 (y_addw rfl rfl rfl) rfl ?_
      refine a1 9 (y_fieldAddr rfl rfl) rfl ?_
      refine ae (i := 10) rfl an rfl rfl (eS rfl rfl rfl ?_)
      refine ⟨.inl (by kernel_rfl), ?_⟩
      refine az ?_
      refine blk_n <| thn_n <| W.region rfl <| qm rfl rfl rfl ?_
      first | refine o1 (yadd rfl rfl rfl) rfl ?_ | refine o1 (y_addw rfl rfl rfl) rfl ?_
      refine qs rfl rfl rfl <| Ops.nil <| thn_n ?_
      refine ⟨rfl, k + 1, by omega, by omega, ⟨rfl, rfl, rfl, rfl, rfl, rfl, rfl, rfl, trivial⟩, ?_⟩
      rw [hs1, hs2]
      first
      | (exfalso; omega)
      | (rw [if_neg (by omega), if_neg (by omega), Int.add_zero, Int.add_zero]; exact .refl)
      | (rw [if_neg (by omega), if_pos (by omega), Int.add_zero]; exact .refl)
      | (rw [if_pos (by omega), if_pos (by omega)]; exact .refl)
     ·refine W.skip <| blk_n <| thn_n <| W.region rfl <| qm rfl rfl rfl ?_
      first | refine o1 (yadd rfl rfl rfl) rfl ?_ | refine o1 (y_addw rfl rfl rfl) rfl ?_
      refine qs rfl rfl rfl <| Ops.nil <| thn_n ?_
      refine ⟨rfl, k + 1, by omega, by omega, ⟨rfl, rfl, rfl, rfl, rfl, rfl, rfl, rfl, trivial⟩, ?_⟩
      rw [hs1, hs2]
      first
      | (exfalso; omega)
      | (rw [if_neg (by omega), if_neg (by omega), Int.add_zero, Int.add_zero]; exact .refl)
      | (rw [if_neg (by omega), if_pos (by omega), Int.add_zero]; exact .refl)
      | (rw [if_pos (by omega), if_pos (by omega)]; exact .refl)
    ·refine W.skip <| thn_n <| W.seq ?_
     refine W.drawP4 (n := 10) rfl ?_
     refine a1 0 (y_move rfl rfl) rfl ?_
     refine a1 1 (y_move rfl rfl) rfl ?_
     refine a1 2 (y_move rfl rfl) rfl ?_
     first | refine a1 3 (yix rfl rfl rfl) rfl ?_ | refine a1 3 (yixI rfl rfl rfl) rfl ?_
     refine a1 4 (y_fieldAddr rfl rfl) rfl ?_
     refine a1 5 (yld rfl rfl) rfl ?_
     refine a1 6 (y_fieldAddr rfl rfl) rfl ?_
     refine a1 7 (yld rfl rfl) rfl ?_
     first | refine a1 8 (yadd rfl rfl rfl) rfl ?_ | refine a1 8 (y_addw rfl rfl rfl) rfl ?_
     refine a1 9 (y_lss rfl rfl rfl) rfl ?_
     refine az ?_
     refine thn_n ?_
     refine W.condp rfl (fun c69 => ?_) (fun c69 => ?_)
     ·refine W.drawP4 (n := 11) rfl ?_
      refine a1 0 (y_fieldAddr rfl rfl) rfl ?_
      refine a1 1 (yld rfl rfl) rfl ?_
      refine a1 2 (y_fieldAddr rfl rfl) rfl ?_
      refine a1 3 (yld rfl rfl) rfl ?_
      refine a1 4 (y_move rfl rfl) rfl ?_
      first | refine a1 5 (yix rfl rfl rfl) rfl ?_ | refine a1 5 (yixI rfl rfl rfl) rfl ?_
      refine a1 6 (y_fieldAddr rfl rfl) rfl ?_
      refine a1 7 (yld rfl rfl) rfl ?_
      first | refine a1 8 (yadd rfl rfl rfl) rfl ?_ | refine a1 8 (y_addw rfl rfl rfl) rfl ?_
      refine a1 9 (y_fieldAddr rfl rfl) rfl ?_
      refine ae (i := 10) rfl an rfl rfl (eS rfl rfl rfl ?_)
      refine ⟨.inl (by kernel_rfl), ?_⟩
      refine az ?_
      refine blk_n <| thn_n <| W.region rfl <| qm rfl rfl rfl ?_
      first | refine o1 (yadd rfl rfl rfl) rfl ?_ | refine o1 (y_addw rfl rfl rfl) rfl ?_
      refine qs rfl rfl rfl <| Ops.nil <| thn_n ?_
      refine ⟨rfl, k + 1, by omega, by omega, ⟨rfl, rfl, rfl, rfl, rfl, rfl, rfl, rfl, trivial⟩, ?_⟩
      rw [hs1, hs2]
      first
      | (exfalso; omega)
      | (rw [if_neg (by omega), if_neg (by omega), Int.add_zero, Int.add_zero]; exact .refl)
      | (rw [if_neg (by omega), if_pos (by omega), Int.add_zero]; exact .refl)
      | (rw [if_pos (by omega), if_pos (by omega)]; exact .refl)
     ·refine W.skip <| blk_n <| thn_n <| W.region rfl <| qm rfl rfl rfl ?_
      first | refine o1 (yadd rfl rfl rfl) rfl ?_ | refine o1 (y_addw rfl rfl rfl) rfl ?_
      refine qs rfl rfl rfl <| Ops.nil <| thn_n ?_
      refine ⟨rfl, k + 1, by omega, by omega, ⟨rfl, rfl, rfl, rfl, rfl, rfl, rfl, rfl, trivial⟩, ?_⟩
      rw [hs1, hs2]
      first
      | (exfalso; omega)
      | (rw [if_neg (by omega), if_neg (by omega), Int.add_zero, Int.add_zero]; exact .refl)
      | (rw [if_neg (by omega), if_pos (by omega), Int.add_zero]; exact .refl)
      | (rw [if_pos (by omega), if_pos (by omega)]; exact .refl)
 ·have hke : k = l.length := by omega
  subst hke
  refine W.exit <| thn_x <| thn_x <| blk_x <| thn_n <| W.seq <| W.region rfl ?_
  first | refine o1 (yldW rfl rfl) rfl ?_ | refine o1 (yldA rfl rfl) rfl ?_
  first | refine Ops.stoW ?_ | refine Ops.stoA ?_
  refine Ops.nil <| thn_n <| W.ret ?_
  exact lvc (hv := rAgg rNil) ⟨rfl, by repeat (first | exact Shut.nil | refine Shut.cons rfl ?_)⟩


theorem Rfull_fn (main : Side) (h : Hp) (fs : List Fl) (ss : List St) (l : List Be) (f : Nat) (vf vs vl : Value) (hf : Sl h Fl.row vf fs) (hs : Sl h St.row vs ss) (hl : Sl h Be.row vl l) (hall : HallOK fs ss) (hpl : PlanOf fs ss (padB l)) (hn : l.length ≤ ss.length) (hf0 : f < fs.length) : Pu prog main n_ref_full #[.agg #[vf, vs], vl, I f] h (.bool (fullL fs ss l f)) := by
 have hns := hall.ns
 have hnf := hall.nf
 have hfi : (0 : Int) ≤ f ∧ (f : Int) < fs.length := by omega
 have hx0 := flAt_some hfi.1 hfi.2
 obtain ⟨⟨pl, lo, hi', co⟩, hfa⟩ : ∃ x, flAt fs f = x := ⟨_, rfl⟩
 rw [hfa, Int.toNat_natCast] at hx0
 obtain ⟨a, cap, rfl⟩ := hf.isSl
 obtain ⟨a', cap', rfl⟩ := hs.isSl
 obtain ⟨al, lc, rfl⟩ := hl.isSl
 have hstd : ∀ (h' : Hp) (x : Int), Ext h h' → Pu prog main n_ref_stands #[.agg #[.slice a fs.length cap, .slice a' ss.length cap'], .slice al l.length lc, I f, I x] h' (.agg #[I (sumK (loG fs ss l f x) l.length), I (sumK (hiG fs ss l f x) l.length)]) := fun h' x hE => Rstandsp_fn main h' fs ss l f x _ _ _ (hf.ext hE) (hs.ext hE) (hl.ext hE) hall hpl hn hfi
 obtain ⟨bf, off, cf, E, fz, rfl, hbk, -, hy1, hz1⟩ := hf.at hx0
 have hd0 : cf[off + f * 4 + 0]? = some (I pl) := hz1 0 (by decide)
 clear hz1
 have hfull : fullL fs ss l f = (List.range l.length).any fun i => decide ((beAt l i).fl = f) && decide (pl < sumK (hiG fs ss l f (beAt l i).day) l.length) := by rw [fullL, hfa]
 rw [hfull]
 refine Fnc.of_body at_ref_full rfl (by show 3 ≤ 40; decide) [(0, .agg #[.slice (some ⟨bf, off, none⟩) fs.length cap, .slice a' ss.length cap']), (1, .slice al l.length lc), (2, I f)] ⟨rfl, rfl, rfl, trivial⟩ ?_
 refine W.seq <| W.region rfl ?_
 refine Ops.box (cs := #[.slice (some ⟨bf, off, none⟩) fs.length cap, .slice a' ss.length cap']) (fun β3 => ?_) rfl rfl rfl
 refine qs rfl rfl rfl <| Ops.nil <| thn_n <| W.seq <| W.seq <| W.region rfl <| qs rfl rfl rfl <| Ops.nil <| thn_n <| W.block ?_
 refine W.loop (σ := Nat) (fun k => k ≤ l.length ∧ ∀ i, i < k → ¬ ((beAt l i).fl = f ∧ pl < sumK (hiG fs ss l f (beAt l i).day) l.length)) (fun k => [(7, I k), (3, .pointer (some ⟨β3, 0, none⟩)), (1, .slice al l.length lc), (2, I f)]) (fun _ => [(β3, .cells #[.slice (some ⟨bf, off, none⟩) fs.length cap, .slice a' ss.length cap'] t_Plant (0, 0))]) (fun k => l.length - k) 0 ⟨Nat.zero_le _, fun i hi => by omega⟩ ⟨rfl, rfl, rfl, rfl, trivial⟩ .refl ?_
 rintro k ⟨hk, hno⟩
 refine W.seq <| W.seq <| W.region rfl <| qm rfl rfl rfl <| qm rfl rfl rfl ?_
 refine o1 (y_len rfl rfl) rfl ?_
 refine o1 (y_lss rfl rfl rfl) rfl ?_
 refine Ops.nil <| thn_n ?_
 refine W.condp rfl (fun c11 => ?_) (fun c11 => ?_)
 ·have hk1 : k < l.length := by omega
  have hb0 : l[k]? = some (beAt l k) := by simp [beAt, List.getD, List.getElem?_eq_getElem hk1]
  obtain ⟨bl, offl, cl, El, fzl, rfl, hbl, -, hyl, hzl⟩ := hl.at hb0
  have hfl0 : cl[offl + k * 2 + 0]? = some (I (beAt l k).fl) := hzl 0 (by decide)
  have hfl1 : cl[offl + k * 2 + 1]? = some (I (beAt l k).day) := hzl 1 (by decide)
  clear hzl
  refine W.skip <| thn_n <| W.seq <| W.block <| W.seq ?_
  refine W.drawP1 (n := 26) rfl ?_
  refine a1 0 (y_move rfl rfl) rfl ?_
  refine a1 1 (y_move rfl rfl) rfl ?_
  first | refine a1 2 (yix rfl rfl rfl) rfl ?_ | refine a1 2 (yixI rfl rfl rfl) rfl ?_
  refine a1 3 (y_fieldAddr rfl rfl) rfl ?_
  refine a1 4 (yld rfl rfl) rfl ?_
  refine a1 5 (y_move rfl rfl) rfl ?_
  refine a1 6 (y_eql rfl rfl rfl) rfl ?_
  refine a1 7 (y_move rfl rfl) rfl ?_
  refine Any.ask (d' := 21) (fun a4_8 => ?_) (fun a4_8 => ?_)
  ·first | refine aq (i := 8) (yldW rfl rfl) rfl (wantε_some rfl rfl rfl rfl) rfl rfl ?_ | refine aq (i := 8) (yldA rfl rfl) rfl (wantε_some rfl rfl rfl rfl) rfl rfl ?_
   refine aq (i := 9) (y_move rfl rfl) rfl (wantε_some rfl rfl rfl rfl) rfl rfl ?_
   refine aq (i := 10) (y_move rfl rfl) rfl (wantε_some rfl rfl rfl rfl) rfl rfl ?_
   refine aq (i := 11) (y_move rfl rfl) rfl (wantε_some rfl rfl rfl rfl) rfl rfl ?_
   refine aq (i := 12) (y_move rfl rfl) rfl (wantε_some rfl rfl rfl rfl) rfl rfl ?_
   first | refine aq (i := 13) (yix rfl rfl rfl) rfl (wantε_some rfl rfl rfl rfl) rfl rfl ?_ | refine aq (i := 13) (yixI rfl rfl rfl) rfl (wantε_some rfl rfl rfl rfl) rfl rfl ?_
   refine aq (i := 14) (y_fieldAddr rfl rfl) rfl (wantε_some rfl rfl rfl rfl) rfl rfl ?_
   refine aq (i := 15) (yld rfl rfl) rfl (wantε_some rfl rfl rfl rfl) rfl rfl ?_
   refine aq (i := 18) (y_fieldAddr rfl rfl) rfl (wantε_some rfl rfl rfl rfl) rfl rfl ?_
   refine aq (i := 19) (yld rfl rfl) rfl (wantε_some rfl rfl rfl rfl) rfl rfl ?_
   refine aq (i := 20) (y_move rfl rfl) rfl (wantε_some rfl rfl rfl rfl) rfl rfl ?_
   first | refine aq (i := 21) (yix rfl rfl rfl) rfl (wantε_some rfl rfl rfl rfl) rfl rfl ?_ | refine aq (i := 21) (yixI rfl rfl rfl) rfl (wantε_some rfl rfl rfl rfl) rfl rfl ?_
   refine aq (i := 22) (y_fieldAddr rfl rfl) rfl (wantε_some rfl rfl rfl rfl) rfl rfl ?_
   refine aq (i := 23) (yld rfl rfl) rfl (wantε_some rfl rfl rfl rfl) rfl rfl ?_
   refine acp (i := 16) (vs := [.agg #[.slice (some ⟨bf, off, none⟩) fs.length cap, .slice a' ss.length cap'], .slice (some ⟨bl, offl, none⟩) l.length lc, I f, I (beAt l k).day]) (fun h' hE hL => hstd h' (beAt l k).day hE) ?_
   first | refine aq (i := 17) (y_field rfl rfl rfl) rfl (wantε_some rfl rfl rfl rfl) rfl rfl ?_ | refine aq (i := 17) (y_fieldA rfl rfl rfl) rfl (wantε_some rfl rfl rfl rfl) rfl rfl ?_
   refine aq (i := 24) (y_gtr rfl rfl rfl) rfl (wantε_some rfl rfl rfl rfl) rfl rfl ?_
   refine a1 25 (y_pickT rfl rfl rfl) rfl ?_
   refine az ?_
   refine thn_n ?_
   refine W.condp rfl (fun c39 => ?_) (fun c39 => ?_)
   ·refine W.seq <| W.region rfl <| qs rfl rfl rfl <| Ops.nil <| thn_n <| W.ret <| blk_r <| thn_r <| thn_r <| blk_r ?_
    refine thn_r ?_
    refine lvp (hs := .cons rfl .nil) ?_
    refine congrArg Value.bool ?_
    refine (List.any_eq_true.2 ⟨k, List.mem_range.2 hk1, ?_⟩).symm
    rw [Bool.and_eq_true]
    exact ⟨decide_eq_true (by assumption), decide_eq_true (by assumption)⟩
   ·refine W.skip <| blk_n <| thn_n <| W.region rfl <| qm rfl rfl rfl ?_
    first | refine o1 (yadd rfl rfl rfl) rfl ?_ | refine o1 (y_addw rfl rfl rfl) rfl ?_
    refine qs rfl rfl rfl <| Ops.nil <| thn_n ?_
    refine ⟨rfl, k + 1, ⟨by omega, fun i hi => ?_⟩, by omega, ⟨rfl, rfl, rfl, rfl, trivial⟩, .refl⟩
    by_cases e : i = k
    ·subst e
     rintro ⟨q1, q2⟩
     first | exact absurd q2 (by assumption) | exact absurd q1 (by assumption)
    ·exact hno i (by omega)
  ·refine ap (i := 8) rfl rfl rfl rfl rfl rfl ?_
   refine ap (i := 9) rfl rfl rfl rfl rfl rfl ?_
   refine ap (i := 10) rfl rfl rfl rfl rfl rfl ?_
   refine ap (i := 11) rfl rfl rfl rfl rfl rfl ?_
   refine ap (i := 12) rfl rfl rfl rfl rfl rfl ?_
   refine ap (i := 13) rfl rfl rfl rfl rfl rfl ?_
   refine ap (i := 14) rfl rfl rfl rfl rfl rfl ?_
   refine ap (i := 15) rfl rfl rfl rfl rfl rfl ?_
   refine ap (i := 18) rfl rfl rfl rfl rfl rfl ?_
   refine ap (i := 19) rfl rfl rfl rfl rfl rfl ?_
   refine ap (i := 20) rfl rfl rfl rfl rfl rfl ?_
   refine ap (i := 21) rfl rfl rfl rfl rfl rfl ?_
   refine ap (i := 22) rfl rfl rfl rfl rfl rfl ?_
   refine ap (i := 23) rfl rfl rfl rfl rfl rfl ?_
   refine ap (i := 16) rfl rfl rfl rfl rfl rfl ?_
   refine ap (i := 17) rfl rfl rfl rfl rfl rfl ?_
   refine ap (i := 24) rfl rfl rfl rfl rfl rfl ?_
   refine a1 25 (y_pickF rfl rfl rfl) rfl ?_
   refine az ?_
   refine thn_n ?_
   refine W.condF ?_
   refine W.skip <| blk_n <| thn_n <| W.region rfl <| qm rfl rfl rfl ?_
   first | refine o1 (yadd rfl rfl rfl) rfl ?_ | refine o1 (y_addw rfl rfl rfl) rfl ?_
   refine qs rfl rfl rfl <| Ops.nil <| thn_n ?_
   refine ⟨rfl, k + 1, ⟨by omega, fun i hi => ?_⟩, by omega, ⟨rfl, rfl, rfl, rfl, trivial⟩, .refl⟩
   by_cases e : i = k
   ·subst e
    rintro ⟨q1, q2⟩
    first | exact absurd q2 (by assumption) | exact absurd q1 (by assumption)
   ·exact hno i (by omega)
 ·refine W.exit <| thn_x <| thn_x <| blk_x <| thn_n <| W.seq <| W.region rfl <| qs rfl rfl rfl <| Ops.nil <| thn_n ?_
  refine W.ret ?_
  refine lvp (hs := .cons rfl .nil) ?_
  refine congrArg Value.bool ?_
  refine (List.any_eq_false.2 fun i hi => ?_).symm
  rw [List.mem_range] at hi
  have := hno i (by omega)
  rw [Bool.and_eq_true, decide_eq_true_eq, decide_eq_true_eq]
  exact this
end Go.Mus
