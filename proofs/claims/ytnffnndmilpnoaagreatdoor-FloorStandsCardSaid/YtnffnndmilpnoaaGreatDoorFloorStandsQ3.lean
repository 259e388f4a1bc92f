/- The document's answers of layer 5: checks, what stands. Conditions: none; over the given program. (And 1 texts more.) -/
import Derived.Test.YtnffnndmilpnoaaGreatDoorFloorStandsQ2
set_option linter.unusedVariables false
set_option linter.unusedSimpArgs false
set_option linter.unusedSectionVars false

/- The document's answers of layer 5: checks, what stands. Conditions: none; over the given program. -/
namespace Go.Mus
set_option maxRecDepth 100000
set_option maxHeartbeats 40000000
theorem among_fn (main : Side) (h : Hp) (n lo hi : Int) : Pu prog main n_ref_among #[I n, I lo, I hi] h (.bool (!decide (outs n lo hi))) := by
  refine Fnc.of_body at_ref_among rfl (by show 3 ≤ 15; decide) [(0, I n), (1, I lo), (2, I hi)] ⟨rfl, rfl, rfl, trivial⟩ ?_
  refine W.seq <| W.region rfl <| qs rfl rfl rfl <| Ops.nil <| thn_n <| W.seq <| W.region rfl <| qm rfl rfl rfl <| qm rfl rfl rfl ?_
  refine oq (y_geq rfl rfl rfl) rfl wn rfl rfl ?_
  refine qm rfl rfl rfl ?_
  refine Ops.ask (fun a1_4 => ?_) (fun a1_4 => ?_)
  · refine oq (y_move rfl rfl) rfl (want_some rfl rfl rfl) rfl rfl ?_
    refine oq (y_move rfl rfl) rfl (want_some rfl rfl rfl) rfl rfl ?_
    refine oq (y_leq rfl rfl rfl) rfl (want_some rfl rfl rfl) rfl rfl ?_
    refine oq (y_pickT rfl rfl rfl) rfl wn rfl rfl ?_
    refine qs rfl rfl rfl <| Ops.nil <| thn_n <| W.ret ?_
    refine lvp ?_
    refine congrArg Value.bool ?_
    first
    | (rw [decide_eq_true (show outs n lo hi from .inl (by omega))]; rfl)
    | (by_cases h1 : n ≤ hi
       · rw [decide_eq_false (show ¬ outs n lo hi from fun h => h.elim (by omega) (by omega))]; exact decide_eq_true h1
       · rw [decide_eq_true (show outs n lo hi from .inr (by omega))]; exact decide_eq_false h1)
  · refine Ops.no ?_
    refine Ops.no ?_
    refine Ops.no ?_
    refine oq (y_pickF rfl rfl rfl) rfl wn rfl rfl ?_
    refine qs rfl rfl rfl <| Ops.nil <| thn_n <| W.ret ?_
    refine lvp ?_
    refine congrArg Value.bool ?_
    first
    | (rw [decide_eq_true (show outs n lo hi from .inl (by omega))]; rfl)
    | (by_cases h1 : n ≤ hi
       · rw [decide_eq_false (show ¬ outs n lo hi from fun h => h.elim (by omega) (by omega))]; exact decide_eq_true h1
       · rw [decide_eq_true (show outs n lo hi from .inr (by omega))]; exact decide_eq_false h1)
theorem rcheckFloor_fn (main : Side) (h : Hp) (f : Fl) : Pu prog main n_ref_checkFloor #[f.val] h (I (ckFloor f)) := by
  refine Fnc.of_body at_ref_checkFloor rfl (by show 1 ≤ 32; decide) [(0, f.val)] ⟨rfl, trivial⟩ ?_
  refine W.seq <| W.region rfl ?_
  refine Ops.box (cs := #[I f.pl, I f.lo, I f.hi, I f.co]) (fun β1 => ?_) rfl rfl rfl
  refine qs rfl rfl rfl <| Ops.nil <| thn_n <| W.seq <| W.seq <| W.region rfl ?_
  refine oq (y_fieldAddr rfl rfl) rfl wn rfl rfl ?_
  refine oq (yld rfl rfl) rfl wn rfl rfl ?_
  refine cp (fun h' hE hL => among_fn _ h' _ _ _) ?_
  refine oq (y_not rfl rfl) rfl wn rfl rfl ?_
  refine qm rfl rfl rfl ?_
  refine Ops.askB (fun a1_5 => ?_) (fun a1_5 => ?_)
  · refine Ops.no ?_
    refine Ops.no ?_
    refine Ops.no ?_
    refine Ops.no ?_
    refine Ops.no ?_
    refine oq (y_pickT rfl rfl rfl) rfl wn rfl rfl ?_
    refine qm rfl rfl rfl ?_
    refine Ops.no ?_
    refine Ops.no ?_
    refine Ops.no ?_
    refine Ops.no ?_
    refine Ops.no ?_
    refine oq (y_pickT rfl rfl rfl) rfl wn rfl rfl ?_
    refine Ops.nil <| thn_n ?_
    refine W.condT ?_
    refine W.seq <| W.region rfl <| qs rfl rfl rfl <| Ops.nil <| thn_n <| W.ret <| thn_r ?_
    refine lvp (hs := .cons rfl .nil) ?_
    simp_all [ckFloor, pack]
  · refine oq (y_fieldAddr rfl rfl) rfl (want_some rfl rfl rfl) rfl rfl ?_
    refine oq (y_fieldAddr rfl rfl) rfl (want_some rfl rfl rfl) rfl rfl ?_
    refine oq (yld rfl rfl) rfl (want_some rfl rfl rfl) rfl rfl ?_
    refine cp (fun h' hE hL => among_fn _ h' _ _ _) ?_
    refine oq (y_not rfl rfl) rfl (want_some rfl rfl rfl) rfl rfl ?_
    refine oq (y_pickF rfl rfl rfl) rfl wn rfl rfl ?_
    refine qm rfl rfl rfl ?_
    refine Ops.askB (fun a1_12 => ?_) (fun a1_12 => ?_)
    · refine Ops.no ?_
      refine Ops.no ?_
      refine Ops.no ?_
      refine Ops.no ?_
      refine Ops.no ?_
      refine oq (y_pickT rfl rfl rfl) rfl wn rfl rfl ?_
      refine Ops.nil <| thn_n ?_
      refine W.condT ?_
      refine W.seq <| W.region rfl <| qs rfl rfl rfl <| Ops.nil <| thn_n <| W.ret <| thn_r ?_
      refine lvp (hs := .cons rfl .nil) ?_
      simp_all [ckFloor, pack]
    · refine oq (y_fieldAddr rfl rfl) rfl (want_some rfl rfl rfl) rfl rfl ?_
      refine oq (y_fieldAddr rfl rfl) rfl (want_some rfl rfl rfl) rfl rfl ?_
      refine oq (yld rfl rfl) rfl (want_some rfl rfl rfl) rfl rfl ?_
      refine cp (fun h' hE hL => among_fn _ h' _ _ _) ?_
      refine oq (y_not rfl rfl) rfl (want_some rfl rfl rfl) rfl rfl ?_
      refine oq (y_pickF rfl rfl rfl) rfl wn rfl rfl ?_
      refine Ops.nil <| thn_n ?_
      refine W.cond rfl (fun c20 => ?_) (fun c20 => ?_)
      · refine W.seq <| W.region rfl <| qs rfl rfl rfl <| Ops.nil <| thn_n <| W.ret <| thn_r ?_
        refine lvp (hs := .cons rfl .nil) ?_
        simp_all [ckFloor, pack]
      · refine W.skip <| thn_n <| W.seq <| W.seq <| W.region rfl ?_
        refine oq (y_fieldAddr rfl rfl) rfl wn rfl rfl ?_
        refine oq (y_fieldAddr rfl rfl) rfl wn rfl rfl ?_
        refine oq (yld rfl rfl) rfl wn rfl rfl ?_
        refine oq (y_fieldAddr rfl rfl) rfl wn rfl rfl ?_
        refine oq (y_fieldAddr rfl rfl) rfl wn rfl rfl ?_
        refine oq (yld rfl rfl) rfl wn rfl rfl ?_
        refine oq (y_gtr rfl rfl rfl) rfl wn rfl rfl ?_
        refine Ops.nil <| thn_n ?_
        refine W.condp rfl (fun c27 => ?_) (fun c27 => ?_)
        · refine W.seq <| W.region rfl <| qs rfl rfl rfl <| Ops.nil <| thn_n <| W.ret <| thn_r ?_
          refine lvp (hs := .cons rfl .nil) ?_
          simp_all [ckFloor, pack]
        · refine W.skip <| thn_n <| W.seq <| W.seq <| W.region rfl ?_
          refine oq (y_fieldAddr rfl rfl) rfl wn rfl rfl ?_
          refine oq (yld rfl rfl) rfl wn rfl rfl ?_
          refine cp (fun h' hE hL => among_fn _ h' _ _ _) ?_
          refine oq (y_not rfl rfl) rfl wn rfl rfl ?_
          refine Ops.nil <| thn_n ?_
          refine W.cond rfl (fun c31 => ?_) (fun c31 => ?_)
          · refine W.seq <| W.region rfl <| qs rfl rfl rfl <| Ops.nil <| thn_n <| W.ret <| thn_r ?_
            refine lvp (hs := .cons rfl .nil) ?_
            simp_all [ckFloor, pack]
          · refine W.skip <| thn_n <| W.seq <| W.region rfl <| qs rfl rfl rfl <| Ops.nil <| thn_n <| W.ret ?_
            refine lvp (hs := .cons rfl .nil) ?_
            simp_all [ckFloor, pack]

def befD (ss : List St) (k : Nat) : Int := if k = 0 then 0 else (stAt ss (k - 1)).day
theorem RCheck_fn (main : Side) (h : Hp) (fs : List Fl) (ss : List St) (vf vs : Value) (hf : Sl h Fl.row vf fs) (hs : Sl h St.row vs ss) : Pu prog main n_ref_Check #[.agg #[vf, vs]] h (I (ckPlant fs ss)) := by
  obtain ⟨a, cap, rfl⟩ := hf.isSl
  obtain ⟨a', cap', rfl⟩ := hs.isSl
  refine Fnc.of_body at_ref_Check rfl (by show 1 ≤ 77; decide) [(0, .agg #[.slice a fs.length cap, .slice a' ss.length cap'])] ⟨rfl, trivial⟩ ?_
  refine W.seq <| W.region rfl ?_
  refine Ops.box (cs := #[.slice a fs.length cap, .slice a' ss.length cap']) (fun β1 => ?_) rfl rfl rfl
  refine qs rfl rfl rfl <| Ops.nil <| thn_n <| W.seq <| W.seq <| W.region rfl ?_
  refine oq (y_fieldAddr rfl rfl) rfl wn rfl rfl ?_
  refine oq (yld rfl rfl) rfl wn rfl rfl ?_
  refine oq (y_len rfl rfl) rfl wn rfl rfl ?_
  refine oq (y_eql rfl rfl rfl) rfl wn rfl rfl ?_
  refine Ops.nil <| thn_n ?_
  refine W.condp rfl (fun c10 => ?_) (fun c10 => ?_)
  · refine W.seq <| W.region rfl <| qs rfl rfl rfl <| Ops.nil <| thn_n <| W.ret <| thn_r ?_
    refine lvp (hs := .cons rfl .nil) ?_
    show I _ = I _; congr 1; simp only [ckPlant]; rw [if_pos (by omega)]
  · refine W.skip <| thn_n <| W.seq <| W.seq <| W.region rfl ?_
    refine oq (y_fieldAddr rfl rfl) rfl wn rfl rfl ?_
    refine oq (yld rfl rfl) rfl wn rfl rfl ?_
    refine oq (y_len rfl rfl) rfl wn rfl rfl ?_
    refine oq (y_gtr rfl rfl rfl) rfl wn rfl rfl ?_
    refine Ops.nil <| thn_n ?_
    refine W.condp rfl (fun c14 => ?_) (fun c14 => ?_)
    · refine W.seq <| W.region rfl <| qs rfl rfl rfl <| Ops.nil <| thn_n <| W.ret <| thn_r ?_
      refine lvp (hs := .cons rfl .nil) ?_
      show I _ = I _; congr 1; simp only [ckPlant]; rw [if_neg (by omega), if_pos (by omega)]
    · refine W.skip <| thn_n <| W.seq <| W.seq <| W.region rfl <| qs rfl rfl rfl <| Ops.nil <| thn_n <| W.block ?_
      refine W.loop (σ := Nat) (fun k => k ≤ fs.length ∧ ckFloors fs = ckFloors (fs.drop k)) (fun k => [(3, I k), (1, .pointer (some ⟨β1, 0, none⟩))]) (fun _ => [(β1, .cells #[.slice a fs.length cap, .slice a' ss.length cap'] t_Plant (0, 0))]) (fun k => fs.length - k) 0 ⟨Nat.zero_le _, rfl⟩ ⟨rfl, rfl, trivial⟩ .refl ?_
      rintro k ⟨hk, hd⟩
      refine W.seq <| W.seq <| W.region rfl <| qm rfl rfl rfl ?_
      refine oq (y_fieldAddr rfl rfl) rfl wn rfl rfl ?_
      refine oq (yld rfl rfl) rfl wn rfl rfl ?_
      refine oq (y_len rfl rfl) rfl wn rfl rfl ?_
      refine oq (y_lss rfl rfl rfl) rfl wn rfl rfl ?_
      refine Ops.nil <| thn_n ?_
      refine W.condp rfl (fun c19 => ?_) (fun c19 => ?_)
      · obtain ⟨p, hp, hdr⟩ := has (show k < fs.length by omega)
        rw [hdr] at hd
        obtain ⟨b, off, c, E, fz, rfl, hb, hx, hy, hz⟩ := hf.at hp
        have hx' : c.extract (off + k * 4) (off + k * 4 + 4) = #[I p.pl, I p.lo, I p.hi, I p.co] := hx
        clear hx hz
        refine W.skip <| thn_n <| W.seq <| W.block <| W.seq <| W.region rfl ?_
        refine oq (y_fieldAddr rfl rfl) rfl wn rfl rfl ?_
        refine oq (yld rfl rfl) rfl wn rfl rfl ?_
        refine qm rfl rfl rfl ?_
        first | refine oq (yix rfl rfl rfl) rfl wn rfl rfl ?_ | refine oq (yixI rfl rfl rfl) rfl wn rfl rfl ?_
        first | refine oq (yldW rfl rfl) rfl wn rfl rfl ?_ | refine oq (yldA rfl rfl) rfl wn rfl rfl ?_
        refine cp (fun h' hE hL => rcheckFloor_fn _ h' _) ?_
        refine qs rfl rfl rfl <| Ops.nil <| thn_n <| W.seq <| W.region rfl <| qm rfl rfl rfl ?_
        refine oq (y_neq rfl rfl rfl) rfl wn rfl rfl ?_
        refine Ops.nil <| thn_n ?_
        refine W.condp rfl (fun c29 => ?_) (fun c29 => ?_)
        · refine W.seq <| W.region rfl <| qm rfl rfl rfl <| qs rfl rfl rfl <| Ops.nil <| thn_n <| W.ret <| blk_r <| thn_r <| thn_r ?_
          refine blk_r <| thn_r ?_
          refine lvp (hs := .cons rfl .nil) ?_
          show I _ = I _; congr 1; simp only [ckPlant]; simp only [ckFloors] at hd; simp_all; omega
        · refine W.skip <| blk_n <| thn_n <| W.region rfl <| qm rfl rfl rfl ?_
          first | refine oq (yadd rfl rfl rfl) rfl wn rfl rfl ?_ | refine oq (y_addw rfl rfl rfl) rfl wn rfl rfl ?_
          refine qs rfl rfl rfl <| Ops.nil <| thn_n ?_
          exact ⟨rfl, k + 1, ⟨by omega, by simp only [ckFloors] at hd; simp_all⟩, by omega, ⟨rfl, rfl, trivial⟩, .refl⟩
      · have : k = fs.length := by omega
        subst this
        have hz : ckFloors fs = 0 := by rw [hd]; simp [ckFloors]
        clear hd
        refine W.exit <| thn_x <| thn_x <| blk_x <| thn_n <| W.seq <| W.seq <| W.region rfl ?_
        refine oq (y_fieldAddr rfl rfl) rfl wn rfl rfl ?_
        refine oq (yld rfl rfl) rfl wn rfl rfl ?_
        refine oq (y_len rfl rfl) rfl wn rfl rfl ?_
        refine oq (y_gtr rfl rfl rfl) rfl wn rfl rfl ?_
        refine Ops.nil <| thn_n ?_
        refine W.condp rfl (fun c34 => ?_) (fun c34 => ?_)
        · refine W.seq <| W.region rfl <| qs rfl rfl rfl <| Ops.nil <| thn_n <| W.ret <| thn_r ?_
          refine lvp (hs := .cons rfl .nil) ?_
          show I _ = I _; congr 1; simp only [ckPlant]; rw [if_neg (by omega), if_neg (by omega), if_neg (by omega), if_pos (by omega)]
        · refine W.skip <| thn_n <| W.seq <| W.seq <| W.region rfl <| qs rfl rfl rfl <| Ops.nil <| thn_n <| W.block ?_
          refine W.loop (σ := Nat) (fun k => k ≤ ss.length ∧ ckStrikes 0 ss = ckStrikes (befD ss k) (ss.drop k)) (fun k => [(5, I k), (1, .pointer (some ⟨β1, 0, none⟩))]) (fun _ => [(β1, .cells #[.slice a fs.length cap, .slice a' ss.length cap'] t_Plant (0, 0))]) (fun k => ss.length - k) 0 ⟨Nat.zero_le _, rfl⟩ ⟨rfl, rfl, trivial⟩ .refl ?_
          rintro k ⟨hk', hd'⟩
          refine W.seq <| W.seq <| W.region rfl <| qm rfl rfl rfl ?_
          refine oq (y_fieldAddr rfl rfl) rfl wn rfl rfl ?_
          refine oq (yld rfl rfl) rfl wn rfl rfl ?_
          refine oq (y_len rfl rfl) rfl wn rfl rfl ?_
          refine oq (y_lss rfl rfl rfl) rfl wn rfl rfl ?_
          refine Ops.nil <| thn_n ?_
          refine W.condp rfl (fun c39 => ?_) (fun c39 => ?_)
          · have hk1 : k < ss.length := by omega
            obtain ⟨p, hp, hdr⟩ := has hk1
            have hnx : befD ss (k + 1) = p.day := by simp [befD, stAt, List.getD, hp]
            rw [hdr] at hd'
            obtain ⟨b, off, c, E, fz, rfl, hb, hx, hy, hz⟩ := hs.at hp
            have hx' : c.extract (off + k * 3) (off + k * 3 + 3) = #[I p.day, I p.co, I p.wa] := hx
            clear hx hz
            refine W.skip <| thn_n <| W.seq <| W.block <| W.seq <| W.region rfl ?_
            refine oq (y_fieldAddr rfl rfl) rfl wn rfl rfl ?_
            refine oq (yld rfl rfl) rfl wn rfl rfl ?_
            refine qm rfl rfl rfl ?_
            first | refine oq (yix rfl rfl rfl) rfl wn rfl rfl ?_ | refine oq (yixI rfl rfl rfl) rfl wn rfl rfl ?_
            first | refine oq (yldW rfl rfl) rfl wn rfl rfl ?_ | refine oq (yldA rfl rfl) rfl wn rfl rfl ?_
            refine Ops.new (fun β6 => ?_)
            first | refine Ops.stoW ?_ | refine Ops.stoA ?_
            refine Ops.nil <| thn_n <| W.seq <| W.seq <| W.region rfl ?_
            refine oq (y_fieldAddr rfl rfl) rfl wn rfl rfl ?_
            refine oq (yld rfl rfl) rfl wn rfl rfl ?_
            refine cp (fun h' hE hL => among_fn _ h' _ _ _) ?_
            refine oq (y_not rfl rfl) rfl wn rfl rfl ?_
            refine qm rfl rfl rfl ?_
            refine Ops.askB (fun a17_5 => ?_) (fun a17_5 => ?_)
            · refine Ops.no ?_
              refine Ops.no ?_
              refine Ops.no ?_
              refine Ops.no ?_
              refine oq (y_pickT rfl rfl rfl) rfl wn rfl rfl ?_
              refine qm rfl rfl rfl ?_
              refine Ops.no ?_
              refine Ops.no ?_
              refine Ops.no ?_
              refine Ops.no ?_
              refine oq (y_pickT rfl rfl rfl) rfl wn rfl rfl ?_
              refine Ops.nil <| thn_n ?_
              refine W.condT ?_
              refine W.seq <| W.region rfl <| qs rfl rfl rfl <| Ops.nil <| thn_n <| W.ret <| thn_r <| blk_r <| thn_r <| thn_r ?_
              refine blk_r <| thn_r ?_
              refine lvp (hs := .cons rfl (.cons rfl .nil)) ?_
              have hc : ckStrike (befD ss k) p = 1 := by simp only [ckStrike]; rw [if_pos]; simp_all
              show I _ = I _; congr 1; simp only [ckPlant]; simp only [ckStrikes, hc] at hd'; rw [if_neg (by omega), if_neg (by omega), if_neg (by omega), if_neg (by omega), hd']; rfl
            · refine oq (y_fieldAddr rfl rfl) rfl (want_some rfl rfl rfl) rfl rfl ?_
              refine oq (yld rfl rfl) rfl (want_some rfl rfl rfl) rfl rfl ?_
              refine cp (fun h' hE hL => among_fn _ h' _ _ _) ?_
              refine oq (y_not rfl rfl) rfl (want_some rfl rfl rfl) rfl rfl ?_
              refine oq (y_pickF rfl rfl rfl) rfl wn rfl rfl ?_
              refine qm rfl rfl rfl ?_
              refine Ops.askB (fun a17_11 => ?_) (fun a17_11 => ?_)
              · refine Ops.no ?_
                refine Ops.no ?_
                refine Ops.no ?_
                refine Ops.no ?_
                refine oq (y_pickT rfl rfl rfl) rfl wn rfl rfl ?_
                refine Ops.nil <| thn_n ?_
                refine W.condT ?_
                refine W.seq <| W.region rfl <| qs rfl rfl rfl <| Ops.nil <| thn_n <| W.ret <| thn_r <| blk_r <| thn_r <| thn_r ?_
                refine blk_r <| thn_r ?_
                refine lvp (hs := .cons rfl (.cons rfl .nil)) ?_
                have hc : ckStrike (befD ss k) p = 1 := by simp only [ckStrike]; rw [if_pos]; simp_all
                show I _ = I _; congr 1; simp only [ckPlant]; simp only [ckStrikes, hc] at hd'; rw [if_neg (by omega), if_neg (by omega), if_neg (by omega), if_neg (by omega), hd']; rfl
              · refine oq (y_fieldAddr rfl rfl) rfl (want_some rfl rfl rfl) rfl rfl ?_
                refine oq (yld rfl rfl) rfl (want_some rfl rfl rfl) rfl rfl ?_
                refine cp (fun h' hE hL => among_fn _ h' _ _ _) ?_
                refine oq (y_not rfl rfl) rfl (want_some rfl rfl rfl) rfl rfl ?_
                refine oq (y_pickF rfl rfl rfl) rfl wn rfl rfl ?_
                refine Ops.nil <| thn_n ?_
                refine W.cond rfl (fun c62 => ?_) (fun c62 => ?_)
                · refine W.seq <| W.region rfl <| qs rfl rfl rfl <| Ops.nil <| thn_n <| W.ret <| thn_r <| blk_r <| thn_r <| thn_r ?_
                  refine blk_r <| thn_r ?_
                  refine lvp (hs := .cons rfl (.cons rfl .nil)) ?_
                  have hc : ckStrike (befD ss k) p = 1 := by simp only [ckStrike]; rw [if_pos]; simp_all
                  show I _ = I _; congr 1; simp only [ckPlant]; simp only [ckStrikes, hc] at hd'; rw [if_neg (by omega), if_neg (by omega), if_neg (by omega), if_neg (by omega), hd']; rfl
                · refine W.skip <| thn_n <| W.seq ?_
                  refine W.drawF (n := 14) rfl ?_
                  have ho : ¬ (outs p.day 0 12 ∨ outs p.co 1 6 ∨ outs p.wa 0 3) := by simp_all
                  refine aq (i := 0) (y_move rfl rfl) rfl an rfl rfl ?_
                  refine aq (i := 1) (y_gtr rfl rfl rfl) rfl an rfl rfl ?_
                  refine aq (i := 2) (y_move rfl rfl) rfl an rfl rfl ?_
                  refine Any.ask (d' := 65) (fun a19_3 => ?_) (fun a19_3 => ?_)
                  · obtain ⟨j, rfl⟩ : ∃ j, k = j + 1 := ⟨k - 1, by omega⟩
                    obtain ⟨q, hq, -⟩ := has (show j < ss.length by omega)
                    have hbq : befD ss (j + 1) = q.day := by simp [befD, stAt, List.getD, hq]
                    obtain ⟨b2, off2, c2, E2, fz2, hae, hb2, -, hy2, hz2⟩ := hs.at hq
                    cases hae
                    have hq0 : c2[off + j * 3 + 0]? = some (I q.day) := hz2 0 (by decide)
                    clear hz2
                    rw [hb] at hb2
                    cases hb2
                    refine aq (i := 3) (y_fieldAddr rfl rfl) rfl (wantε_some rfl rfl rfl rfl) rfl rfl ?_
                    refine aq (i := 4) (yld rfl rfl) rfl (wantε_some rfl rfl rfl rfl) rfl rfl ?_
                    refine aq (i := 5) (y_fieldAddr rfl rfl) rfl (wantε_some rfl rfl rfl rfl) rfl rfl ?_
                    refine aq (i := 6) (yld rfl rfl) rfl (wantε_some rfl rfl rfl rfl) rfl rfl ?_
                    refine aq (i := 7) (y_move rfl rfl) rfl (wantε_some rfl rfl rfl rfl) rfl rfl ?_
                    refine aq (i := 8) ((ysub rfl rfl rfl).eq (u := I j) (congrArg I (by omega))) rfl (wantε_some rfl rfl rfl rfl) rfl rfl ?_
                    first | refine aq (i := 9) (yix rfl rfl rfl) rfl (wantε_some rfl rfl rfl rfl) rfl rfl ?_ | refine aq (i := 9) (yixI rfl rfl rfl) rfl (wantε_some rfl rfl rfl rfl) rfl rfl ?_
                    refine aq (i := 10) (y_fieldAddr rfl rfl) rfl (wantε_some rfl rfl rfl rfl) rfl rfl ?_
                    refine aq (i := 11) (yld rfl rfl) rfl (wantε_some rfl rfl rfl rfl) rfl rfl ?_
                    refine aq (i := 12) (y_lss rfl rfl rfl) rfl (wantε_some rfl rfl rfl rfl) rfl rfl ?_
                    refine aq (i := 13) (y_pickT rfl rfl rfl) rfl an rfl rfl ?_
                    refine az ?_
                    refine thn_n ?_
                    refine W.condp rfl (fun c76 => ?_) (fun c76 => ?_)
                    · refine W.seq <| W.region rfl <| qs rfl rfl rfl <| Ops.nil <| thn_n <| W.ret <| blk_r <| thn_r <| thn_r <| blk_r ?_
                      refine thn_r ?_
                      refine lvp (hs := .cons rfl (.cons rfl .nil)) ?_
                      have hc : ckStrike (befD ss (j + 1)) p = 5 := by
                        simp only [ckStrike]; rw [if_neg ho, if_pos (by omega)]
                      show I _ = I _; congr 1; simp only [ckPlant]; simp only [ckStrikes, hc] at hd'; rw [if_neg (by omega), if_neg (by omega), if_neg (by omega), if_neg (by omega), hd']; rfl
                    · refine W.skip <| blk_n <| thn_n <| W.region rfl <| qm rfl rfl rfl ?_
                      first | refine oq (yadd rfl rfl rfl) rfl wn rfl rfl ?_ | refine oq (y_addw rfl rfl rfl) rfl wn rfl rfl ?_
                      refine qs rfl rfl rfl <| Ops.nil <| thn_n ?_
                      first
                      | (have hc : ckStrike (befD ss (j + 1)) p = 0 := by
                           simp only [ckStrike]; rw [if_neg ho, if_neg (by omega)]
                         exact ⟨rfl, j + 1 + 1, ⟨by omega, by rw [hnx, hd']; simp only [ckStrikes, hc]; rfl⟩, by omega, ⟨rfl, rfl, trivial⟩, .skip rfl .refl⟩)
                      | (have hk0 : k = 0 := by omega
                         subst hk0
                         have ho2 := ho
                         simp only [outs, not_or] at ho2
                         have hc : ckStrike (befD ss 0) p = 0 := by
                           simp only [ckStrike]; rw [if_neg ho, if_neg (by simp only [befD, if_true]; omega)]
                         exact ⟨rfl, 0 + 1, ⟨by omega, by rw [hnx, hd']; simp only [ckStrikes, hc]; rfl⟩, by omega, ⟨rfl, rfl, trivial⟩, .skip rfl .refl⟩)
                  · refine ap (i := 3) rfl rfl rfl rfl rfl rfl ?_
                    refine ap (i := 4) rfl rfl rfl rfl rfl rfl ?_
                    refine ap (i := 5) rfl rfl rfl rfl rfl rfl ?_
                    refine ap (i := 6) rfl rfl rfl rfl rfl rfl ?_
                    refine ap (i := 7) rfl rfl rfl rfl rfl rfl ?_
                    refine ap (i := 8) rfl rfl rfl rfl rfl rfl ?_
                    refine ap (i := 9) rfl rfl rfl rfl rfl rfl ?_
                    refine ap (i := 10) rfl rfl rfl rfl rfl rfl ?_
                    refine ap (i := 11) rfl rfl rfl rfl rfl rfl ?_
                    refine ap (i := 12) rfl rfl rfl rfl rfl rfl ?_
                    refine aq (i := 13) (y_pickF rfl rfl rfl) rfl an rfl rfl ?_
                    refine az ?_
                    refine thn_n ?_
                    refine W.condF ?_
                    refine W.skip <| blk_n <| thn_n <| W.region rfl <| qm rfl rfl rfl ?_
                    first | refine oq (yadd rfl rfl rfl) rfl wn rfl rfl ?_ | refine oq (y_addw rfl rfl rfl) rfl wn rfl rfl ?_
                    refine qs rfl rfl rfl <| Ops.nil <| thn_n ?_
                    first
                    | (have hc : ckStrike (befD ss (j + 1)) p = 0 := by
                         simp only [ckStrike]; rw [if_neg ho, if_neg (by omega)]
                       exact ⟨rfl, j + 1 + 1, ⟨by omega, by rw [hnx, hd']; simp only [ckStrikes, hc]; rfl⟩, by omega, ⟨rfl, rfl, trivial⟩, .skip rfl .refl⟩)
                    | (have hk0 : k = 0 := by omega
                       subst hk0
                       have ho2 := ho
                       simp only [outs, not_or] at ho2
                       have hc : ckStrike (befD ss 0) p = 0 := by
                         simp only [ckStrike]; rw [if_neg ho, if_neg (by simp only [befD, if_true]; omega)]
                       exact ⟨rfl, 0 + 1, ⟨by omega, by rw [hnx, hd']; simp only [ckStrikes, hc]; rfl⟩, by omega, ⟨rfl, rfl, trivial⟩, .skip rfl .refl⟩)
          · have : k = ss.length := by omega
            subst this
            refine W.exit <| thn_x <| thn_x <| blk_x <| thn_n <| W.seq <| W.region rfl <| qs rfl rfl rfl <| Ops.nil <| thn_n ?_
            refine W.ret ?_
            refine lvp (hs := .cons rfl .nil) ?_
            show I _ = I _; congr 1; simp only [ckPlant]; rw [if_neg (by omega), if_neg (by omega), if_neg (by omega), if_neg (by omega), hd']; simp [ckStrikes]

theorem RCheckPlan_fn (main : Side) (h : Hp) (fs : List Fl) (ss : List St) (l : List Be) (vf vs vl : Value) (hf : Sl h Fl.row vf fs) (hs : Sl h St.row vs ss) (hl : Sl h Be.row vl l) : Pu prog main n_ref_CheckPlan #[.agg #[vf, vs], vl] h (I (ckPlan fs ss l)) := by
  obtain ⟨a, cap, rfl⟩ := hf.isSl
  obtain ⟨a', cap', rfl⟩ := hs.isSl
  obtain ⟨a2, cap2, rfl⟩ := hl.isSl
  refine Fnc.of_body at_ref_CheckPlan rfl (by show 2 ≤ 76; decide) [(0, .agg #[.slice a fs.length cap, .slice a' ss.length cap']), (1, .slice a2 l.length cap2)] ⟨rfl, rfl, trivial⟩ ?_
  refine W.seq <| W.region rfl ?_
  refine Ops.box (cs := #[.slice a fs.length cap, .slice a' ss.length cap']) (fun β2 => ?_) rfl rfl rfl
  refine qs rfl rfl rfl <| Ops.nil <| thn_n <| W.seq <| W.seq <| W.region rfl ?_
  first | refine oq (yldW rfl rfl) rfl wn rfl rfl ?_ | refine oq (yldA rfl rfl) rfl wn rfl rfl ?_
  refine cp (fun h' hE hL => RCheck_fn _ h' _ _ _ _ (hf.ext hE) (hs.ext hE)) ?_
  refine qs rfl rfl rfl <| Ops.nil <| thn_n <| W.seq <| W.region rfl <| qm rfl rfl rfl ?_
  refine oq (y_neq rfl rfl rfl) rfl wn rfl rfl ?_
  refine Ops.nil <| thn_n ?_
  refine W.condp rfl (fun c12 => ?_) (fun c12 => ?_)
  · refine W.seq <| W.region rfl <| qm rfl rfl rfl <| qs rfl rfl rfl <| Ops.nil <| thn_n <| W.ret <| thn_r ?_
    refine lvp (hs := .cons rfl .nil) ?_
    show I _ = I _; congr 1; simp only [ckPlan]; rw [if_pos c12]
  · have h0 : ckPlant fs ss = 0 := by simpa using c12
    obtain ⟨hf0, hf2, hs4, _, _⟩ := ckPlant0 h0
    have e0 : ckPlan fs ss l = if l.length < ss.length then 7 else if ss.length < l.length then 6 else ckBerths fs.length ss l := by simp only [ckPlan]; rw [if_neg c12]
    refine W.skip <| thn_n <| W.seq <| W.seq <| W.region rfl <| qm rfl rfl rfl ?_
    refine oq (y_len rfl rfl) rfl wn rfl rfl ?_
    refine oq (y_fieldAddr rfl rfl) rfl wn rfl rfl ?_
    refine oq (yld rfl rfl) rfl wn rfl rfl ?_
    refine oq (y_len rfl rfl) rfl wn rfl rfl ?_
    refine oq (y_lss rfl rfl rfl) rfl wn rfl rfl ?_
    refine Ops.nil <| thn_n ?_
    refine W.condp rfl (fun c19 => ?_) (fun c19 => ?_)
    · refine W.seq <| W.region rfl <| qs rfl rfl rfl <| Ops.nil <| thn_n <| W.ret <| thn_r ?_
      refine lvp (hs := .cons rfl .nil) ?_
      show I _ = I _; congr 1; rw [e0, if_pos (by omega)]
    · refine W.skip <| thn_n <| W.seq <| W.seq <| W.region rfl <| qm rfl rfl rfl ?_
      refine oq (y_len rfl rfl) rfl wn rfl rfl ?_
      refine oq (y_fieldAddr rfl rfl) rfl wn rfl rfl ?_
      refine oq (yld rfl rfl) rfl wn rfl rfl ?_
      refine oq (y_len rfl rfl) rfl wn rfl rfl ?_
      refine oq (y_gtr rfl rfl rfl) rfl wn rfl rfl ?_
      refine Ops.nil <| thn_n ?_
      refine W.condp rfl (fun c25 => ?_) (fun c25 => ?_)
      · refine W.seq <| W.region rfl <| qs rfl rfl rfl <| Ops.nil <| thn_n <| W.ret <| thn_r ?_
        refine lvp (hs := .cons rfl .nil) ?_
        show I _ = I _; congr 1; rw [e0, if_neg (by omega), if_pos (by omega)]
      · have hll : l.length = ss.length := by omega
        have e1 : ckPlan fs ss l = ckBerths fs.length ss l := by rw [e0, if_neg (by omega), if_neg (by omega)]
        refine W.skip <| thn_n <| W.seq <| W.seq <| W.region rfl <| qs rfl rfl rfl <| Ops.nil <| thn_n <| W.block ?_
        refine W.loop (σ := Nat) (fun k => k ≤ l.length ∧ ckPlan fs ss l = ckBerths fs.length (ss.drop k) (l.drop k)) (fun k => [(6, I k), (2, .pointer (some ⟨β2, 0, none⟩)), (1, .slice a2 l.length cap2)]) (fun _ => [(β2, .cells #[.slice a fs.length cap, .slice a' ss.length cap'] t_Plant (0, 0))]) (fun k => l.length - k) 0 ⟨Nat.zero_le _, e1⟩ ⟨rfl, rfl, rfl, trivial⟩ .refl ?_
        rintro k ⟨hk, hd⟩
        refine W.seq <| W.seq <| W.region rfl <| qm rfl rfl rfl <| qm rfl rfl rfl ?_
        refine oq (y_len rfl rfl) rfl wn rfl rfl ?_
        refine oq (y_lss rfl rfl rfl) rfl wn rfl rfl ?_
        refine Ops.nil <| thn_n ?_
        refine W.condp rfl (fun c29 => ?_) (fun c29 => ?_)
        · obtain ⟨p, hp, hdr⟩ := has (show k < l.length by omega)
          obtain ⟨s, hsk, hdr'⟩ := has (show k < ss.length by omega)
          rw [hdr, hdr'] at hd
          obtain ⟨b, off, c, E, fz, rfl, hb, hx, hy, hz⟩ := hl.at hp
          have hx' : c.extract (off + k * 2) (off + k * 2 + 2) = #[I p.fl, I p.day] := hx
          clear hx hz
          obtain ⟨b', off', c', E', fz', rfl, hb', hx, hy', hz⟩ := hs.at hsk
          have hx2 : c'.extract (off' + k * 3) (off' + k * 3 + 3) = #[I s.day, I s.co, I s.wa] := hx
          clear hx hz
          have hso := strike_ok h0 hsk
          refine W.skip <| thn_n <| W.seq <| W.block <| W.seq ?_
          refine W.drawP1 (n := 13) rfl ?_
          refine aq (i := 0) (y_move rfl rfl) rfl an rfl rfl ?_
          refine aq (i := 1) (y_move rfl rfl) rfl an rfl rfl ?_
          refine aq (i := 2) (yix rfl rfl rfl) rfl an rfl rfl ?_
          refine aq (i := 3) (yldA rfl rfl) rfl an rfl rfl ?_
          refine aq (i := 4) (y_fieldAddr rfl rfl) rfl an rfl rfl ?_
          refine aq (i := 5) (yld rfl rfl) rfl an rfl rfl ?_
          refine aq (i := 6) (y_move rfl rfl) rfl an rfl rfl ?_
          refine aq (i := 7) (yix rfl rfl rfl) rfl an rfl rfl ?_
          refine aq (i := 8) (yldA rfl rfl) rfl an rfl rfl ?_
          refine Any.bag (fuel := 2) (m := 2) (B := [(9, 7, NewP t_Berth _), (10, 8, NewP t_Strike _)]) (by
            intro s hs
            simp only [List.mem_cons, List.not_mem_nil, or_false] at hs
            rcases hs with rfl | rfl
            · exact Adds.new
            · exact Adds.new) ?_ (Keeps.one (.head _) .nil) rfl (by
            intro s hs
            simp only [List.mem_cons, List.not_mem_nil, or_false] at hs
            rcases hs with rfl | rfl <;> rfl) (by kernel_rfl) (show [9, 10].Nodup by decide) (show [7, 8].Nodup by decide)
          simp only [bagA]
          rintro v1 A1 ⟨β7, rfl, rfl⟩ v2 A2 ⟨β8, rfl, rfl⟩
          first | refine ae (i := 11) rfl an rfl rfl (eSW rfl rfl rfl ?_) | refine ae (i := 11) rfl an rfl rfl (eSA rfl rfl rfl ?_)
          refine ⟨.inr (Keeps.one (by repeat (first | exact List.Mem.head _ | apply List.Mem.tail | apply List.mem_append_right)) .nil), ?_⟩
          first | refine ae (i := 12) rfl an rfl rfl (eSW rfl rfl rfl ?_) | refine ae (i := 12) rfl an rfl rfl (eSA rfl rfl rfl ?_)
          refine ⟨.inl (by kernel_rfl), ?_⟩
          refine az ?_
          refine thn_n <| W.block <| W.seq <| W.region rfl ?_
          refine oq (y_fieldAddr rfl rfl) rfl wn rfl rfl ?_
          refine oq (yld rfl rfl) rfl wn rfl rfl ?_
          refine oq (y_fieldAddr rfl rfl) rfl wn rfl rfl ?_
          refine oq (yld rfl rfl) rfl wn rfl rfl ?_
          refine oq (y_len rfl rfl) rfl wn rfl rfl ?_
          first | refine oq (ysub rfl rfl rfl) rfl wn rfl rfl ?_ | refine oq (y_subw rfl rfl rfl) rfl wn rfl rfl ?_
          refine cp (fun h' hE hL => among_fn _ h' _ _ _) ?_
          refine oq (y_not rfl rfl) rfl wn rfl rfl ?_
          refine qs rfl rfl rfl <| Ops.nil <| thn_n ?_
          refine W.cond rfl (fun c41 => ?_) (fun c41 => ?_)
          · refine W.seq <| W.region rfl <| qs rfl rfl rfl <| Ops.nil <| thn_n <| W.ret <| blk_r <| blk_r <| thn_r <| thn_r ?_
            refine blk_r <| thn_r ?_
            refine lvp (hs := .cons rfl (.cons rfl (.cons rfl .nil))) ?_
            have hc : ckBerth fs.length s p = 3 := by simp only [ckBerth]; rw [if_pos]; simp_all
            show I _ = I _; congr 1; rw [hd]; simp only [ckBerths, hc]; rfl
          · refine W.seq <| W.region rfl ?_
            refine oq (y_fieldAddr rfl rfl) rfl wn rfl rfl ?_
            refine oq (yld rfl rfl) rfl wn rfl rfl ?_
            refine oq (y_lss rfl rfl rfl) rfl wn rfl rfl ?_
            refine qm rfl rfl rfl ?_
            refine Ops.ask (fun a14_4 => ?_) (fun a14_4 => ?_)
            · refine oq (y_fieldAddr rfl rfl) rfl (want_some rfl rfl rfl) rfl rfl ?_
              refine oq (yld rfl rfl) rfl (want_some rfl rfl rfl) rfl rfl ?_
              refine oq (y_neq rfl rfl rfl) rfl (want_some rfl rfl rfl) rfl rfl ?_
              refine oq (y_pickT rfl rfl rfl) rfl wn rfl rfl ?_
              refine qs rfl rfl rfl <| Ops.nil <| thn_n ?_
              refine W.condp rfl (fun c50 => ?_) (fun c50 => ?_)
              · refine W.seq <| W.region rfl <| qs rfl rfl rfl <| Ops.nil <| thn_n <| W.ret <| blk_r <| blk_r <| thn_r <| thn_r ?_
                refine blk_r <| thn_r ?_
                refine lvp (hs := .cons rfl (.cons rfl (.cons rfl .nil))) ?_
                have h3 : ¬ outs p.fl (-1) ((fs.length : Int) - 1) := by simp_all
                have hc : ckBerth fs.length s p = 8 := by simp only [ckBerth]; rw [if_neg h3, if_pos ⟨by assumption, by assumption⟩]
                show I _ = I _; congr 1; rw [hd]; simp only [ckBerths, hc]; rfl
              · refine W.seq <| W.region rfl ?_
                refine oq (y_fieldAddr rfl rfl) rfl wn rfl rfl ?_
                refine oq (yld rfl rfl) rfl wn rfl rfl ?_
                refine oq (y_geq rfl rfl rfl) rfl wn rfl rfl ?_
                refine qm rfl rfl rfl ?_
                refine Ops.ask (fun a16_4 => ?_) (fun a16_4 => ?_)
                · refine oq (y_fieldAddr rfl rfl) rfl (want_some rfl rfl rfl) rfl rfl ?_
                  refine oq (yld rfl rfl) rfl (want_some rfl rfl rfl) rfl rfl ?_
                  refine oq (y_fieldAddr rfl rfl) rfl (want_some rfl rfl rfl) rfl rfl ?_
                  refine oq (yld rfl rfl) rfl (want_some rfl rfl rfl) rfl rfl ?_
                  refine oq (y_fieldAddr rfl rfl) rfl (want_some rfl rfl rfl) rfl rfl ?_
                  refine oq (yld rfl rfl) rfl (want_some rfl rfl rfl) rfl rfl ?_
                  refine oq (y_fieldAddr rfl rfl) rfl (want_some rfl rfl rfl) rfl rfl ?_
                  refine oq (yld rfl rfl) rfl (want_some rfl rfl rfl) rfl rfl ?_
                  first | refine oq (yadd rfl rfl rfl) rfl (want_some rfl rfl rfl) rfl rfl ?_ | refine oq (y_addw rfl rfl rfl) rfl (want_some rfl rfl rfl) rfl rfl ?_
                  refine cp (fun h' hE hL => among_fn _ h' _ _ _) ?_
                  refine oq (y_not rfl rfl) rfl (want_some rfl rfl rfl) rfl rfl ?_
                  refine oq (y_pickT rfl rfl rfl) rfl wn rfl rfl ?_
                  refine qs rfl rfl rfl <| Ops.nil <| thn_n ?_
                  refine W.cond rfl (fun c59 => ?_) (fun c59 => ?_)
                  · refine W.seq <| W.region rfl <| qs rfl rfl rfl <| Ops.nil <| thn_n <| W.ret <| blk_r <| blk_r <| thn_r <| thn_r ?_
                    refine blk_r <| thn_r ?_
                    refine lvp (hs := .cons rfl (.cons rfl (.cons rfl .nil))) ?_
                    have h3 : ¬ outs p.fl (-1) ((fs.length : Int) - 1) := by simp_all
                    have h4 : outs p.day s.day (s.day + s.wa) := by simp_all
                    have hc : ckBerth fs.length s p = 12 := by simp only [ckBerth]; rw [if_neg h3, if_neg (by omega), if_pos ⟨by assumption, h4⟩]
                    show I _ = I _; congr 1; rw [hd]; simp only [ckBerths, hc]; rfl
                  · refine W.skip <| blk_n <| blk_n <| thn_n <| W.region rfl <| qm rfl rfl rfl ?_
                    first | refine oq (yadd rfl rfl rfl) rfl wn rfl rfl ?_ | refine oq (y_addw rfl rfl rfl) rfl wn rfl rfl ?_
                    refine qs rfl rfl rfl <| Ops.nil <| thn_n ?_
                    have h3 : ¬ outs p.fl (-1) ((fs.length : Int) - 1) := by simp_all
                    have hc : ckBerth fs.length s p = 0 := by
                      simp only [ckBerth]
                      rw [if_neg h3, if_neg (by omega), if_neg ?_]
                      first | (rintro ⟨q1, q2⟩; simp_all; done) | (rintro ⟨q1, q2⟩; omega)
                    exact ⟨rfl, k + 1, ⟨by omega, by rw [hd]; simp only [ckBerths, hc]; rfl⟩, by omega, ⟨rfl, rfl, rfl, trivial⟩, .skip rfl (.skip rfl .refl)⟩
                · refine Ops.no ?_
                  refine Ops.no ?_
                  refine Ops.no ?_
                  refine Ops.no ?_
                  refine Ops.no ?_
                  refine Ops.no ?_
                  refine Ops.no ?_
                  refine Ops.no ?_
                  refine Ops.no ?_
                  refine Ops.no ?_
                  refine Ops.no ?_
                  refine oq (y_pickF rfl rfl rfl) rfl wn rfl rfl ?_
                  refine qs rfl rfl rfl <| Ops.nil <| thn_n ?_
                  refine W.condF ?_
                  refine W.skip <| blk_n <| blk_n <| thn_n <| W.region rfl <| qm rfl rfl rfl ?_
                  first | refine oq (yadd rfl rfl rfl) rfl wn rfl rfl ?_ | refine oq (y_addw rfl rfl rfl) rfl wn rfl rfl ?_
                  refine qs rfl rfl rfl <| Ops.nil <| thn_n ?_
                  have h3 : ¬ outs p.fl (-1) ((fs.length : Int) - 1) := by simp_all
                  have hc : ckBerth fs.length s p = 0 := by
                    simp only [ckBerth]
                    rw [if_neg h3, if_neg (by omega), if_neg ?_]
                    first | (rintro ⟨q1, q2⟩; simp_all; done) | (rintro ⟨q1, q2⟩; omega)
                  exact ⟨rfl, k + 1, ⟨by omega, by rw [hd]; simp only [ckBerths, hc]; rfl⟩, by omega, ⟨rfl, rfl, rfl, trivial⟩, .skip rfl (.skip rfl .refl)⟩
            · refine Ops.no ?_
              refine Ops.no ?_
              refine Ops.no ?_
              refine oq (y_pickF rfl rfl rfl) rfl wn rfl rfl ?_
              refine qs rfl rfl rfl <| Ops.nil <| thn_n ?_
              refine W.condF ?_
              refine W.seq <| W.region rfl ?_
              refine oq (y_fieldAddr rfl rfl) rfl wn rfl rfl ?_
              refine oq (yld rfl rfl) rfl wn rfl rfl ?_
              refine oq (y_geq rfl rfl rfl) rfl wn rfl rfl ?_
              refine qm rfl rfl rfl ?_
              refine Ops.ask (fun a16_4 => ?_) (fun a16_4 => ?_)
              · refine oq (y_fieldAddr rfl rfl) rfl (want_some rfl rfl rfl) rfl rfl ?_
                refine oq (yld rfl rfl) rfl (want_some rfl rfl rfl) rfl rfl ?_
                refine oq (y_fieldAddr rfl rfl) rfl (want_some rfl rfl rfl) rfl rfl ?_
                refine oq (yld rfl rfl) rfl (want_some rfl rfl rfl) rfl rfl ?_
                refine oq (y_fieldAddr rfl rfl) rfl (want_some rfl rfl rfl) rfl rfl ?_
                refine oq (yld rfl rfl) rfl (want_some rfl rfl rfl) rfl rfl ?_
                refine oq (y_fieldAddr rfl rfl) rfl (want_some rfl rfl rfl) rfl rfl ?_
                refine oq (yld rfl rfl) rfl (want_some rfl rfl rfl) rfl rfl ?_
                first | refine oq (yadd rfl rfl rfl) rfl (want_some rfl rfl rfl) rfl rfl ?_ | refine oq (y_addw rfl rfl rfl) rfl (want_some rfl rfl rfl) rfl rfl ?_
                refine cp (fun h' hE hL => among_fn _ h' _ _ _) ?_
                refine oq (y_not rfl rfl) rfl (want_some rfl rfl rfl) rfl rfl ?_
                refine oq (y_pickT rfl rfl rfl) rfl wn rfl rfl ?_
                refine qs rfl rfl rfl <| Ops.nil <| thn_n ?_
                refine W.cond rfl (fun c59 => ?_) (fun c59 => ?_)
                · refine W.seq <| W.region rfl <| qs rfl rfl rfl <| Ops.nil <| thn_n <| W.ret <| blk_r <| blk_r <| thn_r <| thn_r ?_
                  refine blk_r <| thn_r ?_
                  refine lvp (hs := .cons rfl (.cons rfl (.cons rfl .nil))) ?_
                  have h3 : ¬ outs p.fl (-1) ((fs.length : Int) - 1) := by simp_all
                  have h4 : outs p.day s.day (s.day + s.wa) := by simp_all
                  have hc : ckBerth fs.length s p = 12 := by simp only [ckBerth]; rw [if_neg h3, if_neg (by omega), if_pos ⟨by assumption, h4⟩]
                  show I _ = I _; congr 1; rw [hd]; simp only [ckBerths, hc]; rfl
                · refine W.skip <| blk_n <| blk_n <| thn_n <| W.region rfl <| qm rfl rfl rfl ?_
                  first | refine oq (yadd rfl rfl rfl) rfl wn rfl rfl ?_ | refine oq (y_addw rfl rfl rfl) rfl wn rfl rfl ?_
                  refine qs rfl rfl rfl <| Ops.nil <| thn_n ?_
                  have h3 : ¬ outs p.fl (-1) ((fs.length : Int) - 1) := by simp_all
                  have hc : ckBerth fs.length s p = 0 := by
                    simp only [ckBerth]
                    rw [if_neg h3, if_neg (by omega), if_neg ?_]
                    first | (rintro ⟨q1, q2⟩; simp_all; done) | (rintro ⟨q1, q2⟩; omega)
                  exact ⟨rfl, k + 1, ⟨by omega, by rw [hd]; simp only [ckBerths, hc]; rfl⟩, by omega, ⟨rfl, rfl, rfl, trivial⟩, .skip rfl (.skip rfl .refl)⟩
              · refine Ops.no ?_
                refine Ops.no ?_
                refine Ops.no ?_
                refine Ops.no ?_
                refine Ops.no ?_
                refine Ops.no ?_
                refine Ops.no ?_
                refine Ops.no ?_
                refine Ops.no ?_
                refine Ops.no ?_
                refine Ops.no ?_
                refine oq (y_pickF rfl rfl rfl) rfl wn rfl rfl ?_
                refine qs rfl rfl rfl <| Ops.nil <| thn_n ?_
                refine W.condF ?_
                refine W.skip <| blk_n <| blk_n <| thn_n <| W.region rfl <| qm rfl rfl rfl ?_
                first | refine oq (yadd rfl rfl rfl) rfl wn rfl rfl ?_ | refine oq (y_addw rfl rfl rfl) rfl wn rfl rfl ?_
                refine qs rfl rfl rfl <| Ops.nil <| thn_n ?_
                have h3 : ¬ outs p.fl (-1) ((fs.length : Int) - 1) := by simp_all
                have hc : ckBerth fs.length s p = 0 := by
                  simp only [ckBerth]
                  rw [if_neg h3, if_neg (by omega), if_neg ?_]
                  first | (rintro ⟨q1, q2⟩; simp_all; done) | (rintro ⟨q1, q2⟩; omega)
                exact ⟨rfl, k + 1, ⟨by omega, by rw [hd]; simp only [ckBerths, hc]; rfl⟩, by omega, ⟨rfl, rfl, rfl, trivial⟩, .skip rfl (.skip rfl .refl)⟩
        · refine W.exit <| thn_x <| thn_x <| blk_x <| thn_n <| W.seq <| W.region rfl <| qs rfl rfl rfl <| Ops.nil <| thn_n ?_
          refine W.ret ?_
          refine lvp (hs := .cons rfl .nil) ?_
          show I _ = I _; congr 1; rw [hd, show k = l.length by omega]; simp [ckBerths]

/-- What is asked of a plant, a plan, a floor and a day. -/
def raskE (fs : List Fl) (ss : List St) (l : List Be) (f d : Int) : Int := if ckPlan fs ss l ≠ 0 then ckPlan fs ss l else if outs f 0 (fs.length - 1) then 3 else if outs d 0 21 then 1 else 0
theorem Rasked_fn (main : Side) (h : Hp) (fs : List Fl) (ss : List St) (l : List Be) (f d : Int) (vf vs vl : Value) (hf : Sl h Fl.row vf fs) (hs : Sl h St.row vs ss) (hl : Sl h Be.row vl l) : Pu prog main n_ref_asked #[.agg #[vf, vs], vl, I f, I d] h (I (raskE fs ss l f d)) := by
  obtain ⟨a, cap, rfl⟩ := hf.isSl
  obtain ⟨a', cap', rfl⟩ := hs.isSl
  obtain ⟨a2, cap2, rfl⟩ := hl.isSl
  refine Fnc.of_body at_ref_asked rfl (by show 4 ≤ 26; decide) [(0, .agg #[.slice a fs.length cap, .slice a' ss.length cap']), (1, .slice a2 l.length cap2), (2, I f), (3, I d)] ⟨rfl, rfl, rfl, rfl, trivial⟩ ?_
  refine W.seq <| W.region rfl ?_
  refine Ops.box (cs := #[.slice a fs.length cap, .slice a' ss.length cap']) (fun β4 => ?_) rfl rfl rfl
  refine qs rfl rfl rfl <| Ops.nil <| thn_n <| W.seq <| W.seq <| W.region rfl ?_
  first | refine oq (yldW rfl rfl) rfl wn rfl rfl ?_ | refine oq (yldA rfl rfl) rfl wn rfl rfl ?_
  refine qm rfl rfl rfl ?_
  refine cp (fun h' hE hL => RCheckPlan_fn _ h' _ _ _ _ _ _ (hf.ext hE) (hs.ext hE) (hl.ext hE)) ?_
  refine qs rfl rfl rfl <| Ops.nil <| thn_n <| W.seq <| W.region rfl <| qm rfl rfl rfl ?_
  refine oq (y_neq rfl rfl rfl) rfl wn rfl rfl ?_
  refine Ops.nil <| thn_n ?_
  refine W.condp rfl (fun c14 => ?_) (fun c14 => ?_)
  · refine W.seq <| W.region rfl <| qm rfl rfl rfl <| qs rfl rfl rfl <| Ops.nil <| thn_n <| W.ret <| thn_r ?_
    refine lvp (hs := .cons rfl .nil) ?_
    simp_all [raskE, pack]
  · have h0 : ckPlan fs ss l = 0 := by simpa using c14
    obtain ⟨hall, -, -⟩ := plan_ck h0
    have hnf := hall.nf
    refine W.skip <| thn_n <| W.seq <| W.seq <| W.region rfl <| qm rfl rfl rfl ?_
    refine oq (y_fieldAddr rfl rfl) rfl wn rfl rfl ?_
    refine oq (yld rfl rfl) rfl wn rfl rfl ?_
    refine oq (y_len rfl rfl) rfl wn rfl rfl ?_
    first | refine oq (ysub rfl rfl rfl) rfl wn rfl rfl ?_ | refine oq (y_subw rfl rfl rfl) rfl wn rfl rfl ?_
    refine cp (fun h' hE hL => among_fn _ h' _ _ _) ?_
    refine oq (y_not rfl rfl) rfl wn rfl rfl ?_
    refine Ops.nil <| thn_n ?_
    refine W.cond rfl (fun c22 => ?_) (fun c22 => ?_)
    · refine W.seq <| W.region rfl <| qs rfl rfl rfl <| Ops.nil <| thn_n <| W.ret <| thn_r ?_
      refine lvp (hs := .cons rfl .nil) ?_
      simp_all [raskE, pack]
    · refine W.skip <| thn_n <| W.seq <| W.seq <| W.region rfl <| qm rfl rfl rfl ?_
      refine cp (fun h' hE hL => among_fn _ h' _ _ _) ?_
      refine oq (y_not rfl rfl) rfl wn rfl rfl ?_
      refine Ops.nil <| thn_n ?_
      refine W.cond rfl (fun c25 => ?_) (fun c25 => ?_)
      · refine W.seq <| W.region rfl <| qs rfl rfl rfl <| Ops.nil <| thn_n <| W.ret <| thn_r ?_
        refine lvp (hs := .cons rfl .nil) ?_
        simp_all [raskE, pack]
      · refine W.skip <| thn_n <| W.seq <| W.region rfl <| qs rfl rfl rfl <| Ops.nil <| thn_n <| W.ret ?_
        refine lvp (hs := .cons rfl .nil) ?_
        simp_all [raskE, pack]
theorem rask0 {fs : List Fl} {ss : List St} {l : List Be} {f d : Int} (h : raskE fs ss l f d = 0) : ckPlan fs ss l = 0 ∧ 0 ≤ f ∧ f < fs.length ∧ 0 ≤ d ∧ d < 22 := by
  unfold raskE at h
  split at h
  · rename_i h1; exact absurd h h1
  · rename_i h1
    split at h
    · cases h
    · rename_i h2
      split at h
      · cases h
      · rename_i h3
        simp only [outs, not_or] at h2 h3
        exact ⟨by simpa using h1, by omega, by omega, by omega, by omega⟩
theorem stands_rask {fs : List Fl} {ss : List St} {l : List Be} {f d : Int} : standsV fs ss l f d = if raskE fs ss l f d ≠ 0 then (⟨0, 0⟩, raskE fs ss l f d) else (⟨sumK (loG fs ss l f d) l.length, sumK (hiG fs ss l f d) l.length⟩, 0) := by
  by_cases h : raskE fs ss l f d = 0
  · rw [if_neg (by simp [h])]
    obtain ⟨h1, h2, h3, h4, h5⟩ := rask0 h
    obtain ⟨hall, hp, hn⟩ := plan_ck h1
    obtain ⟨f', rfl⟩ : ∃ k : Nat, f = k := ⟨f.toNat, by omega⟩
    obtain ⟨d', rfl⟩ : ∃ k : Nat, d = k := ⟨d.toNat, by omega⟩
    rw [stands_val h1 (by omega) (by omega), lo_sum hall hn (by omega), hi_sum hall hp hn (by omega)]
  · rw [if_pos h]
    unfold standsV askE raskE at *
    by_cases h1 : ckPlan fs ss l = 0
    · by_cases h2 : outs f 0 (fs.length - 1)
      · simp [h1, badF, h2]
      · by_cases h3 : outs d 0 21
        · simp [h1, badF, h2, h3]
        · simp [h1, h2, h3] at h
    · simp [h1]

theorem sums_le {fs : List Fl} {ss : List St} {l : List Be} {f d : Int} (hall : HallOK fs ss) (h0 : 0 ≤ f) (hf : f < fs.length) : ∀ k, 0 ≤ sumK (loG fs ss l f d) k ∧ sumK (loG fs ss l f d) k ≤ sumK (hiG fs ss l f d) k ∧ sumK (hiG fs ss l f d) k ≤ 6 * k
  | 0 => ⟨Int.le_refl _, Int.le_refl _, Int.le_refl _⟩
  | k + 1 => by
    have ih := sums_le (l := l) (d := d) hall h0 hf k
    have hc := co_ok hall k
    have hfo := fl_ok hall h0 hf
    have : 0 ≤ loG fs ss l f d k ∧ loG fs ss l f d k ≤ hiG fs ss l f d k ∧ hiG fs ss l f d k ≤ 6 := by
      simp only [loG, hiG]
      split
      · rw [if_pos (by omega)]; omega
      · split <;> omega
    simp only [sumK]; omega
theorem Rstands_fn (main : Side) (h : Hp) (fs : List Fl) (ss : List St) (l : List Be) (f d : Int) (vf vs vl : Value) (hf : Sl h Fl.row vf fs) (hs : Sl h St.row vs ss) (hl : Sl h Be.row vl l) (hck : ckPlan fs ss l = 0) (hf0 : 0 ≤ f ∧ f < fs.length) : Pu prog main n_ref_stands #[.agg #[vf, vs], vl, I f, I d] h (.agg #[I (sumK (loG fs ss l f d) l.length), I (sumK (hiG fs ss l f d) l.length)]) := by
  obtain ⟨hall, hpl, hn⟩ := plan_ck hck
  have hns := hall.ns
  have hfo := fl_ok hall hf0.1 hf0.2
  have hx0 := flAt_some hf0.1 hf0.2
  obtain ⟨⟨pl, lo, hi', co⟩, hfa⟩ : ∃ x, flAt fs f = x := ⟨_, rfl⟩
  rw [hfa] at hx0 hfo
  dsimp only at hfo
  obtain ⟨a', cap', rfl⟩ := hs.isSl
  obtain ⟨a2, cap2, rfl⟩ := hl.isSl
  obtain ⟨a, cap, rfl⟩ := hf.isSl
  obtain ⟨bf, off, c, E, fz, rfl, hbk, hx1, hy1, hz1⟩ := hf.at hx0
  have hx2 := ext2 hx1
  clear hx1 hz1
  refine Fnc.of_body at_ref_stands rfl (by show 4 ≤ 81; decide) [(0, .agg #[.slice (some ⟨bf, off, none⟩) fs.length cap, .slice a' ss.length cap']), (1, .slice a2 l.length cap2), (2, I f), (3, I d)] ⟨rfl, rfl, rfl, rfl, trivial⟩ ?_
  refine W.seq <| W.region rfl ?_
  refine Ops.box (cs := #[.slice (some ⟨bf, off, none⟩) fs.length cap, .slice a' ss.length cap']) (fun β4 => ?_) rfl rfl rfl
  refine Ops.new (fun β8 => ?_)
  refine Ops.nil <| thn_n <| W.seq <| W.region rfl ?_
  refine Ops.new (fun β9 => ?_)
  refine Ops.nil <| thn_n <| W.seq <| W.region rfl ?_
  refine oq (y_fieldAddr rfl rfl) rfl wn rfl rfl ?_
  refine oq (yld rfl rfl) rfl wn rfl rfl ?_
  refine qm rfl rfl rfl ?_
  first | refine oq (yix rfl rfl rfl) rfl wn rfl rfl ?_ | refine oq (yixI rfl rfl rfl) rfl wn rfl rfl ?_
  refine oq (y_fieldAddr rfl rfl) rfl wn rfl rfl ?_
  first | refine oq (yldW rfl rfl) rfl wn rfl rfl ?_ | refine oq (yldA rfl rfl) rfl wn rfl rfl ?_
  refine Ops.new (fun β10 => ?_)
  first | refine Ops.stoW ?_ | refine Ops.stoA ?_
  refine Ops.nil <| thn_n <| W.seq <| W.seq <| W.region rfl <| qs rfl rfl rfl <| Ops.nil <| thn_n <| W.block ?_
  refine W.loop (σ := Nat) (fun k => k ≤ l.length) (fun k => [(11, I k), (10, .pointer (some ⟨β10, 0, none⟩)), (9, .pointer (some ⟨β9, 0, none⟩)), (8, .pointer (some ⟨β8, 0, none⟩)), (4, .pointer (some ⟨β4, 0, none⟩)), (1, .slice a2 l.length cap2), (2, I f), (3, I d)]) (fun k => [(β10, .cells #[I lo, I hi'] t_Span (0, 0)), (β9, .cells #[I (sumK (loG fs ss l f d) k), I (sumK (hiG fs ss l f d) k)] t_Span (0, 0)), (β8, .cells #[I 0, I 0] t_Span (0, 0)), (β4, .cells #[.slice (some ⟨bf, off, none⟩) fs.length cap, .slice a' ss.length cap'] t_Plant (0, 0))]) (fun k => l.length - k) 0 (Nat.zero_le _) ⟨rfl, rfl, rfl, rfl, rfl, rfl, rfl, rfl, trivial⟩ .refl ?_
  rintro k hk
  refine W.seq <| W.seq <| W.region rfl <| qm rfl rfl rfl <| qm rfl rfl rfl ?_
  refine oq (y_len rfl rfl) rfl wn rfl rfl ?_
  refine oq (y_lss rfl rfl rfl) rfl wn rfl rfl ?_
  refine Ops.nil <| thn_n ?_
  refine W.condp rfl (fun c21 => ?_) (fun c21 => ?_)
  · have hk1 : k < l.length := by omega
    have hb0 := be_some hall hpl hn hk1
    have hpo := hpl.ok.ok _ (List.mem_append_left _ (List.mem_of_getElem? hb0))
    obtain ⟨s, hs0, -⟩ := has (show k < ss.length by omega)
    have hsa : stAt ss k = s := by simp [stAt, List.getD, hs0]
    have hco := co_ok hall k
    rw [hsa] at hco
    have hsum := sums_le (l := l) (d := d) hall hf0.1 hf0.2 k
    have hlg : loG fs ss l f d k = if (beAt l k).fl = f ∧ (beAt l k).day ≤ d ∧ d < (beAt l k).day + lo then s.co else 0 := by rw [loG, hfa, hsa]
    have hhg : hiG fs ss l f d k = if (beAt l k).fl = f ∧ (beAt l k).day ≤ d ∧ d < (beAt l k).day + hi' then s.co else 0 := by rw [hiG, hfa, hsa]
    have hs1 : sumK (loG fs ss l f d) (k + 1) = sumK (loG fs ss l f d) k + loG fs ss l f d k := rfl
    have hs2 : sumK (hiG fs ss l f d) (k + 1) = sumK (hiG fs ss l f d) k + hiG fs ss l f d k := rfl
    rw [hlg] at hs1
    rw [hhg] at hs2
    generalize sumK (loG fs ss l f d) k = x1 at *
    generalize sumK (hiG fs ss l f d) k = x2 at *
    obtain ⟨bl, offl, cl, El, fzl, rfl, hbl, -, hyl, hzl⟩ := hl.at hb0
    have hfl0 : cl[offl + k * 2 + 0]? = some (I (beAt l k).fl) := hzl 0 (by decide)
    have hfl1 : cl[offl + k * 2 + 1]? = some (I (beAt l k).day) := hzl 1 (by decide)
    clear hzl
    obtain ⟨bs, offs, cs, Es, fzs, rfl, hbs, -, hys, hzs⟩ := hs.at hs0
    have hfs : cs[offs + k * 3 + 1]? = some (I s.co) := hzs 1 (by decide)
    clear hzs
    generalize beAt l k = b at *
    refine W.skip <| thn_n <| W.seq <| W.block <| W.seq <| W.seq <| W.region rfl <| qm rfl rfl rfl <| qm rfl rfl rfl ?_
    first | refine oq (yix rfl rfl rfl) rfl wn rfl rfl ?_ | refine oq (yixI rfl rfl rfl) rfl wn rfl rfl ?_
    refine oq (y_fieldAddr rfl rfl) rfl wn rfl rfl ?_
    refine oq (yld rfl rfl) rfl wn rfl rfl ?_
    refine qm rfl rfl rfl ?_
    refine oq (y_neq rfl rfl rfl) rfl wn rfl rfl ?_
    refine qm rfl rfl rfl ?_
    refine Ops.ask (fun a6_8 => ?_) (fun a6_8 => ?_)
    · refine Ops.no ?_
      refine Ops.no ?_
      refine Ops.no ?_
      refine Ops.no ?_
      refine Ops.no ?_
      refine Ops.no ?_
      refine Ops.no ?_
      refine oq (y_pickT rfl rfl rfl) rfl wn rfl rfl ?_
      refine Ops.nil <| thn_n ?_
      refine W.condT ?_
      refine W.exit <| thn_x <| blk_x <| thn_n <| W.region rfl <| qm rfl rfl rfl ?_
      first | refine oq (yadd rfl rfl rfl) rfl wn rfl rfl ?_ | refine oq (y_addw rfl rfl rfl) rfl wn rfl rfl ?_
      refine qs rfl rfl rfl <| Ops.nil <| thn_n ?_
      refine ⟨rfl, k + 1, by omega, by omega, ⟨rfl, rfl, rfl, rfl, rfl, rfl, rfl, rfl, trivial⟩, ?_⟩
      rw [hs1, hs2]
      first
      | (exfalso; omega)
      | (rw [if_neg (by omega), if_neg (by omega), Int.add_zero, Int.add_zero]; exact .refl)
      | (rw [if_neg (by omega), if_pos (by omega), Int.add_zero]; exact .refl)
      | (rw [if_pos (by omega), if_pos (by omega)]; exact .refl)
    · refine oq (y_move rfl rfl) rfl (want_some rfl rfl rfl) rfl rfl ?_
      refine oq (y_move rfl rfl) rfl (want_some rfl rfl rfl) rfl rfl ?_
      refine oq (y_move rfl rfl) rfl (want_some rfl rfl rfl) rfl rfl ?_
      first | refine oq (yix rfl rfl rfl) rfl (want_some rfl rfl rfl) rfl rfl ?_ | refine oq (yixI rfl rfl rfl) rfl (want_some rfl rfl rfl) rfl rfl ?_
      refine oq (y_fieldAddr rfl rfl) rfl (want_some rfl rfl rfl) rfl rfl ?_
      refine oq (yld rfl rfl) rfl (want_some rfl rfl rfl) rfl rfl ?_
      refine oq (y_lss rfl rfl rfl) rfl (want_some rfl rfl rfl) rfl rfl ?_
      refine oq (y_pickF rfl rfl rfl) rfl wn rfl rfl ?_
      refine Ops.nil <| thn_n ?_
      refine W.condp rfl (fun c39 => ?_) (fun c39 => ?_)
      · refine W.exit <| thn_x <| blk_x <| thn_n <| W.region rfl <| qm rfl rfl rfl ?_
        first | refine oq (yadd rfl rfl rfl) rfl wn rfl rfl ?_ | refine oq (y_addw rfl rfl rfl) rfl wn rfl rfl ?_
        refine qs rfl rfl rfl <| Ops.nil <| thn_n ?_
        refine ⟨rfl, k + 1, by omega, by omega, ⟨rfl, rfl, rfl, rfl, rfl, rfl, rfl, rfl, trivial⟩, ?_⟩
        rw [hs1, hs2]
        first
        | (exfalso; omega)
        | (rw [if_neg (by omega), if_neg (by omega), Int.add_zero, Int.add_zero]; exact .refl)
        | (rw [if_neg (by omega), if_pos (by omega), Int.add_zero]; exact .refl)
        | (rw [if_pos (by omega), if_pos (by omega)]; exact .refl)
      · refine W.skip <| thn_n <| W.seq <| W.seq ?_
        refine W.drawP4 (n := 10) rfl ?_
        refine aq (i := 0) (y_move rfl rfl) rfl an rfl rfl ?_
        refine aq (i := 1) (y_move rfl rfl) rfl an rfl rfl ?_
        refine aq (i := 2) (y_move rfl rfl) rfl an rfl rfl ?_
        first | refine aq (i := 3) (yix rfl rfl rfl) rfl an rfl rfl ?_ | refine aq (i := 3) (yixI rfl rfl rfl) rfl an rfl rfl ?_
        refine aq (i := 4) (y_fieldAddr rfl rfl) rfl an rfl rfl ?_
        refine aq (i := 5) (yld rfl rfl) rfl an rfl rfl ?_
        refine aq (i := 6) (y_fieldAddr rfl rfl) rfl an rfl rfl ?_
        refine aq (i := 7) (yld rfl rfl) rfl an rfl rfl ?_
        first | refine aq (i := 8) (yadd rfl rfl rfl) rfl an rfl rfl ?_ | refine aq (i := 8) (y_addw rfl rfl rfl) rfl an rfl rfl ?_
        refine aq (i := 9) (y_lss rfl rfl rfl) rfl an rfl rfl ?_
        refine az ?_
        refine thn_n ?_
        refine W.condp rfl (fun c49 => ?_) (fun c49 => ?_)
        · refine W.drawP4 (n := 11) rfl ?_
          refine aq (i := 0) (y_fieldAddr rfl rfl) rfl an rfl rfl ?_
          refine aq (i := 1) (yld rfl rfl) rfl an rfl rfl ?_
          refine aq (i := 2) (y_fieldAddr rfl rfl) rfl an rfl rfl ?_
          refine aq (i := 3) (yld rfl rfl) rfl an rfl rfl ?_
          refine aq (i := 4) (y_move rfl rfl) rfl an rfl rfl ?_
          first | refine aq (i := 5) (yix rfl rfl rfl) rfl an rfl rfl ?_ | refine aq (i := 5) (yixI rfl rfl rfl) rfl an rfl rfl ?_
          refine aq (i := 6) (y_fieldAddr rfl rfl) rfl an rfl rfl ?_
          refine aq (i := 7) (yld rfl rfl) rfl an rfl rfl ?_
          first | refine aq (i := 8) (yadd rfl rfl rfl) rfl an rfl rfl ?_ | refine aq (i := 8) (y_addw rfl rfl rfl) rfl an rfl rfl ?_
          refine aq (i := 9) (y_fieldAddr rfl rfl) rfl an rfl rfl ?_
          refine ae (i := 10) rfl an rfl rfl (eS rfl rfl rfl ?_)
          refine ⟨.inl (by kernel_rfl), ?_⟩
          refine az ?_
          refine thn_n <| W.seq ?_
          refine W.drawP4 (n := 10) rfl ?_
          refine aq (i := 0) (y_move rfl rfl) rfl an rfl rfl ?_
          refine aq (i := 1) (y_move rfl rfl) rfl an rfl rfl ?_
          refine aq (i := 2) (y_move rfl rfl) rfl an rfl rfl ?_
          first | refine aq (i := 3) (yix rfl rfl rfl) rfl an rfl rfl ?_ | refine aq (i := 3) (yixI rfl rfl rfl) rfl an rfl rfl ?_
          refine aq (i := 4) (y_fieldAddr rfl rfl) rfl an rfl rfl ?_
          refine aq (i := 5) (yld rfl rfl) rfl an rfl rfl ?_
          refine aq (i := 6) (y_fieldAddr rfl rfl) rfl an rfl rfl ?_
          refine aq (i := 7) (yld rfl rfl) rfl an rfl rfl ?_
          first | refine aq (i := 8) (yadd rfl rfl rfl) rfl an rfl rfl ?_ | refine aq (i := 8) (y_addw rfl rfl rfl) rfl an rfl rfl ?_
          refine aq (i := 9) (y_lss rfl rfl rfl) rfl an rfl rfl ?_
          refine az ?_
          refine thn_n ?_
          refine W.condp rfl (fun c69 => ?_) (fun c69 => ?_)
          · refine W.drawP4 (n := 11) rfl ?_
            refine aq (i := 0) (y_fieldAddr rfl rfl) rfl an rfl rfl ?_
            refine aq (i := 1) (yld rfl rfl) rfl an rfl rfl ?_
            refine aq (i := 2) (y_fieldAddr rfl rfl) rfl an rfl rfl ?_
            refine aq (i := 3) (yld rfl rfl) rfl an rfl rfl ?_
            refine aq (i := 4) (y_move rfl rfl) rfl an rfl rfl ?_
            first | refine aq (i := 5) (yix rfl rfl rfl) rfl an rfl rfl ?_ | refine aq (i := 5) (yixI rfl rfl rfl) rfl an rfl rfl ?_
            refine aq (i := 6) (y_fieldAddr rfl rfl) rfl an rfl rfl ?_
            refine aq (i := 7) (yld rfl rfl) rfl an rfl rfl ?_
            first | refine aq (i := 8) (yadd rfl rfl rfl) rfl an rfl rfl ?_ | refine aq (i := 8) (y_addw rfl rfl rfl) rfl an rfl rfl ?_
            refine aq (i := 9) (y_fieldAddr rfl rfl) rfl an rfl rfl ?_
            refine ae (i := 10) rfl an rfl rfl (eS rfl rfl rfl ?_)
            refine ⟨.inl (by kernel_rfl), ?_⟩
            refine az ?_
            refine blk_n <| thn_n <| W.region rfl <| qm rfl rfl rfl ?_
            first | refine oq (yadd rfl rfl rfl) rfl wn rfl rfl ?_ | refine oq (y_addw rfl rfl rfl) rfl wn rfl rfl ?_
            refine qs rfl rfl rfl <| Ops.nil <| thn_n ?_
            refine ⟨rfl, k + 1, by omega, by omega, ⟨rfl, rfl, rfl, rfl, rfl, rfl, rfl, rfl, trivial⟩, ?_⟩
            rw [hs1, hs2]
            first
            | (exfalso; omega)
            | (rw [if_neg (by omega), if_neg (by omega), Int.add_zero, Int.add_zero]; exact .refl)
            | (rw [if_neg (by omega), if_pos (by omega), Int.add_zero]; exact .refl)
            | (rw [if_pos (by omega), if_pos (by omega)]; exact .refl)
          · refine W.skip <| blk_n <| thn_n <| W.region rfl <| qm rfl rfl rfl ?_
            first | refine oq (yadd rfl rfl rfl) rfl wn rfl rfl ?_ | refine oq (y_addw rfl rfl rfl) rfl wn rfl rfl ?_
            refine qs rfl rfl rfl <| Ops.nil <| thn_n ?_
            refine ⟨rfl, k + 1, by omega, by omega, ⟨rfl, rfl, rfl, rfl, rfl, rfl, rfl, rfl, trivial⟩, ?_⟩
            rw [hs1, hs2]
            first
            | (exfalso; omega)
            | (rw [if_neg (by omega), if_neg (by omega), Int.add_zero, Int.add_zero]; exact .refl)
            | (rw [if_neg (by omega), if_pos (by omega), Int.add_zero]; exact .refl)
            | (rw [if_pos (by omega), if_pos (by omega)]; exact .refl)
        · refine W.skip <| thn_n <| W.seq ?_
          refine W.drawP4 (n := 10) rfl ?_
          refine aq (i := 0) (y_move rfl rfl) rfl an rfl rfl ?_
          refine aq (i := 1) (y_move rfl rfl) rfl an rfl rfl ?_
          refine aq (i := 2) (y_move rfl rfl) rfl an rfl rfl ?_
          first | refine aq (i := 3) (yix rfl rfl rfl) rfl an rfl rfl ?_ | refine aq (i := 3) (yixI rfl rfl rfl) rfl an rfl rfl ?_
          refine aq (i := 4) (y_fieldAddr rfl rfl) rfl an rfl rfl ?_
          refine aq (i := 5) (yld rfl rfl) rfl an rfl rfl ?_
          refine aq (i := 6) (y_fieldAddr rfl rfl) rfl an rfl rfl ?_
          refine aq (i := 7) (yld rfl rfl) rfl an rfl rfl ?_
          first | refine aq (i := 8) (yadd rfl rfl rfl) rfl an rfl rfl ?_ | refine aq (i := 8) (y_addw rfl rfl rfl) rfl an rfl rfl ?_
          refine aq (i := 9) (y_lss rfl rfl rfl) rfl an rfl rfl ?_
          refine az ?_
          refine thn_n ?_
          refine W.condp rfl (fun c69 => ?_) (fun c69 => ?_)
          · refine W.drawP4 (n := 11) rfl ?_
            refine aq (i := 0) (y_fieldAddr rfl rfl) rfl an rfl rfl ?_
            refine aq (i := 1) (yld rfl rfl) rfl an rfl rfl ?_
            refine aq (i := 2) (y_fieldAddr rfl rfl) rfl an rfl rfl ?_
            refine aq (i := 3) (yld rfl rfl) rfl an rfl rfl ?_
            refine aq (i := 4) (y_move rfl rfl) rfl an rfl rfl ?_
            first | refine aq (i := 5) (yix rfl rfl rfl) rfl an rfl rfl ?_ | refine aq (i := 5) (yixI rfl rfl rfl) rfl an rfl rfl ?_
            refine aq (i := 6) (y_fieldAddr rfl rfl) rfl an rfl rfl ?_
            refine aq (i := 7) (yld rfl rfl) rfl an rfl rfl ?_
            first | refine aq (i := 8) (yadd rfl rfl rfl) rfl an rfl rfl ?_ | refine aq (i := 8) (y_addw rfl rfl rfl) rfl an rfl rfl ?_
            refine aq (i := 9) (y_fieldAddr rfl rfl) rfl an rfl rfl ?_
            refine ae (i := 10) rfl an rfl rfl (eS rfl rfl rfl ?_)
            refine ⟨.inl (by kernel_rfl), ?_⟩
            refine az ?_
            refine blk_n <| thn_n <| W.region rfl <| qm rfl rfl rfl ?_
            first | refine oq (yadd rfl rfl rfl) rfl wn rfl rfl ?_ | refine oq (y_addw rfl rfl rfl) rfl wn rfl rfl ?_
            refine qs rfl rfl rfl <| Ops.nil <| thn_n ?_
            refine ⟨rfl, k + 1, by omega, by omega, ⟨rfl, rfl, rfl, rfl, rfl, rfl, rfl, rfl, trivial⟩, ?_⟩
            rw [hs1, hs2]
            first
            | (exfalso; omega)
            | (rw [if_neg (by omega), if_neg (by omega), Int.add_zero, Int.add_zero]; exact .refl)
            | (rw [if_neg (by omega), if_pos (by omega), Int.add_zero]; exact .refl)
            | (rw [if_pos (by omega), if_pos (by omega)]; exact .refl)
          · refine W.skip <| blk_n <| thn_n <| W.region rfl <| qm rfl rfl rfl ?_
            first | refine oq (yadd rfl rfl rfl) rfl wn rfl rfl ?_ | refine oq (y_addw rfl rfl rfl) rfl wn rfl rfl ?_
            refine qs rfl rfl rfl <| Ops.nil <| thn_n ?_
            refine ⟨rfl, k + 1, by omega, by omega, ⟨rfl, rfl, rfl, rfl, rfl, rfl, rfl, rfl, trivial⟩, ?_⟩
            rw [hs1, hs2]
            first
            | (exfalso; omega)
            | (rw [if_neg (by omega), if_neg (by omega), Int.add_zero, Int.add_zero]; exact .refl)
            | (rw [if_neg (by omega), if_pos (by omega), Int.add_zero]; exact .refl)
            | (rw [if_pos (by omega), if_pos (by omega)]; exact .refl)
  · have hke : k = l.length := by omega
    subst hke
    refine W.exit <| thn_x <| thn_x <| blk_x <| thn_n <| W.seq <| W.region rfl ?_
    first | refine oq (yldW rfl rfl) rfl wn rfl rfl ?_ | refine oq (yldA rfl rfl) rfl wn rfl rfl ?_
    first | refine Ops.stoW ?_ | refine Ops.stoA ?_
    refine Ops.nil <| thn_n <| W.ret ?_
    exact lvc (hv := rAgg rNil) ⟨rfl, by repeat (first | exact Shut.nil | refine Shut.cons rfl ?_)⟩

theorem RStands_fn (main : Side) (h : Hp) (fs : List Fl) (ss : List St) (l : List Be) (f d : Int) (vf vs vl : Value) (hf : Sl h Fl.row vf fs) (hs : Sl h St.row vs ss) (hl : Sl h Be.row vl l) : Pu prog main n_ref_Stands #[.agg #[vf, vs], vl, I f, I d] h (.tuple #[.agg #[I (standsV fs ss l f d).1.lo, I (standsV fs ss l f d).1.hi], I (standsV fs ss l f d).2]) := by
  obtain ⟨a, cap, rfl⟩ := hf.isSl
  obtain ⟨a', cap', rfl⟩ := hs.isSl
  obtain ⟨a2, cap2, rfl⟩ := hl.isSl
  rw [stands_rask]
  refine Fnc.of_body at_ref_Stands rfl (by show 4 ≤ 25; decide) [(0, .agg #[.slice a fs.length cap, .slice a' ss.length cap']), (1, .slice a2 l.length cap2), (2, I f), (3, I d)] ⟨rfl, rfl, rfl, rfl, trivial⟩ ?_
  refine W.seq <| W.region rfl ?_
  refine Ops.box (cs := #[.slice a fs.length cap, .slice a' ss.length cap']) (fun β4 => ?_) rfl rfl rfl
  refine Ops.new (fun β8 => ?_)
  refine qs rfl rfl rfl <| Ops.nil <| thn_n <| W.seq <| W.seq <| W.region rfl ?_
  first | refine oq (yldW rfl rfl) rfl wn rfl rfl ?_ | refine oq (yldA rfl rfl) rfl wn rfl rfl ?_
  refine qm rfl rfl rfl <| qm rfl rfl rfl <| qm rfl rfl rfl ?_
  refine cp (fun h' hE hL => Rasked_fn _ h' _ _ _ _ _ _ _ _ (hf.ext hE) (hs.ext hE) (hl.ext hE)) ?_
  refine qs rfl rfl rfl <| Ops.nil <| thn_n <| W.seq <| W.region rfl <| qm rfl rfl rfl ?_
  refine oq (y_neq rfl rfl rfl) rfl wn rfl rfl ?_
  refine Ops.nil <| thn_n ?_
  refine W.condp rfl (fun c17 => ?_) (fun c17 => ?_)
  · refine W.seq <| W.region rfl ?_
    refine oq (y_build (parts := []) (cs := #[I 0, I 0]) rfl rfl rfl) rfl wn rfl rfl ?_
    refine qm rfl rfl rfl ?_
    first | refine Ops.stoW ?_ | refine Ops.stoA ?_
    refine qs rfl rfl rfl <| Ops.nil <| thn_n <| W.ret <| thn_r ?_
    refine lvc (hv := rAgg (rTmp rNil)) ⟨?_, by repeat (first | exact Shut.nil | refine Shut.cons rfl ?_)⟩
    rw [if_pos c17]; rfl
  · have hr := rask0 (by simpa using c17)
    refine W.skip <| thn_n <| W.seq <| W.region rfl ?_
    first | refine oq (yldW rfl rfl) rfl wn rfl rfl ?_ | refine oq (yldA rfl rfl) rfl wn rfl rfl ?_
    refine qm rfl rfl rfl <| qm rfl rfl rfl <| qm rfl rfl rfl ?_
    refine cp (fun h' hE hL => Rstands_fn _ h' fs ss l f d _ _ _ (hf.ext hE) (hs.ext hE) (hl.ext hE) hr.1 ⟨hr.2.1, hr.2.2.1⟩) ?_
    first | refine Ops.stoW ?_ | refine Ops.stoA ?_
    refine qs rfl rfl rfl <| Ops.nil <| thn_n <| W.ret ?_
    refine lvc (hv := rAgg (rTmp rNil)) ⟨?_, by repeat (first | exact Shut.nil | refine Shut.cons rfl ?_)⟩
    rw [if_neg c17]; rfl

theorem REmpty_fn (main : Side) (h : Hp) (fs : List Fl) (ss : List St) (l : List Be) (f d : Int) (vf vs vl : Value) (hf : Sl h Fl.row vf fs) (hs : Sl h St.row vs ss) (hl : Sl h Be.row vl l) : Pu prog main n_ref_Empty #[.agg #[vf, vs], vl, I f, I d] h (.tuple #[I (emptyV fs ss l f d).1, I (emptyV fs ss l f d).2]) := by
  obtain ⟨a, cap, rfl⟩ := hf.isSl
  obtain ⟨a', cap', rfl⟩ := hs.isSl
  obtain ⟨a2, cap2, rfl⟩ := hl.isSl
  rw [emptyV, stands_rask]
  refine Fnc.of_body at_ref_Empty rfl (by show 4 ≤ 33; decide) [(0, .agg #[.slice a fs.length cap, .slice a' ss.length cap']), (1, .slice a2 l.length cap2), (2, I f), (3, I d)] ⟨rfl, rfl, rfl, rfl, trivial⟩ ?_
  refine W.seq <| W.region rfl ?_
  refine Ops.box (cs := #[.slice a fs.length cap, .slice a' ss.length cap']) (fun β4 => ?_) rfl rfl rfl
  refine qs rfl rfl rfl <| qs rfl rfl rfl <| Ops.nil <| thn_n <| W.seq <| W.seq <| W.region rfl ?_
  first | refine oq (yldW rfl rfl) rfl wn rfl rfl ?_ | refine oq (yldA rfl rfl) rfl wn rfl rfl ?_
  refine qm rfl rfl rfl <| qm rfl rfl rfl <| qm rfl rfl rfl ?_
  refine cp (fun h' hE hL => Rasked_fn _ h' _ _ _ _ _ _ _ _ (hf.ext hE) (hs.ext hE) (hl.ext hE)) ?_
  refine qs rfl rfl rfl <| Ops.nil <| thn_n <| W.seq <| W.region rfl <| qm rfl rfl rfl ?_
  refine oq (y_neq rfl rfl rfl) rfl wn rfl rfl ?_
  refine Ops.nil <| thn_n ?_
  refine W.condp rfl (fun c18 => ?_) (fun c18 => ?_)
  · refine W.seq <| W.region rfl <| qm rfl rfl rfl <| qs rfl rfl rfl <| qs rfl rfl rfl <| Ops.nil <| thn_n <| W.ret <| thn_r ?_
    refine lvp (hs := .cons rfl .nil) ?_
    rw [if_pos c18, if_pos c18]; rfl
  · have hr := rask0 (by simpa using c18)
    obtain ⟨hall, -, -⟩ := plan_ck hr.1
    have hsum := sums_le (l := l) (d := d) hall hr.2.1 hr.2.2.1 l.length
    rw [if_neg c18, if_neg (by simp)]
    refine W.skip <| thn_n <| W.seq <| W.region rfl ?_
    first | refine oq (yldW rfl rfl) rfl wn rfl rfl ?_ | refine oq (yldA rfl rfl) rfl wn rfl rfl ?_
    refine qm rfl rfl rfl <| qm rfl rfl rfl <| qm rfl rfl rfl ?_
    refine cp (fun h' hE hL => Rstands_fn _ h' fs ss l f d _ _ _ (hf.ext hE) (hs.ext hE) (hl.ext hE) hr.1 ⟨hr.2.1, hr.2.2.1⟩) ?_
    refine Ops.new (fun β11 => ?_)
    first | refine Ops.stoW ?_ | refine Ops.stoA ?_
    refine Ops.nil <| thn_n <| W.seq <| W.block <| W.seq <| W.region rfl ?_
    refine oq (y_fieldAddr rfl rfl) rfl wn rfl rfl ?_
    refine oq (yld rfl rfl) rfl wn rfl rfl ?_
    refine oq (y_eql rfl rfl rfl) rfl wn rfl rfl ?_
    refine qs rfl rfl rfl <| Ops.nil <| thn_n ?_
    refine W.condp rfl (fun c25 => ?_) (fun c25 => ?_)
    · refine W.seq <| W.region rfl <| qs rfl rfl rfl <| qs rfl rfl rfl <| Ops.nil <| thn_n <| W.ret <| blk_r <| thn_r ?_
      refine lvp (hs := .cons rfl (.cons rfl .nil)) ?_
      rw [emptyS, if_pos ⟨by simp only; omega, by simp only; omega⟩]; rfl
    · refine W.seq <| W.region rfl ?_
      refine oq (y_fieldAddr rfl rfl) rfl wn rfl rfl ?_
      refine oq (yld rfl rfl) rfl wn rfl rfl ?_
      refine oq (y_gtr rfl rfl rfl) rfl wn rfl rfl ?_
      refine qs rfl rfl rfl <| Ops.nil <| thn_n ?_
      refine W.condp rfl (fun c29 => ?_) (fun c29 => ?_)
      · refine W.seq <| W.region rfl <| qs rfl rfl rfl <| qs rfl rfl rfl <| Ops.nil <| thn_n <| W.ret <| blk_r <| thn_r ?_
        refine lvp (hs := .cons rfl (.cons rfl .nil)) ?_
        rw [emptyS, if_neg (by simp only; omega), if_pos (by simp only; omega)]; rfl
      · refine W.skip <| blk_n <| thn_n <| W.seq <| W.region rfl <| qs rfl rfl rfl <| qs rfl rfl rfl <| Ops.nil <| thn_n <| W.ret ?_
        refine lvp (hs := .cons rfl (.cons rfl .nil)) ?_
        rw [emptyS, if_neg (by simp only; omega), if_neg (by simp only; omega)]; rfl
end Go.Mus

/- Plants beside each other; whether plants are equal, or vast; three plants. Conditions: none; over the given program. -/
namespace Go.Mus
set_option maxRecDepth 100000
set_option maxHeartbeats 40000000
theorem vast_fn (main : Side) (h : Hp) (fs : List Fl) (ss : List St) (vf vs : Value) (hf : Sl h Fl.row vf fs) (hs : Sl h St.row vs ss) : Pu prog main n_law_vast #[.agg #[vf, vs]] h (.bool (decide (20 < fs.length) || decide (20 < ss.length))) := by
  obtain ⟨a, cap, rfl⟩ := hf.isSl
  obtain ⟨a', cap', rfl⟩ := hs.isSl
  refine Fnc.of_body at_law_vast rfl (by show 1 ≤ 13; decide) [(0, .agg #[.slice a fs.length cap, .slice a' ss.length cap'])] ⟨rfl, trivial⟩ ?_
  refine W.seq <| W.region rfl ?_
  refine Ops.box (cs := #[.slice a fs.length cap, .slice a' ss.length cap']) (fun β1 => ?_) rfl rfl rfl
  refine qs rfl rfl rfl <| Ops.nil <| thn_n <| W.seq <| W.region rfl ?_
  refine oq (y_fieldAddr rfl rfl) rfl wn rfl rfl ?_
  refine oq (yld rfl rfl) rfl wn rfl rfl ?_
  refine oq (y_len rfl rfl) rfl wn rfl rfl ?_
  refine oq (y_gtr rfl rfl rfl) rfl wn rfl rfl ?_
  refine qm rfl rfl rfl ?_
  refine Ops.ask (fun a1_5 => ?_) (fun a1_5 => ?_)
  · refine Ops.no ?_
    refine Ops.no ?_
    refine Ops.no ?_
    refine Ops.no ?_
    refine oq (y_pickT rfl rfl rfl) rfl wn rfl rfl ?_
    refine qs rfl rfl rfl <| Ops.nil <| thn_n <| W.ret ?_
    refine lvp (hs := .cons rfl .nil) ?_
    first
    | (have e : decide (20 < fs.length) = true := decide_eq_true (by omega); rw [e]; rfl)
    | (have e : decide (20 < fs.length) = false := decide_eq_false (by omega); rw [e, Bool.false_or]; exact congrArg Value.bool (decide_eq_decide.2 (by omega)))
  · refine oq (y_fieldAddr rfl rfl) rfl (want_some rfl rfl rfl) rfl rfl ?_
    refine oq (yld rfl rfl) rfl (want_some rfl rfl rfl) rfl rfl ?_
    refine oq (y_len rfl rfl) rfl (want_some rfl rfl rfl) rfl rfl ?_
    refine oq (y_gtr rfl rfl rfl) rfl (want_some rfl rfl rfl) rfl rfl ?_
    refine oq (y_pickF rfl rfl rfl) rfl wn rfl rfl ?_
    refine qs rfl rfl rfl <| Ops.nil <| thn_n <| W.ret ?_
    refine lvp (hs := .cons rfl .nil) ?_
    first
    | (have e : decide (20 < fs.length) = true := decide_eq_true (by omega); rw [e]; rfl)
    | (have e : decide (20 < fs.length) = false := decide_eq_false (by omega); rw [e, Bool.false_or]; exact congrArg Value.bool (decide_eq_decide.2 (by omega)))

theorem EqPlants_fn (main : Side) (h : Hp) (fs : List Fl) (ss : List St) (vf vs vf' vs' : Value) (hf : Sl h Fl.row vf fs) (hs : Sl h St.row vs ss) (hf' : Sl h Fl.row vf' fs) (hs' : Sl h St.row vs' ss) (hn : fs.length ≤ 100000 ∧ ss.length ≤ 100000) : Pu prog main n_kit_EqPlants #[.agg #[vf, vs], .agg #[vf', vs']] h (.bool true) := by
  obtain ⟨a, cap, rfl⟩ := hf.isSl
  obtain ⟨a', cap', rfl⟩ := hs.isSl
  obtain ⟨a2, cap2, rfl⟩ := hf'.isSl
  obtain ⟨a3, cap3, rfl⟩ := hs'.isSl
  refine Fnc.of_body at_kit_EqPlants rfl (by show 2 ≤ 59; decide) [(0, .agg #[.slice a fs.length cap, .slice a' ss.length cap']), (1, .agg #[.slice a2 fs.length cap2, .slice a3 ss.length cap3])] ⟨rfl, rfl, trivial⟩ ?_
  refine W.seq <| W.region rfl ?_
  refine Ops.box (cs := #[.slice a fs.length cap, .slice a' ss.length cap']) (fun β2 => ?_) rfl rfl rfl
  refine Ops.box (cs := #[.slice a2 fs.length cap2, .slice a3 ss.length cap3]) (fun β3 => ?_) rfl rfl rfl
  refine qs rfl rfl rfl <| Ops.nil <| thn_n <| W.seq <| W.seq <| W.region rfl ?_
  refine oq (y_fieldAddr rfl rfl) rfl wn rfl rfl ?_
  refine oq (yld rfl rfl) rfl wn rfl rfl ?_
  refine oq (y_len rfl rfl) rfl wn rfl rfl ?_
  refine oq (y_fieldAddr rfl rfl) rfl wn rfl rfl ?_
  refine oq (yld rfl rfl) rfl wn rfl rfl ?_
  refine oq (y_len rfl rfl) rfl wn rfl rfl ?_
  refine oq ((y_neq rfl rfl rfl).eq (u := .bool false) (by simp)) rfl wn rfl rfl ?_
  refine qm rfl rfl rfl ?_
  refine oq (y_fieldAddr rfl rfl) rfl (want_some rfl rfl rfl) rfl rfl ?_
  refine oq (yld rfl rfl) rfl (want_some rfl rfl rfl) rfl rfl ?_
  refine oq (y_len rfl rfl) rfl (want_some rfl rfl rfl) rfl rfl ?_
  refine oq (y_fieldAddr rfl rfl) rfl (want_some rfl rfl rfl) rfl rfl ?_
  refine oq (yld rfl rfl) rfl (want_some rfl rfl rfl) rfl rfl ?_
  refine oq (y_len rfl rfl) rfl (want_some rfl rfl rfl) rfl rfl ?_
  refine oq ((y_neq rfl rfl rfl).eq (u := .bool false) (by simp)) rfl (want_some rfl rfl rfl) rfl rfl ?_
  refine oq (y_pickF rfl rfl rfl) rfl wn rfl rfl ?_
  refine Ops.nil <| thn_n ?_
  refine W.condF ?_
  refine W.skip <| thn_n <| W.seq <| W.seq <| W.region rfl <| qs rfl rfl rfl <| Ops.nil <| thn_n <| W.block ?_
  refine W.loop (σ := Nat) (fun k => k ≤ fs.length) (fun k => [(5, I k), (3, .pointer (some ⟨β3, 0, none⟩)), (2, .pointer (some ⟨β2, 0, none⟩))]) (fun _ => [(β3, .cells #[.slice a2 fs.length cap2, .slice a3 ss.length cap3] t_Plant (0, 0)), (β2, .cells #[.slice a fs.length cap, .slice a' ss.length cap'] t_Plant (0, 0))]) (fun k => fs.length - k) 0 (Nat.zero_le _) ⟨rfl, rfl, rfl, trivial⟩ .refl ?_
  rintro k hk
  refine W.seq <| W.seq <| W.region rfl <| qm rfl rfl rfl ?_
  refine oq (y_fieldAddr rfl rfl) rfl wn rfl rfl ?_
  refine oq (yld rfl rfl) rfl wn rfl rfl ?_
  refine oq (y_len rfl rfl) rfl wn rfl rfl ?_
  refine oq (y_lss rfl rfl rfl) rfl wn rfl rfl ?_
  refine Ops.nil <| thn_n ?_
  refine W.condp rfl (fun c27 => ?_) (fun c27 => ?_)
  · obtain ⟨p, hp, -⟩ := has (show k < fs.length by omega)
    obtain ⟨b, off, c, E, fz, rfl, hb, hx, hy, hz⟩ := hf.at hp
    have hx1 : c.extract (off + k * 4) (off + k * 4 + 4) = #[I p.pl, I p.lo, I p.hi, I p.co] := hx
    clear hx hz
    obtain ⟨b', off', c', E', fz', rfl, hb', hx, hy', hz⟩ := hf'.at hp
    have hx2 : c'.extract (off' + k * 4) (off' + k * 4 + 4) = #[I p.pl, I p.lo, I p.hi, I p.co] := hx
    clear hx hz
    refine W.skip <| thn_n <| W.seq <| W.block <| W.seq ?_
    refine W.drawP2 (n := 11) rfl ?_
    refine aq (i := 0) (y_fieldAddr rfl rfl) rfl an rfl rfl ?_
    refine aq (i := 1) (yld rfl rfl) rfl an rfl rfl ?_
    refine aq (i := 2) (y_move rfl rfl) rfl an rfl rfl ?_
    first | refine aq (i := 3) (yix rfl rfl rfl) rfl an rfl rfl ?_ | refine aq (i := 3) (yixI rfl rfl rfl) rfl an rfl rfl ?_
    first | refine aq (i := 4) (yldW rfl rfl) rfl an rfl rfl ?_ | refine aq (i := 4) (yldA rfl rfl) rfl an rfl rfl ?_
    refine aq (i := 5) (y_fieldAddr rfl rfl) rfl an rfl rfl ?_
    refine aq (i := 6) (yld rfl rfl) rfl an rfl rfl ?_
    refine aq (i := 7) (y_move rfl rfl) rfl an rfl rfl ?_
    first | refine aq (i := 8) (yix rfl rfl rfl) rfl an rfl rfl ?_ | refine aq (i := 8) (yixI rfl rfl rfl) rfl an rfl rfl ?_
    first | refine aq (i := 9) (yldW rfl rfl) rfl an rfl rfl ?_ | refine aq (i := 9) (yldA rfl rfl) rfl an rfl rfl ?_
    refine aq (i := 10) (Yv.eq (u := .bool false) (y_neA [p.pl, p.lo, p.hi, p.co] [p.pl, p.lo, p.hi, p.co] rfl rfl rfl rfl rfl rfl rfl) (by simp)) rfl an rfl rfl ?_
    refine az ?_
    refine thn_n ?_
    refine W.condF ?_
    refine W.skip <| blk_n <| thn_n <| W.region rfl <| qm rfl rfl rfl ?_
    first | refine oq (yadd rfl rfl rfl) rfl wn rfl rfl ?_ | refine oq (y_addw rfl rfl rfl) rfl wn rfl rfl ?_
    refine qs rfl rfl rfl <| Ops.nil <| thn_n ?_
    exact ⟨rfl, k + 1, by omega, by omega, ⟨rfl, rfl, rfl, trivial⟩, .refl⟩
  · refine W.exit <| thn_x <| thn_x <| blk_x <| thn_n <| W.seq <| W.seq <| W.region rfl <| qs rfl rfl rfl <| Ops.nil ?_
    refine thn_n <| W.block ?_
    refine W.loop (σ := Nat) (fun k => k ≤ ss.length) (fun k => [(6, I k), (3, .pointer (some ⟨β3, 0, none⟩)), (2, .pointer (some ⟨β2, 0, none⟩))]) (fun _ => [(β3, .cells #[.slice a2 fs.length cap2, .slice a3 ss.length cap3] t_Plant (0, 0)), (β2, .cells #[.slice a fs.length cap, .slice a' ss.length cap'] t_Plant (0, 0))]) (fun k => ss.length - k) 0 (Nat.zero_le _) ⟨rfl, rfl, rfl, trivial⟩ .refl ?_
    rintro m hm
    refine W.seq <| W.seq <| W.region rfl <| qm rfl rfl rfl ?_
    refine oq (y_fieldAddr rfl rfl) rfl wn rfl rfl ?_
    refine oq (yld rfl rfl) rfl wn rfl rfl ?_
    refine oq (y_len rfl rfl) rfl wn rfl rfl ?_
    refine oq (y_lss rfl rfl rfl) rfl wn rfl rfl ?_
    refine Ops.nil <| thn_n ?_
    refine W.condp rfl (fun c45 => ?_) (fun c45 => ?_)
    · obtain ⟨p, hp, -⟩ := has (show m < ss.length by omega)
      obtain ⟨b, off, c, E, fz, rfl, hb, hx, hy, hz⟩ := hs.at hp
      have hx1 : c.extract (off + m * 3) (off + m * 3 + 3) = #[I p.day, I p.co, I p.wa] := hx
      clear hx hz
      obtain ⟨b', off', c', E', fz', rfl, hb', hx, hy', hz⟩ := hs'.at hp
      have hx2 : c'.extract (off' + m * 3) (off' + m * 3 + 3) = #[I p.day, I p.co, I p.wa] := hx
      clear hx hz
      refine W.skip <| thn_n <| W.seq <| W.block <| W.seq ?_
      refine W.drawP2 (n := 11) rfl ?_
      refine aq (i := 0) (y_fieldAddr rfl rfl) rfl an rfl rfl ?_
      refine aq (i := 1) (yld rfl rfl) rfl an rfl rfl ?_
      refine aq (i := 2) (y_move rfl rfl) rfl an rfl rfl ?_
      first | refine aq (i := 3) (yix rfl rfl rfl) rfl an rfl rfl ?_ | refine aq (i := 3) (yixI rfl rfl rfl) rfl an rfl rfl ?_
      first | refine aq (i := 4) (yldW rfl rfl) rfl an rfl rfl ?_ | refine aq (i := 4) (yldA rfl rfl) rfl an rfl rfl ?_
      refine aq (i := 5) (y_fieldAddr rfl rfl) rfl an rfl rfl ?_
      refine aq (i := 6) (yld rfl rfl) rfl an rfl rfl ?_
      refine aq (i := 7) (y_move rfl rfl) rfl an rfl rfl ?_
      first | refine aq (i := 8) (yix rfl rfl rfl) rfl an rfl rfl ?_ | refine aq (i := 8) (yixI rfl rfl rfl) rfl an rfl rfl ?_
      first | refine aq (i := 9) (yldW rfl rfl) rfl an rfl rfl ?_ | refine aq (i := 9) (yldA rfl rfl) rfl an rfl rfl ?_
      refine aq (i := 10) (Yv.eq (u := .bool false) (y_neA [p.day, p.co, p.wa] [p.day, p.co, p.wa] rfl rfl rfl rfl rfl rfl rfl) (by simp)) rfl an rfl rfl ?_
      refine az ?_
      refine thn_n ?_
      refine W.condF ?_
      refine W.skip <| blk_n <| thn_n <| W.region rfl <| qm rfl rfl rfl ?_
      first | refine oq (yadd rfl rfl rfl) rfl wn rfl rfl ?_ | refine oq (y_addw rfl rfl rfl) rfl wn rfl rfl ?_
      refine qs rfl rfl rfl <| Ops.nil <| thn_n ?_
      exact ⟨rfl, m + 1, by omega, by omega, ⟨rfl, rfl, rfl, trivial⟩, .refl⟩
    · refine W.exit <| thn_x <| thn_x <| blk_x <| thn_n <| W.seq <| W.region rfl <| qs rfl rfl rfl <| Ops.nil <| thn_n ?_
      refine W.ret ?_
      exact lvp (hs := .cons rfl (.cons rfl .nil)) rfl

/-- A plant as an element. -/
structure Pl where
  f : Sv
  s : Sv
def Pl.row (p : Pl) : List Value := [.slice p.f.a p.f.n p.f.cap, .slice p.s.a p.s.n p.s.cap]
instance : Rw Pl.row 2 := ⟨fun _ => rfl, fun _ => rfl⟩
theorem set3 {c : Array Value} {l : List St} {j : Nat} {p : St} (q : St) (h : Part c 0 (flat St.row l)) (hj : l[j]? = some p) : Part (((c.setIfInBounds (j * 3 + 0) (I q.day)).setIfInBounds (j * 3 + 1) (I q.co)).setIfInBounds (j * 3 + 2) (I q.wa)) 0 (flat St.row (l.set j q)) := by
  have hlt := lt_of_get hj
  have h1 := h.setR ⟨q.day, p.co, p.wa⟩ 0 (I q.day) (by decide) hj rfl
  have h2 := h1.setR ⟨q.day, q.co, p.wa⟩ 1 (I q.co) (by decide) (List.getElem?_set_self hlt) rfl
  have h3 := h2.setR q 2 (I q.wa) (by decide) (List.getElem?_set_self (by simpa using hlt)) rfl
  rwa [List.set_set, List.set_set] at h3
theorem set4 {c : Array Value} {l : List Fl} {j : Nat} {p : Fl} (q : Fl) (h : Part c 0 (flat Fl.row l)) (hj : l[j]? = some p) : Part ((((c.setIfInBounds (j * 4 + 0) (I q.pl)).setIfInBounds (j * 4 + 1) (I q.lo)).setIfInBounds (j * 4 + 2) (I q.hi)).setIfInBounds (j * 4 + 3) (I q.co)) 0 (flat Fl.row (l.set j q)) := by
  have hlt := lt_of_get hj
  have h1 := h.setR ⟨q.pl, p.lo, p.hi, p.co⟩ 0 (I q.pl) (by decide) hj rfl
  have h2 := h1.setR ⟨q.pl, q.lo, p.hi, p.co⟩ 1 (I q.lo) (by decide) (List.getElem?_set_self hlt) rfl
  have h3 := h2.setR ⟨q.pl, q.lo, q.hi, p.co⟩ 2 (I q.hi) (by decide) (List.getElem?_set_self (by simpa using hlt)) rfl
  have h4 := h3.setR q 3 (I q.co) (by decide) (List.getElem?_set_self (by simpa using hlt)) rfl
  rwa [List.set_set, List.set_set, List.set_set] at h4

theorem several_fn (main : Side) (h : Hp) (nums : List Int) (lv : Value) (b : Nat) (s0 : Int) (fs : List Fl) (ss : List St) (f : Fl) (st : St) (vf vs : Value) (hl : Sl h rowI lv nums) (hf : Sl h Fl.row vf fs) (hs : Sl h St.row vs ss) : Fnc prog main n_law_several #[.agg #[vf, vs], f.val, st.val, .pointer (some ⟨b, 0, none⟩)] h [(b, hatO lv 0 s0)]
    (fun v A => ∃ (β : Nat) (p0 p1 p2 : Pl) (fs1 : List Fl) (ss1 : List St) (fs2 : List Fl) (ss2 : List St) (Sf1 Ss1 Sf2 Ss2 : Frag) (k : Nat) (s' : Int), v = .slice (some ⟨β, 0, none⟩) 3 3 ∧ (vf = p0.f.val ∧ vs = p0.s.val) ∧ (Os t_Floor Fl.row p1.f.val fs1 Sf1 ∧ Os t_Strike St.row p1.s.val ss1 Ss1) ∧ (Os t_Floor Fl.row p2.f.val fs2 Sf2 ∧ Os t_Strike St.row p2.s.val ss2 Ss2) ∧ (ckPlant fs1 ss1 = 0 ∧ ss1.length ≤ 3 ∧ fs2.length = fs1.length ∧ ss2.length = ss1.length) ∧ k ≤ 200 ∧ Sb ((β, .cells (flat Pl.row [p0, p1, p2]).toArray t_Plant (0, 0)) :: (b, hatO lv k s') :: (Sf1 ++ (Ss1 ++ (Sf2 ++ Ss2)))) A) := by
  obtain ⟨a, cap, rfl⟩ := hf.isSl
  obtain ⟨a', cap', rfl⟩ := hs.isSl
  refine Fnc.of_body at_law_several rfl (by show 4 ≤ 39; decide) [(0, .agg #[.slice a fs.length cap, .slice a' ss.length cap']), (1, f.val), (2, st.val), (3, .pointer (some ⟨b, 0, none⟩))] ⟨rfl, rfl, rfl, rfl, trivial⟩ ?_
  refine W.seq <| W.region rfl ?_
  refine Ops.box (cs := #[.slice a fs.length cap, .slice a' ss.length cap']) (fun β4 => ?_) rfl rfl rfl
  refine Ops.box (cs := #[I f.pl, I f.lo, I f.hi, I f.co]) (fun β5 => ?_) rfl rfl rfl
  refine Ops.box (cs := #[I st.day, I st.co, I st.wa]) (fun β6 => ?_) rfl rfl rfl
  refine qs rfl rfl rfl <| Ops.nil <| thn_n <| W.seq <| W.region rfl <| qm rfl rfl rfl ?_
  refine cg (A := [(b, _)]) (.tail (.tail (.tail .head))) (fun h' hE hL => PlantOf_fn _ h' nums lv b s0 3 2 (hl.ext hE) (by decide) (by decide)) (fun v A' hv => ?_)
  obtain ⟨vf1, vs1, fs1, ss1, Sf1, Ss1, k1, s1, rfl, ⟨hOf1, hOs1⟩, ⟨hck, hn3, -⟩, hk1, hsb⟩ := hv
  have hnf := (hall_ck hck).nf
  obtain ⟨a1, cap1, rfl⟩ := hOf1.isSl
  obtain ⟨c1, dap1, rfl⟩ := hOs1.isSl
  refine Ops.sb (F' := (β6, .cells #[I st.day, I st.co, I st.wa] t_Strike (0, 0)) :: (β5, .cells #[I f.pl, I f.lo, I f.hi, I f.co] t_Floor (0, 0)) :: (β4, .cells #[.slice a fs.length cap, .slice a' ss.length cap'] t_Plant (0, 0)) :: ((b, hatO lv k1 s1) :: (Sf1 ++ Ss1))) (.cons (.cons (.cons (hsb.trans (Sb.right .refl .nil))))) ?_
  refine Ops.new (fun β9 => ?_)
  first | refine Ops.stoW ?_ | refine Ops.stoA ?_
  refine Ops.nil <| thn_n <| W.seq <| W.region rfl ?_
  first | refine oq (yldW rfl rfl) rfl wn rfl rfl ?_ | refine oq (yldA rfl rfl) rfl wn rfl rfl ?_
  refine c0 (fun h' hE hL => DupPlant_fn _ h' fs1 ss1 _ _ (hOf1.sl fun b' o hb => hL b' o (.tail _ (.tail _ (.tail _ (.tail _ (.tail _ (List.mem_append_left _ hb))))))) (hOs1.sl fun b' o hb => hL b' o (.tail _ (.tail _ (.tail _ (.tail _ (.tail _ (List.mem_append_right _ hb))))))) (by omega)) (fun v A' hv => ?_)
  obtain ⟨vf2, vs2, Sf2, Ss2, rfl, ⟨hOf2, hOs2⟩, hsb2⟩ := hv
  obtain ⟨a2, cap2, rfl⟩ := hOf2.isSl
  obtain ⟨c2, dap2, rfl⟩ := hOs2.isSl
  refine Ops.sb (F' := Ss2 ++ (Sf2 ++ ((β9, .cells #[.slice a1 fs1.length cap1, .slice c1 ss1.length dap1] t_Plant (0, 0)) :: (β6, .cells #[I st.day, I st.co, I st.wa] t_Strike (0, 0)) :: (β5, .cells #[I f.pl, I f.lo, I f.hi, I f.co] t_Floor (0, 0)) :: (β4, .cells #[.slice a fs.length cap, .slice a' ss.length cap'] t_Plant (0, 0)) :: ((b, hatO lv k1 s1) :: (Sf1 ++ Ss1))))) (.trans (.of_perm (by rw [← List.append_assoc]; exact (List.perm_append_comm).append_right _)) (hsb2.app .refl)) ?_
  refine Ops.new (fun β10 => ?_)
  first | refine Ops.stoW ?_ | refine Ops.stoA ?_
  refine Ops.nil <| thn_n <| W.seq ?_
  refine W.sb (F' := (β10, .cells #[.slice a2 fs1.length cap2, .slice c2 ss1.length dap2] t_Plant (0, 0)) :: (β9, .cells #[.slice a1 fs1.length cap1, .slice c1 ss1.length dap1] t_Plant (0, 0)) :: (β6, .cells #[I st.day, I st.co, I st.wa] t_Strike (0, 0)) :: (β5, .cells #[I f.pl, I f.lo, I f.hi, I f.co] t_Floor (0, 0)) :: (β4, .cells #[.slice a fs.length cap, .slice a' ss.length cap'] t_Plant (0, 0)) :: (b, hatO lv k1 s1) :: (Ss2 ++ (Sf2 ++ (Sf1 ++ Ss1)))) (.of_perm (show List.Perm _ ((β10, .cells #[.slice a2 fs1.length cap2, .slice c2 ss1.length dap2] t_Plant (0, 0)) :: (Ss2 ++ (Sf2 ++ ((β9, .cells #[.slice a1 fs1.length cap1, .slice c1 ss1.length dap1] t_Plant (0, 0)) :: (β6, .cells #[I st.day, I st.co, I st.wa] t_Strike (0, 0)) :: (β5, .cells #[I f.pl, I f.lo, I f.hi, I f.co] t_Floor (0, 0)) :: (β4, .cells #[.slice a fs.length cap, .slice a' ss.length cap'] t_Plant (0, 0)) :: (b, hatO lv k1 s1) :: (Sf1 ++ Ss1))))) from perm_cnt fun y => by simp only [List.count_append, List.count_cons, List.count_nil]; omega)) ?_
  refine W.seq <| W.region rfl ?_
  refine oq (y_fieldAddr rfl rfl) rfl wn rfl rfl ?_
  refine oq (yld rfl rfl) rfl wn rfl rfl ?_
  refine oq (y_len rfl rfl) rfl wn rfl rfl ?_
  refine qs rfl rfl rfl <| Ops.nil <| thn_n <| W.seq <| W.region rfl <| qm rfl rfl rfl ?_
  refine oq (y_gtr rfl rfl rfl) rfl wn rfl rfl ?_
  refine qm rfl rfl rfl ?_
  refine Ops.ask (fun a4_3 => ?_) (fun a4_3 => ?_)
  · refine oq (y_move rfl rfl) rfl (want_some rfl rfl rfl) rfl rfl ?_
    refine cg (A := [(b, _)]) (.tail (.tail (.tail (.tail (.tail .head))))) (fun h' hE hL => Seldom_fn _ h' nums lv b k1 s1 2 (hl.ext hE) (by omega) (by decide)) (fun v A' hv => ?_) (hw := want_some rfl rfl rfl)
    obtain ⟨r, s2, rfl, hsb3⟩ := hv
    refine Ops.sb (F' := (β10, .cells #[.slice a2 fs1.length cap2, .slice c2 ss1.length dap2] t_Plant (0, 0)) :: (β9, .cells #[.slice a1 fs1.length cap1, .slice c1 ss1.length dap1] t_Plant (0, 0)) :: (β6, .cells #[I st.day, I st.co, I st.wa] t_Strike (0, 0)) :: (β5, .cells #[I f.pl, I f.lo, I f.hi, I f.co] t_Floor (0, 0)) :: (β4, .cells #[.slice a fs.length cap, .slice a' ss.length cap'] t_Plant (0, 0)) :: (b, hatO lv (k1 + 1) s2) :: (Ss2 ++ (Sf2 ++ (Sf1 ++ Ss1)))) (.cons (.cons (.cons (.cons (.cons (hsb3.app .refl)))))) ?_
    refine oq (y_pickT rfl rfl rfl) rfl wn rfl rfl ?_
    refine Ops.nil <| thn_n ?_
    refine W.cond rfl (fun c24 => ?_) (fun c24 => ?_)
    · obtain ⟨βs, cs2, Js, hsa, hSse, -, hcz, hcl, hPs, hJs⟩ := hOs2.open (by omega)
      subst hsa hSse
      obtain ⟨j, hj⟩ : ∃ j, ss1.length = j + 1 := ⟨ss1.length - 1, by omega⟩
      obtain ⟨p, hp, -⟩ := has (show j < ss1.length by omega)
      have hPs2 := set3 st hPs hp
      have hsz : 0 + j * 3 + 3 ≤ cs2.size := by omega
      generalize hhat : hatO lv (k1 + 1) s2 = ho
      have hho : ∃ k s, k ≤ 200 ∧ ho = hatO lv k s := ⟨k1 + 1, s2, by omega, hhat.symm⟩
      refine W.region rfl ?_
      refine oq (y_fieldAddr rfl rfl) rfl wn rfl rfl ?_
      refine oq (yld rfl rfl) rfl wn rfl rfl ?_
      refine qm rfl rfl rfl ?_
      refine oq ((ysub rfl rfl rfl).eq (u := I j) (congrArg I (by omega))) rfl wn rfl rfl ?_
      first | refine oq (yldW rfl rfl) rfl wn rfl rfl ?_ | refine oq (yldA rfl rfl) rfl wn rfl rfl ?_
      first | refine oq (yix rfl rfl rfl) rfl wn rfl rfl ?_ | refine oq (yixI rfl rfl rfl) rfl wn rfl rfl ?_
      refine Ops.stoA (vs := #[I st.day, I st.co, I st.wa]) (n := 3) (hl := .tail (.tail (.tail (.tail (.tail (.tail .head)))))) (hn := rfl) (hc := hsz) ?_
      refine Ops.nil <| thn_n <| W.seq <| W.region rfl ?_
      first | refine oq (yldW rfl rfl) rfl wn rfl rfl ?_ | refine oq (yldA rfl rfl) rfl wn rfl rfl ?_
      first | refine oq (yldW rfl rfl) rfl wn rfl rfl ?_ | refine oq (yldA rfl rfl) rfl wn rfl rfl ?_
      first | refine oq (yldW rfl rfl) rfl wn rfl rfl ?_ | refine oq (yldA rfl rfl) rfl wn rfl rfl ?_
      first
      | refine Ops.bsl (cs := (flat Pl.row [⟨⟨a, fs.length, cap⟩, ⟨a', ss.length, cap'⟩⟩, ⟨⟨a1, fs1.length, cap1⟩, ⟨c1, ss1.length, dap1⟩⟩, ⟨⟨a2, fs1.length, cap2⟩, ⟨some ⟨βs, 0, none⟩, ss1.length, dap2⟩⟩]).toArray) (fun β38 => ?_) rfl (hf := by kernel_rfl)
      | refine Ops.bsl (cs := (flat Pl.row [⟨⟨a, fs.length, cap⟩, ⟨a', ss.length, cap'⟩⟩, ⟨⟨a1, fs1.length, cap1⟩, ⟨c1, ss1.length, dap1⟩⟩, ⟨⟨some ⟨βf, 0, none⟩, fs1.length, cap2⟩, ⟨c2, ss1.length, dap2⟩⟩]).toArray) (fun β38 => ?_) rfl (hf := by kernel_rfl)
      refine qs rfl rfl rfl <| Ops.nil <| thn_n <| W.ret ?_
      obtain ⟨k2, s3, hk2, rfl⟩ := hho
      exact lvt (vs := [_]) ⟨β38, ⟨⟨a, fs.length, cap⟩, ⟨a', ss.length, cap'⟩⟩, ⟨⟨a1, fs1.length, cap1⟩, ⟨c1, ss1.length, dap1⟩⟩, ⟨⟨a2, fs1.length, cap2⟩, ⟨some ⟨βs, 0, none⟩, ss1.length, dap2⟩⟩, fs1, ss1, fs1, ss1.set j st, Sf1, Ss1, Sf2, (βs, .cells (putAll cs2 (0 + j * 3) [I st.day, I st.co, I st.wa]) t_Strike (0, 0)) :: Js, k2, s3, rfl, ⟨rfl, rfl⟩, ⟨hOf1, hOs1⟩, ⟨hOf2, .inr ⟨βs, _, dap2, Js, by rw [List.length_set], rfl, by rw [putAll_size]; exact hcz, by rw [List.length_set]; exact hcl, by rw [Nat.zero_add]; exact hPs2, hJs⟩⟩, ⟨hck, hn3, rfl, by simp⟩, hk2, Sb.cons ⟨[(β10, .cells #[.slice a2 fs1.length cap2, .slice (some ⟨βs, 0, none⟩) ss1.length dap2] t_Plant (0, 0)), (β9, .cells #[.slice a1 fs1.length cap1, .slice c1 ss1.length dap1] t_Plant (0, 0)), (β6, .cells #[I st.day, I st.co, I st.wa] t_Strike (0, 0)), (β5, .cells #[I f.pl, I f.lo, I f.hi, I f.co] t_Floor (0, 0)), (β4, .cells #[.slice a fs.length cap, .slice a' ss.length cap'] t_Plant (0, 0))], perm_cnt fun y => by simp only [List.count_append, List.count_cons, List.count_nil, List.cons_append, List.append_eq]; omega, .cons rfl (.cons rfl (.cons rfl (.cons rfl (.cons rfl .nil))))⟩⟩
    · first
      | generalize hhat : hatO lv (k1 + 1) s2 = ho
      | generalize hhat : hatO lv k1 s1 = ho
      have hho : ∃ k s, k ≤ 200 ∧ ho = hatO lv k s := by first | exact ⟨k1 + 1, s2, by omega, hhat.symm⟩ | exact ⟨k1, s1, by omega, hhat.symm⟩
      obtain ⟨βf, cf2, Jf, hfa, hSfe, -, hcz, hcl, hPf, hJf⟩ := hOf2.open (by omega)
      subst hfa hSfe
      obtain ⟨p, hp, -⟩ := has (show 0 < fs1.length by omega)
      have hPf2 := set4 f hPf hp
      have hsz : 0 + Int.toNat 0 * 4 + 4 ≤ cf2.size := by simp; omega
      refine W.region rfl ?_
      refine oq (y_fieldAddr rfl rfl) rfl wn rfl rfl ?_
      refine oq (yld rfl rfl) rfl wn rfl rfl ?_
      first | refine oq (yldW rfl rfl) rfl wn rfl rfl ?_ | refine oq (yldA rfl rfl) rfl wn rfl rfl ?_
      first | refine oq (yix rfl rfl rfl) rfl wn rfl rfl ?_ | refine oq (yixI rfl rfl rfl) rfl wn rfl rfl ?_
      refine Ops.stoA (vs := #[I f.pl, I f.lo, I f.hi, I f.co]) (n := 4) (hl := .tail (.tail (.tail (.tail (.tail (.tail (.app .head))))))) (hn := rfl) (hc := hsz) ?_
      refine Ops.nil <| thn_n <| W.seq <| W.region rfl ?_
      first | refine oq (yldW rfl rfl) rfl wn rfl rfl ?_ | refine oq (yldA rfl rfl) rfl wn rfl rfl ?_
      first | refine oq (yldW rfl rfl) rfl wn rfl rfl ?_ | refine oq (yldA rfl rfl) rfl wn rfl rfl ?_
      first | refine oq (yldW rfl rfl) rfl wn rfl rfl ?_ | refine oq (yldA rfl rfl) rfl wn rfl rfl ?_
      first
      | refine Ops.bsl (cs := (flat Pl.row [⟨⟨a, fs.length, cap⟩, ⟨a', ss.length, cap'⟩⟩, ⟨⟨a1, fs1.length, cap1⟩, ⟨c1, ss1.length, dap1⟩⟩, ⟨⟨a2, fs1.length, cap2⟩, ⟨some ⟨βs, 0, none⟩, ss1.length, dap2⟩⟩]).toArray) (fun β38 => ?_) rfl (hf := by kernel_rfl)
      | refine Ops.bsl (cs := (flat Pl.row [⟨⟨a, fs.length, cap⟩, ⟨a', ss.length, cap'⟩⟩, ⟨⟨a1, fs1.length, cap1⟩, ⟨c1, ss1.length, dap1⟩⟩, ⟨⟨some ⟨βf, 0, none⟩, fs1.length, cap2⟩, ⟨c2, ss1.length, dap2⟩⟩]).toArray) (fun β38 => ?_) rfl (hf := by kernel_rfl)
      refine qs rfl rfl rfl <| Ops.nil <| thn_n <| W.ret ?_
      obtain ⟨k2, s3, hk2, rfl⟩ := hho
      exact lvt (vs := [_]) ⟨β38, ⟨⟨a, fs.length, cap⟩, ⟨a', ss.length, cap'⟩⟩, ⟨⟨a1, fs1.length, cap1⟩, ⟨c1, ss1.length, dap1⟩⟩, ⟨⟨some ⟨βf, 0, none⟩, fs1.length, cap2⟩, ⟨c2, ss1.length, dap2⟩⟩, fs1, ss1, fs1.set 0 f, ss1, Sf1, Ss1, (βf, .cells (putAll cf2 (0 + Int.toNat 0 * 4) [I f.pl, I f.lo, I f.hi, I f.co]) t_Floor (0, 0)) :: Jf, Ss2, k2, s3, rfl, ⟨rfl, rfl⟩, ⟨hOf1, hOs1⟩, ⟨.inr ⟨βf, _, cap2, Jf, by rw [List.length_set], rfl, by rw [putAll_size]; exact hcz, by rw [List.length_set]; exact hcl, hPf2, hJf⟩, hOs2⟩, ⟨hck, hn3, by simp, rfl⟩, hk2, Sb.cons ⟨[(β10, .cells #[.slice (some ⟨βf, 0, none⟩) fs1.length cap2, .slice c2 ss1.length dap2] t_Plant (0, 0)), (β9, .cells #[.slice a1 fs1.length cap1, .slice c1 ss1.length dap1] t_Plant (0, 0)), (β6, .cells #[I st.day, I st.co, I st.wa] t_Strike (0, 0)), (β5, .cells #[I f.pl, I f.lo, I f.hi, I f.co] t_Floor (0, 0)), (β4, .cells #[.slice a fs.length cap, .slice a' ss.length cap'] t_Plant (0, 0))], perm_cnt fun y => by simp only [List.count_append, List.count_cons, List.count_nil, List.cons_append, List.append_eq]; omega, .cons rfl (.cons rfl (.cons rfl (.cons rfl (.cons rfl .nil))))⟩⟩
  · refine Ops.no ?_
    refine Ops.no ?_
    refine oq (y_pickF rfl rfl rfl) rfl wn rfl rfl ?_
    refine Ops.nil <| thn_n ?_
    refine W.condF ?_
    first
    | generalize hhat : hatO lv (k1 + 1) s2 = ho
    | generalize hhat : hatO lv k1 s1 = ho
    have hho : ∃ k s, k ≤ 200 ∧ ho = hatO lv k s := by first | exact ⟨k1 + 1, s2, by omega, hhat.symm⟩ | exact ⟨k1, s1, by omega, hhat.symm⟩
    obtain ⟨βf, cf2, Jf, hfa, hSfe, -, hcz, hcl, hPf, hJf⟩ := hOf2.open (by omega)
    subst hfa hSfe
    obtain ⟨p, hp, -⟩ := has (show 0 < fs1.length by omega)
    have hPf2 := set4 f hPf hp
    have hsz : 0 + Int.toNat 0 * 4 + 4 ≤ cf2.size := by simp; omega
    refine W.region rfl ?_
    refine oq (y_fieldAddr rfl rfl) rfl wn rfl rfl ?_
    refine oq (yld rfl rfl) rfl wn rfl rfl ?_
    first | refine oq (yldW rfl rfl) rfl wn rfl rfl ?_ | refine oq (yldA rfl rfl) rfl wn rfl rfl ?_
    first | refine oq (yix rfl rfl rfl) rfl wn rfl rfl ?_ | refine oq (yixI rfl rfl rfl) rfl wn rfl rfl ?_
    refine Ops.stoA (vs := #[I f.pl, I f.lo, I f.hi, I f.co]) (n := 4) (hl := .tail (.tail (.tail (.tail (.tail (.tail (.app .head))))))) (hn := rfl) (hc := hsz) ?_
    refine Ops.nil <| thn_n <| W.seq <| W.region rfl ?_
    first | refine oq (yldW rfl rfl) rfl wn rfl rfl ?_ | refine oq (yldA rfl rfl) rfl wn rfl rfl ?_
    first | refine oq (yldW rfl rfl) rfl wn rfl rfl ?_ | refine oq (yldA rfl rfl) rfl wn rfl rfl ?_
    first | refine oq (yldW rfl rfl) rfl wn rfl rfl ?_ | refine oq (yldA rfl rfl) rfl wn rfl rfl ?_
    first
    | refine Ops.bsl (cs := (flat Pl.row [⟨⟨a, fs.length, cap⟩, ⟨a', ss.length, cap'⟩⟩, ⟨⟨a1, fs1.length, cap1⟩, ⟨c1, ss1.length, dap1⟩⟩, ⟨⟨a2, fs1.length, cap2⟩, ⟨some ⟨βs, 0, none⟩, ss1.length, dap2⟩⟩]).toArray) (fun β38 => ?_) rfl (hf := by kernel_rfl)
    | refine Ops.bsl (cs := (flat Pl.row [⟨⟨a, fs.length, cap⟩, ⟨a', ss.length, cap'⟩⟩, ⟨⟨a1, fs1.length, cap1⟩, ⟨c1, ss1.length, dap1⟩⟩, ⟨⟨some ⟨βf, 0, none⟩, fs1.length, cap2⟩, ⟨c2, ss1.length, dap2⟩⟩]).toArray) (fun β38 => ?_) rfl (hf := by kernel_rfl)
    refine qs rfl rfl rfl <| Ops.nil <| thn_n <| W.ret ?_
    obtain ⟨k2, s3, hk2, rfl⟩ := hho
    exact lvt (vs := [_]) ⟨β38, ⟨⟨a, fs.length, cap⟩, ⟨a', ss.length, cap'⟩⟩, ⟨⟨a1, fs1.length, cap1⟩, ⟨c1, ss1.length, dap1⟩⟩, ⟨⟨some ⟨βf, 0, none⟩, fs1.length, cap2⟩, ⟨c2, ss1.length, dap2⟩⟩, fs1, ss1, fs1.set 0 f, ss1, Sf1, Ss1, (βf, .cells (putAll cf2 (0 + Int.toNat 0 * 4) [I f.pl, I f.lo, I f.hi, I f.co]) t_Floor (0, 0)) :: Jf, Ss2, k2, s3, rfl, ⟨rfl, rfl⟩, ⟨hOf1, hOs1⟩, ⟨.inr ⟨βf, _, cap2, Jf, by rw [List.length_set], rfl, by rw [putAll_size]; exact hcz, by rw [List.length_set]; exact hcl, hPf2, hJf⟩, hOs2⟩, ⟨hck, hn3, by simp, rfl⟩, hk2, Sb.cons ⟨[(β10, .cells #[.slice (some ⟨βf, 0, none⟩) fs1.length cap2, .slice c2 ss1.length dap2] t_Plant (0, 0)), (β9, .cells #[.slice a1 fs1.length cap1, .slice c1 ss1.length dap1] t_Plant (0, 0)), (β6, .cells #[I st.day, I st.co, I st.wa] t_Strike (0, 0)), (β5, .cells #[I f.pl, I f.lo, I f.hi, I f.co] t_Floor (0, 0)), (β4, .cells #[.slice a fs.length cap, .slice a' ss.length cap'] t_Plant (0, 0))], perm_cnt fun y => by simp only [List.count_append, List.count_cons, List.count_nil, List.cons_append, List.append_eq]; omega, .cons rfl (.cons rfl (.cons rfl (.cons rfl (.cons rfl .nil))))⟩⟩
end Go.Mus
