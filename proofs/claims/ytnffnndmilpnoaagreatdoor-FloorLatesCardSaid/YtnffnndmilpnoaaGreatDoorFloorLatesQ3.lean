/- The document's answers of layer 5: checks, what stands. Conditions: none; over the given program. (And 5 texts more.) -/
import Derived.Test.YtnffnndmilpnoaaGreatDoorFloorLatesQ2
set_option linter.unusedVariables false
set_option linter.unusedSimpArgs false
set_option linter.unusedSectionVars false

/- The document's answers of layer 5: checks, what stands. Conditions: none; over the given program. -/
namespace Go.Mus
set_option maxRecDepth 100000
set_option maxHeartbeats 40000000
theorem among_fn (main : Side) (h : Hp) (n lo hi : Int) : Pu prog main n_ref_among #[I n, I lo, I hi] h (.bool (!decide (outs n lo hi))) := by
  refine Fnc.of_body at_ref_among rfl (by show 3 ≤ 15; decide) [(0, I n), (1, I lo), (2, I hi)] ⟨rfl, rfl, rfl, trivial⟩ ?_
  refine W.seq <| W.region rfl <| qs rfl rfl rfl <| Ops.nil <| thn_n <| W.seq <| W.region rfl <| qm rfl rfl rfl <| qm rfl rfl rfl ?_
  refine o1 (y_geq rfl rfl rfl) rfl ?_
  refine qm rfl rfl rfl ?_
  refine Ops.ask (fun a1_4 => ?_) (fun a1_4 => ?_)
  · refine oq (y_move rfl rfl) rfl (want_some rfl rfl rfl) rfl rfl ?_
    refine oq (y_move rfl rfl) rfl (want_some rfl rfl rfl) rfl rfl ?_
    refine oq (y_leq rfl rfl rfl) rfl (want_some rfl rfl rfl) rfl rfl ?_
    refine o1 (y_pickT rfl rfl rfl) rfl ?_
    refine qs rfl rfl rfl <| Ops.nil <| thn_n <| W.ret ?_
    refine lvp ?_
    refine congrArg Value.bool ?_
    first
    | (rw [decide_eq_true (show outs n lo hi from .inl (by omega))]; rfl)
    | (by_cases h1 : n ≤ hi
       · rw [decide_eq_false (show ¬ outs n lo hi from fun h => h.elim (by omega) (by omega))]; exact decide_eq_true h1
       · rw [decide_eq_true (show outs n lo hi from .inr (by omega))]; exact decide_eq_false h1)
  · refine Ops.no ?_
    refine Ops.no ?_
    refine Ops.no ?_
    refine o1 (y_pickF rfl rfl rfl) rfl ?_
    refine qs rfl rfl rfl <| Ops.nil <| thn_n <| W.ret ?_
    refine lvp ?_
    refine congrArg Value.bool ?_
    first
    | (rw [decide_eq_true (show outs n lo hi from .inl (by omega))]; rfl)
    | (by_cases h1 : n ≤ hi
       · rw [decide_eq_false (show ¬ outs n lo hi from fun h => h.elim (by omega) (by omega))]; exact decide_eq_true h1
       · rw [decide_eq_true (show outs n lo hi from .inr (by omega))]; exact decide_eq_false h1)
theorem rcheckFloor_fn (main : Side) (h : Hp) (f : Fl) : Pu prog main n_ref_checkFloor #[f.val] h (I (ckFloor f)) := by
  refine Fnc.of_body at_ref_checkFloor rfl (by show 1 ≤ 32; decide) [(0, f.val)] ⟨rfl, trivial⟩ ?_
  refine W.seq <| W.region rfl ?_
  refine Ops.box (cs := #[I f.pl, I f.lo, I f.hi, I f.co]) (fun β1 => ?_) rfl rfl rfl
  refine qs rfl rfl rfl <| Ops.nil <| thn_n <| W.seq <| W.seq <| W.region rfl ?_
  refine o1 (y_fieldAddr rfl rfl) rfl ?_
  refine o1 (yld rfl rfl) rfl ?_
  refine cp (fun h' hE hL => among_fn _ h' _ _ _) ?_
  refine o1 (y_not rfl rfl) rfl ?_
  refine qm rfl rfl rfl ?_
  refine Ops.askB (fun a1_5 => ?_) (fun a1_5 => ?_)
  · refine Ops.no ?_
    refine Ops.no ?_
    refine Ops.no ?_
    refine Ops.no ?_
    refine Ops.no ?_
    refine o1 (y_pickT rfl rfl rfl) rfl ?_
    refine qm rfl rfl rfl ?_
    refine Ops.no ?_
    refine Ops.no ?_
    refine Ops.no ?_
    refine Ops.no ?_
    refine Ops.no ?_
    refine o1 (y_pickT rfl rfl rfl) rfl ?_
    refine Ops.nil <| thn_n ?_
    refine W.condT ?_
    refine W.seq <| W.region rfl <| qs rfl rfl rfl <| Ops.nil <| thn_n <| W.ret <| thn_r ?_
    refine lvp (hs := .cons rfl .nil) ?_
    simp_all [ckFloor, pack]
  · refine oq (y_fieldAddr rfl rfl) rfl (want_some rfl rfl rfl) rfl rfl ?_
    refine oq (y_fieldAddr rfl rfl) rfl (want_some rfl rfl rfl) rfl rfl ?_
    refine oq (yld rfl rfl) rfl (want_some rfl rfl rfl) rfl rfl ?_
    refine cp (fun h' hE hL => among_fn _ h' _ _ _) ?_
    refine oq (y_not rfl rfl) rfl (want_some rfl rfl rfl) rfl rfl ?_
    refine o1 (y_pickF rfl rfl rfl) rfl ?_
    refine qm rfl rfl rfl ?_
    refine Ops.askB (fun a1_12 => ?_) (fun a1_12 => ?_)
    · refine Ops.no ?_
      refine Ops.no ?_
      refine Ops.no ?_
      refine Ops.no ?_
      refine Ops.no ?_
      refine o1 (y_pickT rfl rfl rfl) rfl ?_
      refine Ops.nil <| thn_n ?_
      refine W.condT ?_
      refine W.seq <| W.region rfl <| qs rfl rfl rfl <| Ops.nil <| thn_n <| W.ret <| thn_r ?_
      refine lvp (hs := .cons rfl .nil) ?_
      simp_all [ckFloor, pack]
    · refine oq (y_fieldAddr rfl rfl) rfl (want_some rfl rfl rfl) rfl rfl ?_
      refine oq (y_fieldAddr rfl rfl) rfl (want_some rfl rfl rfl) rfl rfl ?_
      refine oq (yld rfl rfl) rfl (want_some rfl rfl rfl) rfl rfl ?_
      refine cp (fun h' hE hL => among_fn _ h' _ _ _) ?_
      refine oq (y_not rfl rfl) rfl (want_some rfl rfl rfl) rfl rfl ?_
      refine o1 (y_pickF rfl rfl rfl) rfl ?_
      refine Ops.nil <| thn_n ?_
      refine W.cond rfl (fun c20 => ?_) (fun c20 => ?_)
      · refine W.seq <| W.region rfl <| qs rfl rfl rfl <| Ops.nil <| thn_n <| W.ret <| thn_r ?_
        refine lvp (hs := .cons rfl .nil) ?_
        simp_all [ckFloor, pack]
      · refine W.skip <| thn_n <| W.seq <| W.seq <| W.region rfl ?_
        refine o1 (y_fieldAddr rfl rfl) rfl ?_
        refine o1 (y_fieldAddr rfl rfl) rfl ?_
        refine o1 (yld rfl rfl) rfl ?_
        refine o1 (y_fieldAddr rfl rfl) rfl ?_
        refine o1 (y_fieldAddr rfl rfl) rfl ?_
        refine o1 (yld rfl rfl) rfl ?_
        refine o1 (y_gtr rfl rfl rfl) rfl ?_
        refine Ops.nil <| thn_n ?_
        refine W.condp rfl (fun c27 => ?_) (fun c27 => ?_)
        · refine W.seq <| W.region rfl <| qs rfl rfl rfl <| Ops.nil <| thn_n <| W.ret <| thn_r ?_
          refine lvp (hs := .cons rfl .nil) ?_
          simp_all [ckFloor, pack]
        · refine W.skip <| thn_n <| W.seq <| W.seq <| W.region rfl ?_
          refine o1 (y_fieldAddr rfl rfl) rfl ?_
          refine o1 (yld rfl rfl) rfl ?_
          refine cp (fun h' hE hL => among_fn _ h' _ _ _) ?_
          refine o1 (y_not rfl rfl) rfl ?_
          refine Ops.nil <| thn_n ?_
          refine W.cond rfl (fun c31 => ?_) (fun c31 => ?_)
          · refine W.seq <| W.region rfl <| qs rfl rfl rfl <| Ops.nil <| thn_n <| W.ret <| thn_r ?_
            refine lvp (hs := .cons rfl .nil) ?_
            simp_all [ckFloor, pack]
          · refine W.skip <| thn_n <| W.seq <| W.region rfl <| qs rfl rfl rfl <| Ops.nil <| thn_n <| W.ret ?_
            refine lvp (hs := .cons rfl .nil) ?_
            simp_all [ckFloor, pack]

def befD (ss : List St) (k : Nat) : Int := if k = 0 then 0 else (stAt ss (k - 1)).day
theorem RCheck_fn (main : Side) (h : Hp) (fs : List Fl) (ss : List St) (vf vs : Value) (hf : Sl h Fl.row vf fs) (hs : Sl h St.row vs ss) : Pu prog main n_ref_Check #[.agg #[vf, vs]] h (I (ckPlant fs ss)) := by
  obtain ⟨a, cap, rfl⟩ := hf.isSl
  obtain ⟨a', cap', rfl⟩ := hs.isSl
  refine Fnc.of_body at_ref_Check rfl (by show 1 ≤ 77; decide) [(0, .agg #[.slice a fs.length cap, .slice a' ss.length cap'])] ⟨rfl, trivial⟩ ?_
  refine W.seq <| W.region rfl ?_
  refine Ops.box (cs := #[.slice a fs.length cap, .slice a' ss.length cap']) (fun β1 => ?_) rfl rfl rfl
  refine qs rfl rfl rfl <| Ops.nil <| thn_n <| W.seq <| W.seq <| W.region rfl ?_
  refine o1 (y_fieldAddr rfl rfl) rfl ?_
  refine o1 (yld rfl rfl) rfl ?_
  refine o1 (y_len rfl rfl) rfl ?_
  refine o1 (y_eql rfl rfl rfl) rfl ?_
  refine Ops.nil <| thn_n ?_
  refine W.condp rfl (fun c10 => ?_) (fun c10 => ?_)
  · refine W.seq <| W.region rfl <| qs rfl rfl rfl <| Ops.nil <| thn_n <| W.ret <| thn_r ?_
    refine lvp (hs := .cons rfl .nil) ?_
    show I _ = I _; congr 1; simp only [ckPlant]; rw [if_pos (by omega)]
  · refine W.skip <| thn_n <| W.seq <| W.seq <| W.region rfl ?_
    refine o1 (y_fieldAddr rfl rfl) rfl ?_
    refine o1 (yld rfl rfl) rfl ?_
    refine o1 (y_len rfl rfl) rfl ?_
    refine o1 (y_gtr rfl rfl rfl) rfl ?_
    refine Ops.nil <| thn_n ?_
    refine W.condp rfl (fun c14 => ?_) (fun c14 => ?_)
    · refine W.seq <| W.region rfl <| qs rfl rfl rfl <| Ops.nil <| thn_n <| W.ret <| thn_r ?_
      refine lvp (hs := .cons rfl .nil) ?_
      show I _ = I _; congr 1; simp only [ckPlant]; rw [if_neg (by omega), if_pos (by omega)]
    · refine W.skip <| thn_n <| W.seq <| W.seq <| W.region rfl <| qs rfl rfl rfl <| Ops.nil <| thn_n <| W.block ?_
      refine W.loop (σ := Nat) (fun k => k ≤ fs.length ∧ ckFloors fs = ckFloors (fs.drop k)) (fun k => [(3, I k), (1, .pointer (some ⟨β1, 0, none⟩))]) (fun _ => [(β1, .cells #[.slice a fs.length cap, .slice a' ss.length cap'] t_Plant (0, 0))]) (fun k => fs.length - k) 0 ⟨Nat.zero_le _, rfl⟩ ⟨rfl, rfl, trivial⟩ .refl ?_
      rintro k ⟨hk, hd⟩
      refine W.seq <| W.seq <| W.region rfl <| qm rfl rfl rfl ?_
      refine o1 (y_fieldAddr rfl rfl) rfl ?_
      refine o1 (yld rfl rfl) rfl ?_
      refine o1 (y_len rfl rfl) rfl ?_
      refine o1 (y_lss rfl rfl rfl) rfl ?_
      refine Ops.nil <| thn_n ?_
      refine W.condp rfl (fun c19 => ?_) (fun c19 => ?_)
      · obtain ⟨p, hp, hdr⟩ := has (show k < fs.length by omega)
        rw [hdr] at hd
        obtain ⟨b, off, c, E, fz, rfl, hb, hx, hy, hz⟩ := hf.at hp
        have hx' : c.extract (off + k * 4) (off + k * 4 + 4) = #[I p.pl, I p.lo, I p.hi, I p.co] := hx
        clear hx hz
        refine W.skip <| thn_n <| W.seq <| W.block <| W.seq <| W.region rfl ?_
        refine o1 (y_fieldAddr rfl rfl) rfl ?_
        refine o1 (yld rfl rfl) rfl ?_
        refine qm rfl rfl rfl ?_
        first | refine o1 (yix rfl rfl rfl) rfl ?_ | refine o1 (yixI rfl rfl rfl) rfl ?_
        first | refine o1 (yldW rfl rfl) rfl ?_ | refine o1 (yldA rfl rfl) rfl ?_
        refine cp (fun h' hE hL => rcheckFloor_fn _ h' _) ?_
        refine qs rfl rfl rfl <| Ops.nil <| thn_n <| W.seq <| W.region rfl <| qm rfl rfl rfl ?_
        refine o1 (y_neq rfl rfl rfl) rfl ?_
        refine Ops.nil <| thn_n ?_
        refine W.condp rfl (fun c29 => ?_) (fun c29 => ?_)
        · refine W.seq <| W.region rfl <| qm rfl rfl rfl <| qs rfl rfl rfl <| Ops.nil <| thn_n <| W.ret <| blk_r <| thn_r <| thn_r ?_
          refine blk_r <| thn_r ?_
          refine lvp (hs := .cons rfl .nil) ?_
          show I _ = I _; congr 1; simp only [ckPlant]; simp only [ckFloors] at hd; simp_all; omega
        · refine W.skip <| blk_n <| thn_n <| W.region rfl <| qm rfl rfl rfl ?_
          first | refine o1 (yadd rfl rfl rfl) rfl ?_ | refine o1 (y_addw rfl rfl rfl) rfl ?_
          refine qs rfl rfl rfl <| Ops.nil <| thn_n ?_
          exact ⟨rfl, k + 1, ⟨by omega, by simp only [ckFloors] at hd; simp_all⟩, by omega, ⟨rfl, rfl, trivial⟩, .refl⟩
      · have : k = fs.length := by omega
        subst this
        have hz : ckFloors fs = 0 := by rw [hd]; simp [ckFloors]
        clear hd
        refine W.exit <| thn_x <| thn_x <| blk_x <| thn_n <| W.seq <| W.seq <| W.region rfl ?_
        refine o1 (y_fieldAddr rfl rfl) rfl ?_
        refine o1 (yld rfl rfl) rfl ?_
        refine o1 (y_len rfl rfl) rfl ?_
        refine o1 (y_gtr rfl rfl rfl) rfl ?_
        refine Ops.nil <| thn_n ?_
        refine W.condp rfl (fun c34 => ?_) (fun c34 => ?_)
        · refine W.seq <| W.region rfl <| qs rfl rfl rfl <| Ops.nil <| thn_n <| W.ret <| thn_r ?_
          refine lvp (hs := .cons rfl .nil) ?_
          show I _ = I _; congr 1; simp only [ckPlant]; rw [if_neg (by omega), if_neg (by omega), if_neg (by omega), if_pos (by omega)]
        · refine W.skip <| thn_n <| W.seq <| W.seq <| W.region rfl <| qs rfl rfl rfl <| Ops.nil <| thn_n <| W.block ?_
          refine W.loop (σ := Nat) (fun k => k ≤ ss.length ∧ ckStrikes 0 ss = ckStrikes (befD ss k) (ss.drop k)) (fun k => [(5, I k), (1, .pointer (some ⟨β1, 0, none⟩))]) (fun _ => [(β1, .cells #[.slice a fs.length cap, .slice a' ss.length cap'] t_Plant (0, 0))]) (fun k => ss.length - k) 0 ⟨Nat.zero_le _, rfl⟩ ⟨rfl, rfl, trivial⟩ .refl ?_
          rintro k ⟨hk', hd'⟩
          refine W.seq <| W.seq <| W.region rfl <| qm rfl rfl rfl ?_
          refine o1 (y_fieldAddr rfl rfl) rfl ?_
          refine o1 (yld rfl rfl) rfl ?_
          refine o1 (y_len rfl rfl) rfl ?_
          refine o1 (y_lss rfl rfl rfl) rfl ?_
          refine Ops.nil <| thn_n ?_
          refine W.condp rfl (fun c39 => ?_) (fun c39 => ?_)
          · have hk1 : k < ss.length := by omega
            obtain ⟨p, hp, hdr⟩ := has hk1
            have hnx : befD ss (k + 1) = p.day := by simp [befD, stAt, List.getD, hp]
            rw [hdr] at hd'
            obtain ⟨b, off, c, E, fz, rfl, hb, hx, hy, hz⟩ := hs.at hp
            have hx' : c.extract (off + k * 3) (off + k * 3 + 3) = #[I p.day, I p.co, I p.wa] := hx
            clear hx hz
            refine W.skip <| thn_n <| W.seq <| W.block <| W.seq <| W.region rfl ?_
            refine o1 (y_fieldAddr rfl rfl) rfl ?_
            refine o1 (yld rfl rfl) rfl ?_
            refine qm rfl rfl rfl ?_
            first | refine o1 (yix rfl rfl rfl) rfl ?_ | refine o1 (yixI rfl rfl rfl) rfl ?_
            first | refine o1 (yldW rfl rfl) rfl ?_ | refine o1 (yldA rfl rfl) rfl ?_
            refine Ops.new (fun β6 => ?_)
            first | refine Ops.stoW ?_ | refine Ops.stoA ?_
            refine Ops.nil <| thn_n <| W.seq <| W.seq <| W.region rfl ?_
            refine o1 (y_fieldAddr rfl rfl) rfl ?_
            refine o1 (yld rfl rfl) rfl ?_
            refine cp (fun h' hE hL => among_fn _ h' _ _ _) ?_
            refine o1 (y_not rfl rfl) rfl ?_
            refine qm rfl rfl rfl ?_
            refine Ops.askB (fun a17_5 => ?_) (fun a17_5 => ?_)
            · refine Ops.no ?_
              refine Ops.no ?_
              refine Ops.no ?_
              refine Ops.no ?_
              refine o1 (y_pickT rfl rfl rfl) rfl ?_
              refine qm rfl rfl rfl ?_
              refine Ops.no ?_
              refine Ops.no ?_
              refine Ops.no ?_
              refine Ops.no ?_
              refine o1 (y_pickT rfl rfl rfl) rfl ?_
              refine Ops.nil <| thn_n ?_
              refine W.condT ?_
              refine W.seq <| W.region rfl <| qs rfl rfl rfl <| Ops.nil <| thn_n <| W.ret <| thn_r <| blk_r <| thn_r <| thn_r ?_
              refine blk_r <| thn_r ?_
              refine lvp (hs := .cons rfl (.cons rfl .nil)) ?_
              have hc : ckStrike (befD ss k) p = 1 := by simp only [ckStrike]; rw [if_pos]; simp_all
              show I _ = I _; congr 1; simp only [ckPlant]; simp only [ckStrikes, hc] at hd'; rw [if_neg (by omega), if_neg (by omega), if_neg (by omega), if_neg (by omega), hd']; rfl
            · refine oq (y_fieldAddr rfl rfl) rfl (want_some rfl rfl rfl) rfl rfl ?_
              refine oq (yld rfl rfl) rfl (want_some rfl rfl rfl) rfl rfl ?_
              refine cp (fun h' hE hL => among_fn _ h' _ _ _) ?_
              refine oq (y_not rfl rfl) rfl (want_some rfl rfl rfl) rfl rfl ?_
              refine o1 (y_pickF rfl rfl rfl) rfl ?_
              refine qm rfl rfl rfl ?_
              refine Ops.askB (fun a17_11 => ?_) (fun a17_11 => ?_)
              · refine Ops.no ?_
                refine Ops.no ?_
                refine Ops.no ?_
                refine Ops.no ?_
                refine o1 (y_pickT rfl rfl rfl) rfl ?_
                refine Ops.nil <| thn_n ?_
                refine W.condT ?_
                refine W.seq <| W.region rfl <| qs rfl rfl rfl <| Ops.nil <| thn_n <| W.ret <| thn_r <| blk_r <| thn_r <| thn_r ?_
                refine blk_r <| thn_r ?_
                refine lvp (hs := .cons rfl (.cons rfl .nil)) ?_
                have hc : ckStrike (befD ss k) p = 1 := by simp only [ckStrike]; rw [if_pos]; simp_all
                show I _ = I _; congr 1; simp only [ckPlant]; simp only [ckStrikes, hc] at hd'; rw [if_neg (by omega), if_neg (by omega), if_neg (by omega), if_neg (by omega), hd']; rfl
              · refine oq (y_fieldAddr rfl rfl) rfl (want_some rfl rfl rfl) rfl rfl ?_
                refine oq (yld rfl rfl) rfl (want_some rfl rfl rfl) rfl rfl ?_
                refine cp (fun h' hE hL => among_fn _ h' _ _ _) ?_
                refine oq (y_not rfl rfl) rfl (want_some rfl rfl rfl) rfl rfl ?_
                refine o1 (y_pickF rfl rfl rfl) rfl ?_
                refine Ops.nil <| thn_n ?_
                refine W.cond rfl (fun c62 => ?_) (fun c62 => ?_)
                · refine W.seq <| W.region rfl <| qs rfl rfl rfl <| Ops.nil <| thn_n <| W.ret <| thn_r <| blk_r <| thn_r <| thn_r ?_
                  refine blk_r <| thn_r ?_
                  refine lvp (hs := .cons rfl (.cons rfl .nil)) ?_
                  have hc : ckStrike (befD ss k) p = 1 := by simp only [ckStrike]; rw [if_pos]; simp_all
                  show I _ = I _; congr 1; simp only [ckPlant]; simp only [ckStrikes, hc] at hd'; rw [if_neg (by omega), if_neg (by omega), if_neg (by omega), if_neg (by omega), hd']; rfl
                · refine W.skip <| thn_n <| W.seq ?_
                  refine W.drawF (n := 14) rfl ?_
                  have ho : ¬ (outs p.day 0 12 ∨ outs p.co 1 6 ∨ outs p.wa 0 3) := by simp_all
                  refine a1 0 (y_move rfl rfl) rfl ?_
                  refine a1 1 (y_gtr rfl rfl rfl) rfl ?_
                  refine a1 2 (y_move rfl rfl) rfl ?_
                  refine Any.ask (d' := 65) (fun a19_3 => ?_) (fun a19_3 => ?_)
                  · obtain ⟨j, rfl⟩ : ∃ j, k = j + 1 := ⟨k - 1, by omega⟩
                    obtain ⟨q, hq, -⟩ := has (show j < ss.length by omega)
                    have hbq : befD ss (j + 1) = q.day := by simp [befD, stAt, List.getD, hq]
                    obtain ⟨b2, off2, c2, E2, fz2, hae, hb2, -, hy2, hz2⟩ := hs.at hq
                    cases hae
                    have hq0 : c2[off + j * 3 + 0]? = some (I q.day) := hz2 0 (by decide)
                    clear hz2
                    rw [hb] at hb2
                    cases hb2
                    refine aq (i := 3) (y_fieldAddr rfl rfl) rfl (wantε_some rfl rfl rfl rfl) rfl rfl ?_
                    refine aq (i := 4) (yld rfl rfl) rfl (wantε_some rfl rfl rfl rfl) rfl rfl ?_
                    refine aq (i := 5) (y_fieldAddr rfl rfl) rfl (wantε_some rfl rfl rfl rfl) rfl rfl ?_
                    refine aq (i := 6) (yld rfl rfl) rfl (wantε_some rfl rfl rfl rfl) rfl rfl ?_
                    refine aq (i := 7) (y_move rfl rfl) rfl (wantε_some rfl rfl rfl rfl) rfl rfl ?_
                    refine aq (i := 8) ((ysub rfl rfl rfl).eq (u := I j) (congrArg I (by omega))) rfl (wantε_some rfl rfl rfl rfl) rfl rfl ?_
                    first | refine aq (i := 9) (yix rfl rfl rfl) rfl (wantε_some rfl rfl rfl rfl) rfl rfl ?_ | refine aq (i := 9) (yixI rfl rfl rfl) rfl (wantε_some rfl rfl rfl rfl) rfl rfl ?_
                    refine aq (i := 10) (y_fieldAddr rfl rfl) rfl (wantε_some rfl rfl rfl rfl) rfl rfl ?_
                    refine aq (i := 11) (yld rfl rfl) rfl (wantε_some rfl rfl rfl rfl) rfl rfl ?_
                    refine aq (i := 12) (y_lss rfl rfl rfl) rfl (wantε_some rfl rfl rfl rfl) rfl rfl ?_
                    refine a1 13 (y_pickT rfl rfl rfl) rfl ?_
                    refine az ?_
                    refine thn_n ?_
                    refine W.condp rfl (fun c76 => ?_) (fun c76 => ?_)
                    · refine W.seq <| W.region rfl <| qs rfl rfl rfl <| Ops.nil <| thn_n <| W.ret <| blk_r <| thn_r <| thn_r <| blk_r ?_
                      refine thn_r ?_
                      refine lvp (hs := .cons rfl (.cons rfl .nil)) ?_
                      have hc : ckStrike (befD ss (j + 1)) p = 5 := by
                        simp only [ckStrike]; rw [if_neg ho, if_pos (by omega)]
                      show I _ = I _; congr 1; simp only [ckPlant]; simp only [ckStrikes, hc] at hd'; rw [if_neg (by omega), if_neg (by omega), if_neg (by omega), if_neg (by omega), hd']; rfl
                    · refine W.skip <| blk_n <| thn_n <| W.region rfl <| qm rfl rfl rfl ?_
                      first | refine o1 (yadd rfl rfl rfl) rfl ?_ | refine o1 (y_addw rfl rfl rfl) rfl ?_
                      refine qs rfl rfl rfl <| Ops.nil <| thn_n ?_
                      first
                      | (have hc : ckStrike (befD ss (j + 1)) p = 0 := by
                           simp only [ckStrike]; rw [if_neg ho, if_neg (by omega)]
                         exact ⟨rfl, j + 1 + 1, ⟨by omega, by rw [hnx, hd']; simp only [ckStrikes, hc]; rfl⟩, by omega, ⟨rfl, rfl, trivial⟩, .skip rfl .refl⟩)
                      | (have hk0 : k = 0 := by omega
                         subst hk0
                         have ho2 := ho
                         simp only [outs, not_or] at ho2
                         have hc : ckStrike (befD ss 0) p = 0 := by
                           simp only [ckStrike]; rw [if_neg ho, if_neg (by simp only [befD, if_true]; omega)]
                         exact ⟨rfl, 0 + 1, ⟨by omega, by rw [hnx, hd']; simp only [ckStrikes, hc]; rfl⟩, by omega, ⟨rfl, rfl, trivial⟩, .skip rfl .refl⟩)
                  · refine ap (i := 3) rfl rfl rfl rfl rfl rfl ?_
                    refine ap (i := 4) rfl rfl rfl rfl rfl rfl ?_
                    refine ap (i := 5) rfl rfl rfl rfl rfl rfl ?_
                    refine ap (i := 6) rfl rfl rfl rfl rfl rfl ?_
                    refine ap (i := 7) rfl rfl rfl rfl rfl rfl ?_
                    refine ap (i := 8) rfl rfl rfl rfl rfl rfl ?_
                    refine ap (i := 9) rfl rfl rfl rfl rfl rfl ?_
                    refine ap (i := 10) rfl rfl rfl rfl rfl rfl ?_
                    refine ap (i := 11) rfl rfl rfl rfl rfl rfl ?_
                    refine ap (i := 12) rfl rfl rfl rfl rfl rfl ?_
                    refine a1 13 (y_pickF rfl rfl rfl) rfl ?_
                    refine az ?_
                    refine thn_n ?_
                    refine W.condF ?_
                    refine W.skip <| blk_n <| thn_n <| W.region rfl <| qm rfl rfl rfl ?_
                    first | refine o1 (yadd rfl rfl rfl) rfl ?_ | refine o1 (y_addw rfl rfl rfl) rfl ?_
                    refine qs rfl rfl rfl <| Ops.nil <| thn_n ?_
                    first
                    | (have hc : ckStrike (befD ss (j + 1)) p = 0 := by
                         simp only [ckStrike]; rw [if_neg ho, if_neg (by omega)]
                       exact ⟨rfl, j + 1 + 1, ⟨by omega, by rw [hnx, hd']; simp only [ckStrikes, hc]; rfl⟩, by omega, ⟨rfl, rfl, trivial⟩, .skip rfl .refl⟩)
                    | (have hk0 : k = 0 := by omega
                       subst hk0
                       have ho2 := ho
                       simp only [outs, not_or] at ho2
                       have hc : ckStrike (befD ss 0) p = 0 := by
                         simp only [ckStrike]; rw [if_neg ho, if_neg (by simp only [befD, if_true]; omega)]
                       exact ⟨rfl, 0 + 1, ⟨by omega, by rw [hnx, hd']; simp only [ckStrikes, hc]; rfl⟩, by omega, ⟨rfl, rfl, trivial⟩, .skip rfl .refl⟩)
          · have : k = ss.length := by omega
            subst this
            refine W.exit <| thn_x <| thn_x <| blk_x <| thn_n <| W.seq <| W.region rfl <| qs rfl rfl rfl <| Ops.nil <| thn_n ?_
            refine W.ret ?_
            refine lvp (hs := .cons rfl .nil) ?_
            show I _ = I _; congr 1; simp only [ckPlant]; rw [if_neg (by omega), if_neg (by omega), if_neg (by omega), if_neg (by omega), hd']; simp [ckStrikes]

theorem sums_le {fs : List Fl} {ss : List St} {l : List Be} {f d : Int} (hall : HallOK fs ss) (h0 : 0 ≤ f) (hf : f < fs.length) : ∀ k, 0 ≤ sumK (loG fs ss l f d) k ∧ sumK (loG fs ss l f d) k ≤ sumK (hiG fs ss l f d) k ∧ sumK (hiG fs ss l f d) k ≤ 6 * k
  | 0 => ⟨Int.le_refl _, Int.le_refl _, Int.le_refl _⟩
  | k + 1 => by
    have ih := sums_le (l := l) (d := d) hall h0 hf k
    have hc := co_ok hall k
    have hfo := fl_ok hall h0 hf
    have : 0 ≤ loG fs ss l f d k ∧ loG fs ss l f d k ≤ hiG fs ss l f d k ∧ hiG fs ss l f d k ≤ 6 := by
      simp only [loG, hiG]
      split
      · rw [if_pos (by omega)]; omega
      · split <;> omega
    simp only [sumK]; omega
theorem Rstands_fn (main : Side) (h : Hp) (fs : List Fl) (ss : List St) (l : List Be) (f d : Int) (vf vs vl : Value) (hf : Sl h Fl.row vf fs) (hs : Sl h St.row vs ss) (hl : Sl h Be.row vl l) (hck : ckPlan fs ss l = 0) (hf0 : 0 ≤ f ∧ f < fs.length) : Pu prog main n_ref_stands #[.agg #[vf, vs], vl, I f, I d] h (.agg #[I (sumK (loG fs ss l f d) l.length), I (sumK (hiG fs ss l f d) l.length)]) := by
  obtain ⟨hall, hpl, hn⟩ := plan_ck hck
  have hns := hall.ns
  have hfo := fl_ok hall hf0.1 hf0.2
  have hx0 := flAt_some hf0.1 hf0.2
  obtain ⟨⟨pl, lo, hi', co⟩, hfa⟩ : ∃ x, flAt fs f = x := ⟨_, rfl⟩
  rw [hfa] at hx0 hfo
  dsimp only at hfo
  obtain ⟨a', cap', rfl⟩ := hs.isSl
  obtain ⟨a2, cap2, rfl⟩ := hl.isSl
  obtain ⟨a, cap, rfl⟩ := hf.isSl
  obtain ⟨bf, off, c, E, fz, rfl, hbk, hx1, hy1, hz1⟩ := hf.at hx0
  have hx2 := ext2 hx1
  clear hx1 hz1
  refine Fnc.of_body at_ref_stands rfl (by show 4 ≤ 81; decide) [(0, .agg #[.slice (some ⟨bf, off, none⟩) fs.length cap, .slice a' ss.length cap']), (1, .slice a2 l.length cap2), (2, I f), (3, I d)] ⟨rfl, rfl, rfl, rfl, trivial⟩ ?_
  refine W.seq <| W.region rfl ?_
  refine Ops.box (cs := #[.slice (some ⟨bf, off, none⟩) fs.length cap, .slice a' ss.length cap']) (fun β4 => ?_) rfl rfl rfl
  refine Ops.new (fun β8 => ?_)
  refine Ops.nil <| thn_n <| W.seq <| W.region rfl ?_
  refine Ops.new (fun β9 => ?_)
  refine Ops.nil <| thn_n <| W.seq <| W.region rfl ?_
  refine o1 (y_fieldAddr rfl rfl) rfl ?_
  refine o1 (yld rfl rfl) rfl ?_
  refine qm rfl rfl rfl ?_
  first | refine o1 (yix rfl rfl rfl) rfl ?_ | refine o1 (yixI rfl rfl rfl) rfl ?_
  refine o1 (y_fieldAddr rfl rfl) rfl ?_
  first | refine o1 (yldW rfl rfl) rfl ?_ | refine o1 (yldA rfl rfl) rfl ?_
  refine Ops.new (fun β10 => ?_)
  first | refine Ops.stoW ?_ | refine Ops.stoA ?_
  refine Ops.nil <| thn_n <| W.seq <| W.seq <| W.region rfl <| qs rfl rfl rfl <| Ops.nil <| thn_n <| W.block ?_
  refine W.loop (σ := Nat) (fun k => k ≤ l.length) (fun k => [(11, I k), (10, .pointer (some ⟨β10, 0, none⟩)), (9, .pointer (some ⟨β9, 0, none⟩)), (8, .pointer (some ⟨β8, 0, none⟩)), (4, .pointer (some ⟨β4, 0, none⟩)), (1, .slice a2 l.length cap2), (2, I f), (3, I d)]) (fun k => [(β10, .cells #[I lo, I hi'] t_Span (0, 0)), (β9, .cells #[I (sumK (loG fs ss l f d) k), I (sumK (hiG fs ss l f d) k)] t_Span (0, 0)), (β8, .cells #[I 0, I 0] t_Span (0, 0)), (β4, .cells #[.slice (some ⟨bf, off, none⟩) fs.length cap, .slice a' ss.length cap'] t_Plant (0, 0))]) (fun k => l.length - k) 0 (Nat.zero_le _) ⟨rfl, rfl, rfl, rfl, rfl, rfl, rfl, rfl, trivial⟩ .refl ?_
  rintro k hk
  refine W.seq <| W.seq <| W.region rfl <| qm rfl rfl rfl <| qm rfl rfl rfl ?_
  refine o1 (y_len rfl rfl) rfl ?_
  refine o1 (y_lss rfl rfl rfl) rfl ?_
  refine Ops.nil <| thn_n ?_
  refine W.condp rfl (fun c21 => ?_) (fun c21 => ?_)
  · have hk1 : k < l.length := by omega
    have hb0 := be_some hall hpl hn hk1
    have hpo := hpl.ok.ok _ (List.mem_append_left _ (List.mem_of_getElem? hb0))
    obtain ⟨s, hs0, -⟩ := has (show k < ss.length by omega)
    have hsa : stAt ss k = s := by simp [stAt, List.getD, hs0]
    have hco := co_ok hall k
    rw [hsa] at hco
    have hsum := sums_le (l := l) (d := d) hall hf0.1 hf0.2 k
    have hlg : loG fs ss l f d k = if (beAt l k).fl = f ∧ (beAt l k).day ≤ d ∧ d < (beAt l k).day + lo then s.co else 0 := by rw [loG, hfa, hsa]
    have hhg : hiG fs ss l f d k = if (beAt l k).fl = f ∧ (beAt l k).day ≤ d ∧ d < (beAt l k).day + hi' then s.co else 0 := by rw [hiG, hfa, hsa]
    have hs1 : sumK (loG fs ss l f d) (k + 1) = sumK (loG fs ss l f d) k + loG fs ss l f d k := rfl
    have hs2 : sumK (hiG fs ss l f d) (k + 1) = sumK (hiG fs ss l f d) k + hiG fs ss l f d k := rfl
    rw [hlg] at hs1
    rw [hhg] at hs2
    generalize sumK (loG fs ss l f d) k = x1 at *
    generalize sumK (hiG fs ss l f d) k = x2 at *
    obtain ⟨bl, offl, cl, El, fzl, rfl, hbl, -, hyl, hzl⟩ := hl.at hb0
    have hfl0 : cl[offl + k * 2 + 0]? = some (I (beAt l k).fl) := hzl 0 (by decide)
    have hfl1 : cl[offl + k * 2 + 1]? = some (I (beAt l k).day) := hzl 1 (by decide)
    clear hzl
    obtain ⟨bs, offs, cs, Es, fzs, rfl, hbs, -, hys, hzs⟩ := hs.at hs0
    have hfs : cs[offs + k * 3 + 1]? = some (I s.co) := hzs 1 (by decide)
    clear hzs
    generalize beAt l k = b at *
    refine W.skip <| thn_n <| W.seq <| W.block <| W.seq <| W.seq <| W.region rfl <| qm rfl rfl rfl <| qm rfl rfl rfl ?_
    first | refine o1 (yix rfl rfl rfl) rfl ?_ | refine o1 (yixI rfl rfl rfl) rfl ?_
    refine o1 (y_fieldAddr rfl rfl) rfl ?_
    refine o1 (yld rfl rfl) rfl ?_
    refine qm rfl rfl rfl ?_
    refine o1 (y_neq rfl rfl rfl) rfl ?_
    refine qm rfl rfl rfl ?_
    refine Ops.ask (fun a6_8 => ?_) (fun a6_8 => ?_)
    · refine Ops.no ?_
      refine Ops.no ?_
      refine Ops.no ?_
      refine Ops.no ?_
      refine Ops.no ?_
      refine Ops.no ?_
      refine Ops.no ?_
      refine o1 (y_pickT rfl rfl rfl) rfl ?_
      refine Ops.nil <| thn_n ?_
      refine W.condT ?_
      refine W.exit <| thn_x <| blk_x <| thn_n <| W.region rfl <| qm rfl rfl rfl ?_
      first | refine o1 (yadd rfl rfl rfl) rfl ?_ | refine o1 (y_addw rfl rfl rfl) rfl ?_
      refine qs rfl rfl rfl <| Ops.nil <| thn_n ?_
      refine ⟨rfl, k + 1, by omega, by omega, ⟨rfl, rfl, rfl, rfl, rfl, rfl, rfl, rfl, trivial⟩, ?_⟩
      rw [hs1, hs2]
      first
      | (exfalso; omega)
      | (rw [if_neg (by omega), if_neg (by omega), Int.add_zero, Int.add_zero]; exact .refl)
      | (rw [if_neg (by omega), if_pos (by omega), Int.add_zero]; exact .refl)
      | (rw [if_pos (by omega), if_pos (by omega)]; exact .refl)
    · refine oq (y_move rfl rfl) rfl (want_some rfl rfl rfl) rfl rfl ?_
      refine oq (y_move rfl rfl) rfl (want_some rfl rfl rfl) rfl rfl ?_
      refine oq (y_move rfl rfl) rfl (want_some rfl rfl rfl) rfl rfl ?_
      first | refine oq (yix rfl rfl rfl) rfl (want_some rfl rfl rfl) rfl rfl ?_ | refine oq (yixI rfl rfl rfl) rfl (want_some rfl rfl rfl) rfl rfl ?_
      refine oq (y_fieldAddr rfl rfl) rfl (want_some rfl rfl rfl) rfl rfl ?_
      refine oq (yld rfl rfl) rfl (want_some rfl rfl rfl) rfl rfl ?_
      refine oq (y_lss rfl rfl rfl) rfl (want_some rfl rfl rfl) rfl rfl ?_
      refine o1 (y_pickF rfl rfl rfl) rfl ?_
      refine Ops.nil <| thn_n ?_
      refine W.condp rfl (fun c39 => ?_) (fun c39 => ?_)
      · refine W.exit <| thn_x <| blk_x <| thn_n <| W.region rfl <| qm rfl rfl rfl ?_
        first | refine o1 (yadd rfl rfl rfl) rfl ?_ | refine o1 (y_addw rfl rfl rfl) rfl ?_
        refine qs rfl rfl rfl <| Ops.nil <| thn_n ?_
        refine ⟨rfl, k + 1, by omega, by omega, ⟨rfl, rfl, rfl, rfl, rfl, rfl, rfl, rfl, trivial⟩, ?_⟩
        rw [hs1, hs2]
        first
        | (exfalso; omega)
        | (rw [if_neg (by omega), if_neg (by omega), Int.add_zero, Int.add_zero]; exact .refl)
        | (rw [if_neg (by omega), if_pos (by omega), Int.add_zero]; exact .refl)
        | (rw [if_pos (by omega), if_pos (by omega)]; exact .refl)
      · refine W.skip <| thn_n <| W.seq <| W.seq ?_
        refine W.drawP4 (n := 10) rfl ?_
        refine a1 0 (y_move rfl rfl) rfl ?_
        refine a1 1 (y_move rfl rfl) rfl ?_
        refine a1 2 (y_move rfl rfl) rfl ?_
        first | refine a1 3 (yix rfl rfl rfl) rfl ?_ | refine a1 3 (yixI rfl rfl rfl) rfl ?_
        refine a1 4 (y_fieldAddr rfl rfl) rfl ?_
        refine a1 5 (yld rfl rfl) rfl ?_
        refine a1 6 (y_fieldAddr rfl rfl) rfl ?_
        refine a1 7 (yld rfl rfl) rfl ?_
        first | refine a1 8 (yadd rfl rfl rfl) rfl ?_ | refine a1 8 (y_addw rfl rfl rfl) rfl ?_
        refine a1 9 (y_lss rfl rfl rfl) rfl ?_
        refine az ?_
        refine thn_n ?_
        refine W.condp rfl (fun c49 => ?_) (fun c49 => ?_)
        · refine W.drawP4 (n := 11) rfl ?_
          refine a1 0 (y_fieldAddr rfl rfl) rfl ?_
          refine a1 1 (yld rfl rfl) rfl ?_
          refine a1 2 (y_fieldAddr rfl rfl) rfl ?_
          refine a1 3 (yld rfl rfl) rfl ?_
          refine a1 4 (y_move rfl rfl) rfl ?_
          first | refine a1 5 (yix rfl rfl rfl) rfl ?_ | refine a1 5 (yixI rfl rfl rfl) rfl ?_
          refine a1 6 (y_fieldAddr rfl rfl) rfl ?_
          refine a1 7 (yld rfl rfl) rfl ?_
          first | refine a1 8 (yadd rfl rfl rfl) rfl ?_ | refine a1 8 (y_addw rfl rfl rfl) rfl ?_
          refine a1 9 (y_fieldAddr rfl rfl) rfl ?_
          refine ae (i := 10) rfl an rfl rfl (eS rfl rfl rfl ?_)
          refine ⟨.inl (by kernel_rfl), ?_⟩
          refine az ?_
          refine thn_n <| W.seq ?_
          refine W.drawP4 (n := 10) rfl ?_
          refine a1 0 (y_move rfl rfl) rfl ?_
          refine a1 1 (y_move rfl rfl) rfl ?_
          refine a1 2 (y_move rfl rfl) rfl ?_
          first | refine a1 3 (yix rfl rfl rfl) rfl ?_ | refine a1 3 (yixI rfl rfl rfl) rfl ?_
          refine a1 4 (y_fieldAddr rfl rfl) rfl ?_
          refine a1 5 (yld rfl rfl) rfl ?_
          refine a1 6 (y_fieldAddr rfl rfl) rfl ?_
          refine a1 7 (yld rfl rfl) rfl ?_
          first | refine a1 8 (yadd rfl rfl rfl) rfl ?_ | refine a1 8 (y_addw rfl rfl rfl) rfl ?_
          refine a1 9 (y_lss rfl rfl rfl) rfl ?_
          refine az ?_
          refine thn_n ?_
          refine W.condp rfl (fun c69 => ?_) (fun c69 => ?_)
          · refine W.drawP4 (n := 11) rfl ?_
            refine a1 0 (y_fieldAddr rfl rfl) rfl ?_
            refine a1 1 (yld rfl rfl) rfl ?_
            refine a1 2 (y_fieldAddr rfl rfl) rfl ?_
            refine a1 3 (yld rfl rfl) rfl ?_
            refine a1 4 (y_move rfl rfl) rfl ?_
            first | refine a1 5 (yix rfl rfl rfl) rfl ?_ | refine a1 5 (yixI rfl rfl rfl) rfl ?_
            refine a1 6 (y_fieldAddr rfl rfl) rfl ?_
            refine a1 7 (yld rfl rfl) rfl ?_
            first | refine a1 8 (yadd rfl rfl rfl) rfl ?_ | refine a1 8 (y_addw rfl rfl rfl) rfl ?_
            refine a1 9 (y_fieldAddr rfl rfl) rfl ?_
            refine ae (i := 10) rfl an rfl rfl (eS rfl rfl rfl ?_)
            refine ⟨.inl (by kernel_rfl), ?_⟩
            refine az ?_
            refine blk_n <| thn_n <| W.region rfl <| qm rfl rfl rfl ?_
            first | refine o1 (yadd rfl rfl rfl) rfl ?_ | refine o1 (y_addw rfl rfl rfl) rfl ?_
            refine qs rfl rfl rfl <| Ops.nil <| thn_n ?_
            refine ⟨rfl, k + 1, by omega, by omega, ⟨rfl, rfl, rfl, rfl, rfl, rfl, rfl, rfl, trivial⟩, ?_⟩
            rw [hs1, hs2]
            first
            | (exfalso; omega)
            | (rw [if_neg (by omega), if_neg (by omega), Int.add_zero, Int.add_zero]; exact .refl)
            | (rw [if_neg (by omega), if_pos (by omega), Int.add_zero]; exact .refl)
            | (rw [if_pos (by omega), if_pos (by omega)]; exact .refl)
          · refine W.skip <| blk_n <| thn_n <| W.region rfl <| qm rfl rfl rfl ?_
            first | refine o1 (yadd rfl rfl rfl) rfl ?_ | refine o1 (y_addw rfl rfl rfl) rfl ?_
            refine qs rfl rfl rfl <| Ops.nil <| thn_n ?_
            refine ⟨rfl, k + 1, by omega, by omega, ⟨rfl, rfl, rfl, rfl, rfl, rfl, rfl, rfl, trivial⟩, ?_⟩
            rw [hs1, hs2]
            first
            | (exfalso; omega)
            | (rw [if_neg (by omega), if_neg (by omega), Int.add_zero, Int.add_zero]; exact .refl)
            | (rw [if_neg (by omega), if_pos (by omega), Int.add_zero]; exact .refl)
            | (rw [if_pos (by omega), if_pos (by omega)]; exact .refl)
        · refine W.skip <| thn_n <| W.seq ?_
          refine W.drawP4 (n := 10) rfl ?_
          refine a1 0 (y_move rfl rfl) rfl ?_
          refine a1 1 (y_move rfl rfl) rfl ?_
          refine a1 2 (y_move rfl rfl) rfl ?_
          first | refine a1 3 (yix rfl rfl rfl) rfl ?_ | refine a1 3 (yixI rfl rfl rfl) rfl ?_
          refine a1 4 (y_fieldAddr rfl rfl) rfl ?_
          refine a1 5 (yld rfl rfl) rfl ?_
          refine a1 6 (y_fieldAddr rfl rfl) rfl ?_
          refine a1 7 (yld rfl rfl) rfl ?_
          first | refine a1 8 (yadd rfl rfl rfl) rfl ?_ | refine a1 8 (y_addw rfl rfl rfl) rfl ?_
          refine a1 9 (y_lss rfl rfl rfl) rfl ?_
          refine az ?_
          refine thn_n ?_
          refine W.condp rfl (fun c69 => ?_) (fun c69 => ?_)
          · refine W.drawP4 (n := 11) rfl ?_
            refine a1 0 (y_fieldAddr rfl rfl) rfl ?_
            refine a1 1 (yld rfl rfl) rfl ?_
            refine a1 2 (y_fieldAddr rfl rfl) rfl ?_
            refine a1 3 (yld rfl rfl) rfl ?_
            refine a1 4 (y_move rfl rfl) rfl ?_
            first | refine a1 5 (yix rfl rfl rfl) rfl ?_ | refine a1 5 (yixI rfl rfl rfl) rfl ?_
            refine a1 6 (y_fieldAddr rfl rfl) rfl ?_
            refine a1 7 (yld rfl rfl) rfl ?_
            first | refine a1 8 (yadd rfl rfl rfl) rfl ?_ | refine a1 8 (y_addw rfl rfl rfl) rfl ?_
            refine a1 9 (y_fieldAddr rfl rfl) rfl ?_
            refine ae (i := 10) rfl an rfl rfl (eS rfl rfl rfl ?_)
            refine ⟨.inl (by kernel_rfl), ?_⟩
            refine az ?_
            refine blk_n <| thn_n <| W.region rfl <| qm rfl rfl rfl ?_
            first | refine o1 (yadd rfl rfl rfl) rfl ?_ | refine o1 (y_addw rfl rfl rfl) rfl ?_
            refine qs rfl rfl rfl <| Ops.nil <| thn_n ?_
            refine ⟨rfl, k + 1, by omega, by omega, ⟨rfl, rfl, rfl, rfl, rfl, rfl, rfl, rfl, trivial⟩, ?_⟩
            rw [hs1, hs2]
            first
            | (exfalso; omega)
            | (rw [if_neg (by omega), if_neg (by omega), Int.add_zero, Int.add_zero]; exact .refl)
            | (rw [if_neg (by omega), if_pos (by omega), Int.add_zero]; exact .refl)
            | (rw [if_pos (by omega), if_pos (by omega)]; exact .refl)
          · refine W.skip <| blk_n <| thn_n <| W.region rfl <| qm rfl rfl rfl ?_
            first | refine o1 (yadd rfl rfl rfl) rfl ?_ | refine o1 (y_addw rfl rfl rfl) rfl ?_
            refine qs rfl rfl rfl <| Ops.nil <| thn_n ?_
            refine ⟨rfl, k + 1, by omega, by omega, ⟨rfl, rfl, rfl, rfl, rfl, rfl, rfl, rfl, trivial⟩, ?_⟩
            rw [hs1, hs2]
            first
            | (exfalso; omega)
            | (rw [if_neg (by omega), if_neg (by omega), Int.add_zero, Int.add_zero]; exact .refl)
            | (rw [if_neg (by omega), if_pos (by omega), Int.add_zero]; exact .refl)
            | (rw [if_pos (by omega), if_pos (by omega)]; exact .refl)
  · have hke : k = l.length := by omega
    subst hke
    refine W.exit <| thn_x <| thn_x <| blk_x <| thn_n <| W.seq <| W.region rfl ?_
    first | refine o1 (yldW rfl rfl) rfl ?_ | refine o1 (yldA rfl rfl) rfl ?_
    first | refine Ops.stoW ?_ | refine Ops.stoA ?_
    refine Ops.nil <| thn_n <| W.ret ?_
    exact lvc (hv := rAgg rNil) ⟨rfl, by repeat (first | exact Shut.nil | refine Shut.cons rfl ?_)⟩

end Go.Mus

/- Plants beside each other; whether plants are equal, or vast; three plants. Conditions: none; over the given program. -/
namespace Go.Mus
set_option maxRecDepth 100000
set_option maxHeartbeats 40000000
theorem vast_fn (main : Side) (h : Hp) (fs : List Fl) (ss : List St) (vf vs : Value) (hf : Sl h Fl.row vf fs) (hs : Sl h St.row vs ss) : Pu prog main n_law_vast #[.agg #[vf, vs]] h (.bool (decide (20 < fs.length) || decide (20 < ss.length))) := by
 obtain ⟨a, cap, rfl⟩ := hf.isSl
 obtain ⟨a', cap', rfl⟩ := hs.isSl
 refine Fnc.of_body at_law_vast rfl (by show 1 ≤ 13; decide) [(0, .agg #[.slice a fs.length cap, .slice a' ss.length cap'])] ⟨rfl, trivial⟩ ?_
 refine W.seq <| W.region rfl ?_
 refine Ops.box (cs := #[.slice a fs.length cap, .slice a' ss.length cap']) (fun β1 => ?_) rfl rfl rfl
 refine qs rfl rfl rfl <| Ops.nil <| thn_n <| W.seq <| W.region rfl ?_
 refine o1 (y_fieldAddr rfl rfl) rfl ?_
 refine o1 (yld rfl rfl) rfl ?_
 refine o1 (y_len rfl rfl) rfl ?_
 refine o1 (y_gtr rfl rfl rfl) rfl ?_
 refine qm rfl rfl rfl ?_
 refine Ops.ask (fun a1_5 => ?_) (fun a1_5 => ?_)
 ·refine Ops.no ?_
  refine Ops.no ?_
  refine Ops.no ?_
  refine Ops.no ?_
  refine o1 (y_pickT rfl rfl rfl) rfl ?_
  refine qs rfl rfl rfl <| Ops.nil <| thn_n <| W.ret ?_
  refine lvp (hs := .cons rfl .nil) ?_
  first
  | (have e : decide (20 < fs.length) = true := decide_eq_true (by omega); rw [e]; rfl)
  | (have e : decide (20 < fs.length) = false := decide_eq_false (by omega); rw [e, Bool.false_or]; exact congrArg Value.bool (decide_eq_decide.2 (by omega)))
 ·refine oq (y_fieldAddr rfl rfl) rfl (want_some rfl rfl rfl) rfl rfl ?_
  refine oq (yld rfl rfl) rfl (want_some rfl rfl rfl) rfl rfl ?_
  refine oq (y_len rfl rfl) rfl (want_some rfl rfl rfl) rfl rfl ?_
  refine oq (y_gtr rfl rfl rfl) rfl (want_some rfl rfl rfl) rfl rfl ?_
  refine o1 (y_pickF rfl rfl rfl) rfl ?_
  refine qs rfl rfl rfl <| Ops.nil <| thn_n <| W.ret ?_
  refine lvp (hs := .cons rfl .nil) ?_
  first
  | (have e : decide (20 < fs.length) = true := decide_eq_true (by omega); rw [e]; rfl)
  | (have e : decide (20 < fs.length) = false := decide_eq_false (by omega); rw [e, Bool.false_or]; exact congrArg Value.bool (decide_eq_decide.2 (by omega)))

theorem EqPlants_fn (main : Side) (h : Hp) (fs : List Fl) (ss : List St) (vf vs vf' vs' : Value) (hf : Sl h Fl.row vf fs) (hs : Sl h St.row vs ss) (hf' : Sl h Fl.row vf' fs) (hs' : Sl h St.row vs' ss) (hn : fs.length ≤ 100000 ∧ ss.length ≤ 100000) : Pu prog main n_kit_EqPlants #[.agg #[vf, vs], .agg #[vf', vs']] h (.bool true) := by
 obtain ⟨a, cap, rfl⟩ := hf.isSl
 obtain ⟨a', cap', rfl⟩ := hs.isSl
 obtain ⟨a2, cap2, rfl⟩ := hf'.isSl
 obtain ⟨a3, cap3, rfl⟩ := hs'.isSl
 refine Fnc.of_body at_kit_EqPlants rfl (by show 2 ≤ 59; decide) [(0, .agg #[.slice a fs.length cap, .slice a' ss.length cap']), (1, .agg #[.slice a2 fs.length cap2, .slice a3 ss.length cap3])] ⟨rfl, rfl, trivial⟩ ?_
 refine W.seq <| W.region rfl ?_
 refine Ops.box (cs := #[.slice a fs.length cap, .slice a' ss.length cap']) (fun β2 => ?_) rfl rfl rfl
 refine Ops.box (cs := #[.slice a2 fs.length cap2, .slice a3 ss.length cap3]) (fun β3 => ?_) rfl rfl rfl
 refine qs rfl rfl rfl <| Ops.nil <| thn_n <| W.seq <| W.seq <| W.region rfl ?_
 refine o1 (y_fieldAddr rfl rfl) rfl ?_
 refine o1 (yld rfl rfl) rfl ?_
 refine o1 (y_len rfl rfl) rfl ?_
 refine o1 (y_fieldAddr rfl rfl) rfl ?_
 refine o1 (yld rfl rfl) rfl ?_
 refine o1 (y_len rfl rfl) rfl ?_
 refine o1 ((y_neq rfl rfl rfl).eq (u := .bool false) (by simp)) rfl ?_
 refine qm rfl rfl rfl ?_
 refine oq (y_fieldAddr rfl rfl) rfl (want_some rfl rfl rfl) rfl rfl ?_
 refine oq (yld rfl rfl) rfl (want_some rfl rfl rfl) rfl rfl ?_
 refine oq (y_len rfl rfl) rfl (want_some rfl rfl rfl) rfl rfl ?_
 refine oq (y_fieldAddr rfl rfl) rfl (want_some rfl rfl rfl) rfl rfl ?_
 refine oq (yld rfl rfl) rfl (want_some rfl rfl rfl) rfl rfl ?_
 refine oq (y_len rfl rfl) rfl (want_some rfl rfl rfl) rfl rfl ?_
 refine oq ((y_neq rfl rfl rfl).eq (u := .bool false) (by simp)) rfl (want_some rfl rfl rfl) rfl rfl ?_
 refine o1 (y_pickF rfl rfl rfl) rfl ?_
 refine Ops.nil <| thn_n ?_
 refine W.condF ?_
 refine W.skip <| thn_n <| W.seq <| W.seq <| W.region rfl <| qs rfl rfl rfl <| Ops.nil <| thn_n <| W.block ?_
 refine W.loop (σ := Nat) (fun k => k ≤ fs.length) (fun k => [(5, I k), (3, .pointer (some ⟨β3, 0, none⟩)), (2, .pointer (some ⟨β2, 0, none⟩))]) (fun _ => [(β3, .cells #[.slice a2 fs.length cap2, .slice a3 ss.length cap3] t_Plant (0, 0)), (β2, .cells #[.slice a fs.length cap, .slice a' ss.length cap'] t_Plant (0, 0))]) (fun k => fs.length - k) 0 (Nat.zero_le _) ⟨rfl, rfl, rfl, trivial⟩ .refl ?_
 rintro k hk
 refine W.seq <| W.seq <| W.region rfl <| qm rfl rfl rfl ?_
 refine o1 (y_fieldAddr rfl rfl) rfl ?_
 refine o1 (yld rfl rfl) rfl ?_
 refine o1 (y_len rfl rfl) rfl ?_
 refine o1 (y_lss rfl rfl rfl) rfl ?_
 refine Ops.nil <| thn_n ?_
 refine W.condp rfl (fun c27 => ?_) (fun c27 => ?_)
 ·obtain ⟨p, hp, -⟩ := has (show k < fs.length by omega)
  obtain ⟨b, off, c, E, fz, rfl, hb, hx, hy, hz⟩ := hf.at hp
  have hx1 : c.extract (off + k * 4) (off + k * 4 + 4) = #[I p.pl, I p.lo, I p.hi, I p.co] := hx
  clear hx hz
  obtain ⟨b', off', c', E', fz', rfl, hb', hx, hy', hz⟩ := hf'.at hp
  have hx2 : c'.extract (off' + k * 4) (off' + k * 4 + 4) = #[I p.pl, I p.lo, I p.hi, I p.co] := hx
  clear hx hz
  refine W.skip <| thn_n <| W.seq <| W.block <| W.seq ?_
  refine W.drawP2 (n := 11) rfl ?_
  refine a1 0 (y_fieldAddr rfl rfl) rfl ?_
  refine a1 1 (yld rfl rfl) rfl ?_
  refine a1 2 (y_move rfl rfl) rfl ?_
  first | refine a1 3 (yix rfl rfl rfl) rfl ?_ | refine a1 3 (yixI rfl rfl rfl) rfl ?_
  first | refine a1 4 (yldW rfl rfl) rfl ?_ | refine a1 4 (yldA rfl rfl) rfl ?_
  refine a1 5 (y_fieldAddr rfl rfl) rfl ?_
  refine a1 6 (yld rfl rfl) rfl ?_
  refine a1 7 (y_move rfl rfl) rfl ?_
  first | refine a1 8 (yix rfl rfl rfl) rfl ?_ | refine a1 8 (yixI rfl rfl rfl) rfl ?_
  first | refine a1 9 (yldW rfl rfl) rfl ?_ | refine a1 9 (yldA rfl rfl) rfl ?_
  refine a1 10 (Yv.eq (u := .bool false) (y_neA [p.pl, p.lo, p.hi, p.co] [p.pl, p.lo, p.hi, p.co] rfl rfl rfl rfl rfl rfl rfl) (by simp)) rfl ?_
  refine az ?_
  refine thn_n ?_
  refine W.condF ?_
  refine W.skip <| blk_n <| thn_n <| W.region rfl <| qm rfl rfl rfl ?_
  first | refine o1 (yadd rfl rfl rfl) rfl ?_ | refine o1 (y_addw rfl rfl rfl) rfl ?_
  refine qs rfl rfl rfl <| Ops.nil <| thn_n ?_
  exact ⟨rfl, k + 1, by omega, by omega, ⟨rfl, rfl, rfl, trivial⟩, .refl⟩
 ·refine W.exit <| thn_x <| thn_x <| blk_x <| thn_n <| W.seq <| W.seq <| W.region rfl <| qs rfl rfl rfl <| Ops.nil ?_
  refine thn_n <| W.block ?_
  refine W.loop (σ := Nat) (fun k => k ≤ ss.length) (fun k => [(6, I k), (3, .pointer (some ⟨β3, 0, none⟩)), (2, .pointer (some ⟨β2, 0, none⟩))]) (fun _ => [(β3, .cells #[.slice a2 fs.length cap2, .slice a3 ss.length cap3] t_Plant (0, 0)), (β2, .cells #[.slice a fs.length cap, .slice a' ss.length cap'] t_Plant (0, 0))]) (fun k => ss.length - k) 0 (Nat.zero_le _) ⟨rfl, rfl, rfl, trivial⟩ .refl ?_
  rintro m hm
  refine W.seq <| W.seq <| W.region rfl <| qm rfl rfl rfl ?_
  refine o1 (y_fieldAddr rfl rfl) rfl ?_
  refine o1 (yld rfl rfl) rfl ?_
  refine o1 (y_len rfl rfl) rfl ?_
  refine o1 (y_lss rfl rfl rfl) rfl ?_
  refine Ops.nil <| thn_n ?_
  refine W.condp rfl (fun c45 => ?_) (fun c45 => ?_)
  ·obtain ⟨p, hp, -⟩ := has (show m < ss.length by omega)
   obtain ⟨b, off, c, E, fz, rfl, hb, hx, hy, hz⟩ := hs.at hp
   have hx1 : c.extract (off + m * 3) (off + m * 3 + 3) = #[I p.day, I p.co, I p.wa] := hx
   clear hx hz
   obtain ⟨b', off', c', E', fz', rfl, hb', hx, hy', hz⟩ := hs'.at hp
   have hx2 : c'.extract (off' + m * 3) (off' + m * 3 + 3) = #[I p.day, I p.co, I p.wa] := hx
   clear hx hz
   refine W.skip <| thn_n <| W.seq <| W.block <| W.seq ?_
   refine W.drawP2 (n := 11) rfl ?_
   refine a1 0 (y_fieldAddr rfl rfl) rfl ?_
   refine a1 1 (yld rfl rfl) rfl ?_
   refine a1 2 (y_move rfl rfl) rfl ?_
   first | refine a1 3 (yix rfl rfl rfl) rfl ?_ | refine a1 3 (yixI rfl rfl rfl) rfl ?_
   first | refine a1 4 (yldW rfl rfl) rfl ?_ | refine a1 4 (yldA rfl rfl) rfl ?_
   refine a1 5 (y_fieldAddr rfl rfl) rfl ?_
   refine a1 6 (yld rfl rfl) rfl ?_
   refine a1 7 (y_move rfl rfl) rfl ?_
   first | refine a1 8 (yix rfl rfl rfl) rfl ?_ | refine a1 8 (yixI rfl rfl rfl) rfl ?_
   first | refine a1 9 (yldW rfl rfl) rfl ?_ | refine a1 9 (yldA rfl rfl) rfl ?_
   refine a1 10 (Yv.eq (u := .bool false) (y_neA [p.day, p.co, p.wa] [p.day, p.co, p.wa] rfl rfl rfl rfl rfl rfl rfl) (by simp)) rfl ?_
   refine az ?_
   refine thn_n ?_
   refine W.condF ?_
   refine W.skip <| blk_n <| thn_n <| W.region rfl <| qm rfl rfl rfl ?_
   first | refine o1 (yadd rfl rfl rfl) rfl ?_ | refine o1 (y_addw rfl rfl rfl) rfl ?_
   refine qs rfl rfl rfl <| Ops.nil <| thn_n ?_
   exact ⟨rfl, m + 1, by omega, by omega, ⟨rfl, rfl, rfl, trivial⟩, .refl⟩
  ·refine W.exit <| thn_x <| thn_x <| blk_x <| thn_n <| W.seq <| W.region rfl <| qs rfl rfl rfl <| Ops.nil <| thn_n ?_
   refine W.ret ?_
   exact lvp (hs := .cons rfl (.cons rfl .nil)) rfl

/-- A plant as an element. -/
structure Pl where
 f : Sv
 s : Sv
def Pl.row (p : Pl) : List Value := [.slice p.f.a p.f.n p.f.cap, .slice p.s.a p.s.n p.s.cap]
instance : Rw Pl.row 2 := ⟨fun _ => rfl, fun _ => rfl⟩
theorem set3 {c : Array Value} {l : List St} {j : Nat} {p : St} (q : St) (h : Part c 0 (flat St.row l)) (hj : l[j]? = some p) : Part (((c.setIfInBounds (j * 3 + 0) (I q.day)).setIfInBounds (j * 3 + 1) (I q.co)).setIfInBounds (j * 3 + 2) (I q.wa)) 0 (flat St.row (l.set j q)) := by
 have hlt := lt_of_get hj
 have h1 := h.setR ⟨q.day, p.co, p.wa⟩ 0 (I q.day) (by decide) hj rfl
 have h2 := h1.setR ⟨q.day, q.co, p.wa⟩ 1 (I q.co) (by decide) (List.getElem?_set_self hlt) rfl
 have h3 := h2.setR q 2 (I q.wa) (by decide) (List.getElem?_set_self (by simpa using hlt)) rfl
 rwa [List.set_set, List.set_set] at h3
theorem set4 {c : Array Value} {l : List Fl} {j : Nat} {p : Fl} (q : Fl) (h : Part c 0 (flat Fl.row l)) (hj : l[j]? = some p) : Part ((((c.setIfInBounds (j * 4 + 0) (I q.pl)).setIfInBounds (j * 4 + 1) (I q.lo)).setIfInBounds (j * 4 + 2) (I q.hi)).setIfInBounds (j * 4 + 3) (I q.co)) 0 (flat Fl.row (l.set j q)) := by
 have hlt := lt_of_get hj
 have h1 := h.setR ⟨q.pl, p.lo, p.hi, p.co⟩ 0 (I q.pl) (by decide) hj rfl
 have h2 := h1.setR ⟨q.pl, q.lo, p.hi, p.co⟩ 1 (I q.lo) (by decide) (List.getElem?_set_self hlt) rfl
 have h3 := h2.setR ⟨q.pl, q.lo, q.hi, p.co⟩ 2 (I q.hi) (by decide) (List.getElem?_set_self (by simpa using hlt)) rfl
 have h4 := h3.setR q 3 (I q.co) (by decide) (List.getElem?_set_self (by simpa using hlt)) rfl
 rwa [List.set_set, List.set_set, List.set_set] at h4

theorem several_fn (main : Side) (h : Hp) (nums : List Int) (lv : Value) (b : Nat) (s0 : Int) (fs : List Fl) (ss : List St) (f : Fl) (st : St) (vf vs : Value) (hl : Sl h rowI lv nums) (hf : Sl h Fl.row vf fs) (hs : Sl h St.row vs ss) : Fnc prog main n_law_several #[.agg #[vf, vs], f.val, st.val, .pointer (some ⟨b, 0, none⟩)] h [(b, hatO lv 0 s0)]
  (fun v A => ∃ (β : Nat) (p0 p1 p2 : Pl) (fs1 : List Fl) (ss1 : List St) (fs2 : List Fl) (ss2 : List St) (Sf1 Ss1 Sf2 Ss2 : Frag) (k : Nat) (s' : Int), v = .slice (some ⟨β, 0, none⟩) 3 3 ∧ (vf = p0.f.val ∧ vs = p0.s.val) ∧ (Os t_Floor Fl.row p1.f.val fs1 Sf1 ∧ Os t_Strike St.row p1.s.val ss1 Ss1) ∧ (Os t_Floor Fl.row p2.f.val fs2 Sf2 ∧ Os t_Strike St.row p2.s.val ss2 Ss2) ∧ (ckPlant fs1 ss1 = 0 ∧ ss1.length ≤ 3 ∧ fs2.length = fs1.length ∧ ss2.length = ss1.length) ∧ k ≤ 200 ∧ Sb ((β, .cells (flat Pl.row [p0, p1, p2]).toArray t_Plant (0, 0)) :: (b, hatO lv k s') :: (Sf1 ++ (Ss1 ++ (Sf2 ++ Ss2)))) A) := by
 obtain ⟨a, cap, rfl⟩ := hf.isSl
 obtain ⟨a', cap', rfl⟩ := hs.isSl
 refine Fnc.of_body at_law_several rfl (by show 4 ≤ 39; decide) [(0, .agg #[.slice a fs.length cap, .slice a' ss.length cap']), (1, f.val), (2, st.val), (3, .pointer (some ⟨b, 0, none⟩))] ⟨rfl, rfl, rfl, rfl, trivial⟩ ?_
 refine W.seq <| W.region rfl ?_
 refine Ops.box (cs := #[.slice a fs.length cap, .slice a' ss.length cap']) (fun β4 => ?_) rfl rfl rfl
 refine Ops.box (cs := #[I f.pl, I f.lo, I f.hi, I f.co]) (fun β5 => ?_) rfl rfl rfl
 refine Ops.box (cs := #[I st.day, I st.co, I st.wa]) (fun β6 => ?_) rfl rfl rfl
 refine qs rfl rfl rfl <| Ops.nil <| thn_n <| W.seq <| W.region rfl <| qm rfl rfl rfl ?_
 refine cg (A := [(b, _)]) (.tail (.tail (.tail .head))) (fun h' hE hL => PlantOf_fn _ h' nums lv b s0 3 2 (hl.ext hE) (by decide) (by decide)) (fun v A' hv => ?_)
 obtain ⟨vf1, vs1, fs1, ss1, Sf1, Ss1, k1, s1, rfl, ⟨hOf1, hOs1⟩, ⟨hck, hn3, -⟩, hk1, hsb⟩ := hv
 have hnf := (hall_ck hck).nf
 obtain ⟨a1, cap1, rfl⟩ := hOf1.isSl
 obtain ⟨c1, dap1, rfl⟩ := hOs1.isSl
 refine Ops.sb (F' := (β6, .cells #[I st.day, I st.co, I st.wa] t_Strike (0, 0)) :: (β5, .cells #[I f.pl, I f.lo, I f.hi, I f.co] t_Floor (0, 0)) :: (β4, .cells #[.slice a fs.length cap, .slice a' ss.length cap'] t_Plant (0, 0)) :: ((b, hatO lv k1 s1) :: (Sf1 ++ Ss1))) (.cons (.cons (.cons (hsb.trans (Sb.right .refl .nil))))) ?_
 refine Ops.new (fun β9 => ?_)
 first | refine Ops.stoW ?_ | refine Ops.stoA ?_
 refine Ops.nil <| thn_n <| W.seq <| W.region rfl ?_
 first | refine o1 (yldW rfl rfl) rfl ?_ | refine o1 (yldA rfl rfl) rfl ?_
 refine c0 (fun h' hE hL => DupPlant_fn _ h' fs1 ss1 _ _ (hOf1.sl fun b' o hb => hL b' o (.tail _ (.tail _ (.tail _ (.tail _ (.tail _ (List.mem_append_left _ hb))))))) (hOs1.sl fun b' o hb => hL b' o (.tail _ (.tail _ (.tail _ (.tail _ (.tail _ (List.mem_append_right _ hb))))))) (by omega)) (fun v A' hv => ?_)
 obtain ⟨vf2, vs2, Sf2, Ss2, rfl, ⟨hOf2, hOs2⟩, hsb2⟩ := hv
 obtain ⟨a2, cap2, rfl⟩ := hOf2.isSl
 obtain ⟨c2, dap2, rfl⟩ := hOs2.isSl
 refine Ops.sb (F' := Ss2 ++ (Sf2 ++ ((β9, .cells #[.slice a1 fs1.length cap1, .slice c1 ss1.length dap1] t_Plant (0, 0)) :: (β6, .cells #[I st.day, I st.co, I st.wa] t_Strike (0, 0)) :: (β5, .cells #[I f.pl, I f.lo, I f.hi, I f.co] t_Floor (0, 0)) :: (β4, .cells #[.slice a fs.length cap, .slice a' ss.length cap'] t_Plant (0, 0)) :: ((b, hatO lv k1 s1) :: (Sf1 ++ Ss1))))) (.trans (.of_perm (by rw [← List.append_assoc]; exact (List.perm_append_comm).append_right _)) (hsb2.app .refl)) ?_
 refine Ops.new (fun β10 => ?_)
 first | refine Ops.stoW ?_ | refine Ops.stoA ?_
 refine Ops.nil <| thn_n <| W.seq ?_
 refine W.sb (F' := (β10, .cells #[.slice a2 fs1.length cap2, .slice c2 ss1.length dap2] t_Plant (0, 0)) :: (β9, .cells #[.slice a1 fs1.length cap1, .slice c1 ss1.length dap1] t_Plant (0, 0)) :: (β6, .cells #[I st.day, I st.co, I st.wa] t_Strike (0, 0)) :: (β5, .cells #[I f.pl, I f.lo, I f.hi, I f.co] t_Floor (0, 0)) :: (β4, .cells #[.slice a fs.length cap, .slice a' ss.length cap'] t_Plant (0, 0)) :: (b, hatO lv k1 s1) :: (Ss2 ++ (Sf2 ++ (Sf1 ++ Ss1)))) (.of_perm (show List.Perm _ ((β10, .cells #[.slice a2 fs1.length cap2, .slice c2 ss1.length dap2] t_Plant (0, 0)) :: (Ss2 ++ (Sf2 ++ ((β9, .cells #[.slice a1 fs1.length cap1, .slice c1 ss1.length dap1] t_Plant (0, 0)) :: (β6, .cells #[I st.day, I st.co, I st.wa] t_Strike (0, 0)) :: (β5, .cells #[I f.pl, I f.lo, I f.hi, I f.co] t_Floor (0, 0)) :: (β4, .cells #[.slice a fs.length cap, .slice a' ss.length cap'] t_Plant (0, 0)) :: (b, hatO lv k1 s1) :: (Sf1 ++ Ss1))))) from perm_cnt fun y => by simp only [List.count_append, List.count_cons, List.count_nil]; omega)) ?_
 refine W.seq <| W.region rfl ?_
 refine o1 (y_fieldAddr rfl rfl) rfl ?_
 refine o1 (yld rfl rfl) rfl ?_
 refine o1 (y_len rfl rfl) rfl ?_
 refine qs rfl rfl rfl <| Ops.nil <| thn_n <| W.seq <| W.region rfl <| qm rfl rfl rfl ?_
 refine o1 (y_gtr rfl rfl rfl) rfl ?_
 refine qm rfl rfl rfl ?_
 refine Ops.ask (fun a4_3 => ?_) (fun a4_3 => ?_)
 ·refine oq (y_move rfl rfl) rfl (want_some rfl rfl rfl) rfl rfl ?_
  refine cg (A := [(b, _)]) (.tail (.tail (.tail (.tail (.tail .head))))) (fun h' hE hL => Seldom_fn _ h' nums lv b k1 s1 2 (hl.ext hE) (by omega) (by decide)) (fun v A' hv => ?_) (hw := want_some rfl rfl rfl)
  obtain ⟨r, s2, rfl, hsb3⟩ := hv
  refine Ops.sb (F' := (β10, .cells #[.slice a2 fs1.length cap2, .slice c2 ss1.length dap2] t_Plant (0, 0)) :: (β9, .cells #[.slice a1 fs1.length cap1, .slice c1 ss1.length dap1] t_Plant (0, 0)) :: (β6, .cells #[I st.day, I st.co, I st.wa] t_Strike (0, 0)) :: (β5, .cells #[I f.pl, I f.lo, I f.hi, I f.co] t_Floor (0, 0)) :: (β4, .cells #[.slice a fs.length cap, .slice a' ss.length cap'] t_Plant (0, 0)) :: (b, hatO lv (k1 + 1) s2) :: (Ss2 ++ (Sf2 ++ (Sf1 ++ Ss1)))) (.cons (.cons (.cons (.cons (.cons (hsb3.app .refl)))))) ?_
  refine o1 (y_pickT rfl rfl rfl) rfl ?_
  refine Ops.nil <| thn_n ?_
  refine W.cond rfl (fun c24 => ?_) (fun c24 => ?_)
  ·obtain ⟨βs, cs2, Js, hsa, hSse, -, hcz, hcl, hPs, hJs⟩ := hOs2.open (by omega)
   subst hsa hSse
   obtain ⟨j, hj⟩ : ∃ j, ss1.length = j + 1 := ⟨ss1.length - 1, by omega⟩
   obtain ⟨p, hp, -⟩ := has (show j < ss1.length by omega)
   have hPs2 := set3 st hPs hp
   have hsz : 0 + j * 3 + 3 ≤ cs2.size := by omega
   generalize hhat : hatO lv (k1 + 1) s2 = ho
   have hho : ∃ k s, k ≤ 200 ∧ ho = hatO lv k s := ⟨k1 + 1, s2, by omega, hhat.symm⟩
   refine W.region rfl ?_
   refine o1 (y_fieldAddr rfl rfl) rfl ?_
   refine o1 (yld rfl rfl) rfl ?_
   refine qm rfl rfl rfl ?_
   refine o1 ((ysub rfl rfl rfl).eq (u := I j) (congrArg I (by omega))) rfl ?_
   first | refine o1 (yldW rfl rfl) rfl ?_ | refine o1 (yldA rfl rfl) rfl ?_
   first | refine o1 (yix rfl rfl rfl) rfl ?_ | refine o1 (yixI rfl rfl rfl) rfl ?_
   refine Ops.stoA (vs := #[I st.day, I st.co, I st.wa]) (n := 3) (hl := .tail (.tail (.tail (.tail (.tail (.tail .head)))))) (hn := rfl) (hc := hsz) ?_
   refine Ops.nil <| thn_n <| W.seq <| W.region rfl ?_
   first | refine o1 (yldW rfl rfl) rfl ?_ | refine o1 (yldA rfl rfl) rfl ?_
   first | refine o1 (yldW rfl rfl) rfl ?_ | refine o1 (yldA rfl rfl) rfl ?_
   first | refine o1 (yldW rfl rfl) rfl ?_ | refine o1 (yldA rfl rfl) rfl ?_
   first
   | refine Ops.bsl (cs := (flat Pl.row [⟨⟨a, fs.length, cap⟩, ⟨a', ss.length, cap'⟩⟩, ⟨⟨a1, fs1.length, cap1⟩, ⟨c1, ss1.length, dap1⟩⟩, ⟨⟨a2, fs1.length, cap2⟩, ⟨some ⟨βs, 0, none⟩, ss1.length, dap2⟩⟩]).toArray) (fun β38 => ?_) rfl (hf := by kernel_rfl)
   | refine Ops.bsl (cs := (flat Pl.row [⟨⟨a, fs.length, cap⟩, ⟨a', ss.length, cap'⟩⟩, ⟨⟨a1, fs1.length, cap1⟩, ⟨c1, ss1.length, dap1⟩⟩, ⟨⟨some ⟨βf, 0, none⟩, fs1.length, cap2⟩, ⟨c2, ss1.length, dap2⟩⟩]).toArray) (fun β38 => ?_) rfl (hf := by kernel_rfl)
   refine qs rfl rfl rfl <| Ops.nil <| thn_n <| W.ret ?_
   obtain ⟨k2, s3, hk2, rfl⟩ := hho
   exact lvt (vs := [_]) ⟨β38, ⟨⟨a, fs.length, cap⟩, ⟨a', ss.length, cap'⟩⟩, ⟨⟨a1, fs1.length, cap1⟩, ⟨c1, ss1.length, dap1⟩⟩, ⟨⟨a2, fs1.length, cap2⟩, ⟨some ⟨βs, 0, none⟩, ss1.length, dap2⟩⟩, fs1, ss1, fs1, ss1.set j st, Sf1, Ss1, Sf2, (βs, .cells (putAll cs2 (0 + j * 3) [I st.day, I st.co, I st.wa]) t_Strike (0, 0)) :: Js, k2, s3, rfl, ⟨rfl, rfl⟩, ⟨hOf1, hOs1⟩, ⟨hOf2, .inr ⟨βs, _, dap2, Js, by rw [List.length_set], rfl, by rw [putAll_size]; exact hcz, by rw [List.length_set]; exact hcl, by rw [Nat.zero_add]; exact hPs2, hJs⟩⟩, ⟨hck, hn3, rfl, by simp⟩, hk2, Sb.cons ⟨[(β10, .cells #[.slice a2 fs1.length cap2, .slice (some ⟨βs, 0, none⟩) ss1.length dap2] t_Plant (0, 0)), (β9, .cells #[.slice a1 fs1.length cap1, .slice c1 ss1.length dap1] t_Plant (0, 0)), (β6, .cells #[I st.day, I st.co, I st.wa] t_Strike (0, 0)), (β5, .cells #[I f.pl, I f.lo, I f.hi, I f.co] t_Floor (0, 0)), (β4, .cells #[.slice a fs.length cap, .slice a' ss.length cap'] t_Plant (0, 0))], perm_cnt fun y => by simp only [List.count_append, List.count_cons, List.count_nil, List.cons_append, List.append_eq]; omega, .cons rfl (.cons rfl (.cons rfl (.cons rfl (.cons rfl .nil))))⟩⟩
  ·first
   | generalize hhat : hatO lv (k1 + 1) s2 = ho
   | generalize hhat : hatO lv k1 s1 = ho
   have hho : ∃ k s, k ≤ 200 ∧ ho = hatO lv k s := by first | exact ⟨k1 + 1, s2, by omega, hhat.symm⟩ | exact ⟨k1, s1, by omega, hhat.symm⟩
   obtain ⟨βf, cf2, Jf, hfa, hSfe, -, hcz, hcl, hPf, hJf⟩ := hOf2.open (by omega)
   subst hfa hSfe
   obtain ⟨p, hp, -⟩ := has (show 0 < fs1.length by omega)
   have hPf2 := set4 f hPf hp
   have hsz : 0 + Int.toNat 0 * 4 + 4 ≤ cf2.size := by simp; omega
   refine W.region rfl ?_
   refine o1 (y_fieldAddr rfl rfl) rfl ?_
   refine o1 (yld rfl rfl) rfl ?_
   first | refine o1 (yldW rfl rfl) rfl ?_ | refine o1 (yldA rfl rfl) rfl ?_
   first | refine o1 (yix rfl rfl rfl) rfl ?_ | refine o1 (yixI rfl rfl rfl) rfl ?_
   refine Ops.stoA (vs := #[I f.pl, I f.lo, I f.hi, I f.co]) (n := 4) (hl := .tail (.tail (.tail (.tail (.tail (.tail (.app .head))))))) (hn := rfl) (hc := hsz) ?_
   refine Ops.nil <| thn_n <| W.seq <| W.region rfl ?_
   first | refine o1 (yldW rfl rfl) rfl ?_ | refine o1 (yldA rfl rfl) rfl ?_
   first | refine o1 (yldW rfl rfl) rfl ?_ | refine o1 (yldA rfl rfl) rfl ?_
   first | refine o1 (yldW rfl rfl) rfl ?_ | refine o1 (yldA rfl rfl) rfl ?_
   first
   | refine Ops.bsl (cs := (flat Pl.row [⟨⟨a, fs.length, cap⟩, ⟨a', ss.length, cap'⟩⟩, ⟨⟨a1, fs1.length, cap1⟩, ⟨c1, ss1.length, dap1⟩⟩, ⟨⟨a2, fs1.length, cap2⟩, ⟨some ⟨βs, 0, none⟩, ss1.length, dap2⟩⟩]).toArray) (fun β38 => ?_) rfl (hf := by kernel_rfl)
   | refine Ops.bsl (cs := (flat Pl.row [⟨⟨a, fs.length, cap⟩, ⟨a', ss.length, cap'⟩⟩, ⟨⟨a1, fs1.length, cap1⟩, ⟨c1, ss1.length, dap1⟩⟩, ⟨⟨some ⟨βf, 0, none⟩, fs1.length, cap2⟩, ⟨c2, ss1.length, dap2⟩⟩]).toArray) (fun β38 => ?_) rfl (hf := by kernel_rfl)
   refine qs rfl rfl rfl <| Ops.nil <| thn_n <| W.ret ?_
   obtain ⟨k2, s3, hk2, rfl⟩ := hho
   exact lvt (vs := [_]) ⟨β38, ⟨⟨a, fs.length, cap⟩, ⟨a', ss.length, cap'⟩⟩, ⟨⟨a1, fs1.length, cap1⟩, ⟨c1, ss1.length, dap1⟩⟩, ⟨⟨some ⟨βf, 0, none⟩, fs1.length, cap2⟩, ⟨c2, ss1.length, dap2⟩⟩, fs1, ss1, fs1.set 0 f, ss1, Sf1, Ss1, (βf, .cells (putAll cf2 (0 + Int.toNat 0 * 4) [I f.pl, I f.lo, I f.hi, I f.co]) t_Floor (0, 0)) :: Jf, Ss2, k2, s3, rfl, ⟨rfl, rfl⟩, ⟨hOf1, hOs1⟩, ⟨.inr ⟨βf, _, cap2, Jf, by rw [List.length_set], rfl, by rw [putAll_size]; exact hcz, by rw [List.length_set]; exact hcl, hPf2, hJf⟩, hOs2⟩, ⟨hck, hn3, by simp, rfl⟩, hk2, Sb.cons ⟨[(β10, .cells #[.slice (some ⟨βf, 0, none⟩) fs1.length cap2, .slice c2 ss1.length dap2] t_Plant (0, 0)), (β9, .cells #[.slice a1 fs1.length cap1, .slice c1 ss1.length dap1] t_Plant (0, 0)), (β6, .cells #[I st.day, I st.co, I st.wa] t_Strike (0, 0)), (β5, .cells #[I f.pl, I f.lo, I f.hi, I f.co] t_Floor (0, 0)), (β4, .cells #[.slice a fs.length cap, .slice a' ss.length cap'] t_Plant (0, 0))], perm_cnt fun y => by simp only [List.count_append, List.count_cons, List.count_nil, List.cons_append, List.append_eq]; omega, .cons rfl (.cons rfl (.cons rfl (.cons rfl (.cons rfl .nil))))⟩⟩
 ·refine Ops.no ?_
  refine Ops.no ?_
  refine o1 (y_pickF rfl rfl rfl) rfl ?_
  refine Ops.nil <| thn_n ?_
  refine W.condF ?_
  first
  | generalize hhat : hatO lv (k1 + 1) s2 = ho
  | generalize hhat : hatO lv k1 s1 = ho
  have hho : ∃ k s, k ≤ 200 ∧ ho = hatO lv k s := by first | exact ⟨k1 + 1, s2, by omega, hhat.symm⟩ | exact ⟨k1, s1, by omega, hhat.symm⟩
  obtain ⟨βf, cf2, Jf, hfa, hSfe, -, hcz, hcl, hPf, hJf⟩ := hOf2.open (by omega)
  subst hfa hSfe
  obtain ⟨p, hp, -⟩ := has (show 0 < fs1.length by omega)
  have hPf2 := set4 f hPf hp
  have hsz : 0 + Int.toNat 0 * 4 + 4 ≤ cf2.size := by simp; omega
  refine W.region rfl ?_
  refine o1 (y_fieldAddr rfl rfl) rfl ?_
  refine o1 (yld rfl rfl) rfl ?_
  first | refine o1 (yldW rfl rfl) rfl ?_ | refine o1 (yldA rfl rfl) rfl ?_
  first | refine o1 (yix rfl rfl rfl) rfl ?_ | refine o1 (yixI rfl rfl rfl) rfl ?_
  refine Ops.stoA (vs := #[I f.pl, I f.lo, I f.hi, I f.co]) (n := 4) (hl := .tail (.tail (.tail (.tail (.tail (.tail (.app .head))))))) (hn := rfl) (hc := hsz) ?_
  refine Ops.nil <| thn_n <| W.seq <| W.region rfl ?_
  first | refine o1 (yldW rfl rfl) rfl ?_ | refine o1 (yldA rfl rfl) rfl ?_
  first | refine o1 (yldW rfl rfl) rfl ?_ | refine o1 (yldA rfl rfl) rfl ?_
  first | refine o1 (yldW rfl rfl) rfl ?_ | refine o1 (yldA rfl rfl) rfl ?_
  first
  | refine Ops.bsl (cs := (flat Pl.row [⟨⟨a, fs.length, cap⟩, ⟨a', ss.length, cap'⟩⟩, ⟨⟨a1, fs1.length, cap1⟩, ⟨c1, ss1.length, dap1⟩⟩, ⟨⟨a2, fs1.length, cap2⟩, ⟨some ⟨βs, 0, none⟩, ss1.length, dap2⟩⟩]).toArray) (fun β38 => ?_) rfl (hf := by kernel_rfl)
  | refine Ops.bsl (cs := (flat Pl.row [⟨⟨a, fs.length, cap⟩, ⟨a', ss.length, cap'⟩⟩, ⟨⟨a1, fs1.length, cap1⟩, ⟨c1, ss1.length, dap1⟩⟩, ⟨⟨some ⟨βf, 0, none⟩, fs1.length, cap2⟩, ⟨c2, ss1.length, dap2⟩⟩]).toArray) (fun β38 => ?_) rfl (hf := by kernel_rfl)
  refine qs rfl rfl rfl <| Ops.nil <| thn_n <| W.ret ?_
  obtain ⟨k2, s3, hk2, rfl⟩ := hho
  exact lvt (vs := [_]) ⟨β38, ⟨⟨a, fs.length, cap⟩, ⟨a', ss.length, cap'⟩⟩, ⟨⟨a1, fs1.length, cap1⟩, ⟨c1, ss1.length, dap1⟩⟩, ⟨⟨some ⟨βf, 0, none⟩, fs1.length, cap2⟩, ⟨c2, ss1.length, dap2⟩⟩, fs1, ss1, fs1.set 0 f, ss1, Sf1, Ss1, (βf, .cells (putAll cf2 (0 + Int.toNat 0 * 4) [I f.pl, I f.lo, I f.hi, I f.co]) t_Floor (0, 0)) :: Jf, Ss2, k2, s3, rfl, ⟨rfl, rfl⟩, ⟨hOf1, hOs1⟩, ⟨.inr ⟨βf, _, cap2, Jf, by rw [List.length_set], rfl, by rw [putAll_size]; exact hcz, by rw [List.length_set]; exact hcl, hPf2, hJf⟩, hOs2⟩, ⟨hck, hn3, by simp, rfl⟩, hk2, Sb.cons ⟨[(β10, .cells #[.slice (some ⟨βf, 0, none⟩) fs1.length cap2, .slice c2 ss1.length dap2] t_Plant (0, 0)), (β9, .cells #[.slice a1 fs1.length cap1, .slice c1 ss1.length dap1] t_Plant (0, 0)), (β6, .cells #[I st.day, I st.co, I st.wa] t_Strike (0, 0)), (β5, .cells #[I f.pl, I f.lo, I f.hi, I f.co] t_Floor (0, 0)), (β4, .cells #[.slice a fs.length cap, .slice a' ss.length cap'] t_Plant (0, 0))], perm_cnt fun y => by simp only [List.count_append, List.count_cons, List.count_nil, List.cons_append, List.append_eq]; omega, .cons rfl (.cons rfl (.cons rfl (.cons rfl (.cons rfl .nil))))⟩⟩
end Go.Mus

/- Plants and plans, cones that stand, floors that are empty. Conditions: none; over the given program. -/
namespace Go.Mus
set_option maxRecDepth 100000
set_option maxHeartbeats 40000000
/-- Blocks that are never written again. -/
structure Kn (h0 h : Hp) (L : Frag) : Prop where
 ext : Ext h0 h
 all : ∀ p ∈ L, h p.1 = some p.2 ∧ h.z p.1
theorem Kn.nil {h : Hp} : Kn h h [] := ⟨⟨fun _ _ q => q, fun _ q => q⟩, fun p hp => by cases hp⟩
theorem freezeK {x : Cx} {c : Code} {Q : Post} {ρ : Env} {ds : List Deferred} {F : Frag} {U : Frag → Frag} {b : Nat} {o : Obj} {h0 : Hp} {L : Frag} (hK : Kn h0 x.h L) (ho : opn o = false) (hg : Seg [(b, o)] F U) (H : ∀ h', Kn h0 h' ((b, o) :: L) → W { x with h := h' } c Q ρ ds (U [])) : W x c Q ρ ds F :=
 W.perm hg.perm.1 (W.freeze ho fun h' hE hb hz => H h' ⟨hK.ext.trans hE, fun p hp => by
  rcases List.mem_cons.1 hp with rfl | hp
  ·exact ⟨hb, hz⟩
  ·exact ⟨hE.1 _ _ (hK.all p hp).1, hE.2 _ (hK.all p hp).2⟩⟩)
theorem Kn.sl {h0 h : Hp} {L : Frag} {α : Type} {row : α → List Value} {w : Nat} [Rw row w] {b n cap : Nat} {E : TypeId} {z : Nat × Nat} {l : List α} (hK : Kn h0 h L) (i : Nat) (hi : L[i]? = some (b, .cells (flat row l).toArray E z)) (hn : n = l.length) : Sl h row (.slice (some ⟨b, 0, none⟩) n cap) l ∧ Zs h (.slice (some ⟨b, 0, none⟩) n cap) :=
 ⟨exSl (hK.all _ (List.mem_of_getElem? hi)).1 hn, exZ (hK.all _ (List.mem_of_getElem? hi)).2⟩
end Go.Mus

/- The document's way to say what is wrong, and what shows in all heats. Conditions: none. -/
namespace Go.Mus
/-- The heat in which all drips are least. -/
def hLo (fs : List Fl) (l : List Be) : List Int := l.map fun b => (spanOf fs b).1
def RB (fs : List Fl) (ss : List St) (l : List Be) (f d : Nat) : Prop := (flAt fs f).pl < hiAt fs ss (padB l) f d ∨ (flAt fs f).co < idleN ss l (hLo fs l) f (d + 1)
section
variable {fs : List Fl} {ss : List St} {l : List Be} (hall : HallOK fs ss) (hp : PlanOf fs ss (padB l)) (hn : l.length = ss.length)
include hall hp hn
theorem cones_lo {f d : Int} (h0 : 0 ≤ f) : conesF ss l (hLo fs l) f d = sumK (loG fs ss l f d) l.length :=
 sumK_congr fun i hi => by
  simp only [heG, loG, hLo, map_at hall hp hn hi, spanOf]
  by_cases c : (beAt l i).fl = f
  ·rw [c, if_pos h0]
  ·rw [if_neg (fun x => c x.1), if_neg (fun x => c x.1)]
theorem hLo_heat : IsHeat fs l (hLo fs l) := isHeat_map hall hp hn (g := fun b => (spanOf fs b).1) fun b hb => ⟨Int.le_refl _, span_ok hall hp hn hb⟩
theorem idle_mono {h : List Int} (hh : IsHeat fs l h) {f : Int} (h0 : 0 ≤ f) : ∀ d, idleN ss l h f d ≤ idleN ss l (hLo fs l) f d
 | 0 => Int.le_refl _
 | d + 1 => by
  have ih := idle_mono hh h0 d
  have h2 := idle_nn (ss := ss) (l := l) (h := hLo fs l) (f := f) (d + 1)
  rw [idleN]
  split
  ·rename_i hI
   have : Idl ss l (hLo fs l) f d := by
    refine ⟨?_, hI.2⟩
    have h3 := cones_ge hall hp hn hh (f := f) (d := (d : Int)) h0
    rw [lo_sum hall hn h0] at h3
    have h4 := sumK_nn (k := l.length) (cones_nn hall hp hn (h := hLo fs l) (f := f) (d := (d : Int)))
    have h5 := cones_lo hall hp hn (f := f) (d := (d : Int)) h0
    have h6 := hI.1
    unfold conesF at h4 h5 h6 ⊢
    unfold conesF at h3
    omega
   rw [idleN, if_pos this]; omega
  ·omega
theorem rb_iff {f d : Nat} : (∃ h ∈ heatsF fs l, Shw fs ss l h f d) ↔ d < 22 ∧ f < fs.length ∧ RB fs ss l f d := by
 constructor
 ·rintro ⟨h, hh, h1, h2, h3⟩
  have hh' := mem_heats.1 hh
  refine ⟨h1, h2, ?_⟩
  rcases h3 with h3 | h3
  ·exact .inl (by have := cones_le hall hp hn hh' (f := (f : Int)) (d := (d : Int)) (by omega); omega)
  ·exact .inr (by have := idle_mono hall hp hn hh' (f := (f : Int)) (by omega) (d + 1); omega)
 ·rintro ⟨h1, h2, h3 | h3⟩
  ·obtain ⟨-, h, hh, hs⟩ := bad_shw hall hp hn (n := (d : Int)) h2 (.inl ⟨by omega, by omega, h3⟩)
   exact ⟨h, mem_heats.2 hh, by simpa using hs⟩
  ·exact ⟨_, mem_heats.2 (hLo_heat hall hp hn), h1, h2, .inr h3⟩
end
theorem set_day {fs : List Fl} {ss : List St} {l : List Be} (h : ckPlan fs ss l = 0) {i : Nat} (hi : i < l.length) (h0 : 0 ≤ (beAt l i).fl) : 0 ≤ (beAt l i).day ∧ (beAt l i).day ≤ 15 := by
 obtain ⟨hall, hp, hn⟩ := plan_ck h
 obtain ⟨h1, h2, h3⟩ := ckPlan0 h
 obtain ⟨s, hs, -⟩ := has (show i < ss.length by omega)
 have := (ckBerth0 (ckBerths_at h3 hs (be_some hall hp hn hi))).2.2.2 h0
 have hso := strike_ok h1 hs
 omega
theorem rb_late {fs : List Fl} {ss : List St} {l : List Be} (h : ckPlan fs ss l = 0) {f d : Nat} (hf : f < fs.length) (hd : 22 ≤ d) : ¬ RB fs ss l f d := by
 obtain ⟨hall, hp, hn⟩ := plan_ck h
 have hfo := fl_ok hall (f := (f : Int)) (by omega) (by omega)
 have hz : hiAt fs ss (padB l) f d = 0 := by
  rw [hi_sum hall hp hn (by omega)]
  have : sumK (hiG fs ss l f d) l.length = sumK (fun _ => 0) l.length := sumK_congr fun i hi => by
   simp only [hiG]
   refine if_neg fun hx => ?_
   have := set_day h hi (by omega)
   omega
  rw [this, sumK_0]
 have hi0 : idleN ss l (hLo fs l) f (d + 1) = 0 := by
  rw [idleN]
  refine if_neg fun hx => ?_
  obtain ⟨-, -, i, hi, h1, h2⟩ := hx
  have := set_day h hi (by omega)
  omega
 rintro (h1 | h1)
 ·omega
 ·omega
/-- ████ What is wrong, as the document says it. -/
theorem wrong_rb {fs : List Fl} {ss : List St} {l : List Be} (h : ckPlan fs ss l = 0) : ∃ f d, wrongV fs ss l = (f, d, 0) ∧ MinS (fun f d => f < fs.length ∧ RB fs ss l f d) f d := by
 obtain ⟨hall, hp, hn⟩ := plan_ck h
 obtain ⟨f, d, h1, h2⟩ := wrong_min h
 refine ⟨f, d, h1, ?_⟩
 have e : (fun f d => ∃ h ∈ heatsF fs l, Shw fs ss l h f d) = fun f d => f < fs.length ∧ RB fs ss l f d := by
  funext f d
  refine propext ((rb_iff hall hp hn).trans ⟨fun hx => hx.2, fun hx => ⟨?_, hx⟩⟩)
  rcases Nat.lt_or_ge d 22 with h' | h'
  ·exact h'
  ·exact absurd hx.2 (rb_late h hx.1 h')
 rw [e] at h2
 exact h2
end Go.Mus

/- The document's answers of layer 5: what is wrong, when cones are done, days of doubt. Conditions: none; over the given program. -/
namespace Go.Mus
set_option maxRecDepth 100000
set_option maxHeartbeats 40000000
def SetS (l : List Be) (k : Nat) (f a b : Int) (c : Bool) : Prop :=
 (c = false ∧ ∀ i, i < k → (beAt l i).fl ≠ f) ∨ (c = true ∧ (∃ i, i < k ∧ (beAt l i).fl = f ∧ (beAt l i).day = a) ∧ (∃ i, i < k ∧ (beAt l i).fl = f ∧ (beAt l i).day = b) ∧ ∀ i, i < k → (beAt l i).fl = f → a ≤ (beAt l i).day ∧ (beAt l i).day ≤ b)
theorem SetS.skip {l : List Be} {k : Nat} {f a b : Int} {c : Bool} (h : SetS l k f a b c) (hk : (beAt l k).fl ≠ f) : SetS l (k + 1) f a b c := by
 rcases h with ⟨h1, h2⟩ | ⟨h1, ⟨i, hi, h2⟩, ⟨j, hj, h3⟩, h4⟩
 ·refine .inl ⟨h1, fun i hi => ?_⟩
  rcases (by omega : i < k ∨ i = k) with h | rfl
  ·exact h2 i h
  ·exact hk
 ·refine .inr ⟨h1, ⟨i, by omega, h2⟩, ⟨j, by omega, h3⟩, fun x hx hxf => ?_⟩
  rcases (by omega : x < k ∨ x = k) with h | rfl
  ·exact h4 x h hxf
  ·exact absurd hxf hk
theorem SetS.next {l : List Be} {k : Nat} {f a b : Int} {c : Bool} (h : SetS l k f a b c) (hk : (beAt l k).fl = f) (a' b' : Int) (ha : (c = false ∨ (beAt l k).day < a) ∧ a' = (beAt l k).day ∨ (c = true ∧ a ≤ (beAt l k).day) ∧ a' = a) (hb : (c = false ∨ b < (beAt l k).day) ∧ b' = (beAt l k).day ∨ (c = true ∧ (beAt l k).day ≤ b) ∧ b' = b) : SetS l (k + 1) f a' b' true := by
 rcases h with ⟨rfl, h2⟩ | ⟨rfl, ⟨i, hi, h2⟩, ⟨j, hj, h3⟩, h4⟩
 ·have e1 : a' = (beAt l k).day := by rcases ha with h | h; exact h.2; exact absurd h.1.1 (by decide)
  have e2 : b' = (beAt l k).day := by rcases hb with h | h; exact h.2; exact absurd h.1.1 (by decide)
  subst e1 e2
  refine .inr ⟨rfl, ⟨k, by omega, hk, rfl⟩, ⟨k, by omega, hk, rfl⟩, fun x hx hxf => ?_⟩
  rcases (by omega : x < k ∨ x = k) with h | rfl
  ·exact absurd hxf (h2 x h)
  ·exact ⟨Int.le_refl _, Int.le_refl _⟩
 ·have ha' : (beAt l k).day < a ∧ a' = (beAt l k).day ∨ a ≤ (beAt l k).day ∧ a' = a := by
   rcases ha with ⟨h | h, e⟩ | ⟨⟨-, h⟩, e⟩
   ·cases h
   ·exact .inl ⟨h, e⟩
   ·exact .inr ⟨h, e⟩
  have hb' : b < (beAt l k).day ∧ b' = (beAt l k).day ∨ (beAt l k).day ≤ b ∧ b' = b := by
   rcases hb with ⟨h | h, e⟩ | ⟨⟨-, h⟩, e⟩
   ·cases h
   ·exact .inl ⟨h, e⟩
   ·exact .inr ⟨h, e⟩
  refine .inr ⟨rfl, ?_, ?_, fun x hx hxf => ?_⟩
  ·rcases ha' with ⟨-, rfl⟩ | ⟨-, rfl⟩
   ·exact ⟨k, by omega, hk, rfl⟩
   ·exact ⟨i, by omega, h2⟩
  ·rcases hb' with ⟨-, rfl⟩ | ⟨-, rfl⟩
   ·exact ⟨k, by omega, hk, rfl⟩
   ·exact ⟨j, by omega, h3⟩
  ·rcases (by omega : x < k ∨ x = k) with h | rfl
   ·have := h4 x h hxf; omega
   ·omega
theorem SetS.btw {l : List Be} {f a b d : Int} {c : Bool} (h : SetS l l.length f a b c) : Btw l f d ↔ c = true ∧ a < d ∧ d < b := by
 rcases h with ⟨rfl, h2⟩ | ⟨rfl, ⟨i, hi, h2, rfl⟩, ⟨j, hj, h3, rfl⟩, h4⟩
 ·refine ⟨fun ⟨⟨i, hi, h, _⟩, _⟩ => absurd h (h2 i hi), fun h => by cases h.1⟩
 ·constructor
  ·rintro ⟨⟨x, hx, hxf, hx1⟩, ⟨y, hy, hyf, hy1⟩⟩
   have := h4 x hx hxf
   have := h4 y hy hyf
   exact ⟨rfl, by omega, by omega⟩
  ·rintro ⟨-, h5, h6⟩
   exact ⟨⟨i, hi, h2, h5⟩, ⟨j, hj, h3, h6⟩⟩

theorem Rset_fn (main : Side) (h : Hp) (l : List Be) (f : Int) (vl : Value) (hl : Sl h Be.row vl l) (hn : l.length ≤ 1000) : Fnc prog main n_ref_set #[vl, I f] h [] (fun v A => ∃ a b c, v = .tuple #[I a, I b, .bool c] ∧ SetS l l.length f a b c ∧ Shut A) := by
 obtain ⟨al, lc, rfl⟩ := hl.isSl
 refine Fnc.of_body at_ref_set rfl (by show 2 ≤ 59; decide) [(0, .slice al l.length lc), (1, I f)] ⟨rfl, rfl, trivial⟩ ?_
 refine W.seq <| W.region rfl <| qs rfl rfl rfl <| qs rfl rfl rfl <| qs rfl rfl rfl <| Ops.nil <| thn_n <| W.seq <| W.region rfl <| qs rfl rfl rfl ?_
 refine qs rfl rfl rfl <| qs rfl rfl rfl <| Ops.nil <| thn_n <| W.seq <| W.seq <| W.region rfl <| qs rfl rfl rfl <| Ops.nil <| thn_n ?_
 refine W.block ?_
 refine W.loop (σ := Nat × Int × Int × Bool) (fun q => q.1 ≤ l.length ∧ SetS l q.1 f q.2.1 q.2.2.1 q.2.2.2) (fun q => [(10, I q.1), (7, I q.2.1), (8, I q.2.2.1), (9, .bool q.2.2.2), (0, .slice al l.length lc), (1, I f)]) (fun _ => []) (fun q => l.length - q.1) (0, 0, 0, false) ⟨Nat.zero_le _, .inl ⟨rfl, fun i hi => by omega⟩⟩ ⟨rfl, rfl, rfl, rfl, rfl, rfl, trivial⟩ sbA ?_
 rintro ⟨k, a, b, c⟩ ⟨hk, hM⟩
 dsimp only at *
 refine W.seq <| W.seq <| W.region rfl <| qm rfl rfl rfl <| qm rfl rfl rfl ?_
 refine o1 (y_len rfl rfl) rfl ?_
 refine o1 (y_lss rfl rfl rfl) rfl ?_
 refine Ops.nil <| thn_n ?_
 refine W.condp rfl (fun c14 => ?_) (fun c14 => ?_)
 ·have hk1 : k < l.length := by omega
  have hb0 : l[k]? = some (beAt l k) := by simp [beAt, List.getD, List.getElem?_eq_getElem hk1]
  obtain ⟨bl, offl, cl, El, fzl, rfl, hbl, -, hyl, hzl⟩ := hl.at hb0
  have hfl0 : cl[offl + k * 2 + 0]? = some (I (beAt l k).fl) := hzl 0 (by decide)
  have hfl1 : cl[offl + k * 2 + 1]? = some (I (beAt l k).day) := hzl 1 (by decide)
  clear hzl
  refine W.skip <| thn_n <| W.seq <| W.block <| W.seq <| W.seq <| W.region rfl <| qm rfl rfl rfl <| qm rfl rfl rfl ?_
  first | refine o1 (yix rfl rfl rfl) rfl ?_ | refine o1 (yixI rfl rfl rfl) rfl ?_
  refine o1 (y_fieldAddr rfl rfl) rfl ?_
  refine o1 (yld rfl rfl) rfl ?_
  refine qm rfl rfl rfl ?_
  refine o1 (y_neq rfl rfl rfl) rfl ?_
  refine Ops.nil <| thn_n ?_
  refine W.condp rfl (fun c23 => ?_) (fun c23 => ?_)
  ·refine W.exit <| thn_x <| blk_x <| thn_n <| W.region rfl <| qm rfl rfl rfl ?_
   first | refine o1 (yadd rfl rfl rfl) rfl ?_ | refine o1 (y_addw rfl rfl rfl) rfl ?_
   refine qs rfl rfl rfl <| Ops.nil <| thn_n ?_
   exact ⟨rfl, (k + 1, a, b, c), ⟨by simp only; omega, hM.skip (by assumption)⟩, by simp only; omega, ⟨rfl, rfl, rfl, rfl, rfl, rfl, trivial⟩, .refl⟩
  ·refine W.skip <| thn_n <| W.seq <| W.seq <| W.region rfl <| qm rfl rfl rfl ?_
   refine o1 (y_not rfl rfl) rfl ?_
   refine qm rfl rfl rfl ?_
   refine Ops.askB (fun a6_3 => ?_) (fun a6_3 => ?_)
   ·refine Ops.no ?_
    refine Ops.no ?_
    refine Ops.no ?_
    refine Ops.no ?_
    refine Ops.no ?_
    refine Ops.no ?_
    refine Ops.no ?_
    refine o1 (y_pickT rfl rfl rfl) rfl ?_
    refine Ops.nil <| thn_n ?_
    refine W.condT ?_
    refine W.region rfl <| qm rfl rfl rfl <| qm rfl rfl rfl ?_
    first | refine o1 (yix rfl rfl rfl) rfl ?_ | refine o1 (yixI rfl rfl rfl) rfl ?_
    refine o1 (y_fieldAddr rfl rfl) rfl ?_
    refine o1 (yld rfl rfl) rfl ?_
    refine qs rfl rfl rfl <| Ops.nil <| thn_n <| W.seq <| W.seq <| W.region rfl <| qm rfl rfl rfl ?_
    refine o1 (y_not rfl rfl) rfl ?_
    refine qm rfl rfl rfl ?_
    refine Ops.askB (fun a8_3 => ?_) (fun a8_3 => ?_)
    ·refine Ops.no ?_
     refine Ops.no ?_
     refine Ops.no ?_
     refine Ops.no ?_
     refine Ops.no ?_
     refine Ops.no ?_
     refine Ops.no ?_
     refine o1 (y_pickT rfl rfl rfl) rfl ?_
     refine Ops.nil <| thn_n ?_
     refine W.condT ?_
     refine W.region rfl <| qm rfl rfl rfl <| qm rfl rfl rfl ?_
     first | refine o1 (yix rfl rfl rfl) rfl ?_ | refine o1 (yixI rfl rfl rfl) rfl ?_
     refine o1 (y_fieldAddr rfl rfl) rfl ?_
     refine o1 (yld rfl rfl) rfl ?_
     refine qs rfl rfl rfl <| Ops.nil <| thn_n <| W.region rfl <| qs rfl rfl rfl <| Ops.nil <| blk_n <| thn_n <| W.region rfl <| qm rfl rfl rfl ?_
     first | refine o1 (yadd rfl rfl rfl) rfl ?_ | refine o1 (y_addw rfl rfl rfl) rfl ?_
     refine qs rfl rfl rfl <| Ops.nil <| thn_n ?_
     have heq : (beAt l k).fl = f := by omega
     exact ⟨rfl, (k + 1, _, _, true), ⟨by simp only; omega, hM.next heq _ _ (by first | exact .inl ⟨.inl (by simpa using a6_3), rfl⟩ | exact .inl ⟨.inr c34, rfl⟩ | exact .inr ⟨⟨by simpa using a6_3, by omega⟩, rfl⟩) (by first | exact .inl ⟨.inl (by simpa using a8_3), rfl⟩ | exact .inl ⟨.inr c50, rfl⟩ | exact .inr ⟨⟨by simpa using a8_3, by omega⟩, rfl⟩)⟩, by simp only; omega, ⟨rfl, rfl, rfl, rfl, rfl, rfl, trivial⟩, .refl⟩
    ·refine oq (y_move rfl rfl) rfl (want_some rfl rfl rfl) rfl rfl ?_
     refine oq (y_move rfl rfl) rfl (want_some rfl rfl rfl) rfl rfl ?_
     first | refine oq (yix rfl rfl rfl) rfl (want_some rfl rfl rfl) rfl rfl ?_ | refine oq (yixI rfl rfl rfl) rfl (want_some rfl rfl rfl) rfl rfl ?_
     refine oq (y_fieldAddr rfl rfl) rfl (want_some rfl rfl rfl) rfl rfl ?_
     refine oq (yld rfl rfl) rfl (want_some rfl rfl rfl) rfl rfl ?_
     refine oq (y_move rfl rfl) rfl (want_some rfl rfl rfl) rfl rfl ?_
     refine oq (y_gtr rfl rfl rfl) rfl (want_some rfl rfl rfl) rfl rfl ?_
     refine o1 (y_pickF rfl rfl rfl) rfl ?_
     refine Ops.nil <| thn_n ?_
     refine W.condp rfl (fun c50 => ?_) (fun c50 => ?_)
     ·refine W.region rfl <| qm rfl rfl rfl <| qm rfl rfl rfl ?_
      first | refine o1 (yix rfl rfl rfl) rfl ?_ | refine o1 (yixI rfl rfl rfl) rfl ?_
      refine o1 (y_fieldAddr rfl rfl) rfl ?_
      refine o1 (yld rfl rfl) rfl ?_
      refine qs rfl rfl rfl <| Ops.nil <| thn_n <| W.region rfl <| qs rfl rfl rfl <| Ops.nil <| blk_n <| thn_n <| W.region rfl <| qm rfl rfl rfl ?_
      first | refine o1 (yadd rfl rfl rfl) rfl ?_ | refine o1 (y_addw rfl rfl rfl) rfl ?_
      refine qs rfl rfl rfl <| Ops.nil <| thn_n ?_
      have heq : (beAt l k).fl = f := by omega
      exact ⟨rfl, (k + 1, _, _, true), ⟨by simp only; omega, hM.next heq _ _ (by first | exact .inl ⟨.inl (by simpa using a6_3), rfl⟩ | exact .inl ⟨.inr c34, rfl⟩ | exact .inr ⟨⟨by simpa using a6_3, by omega⟩, rfl⟩) (by first | exact .inl ⟨.inl (by simpa using a8_3), rfl⟩ | exact .inl ⟨.inr c50, rfl⟩ | exact .inr ⟨⟨by simpa using a8_3, by omega⟩, rfl⟩)⟩, by simp only; omega, ⟨rfl, rfl, rfl, rfl, rfl, rfl, trivial⟩, .refl⟩
     ·refine W.skip <| thn_n <| W.region rfl <| qs rfl rfl rfl <| Ops.nil <| blk_n <| thn_n <| W.region rfl <| qm rfl rfl rfl ?_
      first | refine o1 (yadd rfl rfl rfl) rfl ?_ | refine o1 (y_addw rfl rfl rfl) rfl ?_
      refine qs rfl rfl rfl <| Ops.nil <| thn_n ?_
      have heq : (beAt l k).fl = f := by omega
      exact ⟨rfl, (k + 1, _, _, true), ⟨by simp only; omega, hM.next heq _ _ (by first | exact .inl ⟨.inl (by simpa using a6_3), rfl⟩ | exact .inl ⟨.inr c34, rfl⟩ | exact .inr ⟨⟨by simpa using a6_3, by omega⟩, rfl⟩) (by first | exact .inl ⟨.inl (by simpa using a8_3), rfl⟩ | exact .inl ⟨.inr c50, rfl⟩ | exact .inr ⟨⟨by simpa using a8_3, by omega⟩, rfl⟩)⟩, by simp only; omega, ⟨rfl, rfl, rfl, rfl, rfl, rfl, trivial⟩, .refl⟩
   ·refine oq (y_move rfl rfl) rfl (want_some rfl rfl rfl) rfl rfl ?_
    refine oq (y_move rfl rfl) rfl (want_some rfl rfl rfl) rfl rfl ?_
    first | refine oq (yix rfl rfl rfl) rfl (want_some rfl rfl rfl) rfl rfl ?_ | refine oq (yixI rfl rfl rfl) rfl (want_some rfl rfl rfl) rfl rfl ?_
    refine oq (y_fieldAddr rfl rfl) rfl (want_some rfl rfl rfl) rfl rfl ?_
    refine oq (yld rfl rfl) rfl (want_some rfl rfl rfl) rfl rfl ?_
    refine oq (y_move rfl rfl) rfl (want_some rfl rfl rfl) rfl rfl ?_
    refine oq (y_lss rfl rfl rfl) rfl (want_some rfl rfl rfl) rfl rfl ?_
    refine o1 (y_pickF rfl rfl rfl) rfl ?_
    refine Ops.nil <| thn_n ?_
    refine W.condp rfl (fun c34 => ?_) (fun c34 => ?_)
    ·refine W.region rfl <| qm rfl rfl rfl <| qm rfl rfl rfl ?_
     first | refine o1 (yix rfl rfl rfl) rfl ?_ | refine o1 (yixI rfl rfl rfl) rfl ?_
     refine o1 (y_fieldAddr rfl rfl) rfl ?_
     refine o1 (yld rfl rfl) rfl ?_
     refine qs rfl rfl rfl <| Ops.nil <| thn_n <| W.seq <| W.seq <| W.region rfl <| qm rfl rfl rfl ?_
     refine o1 (y_not rfl rfl) rfl ?_
     refine qm rfl rfl rfl ?_
     refine Ops.askB (fun a8_3 => ?_) (fun a8_3 => ?_)
     ·refine Ops.no ?_
      refine Ops.no ?_
      refine Ops.no ?_
      refine Ops.no ?_
      refine Ops.no ?_
      refine Ops.no ?_
      refine Ops.no ?_
      refine o1 (y_pickT rfl rfl rfl) rfl ?_
      refine Ops.nil <| thn_n ?_
      refine W.condT ?_
      refine W.region rfl <| qm rfl rfl rfl <| qm rfl rfl rfl ?_
      first | refine o1 (yix rfl rfl rfl) rfl ?_ | refine o1 (yixI rfl rfl rfl) rfl ?_
      refine o1 (y_fieldAddr rfl rfl) rfl ?_
      refine o1 (yld rfl rfl) rfl ?_
      refine qs rfl rfl rfl <| Ops.nil <| thn_n <| W.region rfl <| qs rfl rfl rfl <| Ops.nil <| blk_n <| thn_n <| W.region rfl <| qm rfl rfl rfl ?_
      first | refine o1 (yadd rfl rfl rfl) rfl ?_ | refine o1 (y_addw rfl rfl rfl) rfl ?_
      refine qs rfl rfl rfl <| Ops.nil <| thn_n ?_
      have heq : (beAt l k).fl = f := by omega
      exact ⟨rfl, (k + 1, _, _, true), ⟨by simp only; omega, hM.next heq _ _ (by first | exact .inl ⟨.inl (by simpa using a6_3), rfl⟩ | exact .inl ⟨.inr c34, rfl⟩ | exact .inr ⟨⟨by simpa using a6_3, by omega⟩, rfl⟩) (by first | exact .inl ⟨.inl (by simpa using a8_3), rfl⟩ | exact .inl ⟨.inr c50, rfl⟩ | exact .inr ⟨⟨by simpa using a8_3, by omega⟩, rfl⟩)⟩, by simp only; omega, ⟨rfl, rfl, rfl, rfl, rfl, rfl, trivial⟩, .refl⟩
     ·refine oq (y_move rfl rfl) rfl (want_some rfl rfl rfl) rfl rfl ?_
      refine oq (y_move rfl rfl) rfl (want_some rfl rfl rfl) rfl rfl ?_
      first | refine oq (yix rfl rfl rfl) rfl (want_some rfl rfl rfl) rfl rfl ?_ | refine oq (yixI rfl rfl rfl) rfl (want_some rfl rfl rfl) rfl rfl ?_
      refine oq (y_fieldAddr rfl rfl) rfl (want_some rfl rfl rfl) rfl rfl ?_
      refine oq (yld rfl rfl) rfl (want_some rfl rfl rfl) rfl rfl ?_
      refine oq (y_move rfl rfl) rfl (want_some rfl rfl rfl) rfl rfl ?_
      refine oq (y_gtr rfl rfl rfl) rfl (want_some rfl rfl rfl) rfl rfl ?_
      refine o1 (y_pickF rfl rfl rfl) rfl ?_
      refine Ops.nil <| thn_n ?_
      refine W.condp rfl (fun c50 => ?_) (fun c50 => ?_)
      ·refine W.region rfl <| qm rfl rfl rfl <| qm rfl rfl rfl ?_
       first | refine o1 (yix rfl rfl rfl) rfl ?_ | refine o1 (yixI rfl rfl rfl) rfl ?_
       refine o1 (y_fieldAddr rfl rfl) rfl ?_
       refine o1 (yld rfl rfl) rfl ?_
       refine qs rfl rfl rfl <| Ops.nil <| thn_n <| W.region rfl <| qs rfl rfl rfl <| Ops.nil <| blk_n <| thn_n <| W.region rfl <| qm rfl rfl rfl ?_
       first | refine o1 (yadd rfl rfl rfl) rfl ?_ | refine o1 (y_addw rfl rfl rfl) rfl ?_
       refine qs rfl rfl rfl <| Ops.nil <| thn_n ?_
       have heq : (beAt l k).fl = f := by omega
       exact ⟨rfl, (k + 1, _, _, true), ⟨by simp only; omega, hM.next heq _ _ (by first | exact .inl ⟨.inl (by simpa using a6_3), rfl⟩ | exact .inl ⟨.inr c34, rfl⟩ | exact .inr ⟨⟨by simpa using a6_3, by omega⟩, rfl⟩) (by first | exact .inl ⟨.inl (by simpa using a8_3), rfl⟩ | exact .inl ⟨.inr c50, rfl⟩ | exact .inr ⟨⟨by simpa using a8_3, by omega⟩, rfl⟩)⟩, by simp only; omega, ⟨rfl, rfl, rfl, rfl, rfl, rfl, trivial⟩, .refl⟩
      ·refine W.skip <| thn_n <| W.region rfl <| qs rfl rfl rfl <| Ops.nil <| blk_n <| thn_n <| W.region rfl <| qm rfl rfl rfl ?_
       first | refine o1 (yadd rfl rfl rfl) rfl ?_ | refine o1 (y_addw rfl rfl rfl) rfl ?_
       refine qs rfl rfl rfl <| Ops.nil <| thn_n ?_
       have heq : (beAt l k).fl = f := by omega
       exact ⟨rfl, (k + 1, _, _, true), ⟨by simp only; omega, hM.next heq _ _ (by first | exact .inl ⟨.inl (by simpa using a6_3), rfl⟩ | exact .inl ⟨.inr c34, rfl⟩ | exact .inr ⟨⟨by simpa using a6_3, by omega⟩, rfl⟩) (by first | exact .inl ⟨.inl (by simpa using a8_3), rfl⟩ | exact .inl ⟨.inr c50, rfl⟩ | exact .inr ⟨⟨by simpa using a8_3, by omega⟩, rfl⟩)⟩, by simp only; omega, ⟨rfl, rfl, rfl, rfl, rfl, rfl, trivial⟩, .refl⟩
    ·refine W.skip <| thn_n <| W.seq <| W.seq <| W.region rfl <| qm rfl rfl rfl ?_
     refine o1 (y_not rfl rfl) rfl ?_
     refine qm rfl rfl rfl ?_
     refine Ops.askB (fun a8_3 => ?_) (fun a8_3 => ?_)
     ·refine Ops.no ?_
      refine Ops.no ?_
      refine Ops.no ?_
      refine Ops.no ?_
      refine Ops.no ?_
      refine Ops.no ?_
      refine Ops.no ?_
      refine o1 (y_pickT rfl rfl rfl) rfl ?_
      refine Ops.nil <| thn_n ?_
      refine W.condT ?_
      refine W.region rfl <| qm rfl rfl rfl <| qm rfl rfl rfl ?_
      first | refine o1 (yix rfl rfl rfl) rfl ?_ | refine o1 (yixI rfl rfl rfl) rfl ?_
      refine o1 (y_fieldAddr rfl rfl) rfl ?_
      refine o1 (yld rfl rfl) rfl ?_
      refine qs rfl rfl rfl <| Ops.nil <| thn_n <| W.region rfl <| qs rfl rfl rfl <| Ops.nil <| blk_n <| thn_n <| W.region rfl <| qm rfl rfl rfl ?_
      first | refine o1 (yadd rfl rfl rfl) rfl ?_ | refine o1 (y_addw rfl rfl rfl) rfl ?_
      refine qs rfl rfl rfl <| Ops.nil <| thn_n ?_
      have heq : (beAt l k).fl = f := by omega
      exact ⟨rfl, (k + 1, _, _, true), ⟨by simp only; omega, hM.next heq _ _ (by first | exact .inl ⟨.inl (by simpa using a6_3), rfl⟩ | exact .inl ⟨.inr c34, rfl⟩ | exact .inr ⟨⟨by simpa using a6_3, by omega⟩, rfl⟩) (by first | exact .inl ⟨.inl (by simpa using a8_3), rfl⟩ | exact .inl ⟨.inr c50, rfl⟩ | exact .inr ⟨⟨by simpa using a8_3, by omega⟩, rfl⟩)⟩, by simp only; omega, ⟨rfl, rfl, rfl, rfl, rfl, rfl, trivial⟩, .refl⟩
     ·refine oq (y_move rfl rfl) rfl (want_some rfl rfl rfl) rfl rfl ?_
      refine oq (y_move rfl rfl) rfl (want_some rfl rfl rfl) rfl rfl ?_
      first | refine oq (yix rfl rfl rfl) rfl (want_some rfl rfl rfl) rfl rfl ?_ | refine oq (yixI rfl rfl rfl) rfl (want_some rfl rfl rfl) rfl rfl ?_
      refine oq (y_fieldAddr rfl rfl) rfl (want_some rfl rfl rfl) rfl rfl ?_
      refine oq (yld rfl rfl) rfl (want_some rfl rfl rfl) rfl rfl ?_
      refine oq (y_move rfl rfl) rfl (want_some rfl rfl rfl) rfl rfl ?_
      refine oq (y_gtr rfl rfl rfl) rfl (want_some rfl rfl rfl) rfl rfl ?_
      refine o1 (y_pickF rfl rfl rfl) rfl ?_
      refine Ops.nil <| thn_n ?_
      refine W.condp rfl (fun c50 => ?_) (fun c50 => ?_)
      ·refine W.region rfl <| qm rfl rfl rfl <| qm rfl rfl rfl ?_
       first | refine o1 (yix rfl rfl rfl) rfl ?_ | refine o1 (yixI rfl rfl rfl) rfl ?_
       refine o1 (y_fieldAddr rfl rfl) rfl ?_
       refine o1 (yld rfl rfl) rfl ?_
       refine qs rfl rfl rfl <| Ops.nil <| thn_n <| W.region rfl <| qs rfl rfl rfl <| Ops.nil <| blk_n <| thn_n <| W.region rfl <| qm rfl rfl rfl ?_
       first | refine o1 (yadd rfl rfl rfl) rfl ?_ | refine o1 (y_addw rfl rfl rfl) rfl ?_
       refine qs rfl rfl rfl <| Ops.nil <| thn_n ?_
       have heq : (beAt l k).fl = f := by omega
       exact ⟨rfl, (k + 1, _, _, true), ⟨by simp only; omega, hM.next heq _ _ (by first | exact .inl ⟨.inl (by simpa using a6_3), rfl⟩ | exact .inl ⟨.inr c34, rfl⟩ | exact .inr ⟨⟨by simpa using a6_3, by omega⟩, rfl⟩) (by first | exact .inl ⟨.inl (by simpa using a8_3), rfl⟩ | exact .inl ⟨.inr c50, rfl⟩ | exact .inr ⟨⟨by simpa using a8_3, by omega⟩, rfl⟩)⟩, by simp only; omega, ⟨rfl, rfl, rfl, rfl, rfl, rfl, trivial⟩, .refl⟩
      ·refine W.skip <| thn_n <| W.region rfl <| qs rfl rfl rfl <| Ops.nil <| blk_n <| thn_n <| W.region rfl <| qm rfl rfl rfl ?_
       first | refine o1 (yadd rfl rfl rfl) rfl ?_ | refine o1 (y_addw rfl rfl rfl) rfl ?_
       refine qs rfl rfl rfl <| Ops.nil <| thn_n ?_
       have heq : (beAt l k).fl = f := by omega
       exact ⟨rfl, (k + 1, _, _, true), ⟨by simp only; omega, hM.next heq _ _ (by first | exact .inl ⟨.inl (by simpa using a6_3), rfl⟩ | exact .inl ⟨.inr c34, rfl⟩ | exact .inr ⟨⟨by simpa using a6_3, by omega⟩, rfl⟩) (by first | exact .inl ⟨.inl (by simpa using a8_3), rfl⟩ | exact .inl ⟨.inr c50, rfl⟩ | exact .inr ⟨⟨by simpa using a8_3, by omega⟩, rfl⟩)⟩, by simp only; omega, ⟨rfl, rfl, rfl, rfl, rfl, rfl, trivial⟩, .refl⟩
 ·have hke : k = l.length := by omega
  subst hke
  refine W.exit <| thn_x <| thn_x <| blk_x <| thn_n <| W.seq <| W.region rfl <| qm rfl rfl rfl <| qm rfl rfl rfl <| qm rfl rfl rfl ?_
  refine qs rfl rfl rfl <| qs rfl rfl rfl <| qs rfl rfl rfl <| Ops.nil <| thn_n <| W.ret ?_
  exact lvt (vs := [_, _, _]) ⟨a, b, c, rfl, hM, .nil⟩

theorem Rbad_fn (main : Side) (h : Hp) (fs : List Fl) (ss : List St) (l : List Be) (f d : Nat) (vf vs vl : Value) (hf : Sl h Fl.row vf fs) (hs : Sl h St.row vs ss) (hl : Sl h Be.row vl l) (hck : ckPlan fs ss l = 0) (hf0 : f < fs.length) (hd : d ≤ 100) : Fnc prog main n_ref_bad #[.agg #[vf, vs], vl, I f, I d] h [] (fun v A => ∃ r, v = .bool r ∧ (r = true ↔ RB fs ss l f d) ∧ Shut A) := by
 obtain ⟨hall, hpl, hn⟩ := plan_ck hck
 have hns := hall.ns
 have hnf := hall.nf
 have hfi : (0 : Int) ≤ f ∧ (f : Int) < fs.length := by omega
 have hx0 := flAt_some hfi.1 hfi.2
 have hfo := fl_ok hall hfi.1 hfi.2
 obtain ⟨⟨pl, lo, hi', co⟩, hfa⟩ : ∃ x, flAt fs f = x := ⟨_, rfl⟩
 rw [hfa] at hx0 hfo
 rw [Int.toNat_natCast] at hx0
 dsimp only at hfo
 have hRB : RB fs ss l f d ↔ pl < sumK (hiG fs ss l f d) l.length ∨ co < idleN ss l (hLo fs l) f (d + 1) := by rw [RB, hfa, hi_sum hall hpl hn hfi.1]
 have hIdl : ∀ x : Int, Idl ss l (hLo fs l) f x ↔ sumK (loG fs ss l f x) l.length = 0 ∧ Btw l f x := fun x => by rw [Idl, cones_lo hall hpl hn hfi.1]
 obtain ⟨a, cap, rfl⟩ := hf.isSl
 obtain ⟨a', cap', rfl⟩ := hs.isSl
 obtain ⟨al, lc, rfl⟩ := hl.isSl
 have hstd : ∀ (h' : Hp) (x : Int), Ext h h' → Pu prog main n_ref_stands #[.agg #[.slice a fs.length cap, .slice a' ss.length cap'], .slice al l.length lc, I f, I x] h' (.agg #[I (sumK (loG fs ss l f x) l.length), I (sumK (hiG fs ss l f x) l.length)]) := fun h' x hE => Rstands_fn main h' fs ss l f x _ _ _ (hf.ext hE) (hs.ext hE) (hl.ext hE) hck hfi
 obtain ⟨bf, off, cf, E, fz, rfl, hbk, -, hy1, hz1⟩ := hf.at hx0
 have hd0 : cf[off + f * 4 + 0]? = some (I pl) := hz1 0 (by decide)
 have hd3 : cf[off + f * 4 + 3]? = some (I co) := hz1 3 (by decide)
 clear hz1
 refine Fnc.of_body at_ref_bad rfl (by show 4 ≤ 71; decide) [(0, .agg #[.slice (some ⟨bf, off, none⟩) fs.length cap, .slice a' ss.length cap']), (1, .slice al l.length lc), (2, I f), (3, I d)] ⟨rfl, rfl, rfl, rfl, trivial⟩ ?_
 refine W.seq <| W.region rfl ?_
 refine Ops.box (cs := #[.slice (some ⟨bf, off, none⟩) fs.length cap, .slice a' ss.length cap']) (fun β4 => ?_) rfl rfl rfl
 refine qs rfl rfl rfl <| Ops.nil <| thn_n <| W.seq <| W.seq ?_
 refine W.drawP1 (n := 13) rfl ?_
 first | refine a1 0 (yldW rfl rfl) rfl ?_ | refine a1 0 (yldA rfl rfl) rfl ?_
 refine a1 1 (y_move rfl rfl) rfl ?_
 refine a1 2 (y_move rfl rfl) rfl ?_
 refine a1 3 (y_move rfl rfl) rfl ?_
 refine a1 6 (y_fieldAddr rfl rfl) rfl ?_
 refine a1 7 (yld rfl rfl) rfl ?_
 refine a1 8 (y_move rfl rfl) rfl ?_
 first | refine a1 9 (yix rfl rfl rfl) rfl ?_ | refine a1 9 (yixI rfl rfl rfl) rfl ?_
 refine a1 10 (y_fieldAddr rfl rfl) rfl ?_
 refine a1 11 (yld rfl rfl) rfl ?_
 refine acp (i := 4) (vs := [.agg #[.slice (some ⟨bf, off, none⟩) fs.length cap, .slice a' ss.length cap'], .slice al l.length lc, I f, I d]) (fun h' hE hL => hstd h' d hE) ?_
 first | refine a1 5 (y_field rfl rfl rfl) rfl ?_ | refine a1 5 (y_fieldA rfl rfl rfl) rfl ?_
 refine a1 12 (y_gtr rfl rfl rfl) rfl ?_
 refine az ?_
 refine thn_n ?_
 refine W.condp rfl (fun c26 => ?_) (fun c26 => ?_)
 ·refine W.seq <| W.region rfl <| qs rfl rfl rfl <| Ops.nil <| thn_n <| W.ret <| thn_r ?_
  exact lvt (vs := [_]) ⟨true, rfl, ⟨fun _ => hRB.2 (.inl (by first | exact c26 | assumption)), fun _ => rfl⟩, .cons rfl .nil⟩
 ·refine W.skip <| thn_n <| W.seq <| W.region rfl <| qm rfl rfl rfl <| qm rfl rfl rfl ?_
  refine c0 (fun h' hE hL => Rset_fn _ h' l f _ (hl.ext hE) (by omega)) (fun v A' hv => ?_)
  obtain ⟨x1, x2, x3, rfl, hset, hsh⟩ := hv
  have hbtw := fun x => hset.btw (d := x)
  refine Ops.sb (Sb.left .refl hsh) ?_
  refine qm rfl rfl rfl <| oq (y_extract rfl rfl rfl) rfl wn rfl rfl <| oq (y_extract rfl rfl rfl) rfl wn rfl rfl <| oq (y_extract rfl rfl rfl) rfl wn rfl rfl <| qs rfl rfl rfl <| qs rfl rfl rfl <| qs rfl rfl rfl <| Ops.nil <| thn_n <| W.seq ?_
  refine W.seq <| W.region rfl <| qm rfl rfl rfl ?_
  refine o1 (y_not rfl rfl) rfl ?_
  refine qm rfl rfl rfl ?_
  refine Ops.askB (fun a4_3 => ?_) (fun a4_3 => ?_)
  ·refine Ops.no ?_
   refine Ops.no ?_
   refine Ops.no ?_
   refine o1 (y_pickT rfl rfl rfl) rfl ?_
   refine qm rfl rfl rfl ?_
   refine Ops.no ?_
   refine Ops.no ?_
   refine Ops.no ?_
   refine o1 (y_pickT rfl rfl rfl) rfl ?_
   refine Ops.nil <| thn_n ?_
   refine W.condT ?_
   refine W.seq <| W.region rfl <| qs rfl rfl rfl <| Ops.nil <| thn_n <| W.ret <| thn_r ?_
   have hnb : ¬ Btw l f d := fun hb => by
    have := (hbtw d).1 hb
    first
    | omega
    | (rw [this.1] at a4_3; simp at a4_3)
   have hz : idleN ss l (hLo fs l) f (d + 1) = 0 := by rw [idleN]; exact if_neg fun hx => hnb hx.2
   exact lvt (vs := [_]) ⟨false, rfl, ⟨fun h => (by cases h), fun h => (by have := hRB.1 h; omega)⟩, .cons rfl .nil⟩
  ·refine oq (y_move rfl rfl) rfl (want_some rfl rfl rfl) rfl rfl ?_
   refine oq (y_move rfl rfl) rfl (want_some rfl rfl rfl) rfl rfl ?_
   refine oq (y_leq rfl rfl rfl) rfl (want_some rfl rfl rfl) rfl rfl ?_
   refine o1 (y_pickF rfl rfl rfl) rfl ?_
   refine qm rfl rfl rfl ?_
   refine Ops.ask (fun a4_8 => ?_) (fun a4_8 => ?_)
   ·refine Ops.no ?_
    refine Ops.no ?_
    refine Ops.no ?_
    refine o1 (y_pickT rfl rfl rfl) rfl ?_
    refine Ops.nil <| thn_n ?_
    refine W.condT ?_
    refine W.seq <| W.region rfl <| qs rfl rfl rfl <| Ops.nil <| thn_n <| W.ret <| thn_r ?_
    have hnb : ¬ Btw l f d := fun hb => by
     have := (hbtw d).1 hb
     first
     | omega
     | (rw [this.1] at a4_3; simp at a4_3)
    have hz : idleN ss l (hLo fs l) f (d + 1) = 0 := by rw [idleN]; exact if_neg fun hx => hnb hx.2
    exact lvt (vs := [_]) ⟨false, rfl, ⟨fun h => (by cases h), fun h => (by have := hRB.1 h; omega)⟩, .cons rfl .nil⟩
   ·refine oq (y_move rfl rfl) rfl (want_some rfl rfl rfl) rfl rfl ?_
    refine oq (y_move rfl rfl) rfl (want_some rfl rfl rfl) rfl rfl ?_
    refine oq (y_geq rfl rfl rfl) rfl (want_some rfl rfl rfl) rfl rfl ?_
    refine o1 (y_pickF rfl rfl rfl) rfl ?_
    refine Ops.nil <| thn_n ?_
    refine W.condp rfl (fun c45 => ?_) (fun c45 => ?_)
    ·refine W.seq <| W.region rfl <| qs rfl rfl rfl <| Ops.nil <| thn_n <| W.ret <| thn_r ?_
     have hnb : ¬ Btw l f d := fun hb => by
      have := (hbtw d).1 hb
      first
      | omega
      | (rw [this.1] at a4_3; simp at a4_3)
     have hz : idleN ss l (hLo fs l) f (d + 1) = 0 := by rw [idleN]; exact if_neg fun hx => hnb hx.2
     exact lvt (vs := [_]) ⟨false, rfl, ⟨fun h => (by cases h), fun h => (by have := hRB.1 h; omega)⟩, .cons rfl .nil⟩
    ·have hx3 : x3 = true := by simpa using a4_3
     subst hx3
     refine W.skip <| thn_n <| W.seq <| W.region rfl <| qs rfl rfl rfl <| Ops.nil <| thn_n <| W.seq <| W.seq <| W.region rfl ?_
     refine qm rfl rfl rfl <| qs rfl rfl rfl <| Ops.nil <| thn_n <| W.block ?_
     have hx10 : 0 ≤ x1 := by
      rcases hset with ⟨hx, -⟩ | ⟨-, ⟨i, hi, h1, rfl⟩, -, -⟩
      ·cases hx
      ·exact (set_day hck hi (by omega)).1
     refine W.loop (σ := Nat) (fun j => j ≤ d ∧ x1 ≤ (d : Int) - j ∧ idleN ss l (hLo fs l) f (d + 1) = j + idleN ss l (hLo fs l) f (d + 1 - j)) (fun j => [(13, I ((d : Int) - j)), (12, I j), (9, I x1), (4, .pointer (some ⟨β4, 0, none⟩)), (1, .slice al l.length lc), (2, I f)]) (fun _ => [(β4, .cells #[.slice (some ⟨bf, off, none⟩) fs.length cap, .slice a' ss.length cap'] t_Plant (0, 0))]) (fun j => d - j) 0 ⟨Nat.zero_le _, by omega, by simp⟩ ⟨lk rfl (show I _ = I _ from congrArg I (by omega)), rfl, rfl, rfl, rfl, rfl, trivial⟩ .refl ?_
     rintro j ⟨hj, hjx, hje⟩
     have hcast : ((d - j : Nat) : Int) = (d : Int) - j := by omega
     have hst1p : Idl ss l (hLo fs l) f ((d : Int) - j) → idleN ss l (hLo fs l) f (d + 1 - j) = idleN ss l (hLo fs l) f (d - j) + 1 := fun hx => by
      rw [show d + 1 - j = (d - j) + 1 by omega, idleN, hcast]; exact if_pos hx
     have hst1n : ¬ Idl ss l (hLo fs l) f ((d : Int) - j) → idleN ss l (hLo fs l) f (d + 1 - j) = 0 := fun hx => by
      rw [show d + 1 - j = (d - j) + 1 by omega, idleN, hcast]; exact if_neg hx
     refine W.seq <| W.seq <| W.region rfl <| qm rfl rfl rfl <| qm rfl rfl rfl ?_
     refine o1 (y_gtr rfl rfl rfl) rfl ?_
     refine qm rfl rfl rfl ?_
     refine Ops.ask (fun a8_4 => ?_) (fun a8_4 => ?_)
     ·first | refine oq (yldW rfl rfl) rfl (want_some rfl rfl rfl) rfl rfl ?_ | refine oq (yldA rfl rfl) rfl (want_some rfl rfl rfl) rfl rfl ?_
      refine oq (y_move rfl rfl) rfl (want_some rfl rfl rfl) rfl rfl ?_
      refine oq (y_move rfl rfl) rfl (want_some rfl rfl rfl) rfl rfl ?_
      refine oq (y_move rfl rfl) rfl (want_some rfl rfl rfl) rfl rfl ?_
      refine cp (fun h' hE hL => hstd h' ((d : Int) - j) hE) ?_ (hw := want_some rfl rfl rfl)
      first | refine oq (y_field rfl rfl rfl) rfl (want_some rfl rfl rfl) rfl rfl ?_ | refine oq (y_fieldA rfl rfl rfl) rfl (want_some rfl rfl rfl) rfl rfl ?_
      refine oq (y_eql rfl rfl rfl) rfl (want_some rfl rfl rfl) rfl rfl ?_
      refine o1 (y_pickT rfl rfl rfl) rfl ?_
      refine Ops.nil <| thn_n ?_
      refine W.condp rfl (fun c58 => ?_) (fun c58 => ?_)
      ·refine W.skip <| thn_n <| W.seq <| W.block <| W.region rfl <| qm rfl rfl rfl ?_
       first | refine o1 (yadd rfl rfl rfl) rfl ?_ | refine o1 (y_addw rfl rfl rfl) rfl ?_
       refine qs rfl rfl rfl <| Ops.nil <| blk_n <| thn_n <| W.region rfl <| qm rfl rfl rfl ?_
       first | refine o1 (ysub rfl rfl rfl) rfl ?_ | refine o1 (y_subw rfl rfl rfl) rfl ?_
       refine qs rfl rfl rfl <| Ops.nil <| thn_n ?_
       have hI : Idl ss l (hLo fs l) f ((d : Int) - j) := (hIdl _).2 ⟨by first | exact c58 | assumption, (hbtw _).2 ⟨rfl, by omega, by omega⟩⟩
       have hst1 := hst1p hI
       exact ⟨rfl, j + 1, ⟨by omega, by omega, by rw [hje, hst1, show d + 1 - (j + 1) = d - j by omega]; omega⟩, by omega, ⟨lk rfl (show I _ = I _ by congr 1; omega), rfl, rfl, rfl, rfl, rfl, trivial⟩, .refl⟩
      ·refine W.exit <| thn_x <| thn_x <| blk_x <| thn_n <| W.seq <| W.region rfl <| qm rfl rfl rfl ?_
       refine o1 (y_fieldAddr rfl rfl) rfl ?_
       refine o1 (yld rfl rfl) rfl ?_
       refine qm rfl rfl rfl ?_
       first | refine o1 (yix rfl rfl rfl) rfl ?_ | refine o1 (yixI rfl rfl rfl) rfl ?_
       refine o1 (y_fieldAddr rfl rfl) rfl ?_
       refine o1 (yld rfl rfl) rfl ?_
       refine o1 (y_gtr rfl rfl rfl) rfl ?_
       refine qs rfl rfl rfl <| Ops.nil <| thn_n <| W.ret ?_
       have hnI : ¬ Idl ss l (hLo fs l) f ((d : Int) - j) := fun hx => by
        have h1 := (hIdl _).1 hx
        have h2 := (hbtw _).1 h1.2
        first | exact absurd h1.1 (by assumption) | omega
       have hst1 := hst1n hnI
       refine lvt (vs := [_]) ⟨_, rfl, ?_, .cons rfl .nil⟩
       rw [decide_eq_true_eq, hRB, hje, hst1]
       omega
     ·refine Ops.no ?_
      refine Ops.no ?_
      refine Ops.no ?_
      refine Ops.no ?_
      refine Ops.no ?_
      refine Ops.no ?_
      refine Ops.no ?_
      refine o1 (y_pickF rfl rfl rfl) rfl ?_
      refine Ops.nil <| thn_n ?_
      refine W.condF ?_
      refine W.exit <| thn_x <| thn_x <| blk_x <| thn_n <| W.seq <| W.region rfl <| qm rfl rfl rfl ?_
      refine o1 (y_fieldAddr rfl rfl) rfl ?_
      refine o1 (yld rfl rfl) rfl ?_
      refine qm rfl rfl rfl ?_
      first | refine o1 (yix rfl rfl rfl) rfl ?_ | refine o1 (yixI rfl rfl rfl) rfl ?_
      refine o1 (y_fieldAddr rfl rfl) rfl ?_
      refine o1 (yld rfl rfl) rfl ?_
      refine o1 (y_gtr rfl rfl rfl) rfl ?_
      refine qs rfl rfl rfl <| Ops.nil <| thn_n <| W.ret ?_
      have hnI : ¬ Idl ss l (hLo fs l) f ((d : Int) - j) := fun hx => by
       have h1 := (hIdl _).1 hx
       have h2 := (hbtw _).1 h1.2
       first | exact absurd h1.1 (by assumption) | omega
      have hst1 := hst1n hnI
      refine lvt (vs := [_]) ⟨_, rfl, ?_, .cons rfl .nil⟩
      rw [decide_eq_true_eq, hRB, hje, hst1]
      omega

theorem Rwrong_fn (main : Side) (h : Hp) (fs : List Fl) (ss : List St) (l : List Be) (vf vs vl : Value) (hf : Sl h Fl.row vf fs) (hs : Sl h St.row vs ss) (hl : Sl h Be.row vl l) (hck : ckPlan fs ss l = 0) : Fnc prog main n_ref_wrong #[.agg #[vf, vs], vl] h [] (fun v A => ∃ a b, v = .tuple #[I a, I b] ∧ MinS (fun f d => f < fs.length ∧ RB fs ss l f d) a b ∧ Shut A) := by
 obtain ⟨hall, hpl, hn⟩ := plan_ck hck
 have hnf := hall.nf
 obtain ⟨a, cap, rfl⟩ := hf.isSl
 obtain ⟨a', cap', rfl⟩ := hs.isSl
 obtain ⟨al, lc, rfl⟩ := hl.isSl
 refine Fnc.of_body at_ref_wrong rfl (by show 2 ≤ 26; decide) [(0, .agg #[.slice a fs.length cap, .slice a' ss.length cap']), (1, .slice al l.length lc)] ⟨rfl, rfl, trivial⟩ ?_
 refine W.seq <| W.region rfl ?_
 refine Ops.box (cs := #[.slice a fs.length cap, .slice a' ss.length cap']) (fun β2 => ?_) rfl rfl rfl
 refine qs rfl rfl rfl <| qs rfl rfl rfl <| Ops.nil <| thn_n <| W.seq <| W.seq <| W.region rfl <| qs rfl rfl rfl <| Ops.nil <| thn_n ?_
 refine W.block ?_
 refine W.loop (σ := Nat) (fun d => d ≤ 30 ∧ ∀ f d', d' < d → f < fs.length → ¬ RB fs ss l f d') (fun d => [(6, I d), (2, .pointer (some ⟨β2, 0, none⟩)), (1, .slice al l.length lc)]) (fun _ => [(β2, .cells #[.slice a fs.length cap, .slice a' ss.length cap'] t_Plant (0, 0))]) (fun d => 30 - d) 0 ⟨Nat.zero_le _, fun f d' h => by omega⟩ ⟨rfl, rfl, rfl, trivial⟩ .refl ?_
 rintro d ⟨hd, hno⟩
 refine W.seq <| W.seq <| W.region rfl <| qm rfl rfl rfl ?_
 refine o1 (y_leq rfl rfl rfl) rfl ?_
 refine Ops.nil <| thn_n ?_
 refine W.condp rfl (fun c9 => ?_) (fun c9 => ?_)
 ·have hd1 : d < 30 := by omega
  refine W.skip <| thn_n <| W.seq <| W.block <| W.seq <| W.region rfl <| qs rfl rfl rfl <| Ops.nil <| thn_n <| W.block ?_
  refine W.loop (σ := Nat) (fun k => k ≤ fs.length ∧ ∀ f, f < k → ¬ RB fs ss l f d) (fun k => [(7, I k), (6, I d), (2, .pointer (some ⟨β2, 0, none⟩)), (1, .slice al l.length lc)]) (fun _ => [(β2, .cells #[.slice a fs.length cap, .slice a' ss.length cap'] t_Plant (0, 0))]) (fun k => fs.length - k) 0 ⟨Nat.zero_le _, fun f h => by omega⟩ ⟨rfl, rfl, rfl, rfl, trivial⟩ .refl ?_
  rintro k ⟨hk, hnk⟩
  refine W.seq <| W.seq <| W.region rfl <| qm rfl rfl rfl ?_
  refine o1 (y_fieldAddr rfl rfl) rfl ?_
  refine o1 (yld rfl rfl) rfl ?_
  refine o1 (y_len rfl rfl) rfl ?_
  refine o1 (y_lss rfl rfl rfl) rfl ?_
  refine Ops.nil <| thn_n ?_
  refine W.condp rfl (fun c16 => ?_) (fun c16 => ?_)
  ·refine W.skip <| thn_n <| W.seq <| W.block <| W.seq <| W.region rfl ?_
   first | refine o1 (yldW rfl rfl) rfl ?_ | refine o1 (yldA rfl rfl) rfl ?_
   refine qm rfl rfl rfl <| qm rfl rfl rfl <| qm rfl rfl rfl ?_
   refine c0 (fun h' hE hL => Rbad_fn _ h' fs ss l k d _ _ _ (hf.ext hE) (hs.ext hE) (hl.ext hE) hck (by omega) (by omega)) (fun v A' hv => ?_)
   obtain ⟨r, rfl, hr, hsh⟩ := hv
   refine Ops.sb (Sb.left .refl hsh) ?_
   refine Ops.nil <| thn_n ?_
   refine W.cond rfl (fun c23 => ?_) (fun c23 => ?_)
   ·refine W.seq <| W.region rfl <| qm rfl rfl rfl <| qm rfl rfl rfl <| qs rfl rfl rfl <| qs rfl rfl rfl <| Ops.nil <| thn_n <| W.ret <| blk_r ?_
    refine thn_r <| thn_r <| blk_r <| blk_r <| thn_r <| thn_r <| blk_r <| thn_r ?_
    have hrb := hr.1 c23
    exact lvt (vs := [_, _]) ⟨k, d, rfl, .inr ⟨k, d, rfl, rfl, ⟨by omega, hrb⟩, fun f' d' hx => by
     rcases Nat.lt_or_ge d' d with h1 | h1
     ·exact absurd hx.2 (hno f' d' h1 hx.1)
     ·rcases Nat.lt_or_ge d d' with h2 | h2
      ·exact .inl h2
      ·obtain rfl : d = d' := by omega
       refine .inr ⟨rfl, ?_⟩
       rcases Nat.lt_or_ge f' k with h3 | h3
       ·exact absurd hx.2 (hnk f' h3)
       ·exact h3⟩, .cons rfl .nil⟩
   ·refine W.skip <| blk_n <| thn_n <| W.region rfl <| qm rfl rfl rfl ?_
    first | refine o1 (yadd rfl rfl rfl) rfl ?_ | refine o1 (y_addw rfl rfl rfl) rfl ?_
    refine qs rfl rfl rfl <| Ops.nil <| thn_n ?_
    refine ⟨rfl, k + 1, ⟨by omega, fun f hf' => ?_⟩, by omega, ⟨rfl, rfl, rfl, rfl, trivial⟩, .refl⟩
    by_cases e : f = k
    ·subst e; exact fun hx => by rw [hr.2 hx] at c23; cases c23
    ·exact hnk f (by omega)
  ·refine W.exit <| thn_x <| thn_x <| blk_x <| blk_n <| thn_n <| W.region rfl <| qm rfl rfl rfl ?_
   first | refine o1 (yadd rfl rfl rfl) rfl ?_ | refine o1 (y_addw rfl rfl rfl) rfl ?_
   refine qs rfl rfl rfl <| Ops.nil <| thn_n ?_
   have hke : k = fs.length := by omega
   subst hke
   refine ⟨rfl, d + 1, ⟨by omega, fun f d' hd' hf' => ?_⟩, by omega, ⟨rfl, rfl, rfl, trivial⟩, .refl⟩
   by_cases e : d' = d
   ·subst e; exact hnk f hf'
   ·exact hno f d' (by omega) hf'
 ·refine W.exit <| thn_x <| thn_x <| blk_x <| thn_n <| W.seq <| W.region rfl <| qs rfl rfl rfl <| qs rfl rfl rfl <| Ops.nil ?_
  refine thn_n <| W.ret ?_
  exact lvt (vs := [_, _]) ⟨-1, -1, rfl, .inl ⟨rfl, rfl, fun f d' hx => by
   rcases Nat.lt_or_ge d' 22 with h1 | h1
   ·exact hno f d' (by omega) hx.1 hx.2
   ·exact rb_late hck hx.1 h1 hx.2⟩, .cons rfl .nil⟩

end Go.Mus

/- All plans as the document lists them; the right ones are those of all. Conditions: none. -/
namespace Go.Mus
def fullL (fs : List Fl) (ss : List St) (l : List Be) (f : Int) : Bool := (List.range l.length).any fun i => decide ((beAt l i).fl = f) && decide ((flAt fs f).pl < sumK (hiG fs ss l f (beAt l i).day) l.length)
def plansF (fs : List Fl) (ss : List St) (u : Int) : Nat → List Be → List (List Be)
  | 0, l => [l]
  | m + 1, l => (if u < 0 ∨ u < l.length then plansF fs ss u m (l ++ [bnone]) else []) ++ (if 0 ≤ u ∧ u < l.length then [] else (floorsFrom (stAt ss l.length) 0 fs.length).flatMap fun b => if fullL fs ss (l ++ [b]) b.fl then [] else plansF fs ss u m (l ++ [b]))
theorem hi_part {fs : List Fl} {ss : List St} {l : List Be} {f d : Int} (h4 : l.length ≤ 4) (h0 : 0 ≤ f) : hiAt fs ss (padB l) f d = sumK (hiG fs ss l f d) l.length := by
  have e : hiAt fs ss (padB l) f d = sumK (hiG fs ss l f d) 4 := sumK_congr fun i _ => by simp only [hiG, be_pad]
  rw [e]
  refine sumK_ext h4 fun i hi _ => ?_
  simp only [hiG, be_out hi, bnone]
  rw [if_neg (by omega)]
theorem full_no {fs : List Fl} {ss : List St} {l r : List Be} {f : Int} (hall : HallOK fs ss) (hp : PlanOf fs ss (padB (l ++ r))) (hn : (l ++ r).length ≤ 4) (h0 : 0 ≤ f) (hf : f < fs.length) (h : fullL fs ss l f = true) : isR fs ss (l ++ r) = false := by
  simp only [fullL, List.any_eq_true, List.mem_range, Bool.and_eq_true, decide_eq_true_eq] at h
  obtain ⟨i, hi, h1, h2⟩ := h
  rw [List.length_append] at hn
  have hm := hi_mono (fs := fs) (ss := ss) (p := padB (l ++ r)) (q := padB l) (f := f) (d := (beAt l i).day) hall h0 fun j hj => by
    rw [be_pad, be_pad]
    rcases Nat.lt_or_ge j l.length with h | h
    · left; simp only [beAt, List.getD]; rw [List.getElem?_append_left h]
    · right; rw [be_out h]; simp [bnone]
  rw [hi_part (by omega) h0] at hm
  have hd : 0 ≤ (beAt l i).day ∧ (beAt l i).day ≤ 17 := by
    have h3 := beAt_some hp.ok (show i < 4 by omega)
    rw [be_pad] at h3
    have e : beAt (l ++ r) i = beAt l i := by simp only [beAt, List.getD]; rw [List.getElem?_append_left hi]
    rw [e] at h3
    omega
  cases hx : isR fs ss (l ++ r) with
  | false => rfl
  | true =>
    have hn : inspF fs ss (padB (l ++ r)) = none := by simpa [isR] using hx
    exact absurd (.inl ⟨by omega, by omega, by omega⟩) ((insp_none hall hp.ok).1 hn f h0 hf (beAt l i).day)
/-- ████ The right ones of all plans. -/
theorem plans_right {fs : List Fl} {ss : List St} {u : Int} (hall : HallOK fs ss) (hu : u < 0) : ∀ m l, l.length + m = ss.length → PlanOf fs ss (padB l) → (plansF fs ss u m l).filter (isR fs ss) = (extF fs ss m l).filter (isR fs ss)
  | 0, l, _, _ => rfl
  | m + 1, l, hl, hp => by
    have h4 := hall.ns
    have hk : l.length < ss.length := by omega
    have hpb : ∀ b, b ∈ berthsK fs ss freeM l.length → PlanOf fs ss (padB (l ++ [b])) := fun b hb => by
      rw [← padB_set (by omega)]
      exact plan_set hp (by omega) (berth_ok hall hk hb)
    have e : berthsK fs ss freeM l.length = bnone :: floorsFrom (stAt ss l.length) 0 fs.length := by simp [berthsK, freeM]
    have hm : ∀ b, b ∈ floorsFrom (stAt ss l.length) 0 fs.length → b ∈ berthsK fs ss freeM l.length := fun b hb => by rw [e]; exact List.mem_cons_of_mem _ hb
    have h0 : bnone ∈ berthsK fs ss freeM l.length := by rw [e]; exact List.mem_cons_self ..
    rw [plansF, if_pos (.inl hu), if_neg (by omega), extF, e, List.flatMap_cons, List.filter_append, List.filter_append, List.filter_flatMap, List.filter_flatMap]
    congr 1
    · exact plans_right hall hu m _ (by simp; omega) (hpb _ h0)
    · refine fm_congr fun b hb => ?_
      split
      · rename_i hf
        rw [List.filter_nil]
        refine (List.filter_eq_nil_iff.2 fun l' hl' hr => ?_).symm
        obtain ⟨r, rfl⟩ := ext_pre m _ l' hl'
        have hq := ext_plan hall m _ _ (by simp; omega) (hpb b (hm b hb)) hl'
        have hbf := mem_floorsFrom hb
        have hlen : (l ++ [b] ++ r).length = ss.length := by
          have : ∀ m l l', l.length + m = ss.length → l' ∈ extF fs ss m l → l'.length = ss.length := by
            intro m
            induction m with
            | zero => intro l l' h h'; have : l' = l := by simpa [extF] using h'
                      rw [this]; omega
            | succ m ih => intro l l' h h'
                           obtain ⟨c, -, hc⟩ := List.mem_flatMap.1 h'
                           exact ih _ _ (by simp; omega) hc
          exact this m _ _ (by simp; omega) hl'
        have := full_no hall hq (by omega) (by omega) (by omega) hf
        rw [this] at hr; cases hr
      · exact plans_right hall hu m _ (by simp; omega) (hpb b (hm b hb))
theorem plansF_len {fs : List Fl} {ss : List St} {u : Int} (hall : HallOK fs ss) : ∀ m l, l.length + m = ss.length → (plansF fs ss u m l).length ≤ 13 ^ m
  | 0, l, _ => by simp [plansF]
  | m + 1, l, hl => by
    have hb := berths_len hall (show l.length < ss.length by omega)
    have e : berthsK fs ss freeM l.length = bnone :: floorsFrom (stAt ss l.length) 0 fs.length := by simp [berthsK, freeM]
    rw [e, List.length_cons] at hb
    have h1 := plansF_len (fs := fs) (ss := ss) (u := u) hall m (l ++ [bnone]) (by simp; omega)
    have h2 := fm_len (l := floorsFrom (stAt ss l.length) 0 fs.length) (f := fun b => if fullL fs ss (l ++ [b]) b.fl then [] else plansF fs ss u m (l ++ [b])) (n := 13 ^ m) fun b _ => by
      split
      · simp
      · exact plansF_len hall m _ (by simp; omega)
    have h3 : (floorsFrom (stAt ss l.length) 0 fs.length).length * 13 ^ m ≤ 12 * 13 ^ m := Nat.mul_le_mul_right _ (by omega)
    rw [plansF, List.length_append, Nat.pow_succ]
    split <;> split <;> (try simp only [List.length_nil]) <;> omega
end Go.Mus
