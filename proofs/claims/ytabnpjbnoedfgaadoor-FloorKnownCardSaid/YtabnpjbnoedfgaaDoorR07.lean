/- The checks of plans. Conditions: none; over the given program. (And 5 texts more.) -/
import Derived.Test.YtabnpjbnoedfgaaDoorR06
set_option linter.unusedVariables false
set_option linter.unusedSimpArgs false
set_option linter.unusedSectionVars false

/- The checks of plans. Conditions: none; over the given program. -/
namespace Go.Mus
set_option maxRecDepth 100000
set_option maxHeartbeats 4000000
theorem ckPlant0 {fs : List Fl} {ss : List St} (h : ckPlant fs ss = 0) : fs.length ≠ 0 ∧ fs.length ≤ 2 ∧ ss.length ≤ 4 ∧ ckFloors fs = 0 ∧ ckStrikes 0 ss = 0 := by
  unfold ckPlant at h
  split at h
  · cases h
  split at h
  · cases h
  split at h
  · rename_i h1; exact absurd h h1
  split at h
  · cases h
  · rename_i h1 h2 h3 h4
    exact ⟨h1, by omega, by omega, Decidable.byContradiction h3, h⟩
theorem ckStrikes_at : ∀ {ss : List St} {b : Int} {k : Nat} {s : St}, ckStrikes b ss = 0 → ss[k]? = some s → ∃ b', ckStrike b' s = 0
  | [], _, _, _, _, h => by simp at h
  | s :: ss, b, k, t, h, hk => by
    simp only [ckStrikes] at h
    split at h
    · rename_i h1
      cases k with
      | zero => simp at hk; subst hk; exact ⟨b, h1⟩
      | succ k => simp at hk; exact ckStrikes_at h hk
    · rename_i h1; exact absurd h h1
theorem ckStrike0 {b : Int} {s : St} (h : ckStrike b s = 0) : 0 ≤ s.day ∧ s.day ≤ 12 ∧ 1 ≤ s.co ∧ s.co ≤ 6 ∧ 0 ≤ s.wa ∧ s.wa ≤ 3 ∧ b ≤ s.day := by
  unfold ckStrike at h
  split at h
  · cases h
  · split at h
    · cases h
    · rename_i h1 h2
      simp only [outs] at h1
      omega
theorem strike_ok {fs : List Fl} {ss : List St} {k : Nat} {s : St} (h : ckPlant fs ss = 0) (hk : ss[k]? = some s) : 0 ≤ s.day ∧ s.day ≤ 12 ∧ 1 ≤ s.co ∧ s.co ≤ 6 ∧ 0 ≤ s.wa ∧ s.wa ≤ 3 := by
  obtain ⟨b, hb⟩ := ckStrikes_at (ckPlant0 h).2.2.2.2 hk
  have := ckStrike0 hb
  omega

theorem CheckPlan_fn (main : Side) (h : Hp) (fs : List Fl) (ss : List St) (l : List Be) (vf vs vl : Value) (hf : Sl h Fl.row vf fs) (hs : Sl h St.row vs ss) (hl : Sl h Be.row vl l) : Pu prog main n_floor_CheckPlan #[.agg #[vf, vs], vl] h (I (ckPlan fs ss l)) := by
  obtain ⟨a, cap, rfl⟩ := hf.isSl
  obtain ⟨a', cap', rfl⟩ := hs.isSl
  obtain ⟨a2, cap2, rfl⟩ := hl.isSl
  refine Fnc.of_body at_floor_CheckPlan rfl (by show 2 ≤ 72; decide) [(0, .agg #[.slice a fs.length cap, .slice a' ss.length cap']), (1, .slice a2 l.length cap2)] ⟨rfl, rfl, trivial⟩ ?_
  refine W.seq <| W.region rfl ?_
  refine Ops.box (fun β2 => ?_)
  refine qs rfl rfl rfl <| Ops.nil <| thn_n <| W.seq <| W.seq <| W.region rfl ?_
  first | refine oq (yldW rfl rfl) rfl wn rfl rfl ?_ | refine oq (yldA rfl rfl) rfl wn rfl rfl ?_
  refine cp (fun h' hE hL => Check_fn _ h' _ _ _ _ (hf.ext hE) (hs.ext hE)) ?_
  refine qs rfl rfl rfl <| Ops.nil <| thn_n <| W.seq <| W.region rfl <| qm rfl rfl rfl ?_
  refine oq (y_neq rfl rfl rfl) rfl wn rfl rfl ?_
  refine Ops.nil <| thn_n ?_
  refine W.condp rfl (fun c12 => ?_) (fun c12 => ?_)
  · refine W.seq <| W.region rfl <| qm rfl rfl rfl <| qs rfl rfl rfl <| Ops.nil <| thn_n <| W.ret <| thn_r ?_
    refine lvp ?_
    show I _ = I _; congr 1; simp only [ckPlan]; rw [if_pos c12]
  · have h0 : ckPlant fs ss = 0 := by simpa using c12
    obtain ⟨hf0, hf2, hs4, _, _⟩ := ckPlant0 h0
    have e0 : ckPlan fs ss l = if l.length < ss.length then 7 else if ss.length < l.length then 6 else ckBerths fs.length ss l := by simp only [ckPlan]; rw [if_neg c12]
    refine W.skip <| thn_n <| W.seq <| W.seq <| W.region rfl <| qm rfl rfl rfl ?_
    refine oq (y_len rfl rfl) rfl wn rfl rfl ?_
    refine oq (y_fieldAddr rfl rfl) rfl wn rfl rfl ?_
    refine oq (yld rfl rfl) rfl wn rfl rfl ?_
    refine oq (y_len rfl rfl) rfl wn rfl rfl ?_
    refine oq (y_lss rfl rfl rfl) rfl wn rfl rfl ?_
    refine Ops.nil <| thn_n ?_
    refine W.condp rfl (fun c19 => ?_) (fun c19 => ?_)
    · refine W.seq <| W.region rfl <| qs rfl rfl rfl <| Ops.nil <| thn_n <| W.ret <| thn_r ?_
      refine lvp ?_
      show I _ = I _; congr 1; rw [e0, if_pos (by omega)]
    · refine W.skip <| thn_n <| W.seq <| W.seq <| W.region rfl <| qm rfl rfl rfl ?_
      refine oq (y_len rfl rfl) rfl wn rfl rfl ?_
      refine oq (y_fieldAddr rfl rfl) rfl wn rfl rfl ?_
      refine oq (yld rfl rfl) rfl wn rfl rfl ?_
      refine oq (y_len rfl rfl) rfl wn rfl rfl ?_
      refine oq (y_gtr rfl rfl rfl) rfl wn rfl rfl ?_
      refine Ops.nil <| thn_n ?_
      refine W.condp rfl (fun c25 => ?_) (fun c25 => ?_)
      · refine W.seq <| W.region rfl <| qs rfl rfl rfl <| Ops.nil <| thn_n <| W.ret <| thn_r ?_
        refine lvp ?_
        show I _ = I _; congr 1; rw [e0, if_neg (by omega), if_pos (by omega)]
      · have hll : l.length = ss.length := by omega
        have e1 : ckPlan fs ss l = ckBerths fs.length ss l := by rw [e0, if_neg (by omega), if_neg (by omega)]
        refine W.skip <| thn_n <| W.seq <| W.seq <| W.region rfl <| qm rfl rfl rfl ?_
        refine oq (y_len rfl rfl) rfl wn rfl rfl ?_
        refine qm rfl rfl rfl <| Ops.nil <| thn_n <| W.block ?_
        refine W.loop (σ := Nat) (fun k => k ≤ l.length ∧ ckPlan fs ss l = ckBerths fs.length (ss.drop k) (l.drop k)) (fun k => [(28, I k), (27, I l.length), (26, .slice a2 l.length cap2), (2, .pointer (some ⟨β2, 0, none⟩))]) (fun _ => [(β2, .cells #[.slice a fs.length cap, .slice a' ss.length cap'] t_Plant (0, 0))]) (fun k => l.length - k) 0 ⟨Nat.zero_le _, e1⟩ ⟨rfl, rfl, rfl, rfl, trivial⟩ sbA ?_
        rintro k ⟨hk, hd⟩
        refine W.seq <| W.region rfl ?_
        refine oq (y_lss rfl rfl rfl) rfl wn rfl rfl ?_
        refine Ops.nil <| thn_n <| W.seq ?_
        refine W.condp rfl (fun c29 => ?_) (fun c29 => ?_)
        · obtain ⟨p, hp, hdr⟩ := has (show k < l.length by omega)
          obtain ⟨s, hsk, hdr'⟩ := has (show k < ss.length by omega)
          rw [hdr, hdr'] at hd
          obtain ⟨b, off, c, E, fz, rfl, hb, hx, hy, hz⟩ := hl.at hp
          have hx' : c.extract (off + k * 2) (off + k * 2 + 2) = #[I p.fl, I p.day] := hx
          clear hx hz
          obtain ⟨b', off', c', E', fz', rfl, hb', hx, hy', hz⟩ := hs.at hsk
          have hx2 : c'.extract (off' + k * 3) (off' + k * 3 + 3) = #[I s.day, I s.co, I s.wa] := hx
          clear hx hz
          have hso := strike_ok h0 hsk
          refine W.skip <| thn_n <| W.seq <| W.block <| W.seq <| W.region rfl <| qm rfl rfl rfl ?_
          first | refine oq (yix rfl rfl rfl) rfl wn rfl rfl ?_ | refine oq (yixI rfl rfl rfl) rfl wn rfl rfl ?_
          first | refine oq (yldW rfl rfl) rfl wn rfl rfl ?_ | refine oq (yldA rfl rfl) rfl wn rfl rfl ?_
          refine Ops.new (fun β7 => ?_)
          refine qs rfl rfl rfl ?_
          first | refine Ops.stoW ?_ | refine Ops.stoA ?_
          refine Ops.nil <| thn_n <| W.seq <| W.region rfl ?_
          refine oq (y_fieldAddr rfl rfl) rfl wn rfl rfl ?_
          refine oq (yld rfl rfl) rfl wn rfl rfl ?_
          refine qm rfl rfl rfl ?_
          first | refine oq (yix rfl rfl rfl) rfl wn rfl rfl ?_ | refine oq (yixI rfl rfl rfl) rfl wn rfl rfl ?_
          first | refine oq (yldW rfl rfl) rfl wn rfl rfl ?_ | refine oq (yldA rfl rfl) rfl wn rfl rfl ?_
          refine Ops.new (fun β8 => ?_)
          first | refine Ops.stoW ?_ | refine Ops.stoA ?_
          refine Ops.nil <| thn_n <| W.block <| W.seq <| W.region rfl ?_
          refine oq (y_fieldAddr rfl rfl) rfl wn rfl rfl ?_
          refine oq (yld rfl rfl) rfl wn rfl rfl ?_
          refine oq (y_fieldAddr rfl rfl) rfl wn rfl rfl ?_
          refine oq (yld rfl rfl) rfl wn rfl rfl ?_
          refine oq (y_len rfl rfl) rfl wn rfl rfl ?_
          first | refine oq (ysub rfl rfl rfl) rfl wn rfl rfl ?_ | refine oq (y_subw rfl rfl rfl) rfl wn rfl rfl ?_
          refine cp (fun h' hE hL => outside_fn _ h' _ _ _) ?_
          refine qs rfl rfl rfl <| Ops.nil <| thn_n ?_
          refine W.condp rfl (fun c38 => ?_) (fun c38 => ?_)
          · refine W.seq <| W.region rfl <| qs rfl rfl rfl <| Ops.nil <| thn_n <| W.ret <| blk_r <| blk_r <| thn_r <| thn_r ?_
            refine blk_r <| thn_r ?_
            refine lvp ?_
            have hc : ckBerth fs.length s p = 3 := by simp only [ckBerth]; rw [if_pos c38]
            show I _ = I _; congr 1; rw [hd]; simp only [ckBerths, hc]; rfl
          · refine W.seq <| W.region rfl ?_
            refine oq (y_fieldAddr rfl rfl) rfl wn rfl rfl ?_
            refine oq (yld rfl rfl) rfl wn rfl rfl ?_
            refine oq (y_lss rfl rfl rfl) rfl wn rfl rfl ?_
            refine qm rfl rfl rfl ?_
            refine Ops.ask (fun a14_4 => ?_) (fun a14_4 => ?_)
            · refine oq (y_fieldAddr rfl rfl) rfl (want_some rfl rfl rfl) rfl rfl ?_
              refine oq (yld rfl rfl) rfl (want_some rfl rfl rfl) rfl rfl ?_
              refine oq (y_neq rfl rfl rfl) rfl (want_some rfl rfl rfl) rfl rfl ?_
              refine oq (y_pickT rfl rfl rfl) rfl wn rfl rfl ?_
              refine qs rfl rfl rfl <| Ops.nil <| thn_n ?_
              refine W.condp rfl (fun c46 => ?_) (fun c46 => ?_)
              · refine W.seq <| W.region rfl <| qs rfl rfl rfl <| Ops.nil <| thn_n <| W.ret <| blk_r <| blk_r <| thn_r <| thn_r ?_
                refine blk_r <| thn_r ?_
                refine lvp ?_
                have hc : ckBerth fs.length s p = 8 := by simp only [ckBerth]; rw [if_neg c38, if_pos ⟨by assumption, c46⟩]
                show I _ = I _; congr 1; rw [hd]; simp only [ckBerths, hc]; rfl
              · refine W.seq <| W.region rfl ?_
                refine oq (y_fieldAddr rfl rfl) rfl wn rfl rfl ?_
                refine oq (yld rfl rfl) rfl wn rfl rfl ?_
                refine oq (y_geq rfl rfl rfl) rfl wn rfl rfl ?_
                refine qm rfl rfl rfl ?_
                refine Ops.ask (fun a16_4 => ?_) (fun a16_4 => ?_)
                · refine oq (y_fieldAddr rfl rfl) rfl (want_some rfl rfl rfl) rfl rfl ?_
                  refine oq (yld rfl rfl) rfl (want_some rfl rfl rfl) rfl rfl ?_
                  refine oq (y_fieldAddr rfl rfl) rfl (want_some rfl rfl rfl) rfl rfl ?_
                  refine oq (yld rfl rfl) rfl (want_some rfl rfl rfl) rfl rfl ?_
                  refine oq (y_fieldAddr rfl rfl) rfl (want_some rfl rfl rfl) rfl rfl ?_
                  refine oq (yld rfl rfl) rfl (want_some rfl rfl rfl) rfl rfl ?_
                  refine oq (y_fieldAddr rfl rfl) rfl (want_some rfl rfl rfl) rfl rfl ?_
                  refine oq (yld rfl rfl) rfl (want_some rfl rfl rfl) rfl rfl ?_
                  first | refine oq (yadd rfl rfl rfl) rfl (want_some rfl rfl rfl) rfl rfl ?_ | refine oq (y_addw rfl rfl rfl) rfl (want_some rfl rfl rfl) rfl rfl ?_
                  refine cp (fun h' hE hL => outside_fn _ h' _ _ _) ?_
                  refine oq (y_pickT rfl rfl rfl) rfl wn rfl rfl ?_
                  refine qs rfl rfl rfl <| Ops.nil <| thn_n ?_
                  refine W.condp rfl (fun c55 => ?_) (fun c55 => ?_)
                  · refine W.seq <| W.region rfl <| qs rfl rfl rfl <| Ops.nil <| thn_n <| W.ret <| blk_r <| blk_r <| thn_r <| thn_r ?_
                    refine blk_r <| thn_r ?_
                    refine lvp ?_
                    have hc : ckBerth fs.length s p = 12 := by simp only [ckBerth]; rw [if_neg c38, if_neg (by omega), if_pos ⟨by assumption, c55⟩]
                    show I _ = I _; congr 1; rw [hd]; simp only [ckBerths, hc]; rfl
                  · refine W.skip <| blk_n <| blk_n <| thn_n <| W.region rfl ?_
                    first | refine oq (yadd rfl rfl rfl) rfl wn rfl rfl ?_ | refine oq (y_addw rfl rfl rfl) rfl wn rfl rfl ?_
                    refine qm rfl rfl rfl <| Ops.nil <| thn_n ?_
                    have hc : ckBerth fs.length s p = 0 := by simp only [ckBerth]; rw [if_neg c38, if_neg (by omega), if_neg (by first | exact fun hh => c55 hh.2 | omega)]
                    exact ⟨rfl, k + 1, ⟨by omega, by rw [hd]; simp only [ckBerths, hc]; rfl⟩, by omega, ⟨rfl, rfl, rfl, rfl, trivial⟩, sbA⟩
                · refine Ops.no ?_
                  refine Ops.no ?_
                  refine Ops.no ?_
                  refine Ops.no ?_
                  refine Ops.no ?_
                  refine Ops.no ?_
                  refine Ops.no ?_
                  refine Ops.no ?_
                  refine Ops.no ?_
                  refine Ops.no ?_
                  refine oq (y_pickF rfl rfl rfl) rfl wn rfl rfl ?_
                  refine qs rfl rfl rfl <| Ops.nil <| thn_n ?_
                  refine W.condF ?_
                  refine W.skip <| blk_n <| blk_n <| thn_n <| W.region rfl ?_
                  first | refine oq (yadd rfl rfl rfl) rfl wn rfl rfl ?_ | refine oq (y_addw rfl rfl rfl) rfl wn rfl rfl ?_
                  refine qm rfl rfl rfl <| Ops.nil <| thn_n ?_
                  have hc : ckBerth fs.length s p = 0 := by simp only [ckBerth]; rw [if_neg c38, if_neg (by omega), if_neg (by first | exact fun hh => c55 hh.2 | omega)]
                  exact ⟨rfl, k + 1, ⟨by omega, by rw [hd]; simp only [ckBerths, hc]; rfl⟩, by omega, ⟨rfl, rfl, rfl, rfl, trivial⟩, sbA⟩
            · refine Ops.no ?_
              refine Ops.no ?_
              refine Ops.no ?_
              refine oq (y_pickF rfl rfl rfl) rfl wn rfl rfl ?_
              refine qs rfl rfl rfl <| Ops.nil <| thn_n ?_
              refine W.condF ?_
              refine W.seq <| W.region rfl ?_
              refine oq (y_fieldAddr rfl rfl) rfl wn rfl rfl ?_
              refine oq (yld rfl rfl) rfl wn rfl rfl ?_
              refine oq (y_geq rfl rfl rfl) rfl wn rfl rfl ?_
              refine qm rfl rfl rfl ?_
              refine Ops.ask (fun a16_4 => ?_) (fun a16_4 => ?_)
              · refine oq (y_fieldAddr rfl rfl) rfl (want_some rfl rfl rfl) rfl rfl ?_
                refine oq (yld rfl rfl) rfl (want_some rfl rfl rfl) rfl rfl ?_
                refine oq (y_fieldAddr rfl rfl) rfl (want_some rfl rfl rfl) rfl rfl ?_
                refine oq (yld rfl rfl) rfl (want_some rfl rfl rfl) rfl rfl ?_
                refine oq (y_fieldAddr rfl rfl) rfl (want_some rfl rfl rfl) rfl rfl ?_
                refine oq (yld rfl rfl) rfl (want_some rfl rfl rfl) rfl rfl ?_
                refine oq (y_fieldAddr rfl rfl) rfl (want_some rfl rfl rfl) rfl rfl ?_
                refine oq (yld rfl rfl) rfl (want_some rfl rfl rfl) rfl rfl ?_
                first | refine oq (yadd rfl rfl rfl) rfl (want_some rfl rfl rfl) rfl rfl ?_ | refine oq (y_addw rfl rfl rfl) rfl (want_some rfl rfl rfl) rfl rfl ?_
                refine cp (fun h' hE hL => outside_fn _ h' _ _ _) ?_
                refine oq (y_pickT rfl rfl rfl) rfl wn rfl rfl ?_
                refine qs rfl rfl rfl <| Ops.nil <| thn_n ?_
                refine W.condp rfl (fun c55 => ?_) (fun c55 => ?_)
                · refine W.seq <| W.region rfl <| qs rfl rfl rfl <| Ops.nil <| thn_n <| W.ret <| blk_r <| blk_r <| thn_r <| thn_r ?_
                  refine blk_r <| thn_r ?_
                  refine lvp ?_
                  have hc : ckBerth fs.length s p = 12 := by simp only [ckBerth]; rw [if_neg c38, if_neg (by omega), if_pos ⟨by assumption, c55⟩]
                  show I _ = I _; congr 1; rw [hd]; simp only [ckBerths, hc]; rfl
                · refine W.skip <| blk_n <| blk_n <| thn_n <| W.region rfl ?_
                  first | refine oq (yadd rfl rfl rfl) rfl wn rfl rfl ?_ | refine oq (y_addw rfl rfl rfl) rfl wn rfl rfl ?_
                  refine qm rfl rfl rfl <| Ops.nil <| thn_n ?_
                  have hc : ckBerth fs.length s p = 0 := by simp only [ckBerth]; rw [if_neg c38, if_neg (by omega), if_neg (by first | exact fun hh => c55 hh.2 | omega)]
                  exact ⟨rfl, k + 1, ⟨by omega, by rw [hd]; simp only [ckBerths, hc]; rfl⟩, by omega, ⟨rfl, rfl, rfl, rfl, trivial⟩, sbA⟩
              · refine Ops.no ?_
                refine Ops.no ?_
                refine Ops.no ?_
                refine Ops.no ?_
                refine Ops.no ?_
                refine Ops.no ?_
                refine Ops.no ?_
                refine Ops.no ?_
                refine Ops.no ?_
                refine Ops.no ?_
                refine oq (y_pickF rfl rfl rfl) rfl wn rfl rfl ?_
                refine qs rfl rfl rfl <| Ops.nil <| thn_n ?_
                refine W.condF ?_
                refine W.skip <| blk_n <| blk_n <| thn_n <| W.region rfl ?_
                first | refine oq (yadd rfl rfl rfl) rfl wn rfl rfl ?_ | refine oq (y_addw rfl rfl rfl) rfl wn rfl rfl ?_
                refine qm rfl rfl rfl <| Ops.nil <| thn_n ?_
                have hc : ckBerth fs.length s p = 0 := by simp only [ckBerth]; rw [if_neg c38, if_neg (by omega), if_neg (by first | exact fun hh => c55 hh.2 | omega)]
                exact ⟨rfl, k + 1, ⟨by omega, by rw [hd]; simp only [ckBerths, hc]; rfl⟩, by omega, ⟨rfl, rfl, rfl, rfl, trivial⟩, sbA⟩
        · refine W.exit <| thn_x <| thn_x <| blk_x <| thn_n <| W.seq <| W.region rfl <| qs rfl rfl rfl <| Ops.nil <| thn_n ?_
          refine W.ret ?_
          refine lvp ?_
          show I _ = I _; congr 1; rw [hd, show k = l.length by omega]; simp [ckBerths]

theorem planOf_fn (main : Side) (h : Hp) (l : List Be) (vl : Value) (hl : Sl h Be.row vl l) (h4 : l.length ≤ 4) : Pu prog main n_floor_planOf #[vl] h (planV (padB l)) := by
  refine Fnc.of_body at_floor_planOf rfl (by show 1 ≤ 16; decide) [(0, vl)] ⟨rfl, trivial⟩ ?_
  refine W.seq <| W.region rfl ?_
  refine Ops.new (fun β2 => ?_)
  refine Ops.nil <| thn_n <| W.seq <| W.region rfl ?_
  refine Ops.new (fun β3 => ?_)
  refine Ops.nil <| thn_n <| W.seq <| W.seq <| W.region rfl <| qm rfl rfl rfl <| Ops.nil <| thn_n <| W.block ?_
  refine W.loop (σ := Nat) (fun k => k ≤ 4) (fun k => [(5, I k), (3, .pointer (some ⟨β3, 0, none⟩)), (2, .pointer (some ⟨β2, 0, none⟩)), (0, vl)]) (fun k => [(β3, .cells (fillP k) t_plan (0, 0)), (β2, .cells (fillP 0) t_plan (0, 0))]) (fun k => 4 - k) 0 (by decide) ⟨rfl, rfl, rfl, rfl, trivial⟩ sbA ?_
  rintro k hk
  refine W.seq <| W.region rfl ?_
  refine oq (y_lss rfl rfl rfl) rfl wn rfl rfl ?_
  refine Ops.nil <| thn_n <| W.seq ?_
  refine W.condp rfl (fun c6 => ?_) (fun c6 => ?_)
  · have h8 : (fillP k).size = 8 := by simp [fillP, flat_len]; omega
    refine W.skip <| thn_n <| W.seq <| W.block <| W.seq <| W.region rfl <| qm rfl rfl rfl <| qs rfl rfl rfl <| Ops.nil <| thn_n ?_
    refine W.region rfl <| qm rfl rfl rfl ?_
    first | refine oq (yixA rfl rfl rfl) rfl wn rfl rfl ?_ | refine oq (yixAI rfl rfl rfl) rfl wn rfl rfl ?_
    refine oq (y_fieldAddr rfl rfl) rfl wn rfl rfl ?_
    refine Ops.sto ?_
    refine Ops.nil <| blk_n <| thn_n <| W.region rfl ?_
    first | refine oq (yadd rfl rfl rfl) rfl wn rfl rfl ?_ | refine oq (y_addw rfl rfl rfl) rfl wn rfl rfl ?_
    refine qm rfl rfl rfl <| Ops.nil <| thn_n ?_
    refine ⟨rfl, k + 1, by omega, by omega, ⟨rfl, rfl, rfl, rfl, trivial⟩, ?_⟩
    rcases (by omega : k = 0 ∨ k = 1 ∨ k = 2 ∨ k = 3) with rfl | rfl | rfl | rfl <;> exact sbA
  · have : k = 4 := by omega
    subst this
    refine W.exit <| thn_x <| thn_x <| blk_x <| thn_n <| W.seq <| W.region rfl ?_
    refine oq (y_sliceArr rfl rfl) rfl wn rfl rfl ?_
    refine qm rfl rfl rfl ?_
    refine oe rfl wn rfl rfl (e_copy (row := Be.row) rfl rfl rfl hl (by omega) (by repeat (first | exact At.head | apply At.tail)) (by simp [fillP, flat_len]; omega) ?_)
    rw [fillP_put h4]
    refine Ops.nil <| thn_n <| W.seq <| W.region rfl ?_
    have h8 : (flat Be.row (padB l)).toArray.size = 8 := by simp [flat_len, padB_len h4]
    have h1 : ones (flat Be.row (padB l)).toArray.toList = true := by simpa using flat_ones _
    first | refine oq (yldW rfl rfl) rfl wn rfl rfl ?_ | refine oq (yldA rfl rfl) rfl wn rfl rfl ?_
    first | refine Ops.stoW ?_ | refine Ops.stoA ?_
    refine Ops.nil <| thn_n <| W.ret ?_
    exact lvc (hv := rAgg rNil) ⟨rfl, Shut.cons rfl (Shut.cons rfl .nil)⟩
end Go.Mus

/- What is asked of a plan. Conditions: none; over the given program. -/
namespace Go.Mus
set_option maxRecDepth 100000
set_option maxHeartbeats 4000000
theorem ckPlan0 {fs : List Fl} {ss : List St} {l : List Be} (h : ckPlan fs ss l = 0) : ckPlant fs ss = 0 ∧ l.length = ss.length ∧ ckBerths fs.length ss l = 0 := by
  unfold ckPlan at h
  split at h
  · rename_i h1; exact absurd h h1
  split at h
  · cases h
  split at h
  · cases h
  · rename_i h1 h2 h3
    exact ⟨Decidable.byContradiction h1, by omega, h⟩

theorem asked_fn (main : Side) (h : Hp) (fs : List Fl) (ss : List St) (l : List Be) (ns : List Int) (vf vs vl vn : Value) (hf : Sl h Fl.row vf fs) (hs : Sl h St.row vs ss) (hl : Sl h Be.row vl l) (hn : Sl h rowI vn ns) (hnl : ns.length ≤ 1000) : Pu prog main n_floor_asked #[.agg #[vf, vs], vl, vn] h (askV vf vs fs ss l ns) := by
  obtain ⟨a, cap, rfl⟩ := hf.isSl
  obtain ⟨a', cap', rfl⟩ := hs.isSl
  obtain ⟨a2, cap2, rfl⟩ := hl.isSl
  obtain ⟨a3, cap3, rfl⟩ := hn.isSl
  refine Fnc.of_body at_floor_asked rfl (by show 3 ≤ 39; decide) [(0, .agg #[.slice a fs.length cap, .slice a' ss.length cap']), (1, .slice a2 l.length cap2), (2, .slice a3 ns.length cap3)] ⟨rfl, rfl, rfl, trivial⟩ ?_
  refine W.seq <| W.region rfl ?_
  refine Ops.box (fun β3 => ?_)
  refine Ops.new (fun β6 => ?_)
  refine Ops.new (fun β7 => ?_)
  refine qs rfl rfl rfl <| Ops.nil <| thn_n <| W.seq <| W.seq <| W.region rfl ?_
  first | refine oq (yldW rfl rfl) rfl wn rfl rfl ?_ | refine oq (yldA rfl rfl) rfl wn rfl rfl ?_
  refine qm rfl rfl rfl ?_
  refine cp (fun h' hE hL => CheckPlan_fn _ h' _ _ _ _ _ _ (hf.ext hE) (hs.ext hE) (hl.ext hE)) ?_
  refine qs rfl rfl rfl <| Ops.nil <| thn_n <| W.seq <| W.region rfl <| qm rfl rfl rfl ?_
  refine oq (y_neq rfl rfl rfl) rfl wn rfl rfl ?_
  refine Ops.nil <| thn_n ?_
  refine W.condp rfl (fun c16 => ?_) (fun c16 => ?_)
  · refine W.seq <| W.region rfl ?_
    refine oq (y_build rfl rfl rfl) rfl wn rfl rfl ?_
    refine oq (y_build0 rfl) rfl wn rfl rfl ?_
    refine qm rfl rfl rfl ?_
    first | refine Ops.stoW ?_ | refine Ops.stoA ?_
    first | refine Ops.stoW ?_ | refine Ops.stoA ?_
    refine qs rfl rfl rfl <| Ops.nil <| thn_n <| W.ret <| thn_r ?_
    refine lvc (hv := rAgg (rAgg (rTmp rNil))) ⟨?_, by repeat (first | exact Shut.nil | refine Shut.cons rfl ?_)⟩
    have e : askE fs ss l ns = ckPlan fs ss l := by simp only [askE]; rw [if_pos c16]
    simp only [askV, e]; rw [if_neg c16]; rfl
  · have h0 : ckPlan fs ss l = 0 := by simpa using c16
    have hf2 : fs.length ≤ 2 := (ckPlant0 (ckPlan0 h0).1).2.1
    have hl4 : l.length ≤ 4 := by have := ckPlan0 h0; have := (ckPlant0 this.1).2.2.1; omega
    refine W.skip <| thn_n <| W.seq <| W.seq <| W.region rfl <| qm rfl rfl rfl ?_
    refine oq (y_len rfl rfl) rfl wn rfl rfl ?_
    refine qm rfl rfl rfl <| Ops.nil <| thn_n <| W.block ?_
    refine W.loop (σ := Nat) (fun k => k ≤ ns.length ∧ badF fs.length ns = badF fs.length (ns.drop k)) (fun k => [(22, I k), (21, I ns.length), (20, .slice a3 ns.length cap3), (3, .pointer (some ⟨β3, 0, none⟩)), (6, .pointer (some ⟨β6, 0, none⟩)), (7, .pointer (some ⟨β7, 0, none⟩)), (1, .slice a2 l.length cap2)]) (fun _ => [(β7, .cells #[I 0, I 0, I 0, I 0, I 0, I 0, I 0, I 0] t_plan (0, 0)), (β6, .cells #[.slice none 0 0, .slice none 0 0] t_hall (0, 0)), (β3, .cells #[.slice a fs.length cap, .slice a' ss.length cap'] t_Plant (0, 0))]) (fun k => ns.length - k) 0 ⟨Nat.zero_le _, rfl⟩ ⟨rfl, rfl, rfl, rfl, rfl, rfl, rfl, trivial⟩ sbA ?_
    rintro k ⟨hk, hd⟩
    refine W.seq <| W.region rfl ?_
    refine oq (y_lss rfl rfl rfl) rfl wn rfl rfl ?_
    refine Ops.nil <| thn_n <| W.seq ?_
    refine W.condp rfl (fun c23 => ?_) (fun c23 => ?_)
    · obtain ⟨p, hp, hdr⟩ := has (show k < ns.length by omega)
      rw [hdr] at hd
      obtain ⟨b, off, c, E, fz, rfl, hb, hx, hy, hz⟩ := hn.at hp
      have hz0 : c[off + k * 1]? = some (I p) := hz 0 (by decide)
      clear hx hz
      refine W.skip <| thn_n <| W.seq <| W.block <| W.seq <| W.region rfl ?_
      first | refine oq (yix rfl rfl rfl) rfl wn rfl rfl ?_ | refine oq (yixI rfl rfl rfl) rfl wn rfl rfl ?_
      refine oq (yld rfl rfl) rfl wn rfl rfl ?_
      refine qs rfl rfl rfl <| Ops.nil <| thn_n <| W.seq <| W.region rfl <| qm rfl rfl rfl ?_
      refine oq (y_fieldAddr rfl rfl) rfl wn rfl rfl ?_
      refine oq (yld rfl rfl) rfl wn rfl rfl ?_
      refine oq (y_len rfl rfl) rfl wn rfl rfl ?_
      first | refine oq (ysub rfl rfl rfl) rfl wn rfl rfl ?_ | refine oq (y_subw rfl rfl rfl) rfl wn rfl rfl ?_
      refine cp (fun h' hE hL => outside_fn _ h' _ _ _) ?_
      refine Ops.nil <| thn_n ?_
      refine W.condp rfl (fun c31 => ?_) (fun c31 => ?_)
      · refine W.seq <| W.region rfl ?_
        refine oq (y_build rfl rfl rfl) rfl wn rfl rfl ?_
        refine oq (y_build0 rfl) rfl wn rfl rfl ?_
        first | refine Ops.stoW ?_ | refine Ops.stoA ?_
        first | refine Ops.stoW ?_ | refine Ops.stoA ?_
        refine qs rfl rfl rfl <| Ops.nil <| thn_n <| W.ret <| blk_r <| thn_r <| thn_r <| blk_r <| thn_r ?_
        refine lvc (hv := rAgg (rAgg (rTmp rNil))) ⟨?_, by repeat (first | exact Shut.nil | refine Shut.cons rfl ?_)⟩
        have e : askE fs ss l ns = 3 := by simp only [askE]; rw [if_neg c16, hd, if_pos]; simp only [badF]; rw [if_pos c31]
        simp only [askV, e]; rfl
      · refine W.skip <| blk_n <| thn_n <| W.region rfl ?_
        first | refine oq (yadd rfl rfl rfl) rfl wn rfl rfl ?_ | refine oq (y_addw rfl rfl rfl) rfl wn rfl rfl ?_
        refine qm rfl rfl rfl <| Ops.nil <| thn_n ?_
        exact ⟨rfl, k + 1, ⟨by omega, by rw [hd]; simp only [badF]; rw [if_neg c31]⟩, by omega, ⟨rfl, rfl, rfl, rfl, rfl, rfl, rfl, trivial⟩, sbA⟩
    · refine W.exit <| thn_x <| thn_x <| blk_x <| thn_n <| W.seq ?_
      have h8 : (flat Be.row (padB l)).toArray.size = 8 := by simp [flat_len, padB_len hl4]
      have h1 : ones (flat Be.row (padB l)).toArray.toList = true := by simpa using flat_ones _
      refine W.drawL [(β3, .cells #[.slice a fs.length cap, .slice a' ss.length cap'] t_Plant (0, 0))] (n := 7) rfl ?_
      first | refine aq (i := 0) (yldW rfl rfl) rfl an rfl rfl ?_ | refine aq (i := 0) (yldA rfl rfl) rfl an rfl rfl ?_
      refine aq (i := 1) (y_build rfl rfl rfl) rfl an rfl rfl ?_
      refine aq (i := 2) (y_move rfl rfl) rfl an rfl rfl ?_
      refine acp (i := 3) (fun h' hE hL => planOf_fn _ h' _ _ (hl.ext hE) hl4) ?_
      first | refine ae (i := 4) rfl an rfl rfl (eSW rfl rfl rfl ?_) | refine ae (i := 4) rfl an rfl rfl (eSA rfl rfl rfl ?_)
      refine ⟨.inr (by first | exact Keeps.refl | exact Keeps.nil | ((repeat (first | exact fun _ h => h | apply Keeps.cons | apply Keeps.app)) <;> fail) | (repeat (first | exact Keeps.nil | refine Keeps.one (by repeat (first | exact List.Mem.head _ | apply List.Mem.tail)) ?_))), ?_⟩
      first | refine ae (i := 5) rfl an rfl rfl (eSW rfl rfl rfl ?_) | refine ae (i := 5) rfl an rfl rfl (eSA rfl rfl rfl ?_)
      refine ⟨.inr (by first | exact Keeps.refl | exact Keeps.nil | ((repeat (first | exact fun _ h => h | apply Keeps.cons | apply Keeps.app)) <;> fail) | (repeat (first | exact Keeps.nil | refine Keeps.one (by repeat (first | exact List.Mem.head _ | apply List.Mem.tail)) ?_))), ?_⟩
      refine aq (i := 6) (y_assign rfl rfl) rfl an rfl rfl ?_
      refine az ?_
      refine thn_n <| W.ret ?_
      refine lvc (hv := rAgg (rAgg (rTmp rNil))) ⟨?_, by repeat (first | exact Shut.nil | refine Shut.cons rfl ?_)⟩
      have e : askE fs ss l ns = 0 := by simp only [askE]; rw [if_neg c16, hd, show k = ns.length by omega]; simp [badF]
      simp only [askV, e]; rfl
end Go.Mus

/- Sorting, by insertion. Conditions: none; over the given program. -/
namespace Go.Mus
set_option maxRecDepth 100000
set_option maxHeartbeats 4000000
theorem insSort_fn (main : Side) (h : Hp) (key : Int → Int) (xs : List Int) (v cmp : Value) (A : Frag) (hA : Os t_int rowI v xs A) (hn : xs.length ≤ 1000)
    (hc : ∀ h', Ext h h' → ∀ a b, a ∈ xs → b ∈ xs → PuV prog main cmp [I a, I b] h' (I (key a - key b))) :
    Fnc prog main n_slices_insertionSortCmpFunc_int #[v, I 0, I xs.length, cmp] h A (fun _ A' => ∃ B, Os t_int rowI v (isort key xs) B ∧ Sb B A') := by
  rcases hA with ⟨rfl, rfl, hsh⟩ | ⟨β, c, cap, J, rfl, rfl, h1, h2, h3, hsh⟩
  · refine Fnc.of_body at_slices_insertionSortCmpFunc_int rfl (by show 4 ≤ 53; decide) [(0, .slice none 0 0), (1, I 0), (2, I 0), (3, cmp)] ⟨rfl, rfl, rfl, rfl, trivial⟩ ?_
    refine W.seq <| W.region rfl <| qm rfl rfl rfl ?_
    first | refine oq (yadd rfl rfl rfl) rfl wn rfl rfl ?_ | refine oq (y_addw rfl rfl rfl) rfl wn rfl rfl ?_
    refine qs rfl rfl rfl <| Ops.nil <| thn_n <| W.block ?_
    refine W.loop (σ := Unit) (fun _ => True) (fun _ => [(8, I 1), (2, I 0)]) (fun _ => A) (fun _ => 0) () trivial ⟨rfl, rfl, trivial⟩ .refl ?_
    rintro ⟨⟩ -
    refine W.seq <| W.seq <| W.region rfl <| qm rfl rfl rfl <| qm rfl rfl rfl ?_
    refine oq (y_lss rfl rfl rfl) rfl wn rfl rfl ?_
    refine Ops.nil <| thn_n ?_
    refine W.condp rfl (fun c14 => ?_) (fun c14 => ?_)
    · exact absurd c14 (by decide)
    · refine W.exit <| thn_x <| thn_x <| blk_x ?_
      exact lvt ⟨A, .inl ⟨rfl, rfl, hsh⟩, .refl⟩
  · refine Fnc.of_body at_slices_insertionSortCmpFunc_int rfl (by show 4 ≤ 53; decide) [(0, .slice (some ⟨β, 0, none⟩) xs.length cap), (1, I 0), (2, I xs.length), (3, cmp)] ⟨rfl, rfl, rfl, rfl, trivial⟩ ?_
    refine W.seq <| W.region rfl <| qm rfl rfl rfl ?_
    first | refine oq (yadd rfl rfl rfl) rfl wn rfl rfl ?_ | refine oq (y_addw rfl rfl rfl) rfl wn rfl rfl ?_
    refine qs rfl rfl rfl <| Ops.nil <| thn_n <| W.block ?_
    refine W.loop2 (fun (i : Nat) (c1 : Array Value) => 1 ≤ i ∧ (i ≤ xs.length ∨ i = 1) ∧ Part c1 0 (flat rowI (isortN key xs (i - 1))) ∧ c1.size = cap * 1) (fun i c1 => [(8, I i), (0, .slice (some ⟨β, 0, none⟩) xs.length cap), (1, I 0), (2, I xs.length), (3, cmp)]) (fun i c1 => (β, .cells c1 t_int (0, 0)) :: J) (fun i _ => xs.length - i) 1 c ⟨Nat.le_refl _, .inr rfl, h3, h1⟩ ⟨rfl, rfl, rfl, rfl, rfl, trivial⟩ .refl ?_
    rintro i c1 ⟨hi1, hi2, hp, hs⟩
    refine W.seq <| W.seq <| W.region rfl <| qm rfl rfl rfl <| qm rfl rfl rfl ?_
    refine oq (y_lss rfl rfl rfl) rfl wn rfl rfl ?_
    refine Ops.nil <| thn_n ?_
    refine W.condp rfl (fun c14 => ?_) (fun c14 => ?_)
    · refine W.skip <| thn_n <| W.seq <| W.block <| W.seq <| W.region rfl <| qm rfl rfl rfl <| qs rfl rfl rfl <| Ops.nil <| thn_n ?_
      refine W.block ?_
      refine W.loop3 (fun (j : Nat) (c2 : Array Value) (ys : List Int) => j ≤ i ∧ ys.Perm xs ∧ sink key j ys = isortN key xs i ∧ Part c2 0 (flat rowI ys) ∧ c2.size = cap * 1) (fun j c2 ys => [(9, I j), (8, I i), (0, .slice (some ⟨β, 0, none⟩) xs.length cap), (1, I 0), (2, I xs.length), (3, cmp)]) (fun j c2 ys => (β, .cells c2 t_int (0, 0)) :: J) (fun j _ _ => j) i c1 (isortN key xs (i - 1)) ⟨Nat.le_refl _, isortN_perm _ _ _, (isortN_succ key xs hi1).symm, hp, hs⟩ ⟨rfl, rfl, rfl, rfl, rfl, rfl, trivial⟩ .refl ?_
      rintro j c2 ys ⟨hj, hper, hsk, hp2, hs2⟩
      have hlen : ys.length = xs.length := hper.length_eq
      refine W.seq <| W.seq ?_
      refine W.drawF (n := 17) rfl ?_
      refine aq (i := 0) (y_move rfl rfl) rfl an rfl rfl ?_
      refine aq (i := 1) (y_move rfl rfl) rfl an rfl rfl ?_
      refine aq (i := 2) (y_gtr rfl rfl rfl) rfl an rfl rfl ?_
      refine aq (i := 3) (y_move rfl rfl) rfl an rfl rfl ?_
      refine Any.ask (d' := 21) (fun a4_4 => ?_) (fun a4_4 => ?_)
      · obtain ⟨m, rfl⟩ : ∃ m, j = m + 1 := ⟨j - 1, by omega⟩
        obtain ⟨a, ha, -⟩ := has (show m < ys.length by omega)
        obtain ⟨b, hb, -⟩ := has (show m + 1 < ys.length by omega)
        have hca := hp2.getI ha
        have hcb := hp2.getI hb
        have hma : a ∈ xs := hper.subset (List.mem_of_getElem? ha)
        have hmb : b ∈ xs := hper.subset (List.mem_of_getElem? hb)
        refine aq (i := 4) (y_move rfl rfl) rfl (wantε_some rfl rfl rfl rfl) rfl rfl ?_
        refine aq (i := 5) (y_move rfl rfl) rfl (wantε_some rfl rfl rfl rfl) rfl rfl ?_
        refine aq (i := 6) (y_move rfl rfl) rfl (wantε_some rfl rfl rfl rfl) rfl rfl ?_
        first | refine aq (i := 7) (yix rfl rfl rfl) rfl (wantε_some rfl rfl rfl rfl) rfl rfl ?_ | refine aq (i := 7) (yixI rfl rfl rfl) rfl (wantε_some rfl rfl rfl rfl) rfl rfl ?_
        refine aq (i := 8) (yld rfl rfl) rfl (wantε_some rfl rfl rfl rfl) rfl rfl ?_
        refine aq (i := 9) (y_move rfl rfl) rfl (wantε_some rfl rfl rfl rfl) rfl rfl ?_
        refine aq (i := 10) (y_move rfl rfl) rfl (wantε_some rfl rfl rfl rfl) rfl rfl ?_
        refine aq (i := 11) (Yv.eq (ysub rfl rfl rfl) (show I _ = I ((m : Nat) : Int) by congr 1; omega)) rfl (wantε_some rfl rfl rfl rfl) rfl rfl ?_
        first | refine aq (i := 12) (yix rfl rfl rfl) rfl (wantε_some rfl rfl rfl rfl) rfl rfl ?_ | refine aq (i := 12) (yixI rfl rfl rfl) rfl (wantε_some rfl rfl rfl rfl) rfl rfl ?_
        refine aq (i := 13) (yld rfl rfl) rfl (wantε_some rfl rfl rfl rfl) rfl rfl ?_
        refine acv (i := 14) (fun h' hE _ => hc h' hE b a hmb hma) ?_
        refine aq (i := 15) (y_lss rfl rfl rfl) rfl (wantε_some rfl rfl rfl rfl) rfl rfl ?_
        refine aq (i := 16) (y_pickT rfl rfl rfl) rfl an rfl rfl ?_
        refine az ?_
        refine thn_n ?_
        refine W.condp rfl (fun c34 => ?_) (fun c34 => ?_)
        · refine W.skip <| thn_n <| W.seq <| W.block ?_
          refine W.drawL [] (n := 18) rfl ?_
          refine aq (i := 0) (y_move rfl rfl) rfl an rfl rfl ?_
          refine aq (i := 1) (y_move rfl rfl) rfl an rfl rfl ?_
          refine aq (i := 2) (y_move rfl rfl) rfl an rfl rfl ?_
          refine aq (i := 3) (y_move rfl rfl) rfl an rfl rfl ?_
          refine aq (i := 4) (Yv.eq (ysub rfl rfl rfl) (show I _ = I ((m : Nat) : Int) by congr 1; omega)) rfl an rfl rfl ?_
          refine aq (i := 5) (y_move rfl rfl) rfl an rfl rfl ?_
          refine aq (i := 6) (y_move rfl rfl) rfl an rfl rfl ?_
          refine aq (i := 7) (Yv.eq (ysub rfl rfl rfl) (show I _ = I ((m : Nat) : Int) by congr 1; omega)) rfl an rfl rfl ?_
          refine aq (i := 8) (yix rfl rfl rfl) rfl an rfl rfl ?_
          refine aq (i := 10) (y_move rfl rfl) rfl an rfl rfl ?_
          refine aq (i := 11) (y_move rfl rfl) rfl an rfl rfl ?_
          refine aq (i := 12) (yix rfl rfl rfl) rfl an rfl rfl ?_
          refine a2 (i := 9) (j := 13) rfl rfl (yld rfl rfl) (yld rfl rfl) (yld rfl rfl) (yld rfl rfl) an an an an rfl rfl rfl rfl ?_
          refine aq (i := 14) (yix rfl rfl rfl) rfl an rfl rfl ?_
          refine ae (i := 15) rfl an rfl rfl (eS rfl rfl rfl ?_)
          refine ⟨.inr (fun _ h => by cases h), ?_⟩
          refine aq (i := 16) (yix rfl rfl rfl) rfl an rfl rfl ?_
          refine ae (i := 17) rfl an rfl rfl (eS rfl rfl rfl ?_ (hc := by rw [Array.size_setIfInBounds]; omega))
          refine ⟨.inr (fun _ h => by cases h), ?_⟩
          refine az ?_
          refine blk_n <| thn_n <| W.region rfl <| qm rfl rfl rfl ?_
          first | refine oq (ysub rfl rfl rfl) rfl wn rfl rfl ?_ | refine oq (y_subw rfl rfl rfl) rfl wn rfl rfl ?_
          refine qs rfl rfl rfl <| Ops.nil <| thn_n ?_
          refine ⟨rfl, m, _, swp ys m a b, ⟨by omega, (swp_perm ha hb).trans hper, ?_, (hp2.setI (j := m + 1) (a := a) (by omega)).setI (j := m) (a := b) (by simp; omega), by simpa using hs2⟩, by omega, ⟨lk rfl (show I _ = I ((m : Nat) : Int) by congr 1; omega), rfl, rfl, rfl, rfl, rfl, trivial⟩, .of_perm (by simp)⟩
          rw [← hsk]; simp only [sink, ha, hb]; rw [if_pos c34]
        · refine W.exit <| thn_x <| thn_x <| blk_x <| blk_n <| thn_n <| W.region rfl <| qm rfl rfl rfl ?_
          first | refine oq (yadd rfl rfl rfl) rfl wn rfl rfl ?_ | refine oq (y_addw rfl rfl rfl) rfl wn rfl rfl ?_
          refine qs rfl rfl rfl <| Ops.nil <| thn_n ?_
          have hys : ys = isortN key xs i := by
            rw [← hsk]
            first
            | (have : j = 0 := by omega
               subst this; rfl)
            | (simp only [sink, ha, hb]; rw [if_neg c34])
          subst hys
          exact ⟨rfl, i + 1, c2, ⟨by omega, .inl (by omega), hp2, hs2⟩, by omega, ⟨rfl, rfl, rfl, rfl, rfl, trivial⟩, .refl⟩
      · refine ap (i := 4) rfl rfl rfl rfl rfl rfl ?_
        refine ap (i := 5) rfl rfl rfl rfl rfl rfl ?_
        refine ap (i := 6) rfl rfl rfl rfl rfl rfl ?_
        refine ap (i := 7) rfl rfl rfl rfl rfl rfl ?_
        refine ap (i := 8) rfl rfl rfl rfl rfl rfl ?_
        refine ap (i := 9) rfl rfl rfl rfl rfl rfl ?_
        refine ap (i := 10) rfl rfl rfl rfl rfl rfl ?_
        refine ap (i := 11) rfl rfl rfl rfl rfl rfl ?_
        refine ap (i := 12) rfl rfl rfl rfl rfl rfl ?_
        refine ap (i := 13) rfl rfl rfl rfl rfl rfl ?_
        refine ap (i := 14) rfl rfl rfl rfl rfl rfl ?_
        refine ap (i := 15) rfl rfl rfl rfl rfl rfl ?_
        refine aq (i := 16) (y_pickF rfl rfl rfl) rfl an rfl rfl ?_
        refine az ?_
        refine thn_n ?_
        refine W.condF ?_
        refine W.exit <| thn_x <| thn_x <| blk_x <| blk_n <| thn_n <| W.region rfl <| qm rfl rfl rfl ?_
        first | refine oq (yadd rfl rfl rfl) rfl wn rfl rfl ?_ | refine oq (y_addw rfl rfl rfl) rfl wn rfl rfl ?_
        refine qs rfl rfl rfl <| Ops.nil <| thn_n ?_
        have hys : ys = isortN key xs i := by
          rw [← hsk]
          first
          | (have : j = 0 := by omega
             subst this; rfl)
          | (simp only [sink, ha, hb]; rw [if_neg c34])
        subst hys
        exact ⟨rfl, i + 1, c2, ⟨by omega, .inl (by omega), hp2, hs2⟩, by omega, ⟨rfl, rfl, rfl, rfl, rfl, trivial⟩, .refl⟩
    · refine W.exit <| thn_x <| thn_x <| blk_x ?_
      refine lvt ⟨_, .inr ⟨β, c1, cap, J, ?_, rfl, hs, ?_, ?_, hsh⟩, .refl⟩
      · rw [isort, isortN_len]
      · rw [isort, isortN_len]; exact h2
      · have : i - 1 = xs.length - 1 := by omega
        rw [this] at hp
        exact hp
end Go.Mus

/- The strikes of a floor, in the order of their days. Conditions: none; over the given program. -/
namespace Go.Mus
set_option maxRecDepth 100000
set_option maxHeartbeats 4000000
theorem stable_fn (main : Side) (h : Hp) (key : Int → Int) (xs : List Int) (v cmp : Value) (A : Frag) (hA : Os t_int rowI v xs A) (hn : xs.length ≤ 19)
    (hc : ∀ h', Ext h h' → ∀ a b, a ∈ xs → b ∈ xs → PuV prog main cmp [I a, I b] h' (I (key a - key b))) :
    Fnc prog main n_slices_stableCmpFunc_int #[v, I xs.length, cmp] h A (fun _ A' => ∃ B, Os t_int rowI v (isort key xs) B ∧ Sb B A') := by
  refine Fnc.of_body at_slices_stableCmpFunc_int rfl (by show 3 ≤ 63; decide) [(0, v), (1, I xs.length), (2, cmp)] ⟨rfl, rfl, rfl, trivial⟩ ?_
  refine W.seq <| W.region rfl <| qs rfl rfl rfl <| Ops.nil <| thn_n <| W.seq <| W.region rfl <| qm rfl rfl rfl <| qs rfl rfl rfl <| qs rfl rfl rfl ?_
  refine Ops.nil <| thn_n <| W.seq <| W.block ?_
  refine W.loop (σ := Unit) (fun _ => True) (fun _ => [(8, I 20), (7, I 0), (6, I 20), (0, v), (1, I xs.length), (2, cmp)]) (fun _ => A) (fun _ => 0) () trivial ⟨rfl, rfl, rfl, rfl, rfl, rfl, trivial⟩ .refl ?_
  rintro ⟨⟩ -
  refine W.seq <| W.seq <| W.region rfl <| qm rfl rfl rfl <| qm rfl rfl rfl ?_
  refine oq (y_leq rfl rfl rfl) rfl wn rfl rfl ?_
  refine Ops.nil <| thn_n ?_
  refine W.condp rfl (fun c13 => ?_) (fun c13 => ?_)
  · exact absurd c13 (by omega)
  · refine W.exit <| thn_x <| thn_x <| blk_x <| thn_n <| W.seq <| W.region rfl <| qm rfl rfl rfl <| qm rfl rfl rfl <| qm rfl rfl rfl ?_
    refine qm rfl rfl rfl ?_
    refine cga (fun h' hE => insSort_fn _ h' key xs v cmp A hA (by omega) fun h2 e => hc h2 (hE.trans e)) (fun _ A' hv => ?_)
    refine Ops.nil <| thn_n <| W.block ?_
    refine W.loop (σ := Unit) (fun _ => True) (fun _ => [(6, I 20), (1, I xs.length)]) (fun _ => A') (fun _ => 0) () trivial ⟨rfl, rfl, trivial⟩ .refl ?_
    rintro ⟨⟩ -
    refine W.seq <| W.seq <| W.region rfl <| qm rfl rfl rfl <| qm rfl rfl rfl ?_
    refine oq (y_lss rfl rfl rfl) rfl wn rfl rfl ?_
    refine Ops.nil <| thn_n ?_
    refine W.condp rfl (fun c30 => ?_) (fun c30 => ?_)
    · exact absurd c30 (by omega)
    · refine W.exit <| thn_x <| thn_x <| blk_x ?_
      exact lvt hv

theorem sortStable_fn (main : Side) (h : Hp) (key : Int → Int) (xs : List Int) (v cmp : Value) (A : Frag) (hA : Os t_int rowI v xs A) (hn : xs.length ≤ 19)
    (hc : ∀ h', Ext h h' → ∀ a b, a ∈ xs → b ∈ xs → PuV prog main cmp [I a, I b] h' (I (key a - key b))) :
    Fnc prog main n_slices_SortStableFunc_int #[v, cmp] h A (fun _ A' => ∃ B, Os t_int rowI v (isort key xs) B ∧ Sb B A') := by
  obtain ⟨a, cap, rfl⟩ := hA.isSl
  refine Fnc.of_body at_slices_SortStableFunc_int rfl (by show 2 ≤ 9; decide) [(0, .slice a xs.length cap), (1, cmp)] ⟨rfl, rfl, trivial⟩ ?_
  refine W.region rfl <| qm rfl rfl rfl <| qm rfl rfl rfl ?_
  refine oq (y_len rfl rfl) rfl wn rfl rfl ?_
  refine qm rfl rfl rfl ?_
  refine cga (fun h' hE => stable_fn _ h' key xs _ cmp A hA hn fun h2 e => hc h2 (hE.trans e)) (fun _ A' hv => ?_)
  refine Ops.nil ?_
  exact lvt hv

theorem cmp_fn (main : Side) (h : Hp) (p : List Be) (hp : PlOK p) (bp : Nat) (E : TypeId) (fz : Nat × Nat) (hb : h bp = some (.cells (flat Be.row p).toArray E fz)) (a b : Int) (ha : 0 ≤ a ∧ a < 4) (hb' : 0 ≤ b ∧ b < 4) :
    PuV prog main (.func (.func n_floor_hall_set_1_1) #[] #[.pointer (some ⟨bp, 0, none⟩)]) [I a, I b] h (I (dayOf p a - dayOf p b)) := by
  refine CallV.of_fn (f := n_floor_hall_set_1_1) (fi := []) (ca := [.pointer (some ⟨bp, 0, none⟩)]) ?_
  have h8 : (flat Be.row p).toArray.size = 8 := by simp [flat_len, hp.len]
  have pa := beAt_some hp (i := a.toNat) (by omega)
  have pb := beAt_some hp (i := b.toNat) (by omega)
  have hP : Part (flat Be.row p).toArray 0 (flat Be.row p) := Part.all _
  have la : (flat Be.row p).toArray[0 + a.toNat * 2 + 1]? = some (I (dayOf p a)) := by have := hP.rowG pa.1 1 (by decide); simpa [Be.row, dayOf] using this
  have lb : (flat Be.row p).toArray[0 + b.toNat * 2 + 1]? = some (I (dayOf p b)) := by have := hP.rowG pb.1 1 (by decide); simpa [Be.row, dayOf] using this
  have da : 0 ≤ dayOf p a ∧ dayOf p a ≤ 17 := pa.2.2.2
  have db : 0 ≤ dayOf p b ∧ dayOf p b ≤ 17 := pb.2.2.2
  refine Fnc.of_body at_floor_hall_set_1_1 rfl (by show 3 ≤ 15; decide) [(0, I a), (1, I b), (2, .pointer (some ⟨bp, 0, none⟩))] ⟨rfl, rfl, rfl, trivial⟩ ?_
  refine W.seq <| W.region rfl <| qs rfl rfl rfl <| Ops.nil <| thn_n <| W.seq ?_
  refine W.drawF (n := 10) rfl ?_
  refine aq (i := 0) (y_move rfl rfl) rfl an rfl rfl ?_
  first | refine aq (i := 1) (yixA rfl rfl rfl) rfl an rfl rfl ?_ | refine aq (i := 1) (yixAI rfl rfl rfl) rfl an rfl rfl ?_
  refine aq (i := 2) (y_fieldAddr rfl rfl) rfl an rfl rfl ?_
  refine aq (i := 3) (yld rfl rfl) rfl an rfl rfl ?_
  refine aq (i := 4) (y_move rfl rfl) rfl an rfl rfl ?_
  first | refine aq (i := 5) (yixA rfl rfl rfl) rfl an rfl rfl ?_ | refine aq (i := 5) (yixAI rfl rfl rfl) rfl an rfl rfl ?_
  refine aq (i := 6) (y_fieldAddr rfl rfl) rfl an rfl rfl ?_
  refine aq (i := 7) (yld rfl rfl) rfl an rfl rfl ?_
  first | refine aq (i := 8) (ysub rfl rfl rfl) rfl an rfl rfl ?_ | refine aq (i := 8) (y_subw rfl rfl rfl) rfl an rfl rfl ?_
  refine aq (i := 9) (y_assign rfl rfl) rfl an rfl rfl ?_
  refine az ?_
  refine thn_n <| W.ret ?_
  refine lvp rfl

/-- 'set' of a plan and a floor, as a function value. -/
abbrev setV (b4 b5 : Nat) : Value := .func (.func n_floor_hall_set_1) #[] #[.pointer (some ⟨b4, 0, none⟩), .pointer (some ⟨b5, 0, none⟩)]
theorem set1_iter (main : Side) (h : Hp) (p : List Be) (hp : PlOK p) (f : Int) (b4 b5 : Nat) (E4 E5 : TypeId) (z4 z5 : Nat × Nat) (h4 : h b4 = some (.cells (flat Be.row p).toArray E4 z4)) (h5 : h b5 = some (.cells #[I f] E5 z5)) : Iter prog main (setV b4 b5) I (setL p f) h := by
  intro h' hE0 yv hy1 σ nx step J K hy s A hal hJ
  have h4' := hE0.1 _ _ h4
  have h5' := hE0.1 _ _ h5
  have hsz := plan_sz hp
  refine CallV.of_fn (f := n_floor_hall_set_1) (fi := []) (ca := [.pointer (some ⟨b4, 0, none⟩), .pointer (some ⟨b5, 0, none⟩)]) ?_
  refine Fnc.of_body at_floor_hall_set_1 rfl (by show 3 ≤ 37; decide) [(0, yv), (1, .pointer (some ⟨b4, 0, none⟩)), (2, .pointer (some ⟨b5, 0, none⟩))] ⟨rfl, rfl, rfl, trivial⟩ ?_
  refine W.seq <| W.region rfl <| qs rfl rfl rfl <| Ops.nil <| thn_n <| W.seq <| W.seq <| W.region rfl ?_
  first | refine oq (yldW rfl rfl) rfl wn rfl rfl ?_ | refine oq (yldA rfl rfl) rfl wn rfl rfl ?_
  refine qm rfl rfl rfl <| Ops.nil <| thn_n <| W.block ?_
  refine W.loop3 (fun (k : Nat) (v : Value) (S : Frag) => k ≤ 4 ∧ Os t_int rowI v (onFk p f k) S) (fun k v S => [(10, I k), (9, planV p), (4, v), (0, yv), (1, .pointer (some ⟨b4, 0, none⟩)), (2, .pointer (some ⟨b5, 0, none⟩))]) (fun k v S => S ++ A) (fun k _ _ => 4 - k) 0 (.slice none 0 0) [] ⟨Nat.zero_le _, .nil .nil⟩ ⟨rfl, rfl, rfl, rfl, rfl, rfl, trivial⟩ .refl ?_
  rintro k v S ⟨hk, hS⟩
  refine W.seq <| W.region rfl ?_
  refine oq (y_lss rfl rfl rfl) rfl wn rfl rfl ?_
  refine Ops.nil <| thn_n <| W.seq ?_
  refine W.condp rfl (fun c11 => ?_) (fun c11 => ?_)
  · have hk4 : k < 4 := by omega
    have hx : (flat Be.row p).toArray.extract ((k : Int).toNat * 2) ((k : Int).toNat * 2 + 2) = #[I (beAt p k).fl, I (beAt p k).day] := plan_ex hp hk4
    refine W.skip <| thn_n <| W.seq <| W.block <| W.seq <| W.region rfl <| qm rfl rfl rfl ?_
    first | refine oq (y_index rfl rfl rfl (by omega) (by omega) (by first | assumption | rfl)) rfl wn rfl rfl ?_ | refine oq (y_indexA rfl rfl rfl (by omega) (by omega) (by first | assumption | rfl)) rfl wn rfl rfl ?_
    refine Ops.new (fun β6 => ?_)
    refine qs rfl rfl rfl ?_
    first | refine Ops.stoW ?_ | refine Ops.stoA ?_
    refine Ops.nil <| thn_n <| W.seq <| W.region rfl ?_
    refine oq (y_fieldAddr rfl rfl) rfl wn rfl rfl ?_
    refine oq (yld rfl rfl) rfl wn rfl rfl ?_
    refine oq (yld rfl rfl) rfl wn rfl rfl ?_
    refine oq (y_eql rfl rfl rfl) rfl wn rfl rfl ?_
    refine Ops.nil <| thn_n ?_
    refine W.condp rfl (fun c17 => ?_) (fun c17 => ?_)
    · refine W.region rfl <| qm rfl rfl rfl <| qm rfl rfl rfl ?_
      refine Ops.bsl (cs := #[I k]) (fun β20 => ?_) rfl
      refine oe rfl wn rfl rfl (e_append (row := rowI) (l' := [(k : Int)]) rfl rfl rfl hS (.tail (.tail .head)) (fun h2 _ hl => Sl.mk (hl β20 _ (.head _)) rfl (Part.all [I k])) (by have := onFk_len (p := p) (f := f) k; simp; omega) (by decide) rfl (fun v' S' hS' => ?_))
      refine qs rfl rfl rfl <| Ops.nil <| blk_n <| thn_n <| W.region rfl ?_
      first | refine oq (yadd rfl rfl rfl) rfl wn rfl rfl ?_ | refine oq (y_addw rfl rfl rfl) rfl wn rfl rfl ?_
      refine qm rfl rfl rfl <| Ops.nil <| thn_n ?_
      first
      | exact ⟨rfl, k + 1, v', S', ⟨by omega, by simp only [onFk]; rw [if_pos c17]; exact hS'⟩, by omega, ⟨rfl, rfl, rfl, rfl, rfl, rfl, trivial⟩, sbA⟩
      | exact ⟨rfl, k + 1, v, S, ⟨by omega, by simp only [onFk]; rw [if_neg c17]; exact hS⟩, by omega, ⟨rfl, rfl, rfl, rfl, rfl, rfl, trivial⟩, sbA⟩
    · refine W.skip <| blk_n <| thn_n <| W.region rfl ?_
      first | refine oq (yadd rfl rfl rfl) rfl wn rfl rfl ?_ | refine oq (y_addw rfl rfl rfl) rfl wn rfl rfl ?_
      refine qm rfl rfl rfl <| Ops.nil <| thn_n ?_
      first
      | exact ⟨rfl, k + 1, v', S', ⟨by omega, by simp only [onFk]; rw [if_pos c17]; exact hS'⟩, by omega, ⟨rfl, rfl, rfl, rfl, rfl, rfl, trivial⟩, sbA⟩
      | exact ⟨rfl, k + 1, v, S, ⟨by omega, by simp only [onFk]; rw [if_neg c17]; exact hS⟩, by omega, ⟨rfl, rfl, rfl, rfl, rfl, rfl, trivial⟩, sbA⟩
  · have : k = 4 := by omega
    subst this
    refine W.exit <| thn_x <| thn_x <| blk_x <| thn_n <| W.seq <| W.region rfl <| qm rfl rfl rfl ?_
    refine oq (y_func rfl rfl rfl) rfl wn rfl rfl ?_
    refine cg .head (fun h2 hE hL => sortStable_fn _ h2 (dayOf p) _ v _ S hS (by have := onFk_len (p := p) (f := f) 4; omega) fun h3 e a b ha hb => cmp_fn _ h3 p hp b4 E4 z4 (e.1 _ _ (hE.1 _ _ h4')) a b (onFk_lt ha) (onFk_lt hb)) (fun _ S1 hS1 => ?_)
    obtain ⟨S2, hS2, hsb⟩ := hS1
    refine Ops.sb (hsb.app .refl) ?_
    have hlen := setL_len (p := p) (f := f)
    obtain ⟨a2, cap2, rfl⟩ := hS2.isSl
    change Os t_int rowI _ (setL p f) S2 at hS2
    refine Ops.nil <| thn_n <| W.seq <| W.region rfl <| qm rfl rfl rfl ?_
    refine oq (y_len rfl rfl) rfl wn rfl rfl ?_
    refine qm rfl rfl rfl <| Ops.nil <| thn_n <| W.block ?_
    refine W.loop3 (fun (k : Nat) (t : σ) (B : Frag) => k ≤ (setL p f).length ∧ J t B ∧ Far step s (setL p f) t ((setL p f).drop k)) (fun k t B => [(28, I k), (27, I (setL p f).length), (26, .slice a2 (setL p f).length cap2), (0, yv)]) (fun k t B => B ++ S2) (fun k _ _ => (setL p f).length - k) 0 s A ⟨Nat.zero_le _, hJ, .zero⟩ ⟨rfl, rfl, rfl, rfl, trivial⟩ (.of_perm List.perm_append_comm) ?_
    rintro k t B ⟨hk, hB, hr⟩
    refine W.seq <| W.region rfl ?_
    refine oq (y_lss rfl rfl rfl) rfl wn rfl rfl ?_
    refine Ops.nil <| thn_n <| W.seq ?_
    refine W.condp rfl (fun c29 => ?_) (fun c29 => ?_)
    · obtain ⟨a, ha, hdr⟩ := has (show k < (setL p f).length by omega)
      rw [hdr] at hr
      rcases id hS2 with ⟨hnil, _, _⟩ | ⟨β, c, cap, J2, hv2, rfl, hc1, hc2, hP, hJ2⟩
      · rw [hnil] at ha; simp at ha
      obtain ⟨rfl, -⟩ : a2 = some ⟨β, 0, none⟩ ∧ True := by cases hv2; exact ⟨rfl, trivial⟩
      have hca := hP.getI ha
      refine W.skip <| thn_n <| W.seq <| W.block <| W.seq <| W.region rfl ?_
      first | refine oq (yix rfl rfl rfl) rfl wn rfl rfl ?_ | refine oq (yixI rfl rfl rfl) rfl wn rfl rfl ?_
      refine oq (yld rfl rfl (.inr fun _ e => by subst e; simp; exact .inr (.inl ⟨rfl, rfl⟩)) hca) rfl wn rfl rfl ?_
      refine qs rfl rfl rfl <| Ops.nil <| thn_n <| W.seq <| W.region rfl <| qm rfl rfl rfl <| qm rfl rfl rfl ?_
      refine cgv .head (fun h2 hE hL => hy h2 hE t a B (hal.far hr) hB) (fun r B1 hr1 => ?_)
      obtain ⟨rfl, B2, hsb2, hB2⟩ := hr1
      refine Ops.sb (hsb2.app .refl) ?_
      refine oq (y_not rfl rfl) rfl wn rfl rfl ?_
      refine Ops.nil <| thn_n ?_
      refine W.cond rfl (fun c35 => ?_) (fun c35 => ?_)
      · refine W.ret <| blk_r <| thn_r <| thn_r <| blk_r ?_
        have e : (step t a).2 = false := by simpa using c35
        obtain ⟨t', ht⟩ : ∃ t', step t a = (t', false) := ⟨(step t a).1, by rw [← e]⟩
        rw [ht] at hB2
        refine lvt ⟨B2, .right .refl hS2.shut, ?_⟩
        rw [hr.eq]
        simp only [runs, ht]
        exact hB2
      · refine W.skip <| blk_n <| thn_n <| W.region rfl ?_
        first | refine oq (yadd rfl rfl rfl) rfl wn rfl rfl ?_ | refine oq (y_addw rfl rfl rfl) rfl wn rfl rfl ?_
        refine qm rfl rfl rfl <| Ops.nil <| thn_n ?_
        have e : (step t a).2 = true := by simpa using c35
        obtain ⟨t', ht⟩ : ∃ t', step t a = (t', true) := ⟨(step t a).1, by rw [← e]⟩
        rw [ht] at hB2
        exact ⟨rfl, k + 1, t', B2, ⟨by omega, hB2, hr.next ht⟩, by omega, ⟨rfl, rfl, rfl, rfl, trivial⟩, .refl⟩
    · refine W.exit <| thn_x <| thn_x <| blk_x ?_
      refine lvt ⟨B, .right .refl hS2.shut, ?_⟩
      rw [hr.eq, show k = (setL p f).length by omega, List.drop_length]
      exact hB

theorem set_fn (main : Side) (h : Hp) (p : List Be) (f : Int) (vf vs : Value) (h1 : one vf = true) (h2 : one vs = true) : Fnc prog main n_floor_hall_set #[.agg #[vf, vs], planV p, I f] h [] (fun v A => ∃ b4 b5 b3, v = setV b4 b5 ∧ A = [(b5, .cells #[I f] t_int (0, 0)), (b4, .cells (flat Be.row p).toArray t_plan (0, 0)), (b3, .cells #[vf, vs] t_hall (0, 0))]) := by
  refine Fnc.of_body at_floor_hall_set rfl (by show 3 ≤ 8; decide) [(0, .agg #[vf, vs]), (1, planV p), (2, I f)] ⟨rfl, rfl, rfl, trivial⟩ ?_
  refine W.seq <| W.region rfl ?_
  refine Ops.box (fun β3 => ?_)
  refine Ops.box (fun β4 => ?_)
  refine Ops.box (fun β5 => ?_)
  refine qs rfl rfl rfl <| Ops.nil <| thn_n <| W.seq <| W.region rfl ?_
  refine oq (y_func rfl rfl rfl) rfl wn rfl rfl ?_
  refine qs rfl rfl rfl <| Ops.nil <| thn_n <| W.ret ?_
  exact lvt ⟨_, _, _, rfl, rfl⟩
end Go.Mus

/- What stands on a floor. Conditions: none; over the given program. -/
namespace Go.Mus
set_option maxRecDepth 100000
set_option maxHeartbeats 4000000
instance tiDays : TI prog t_days 44 352 (.agg (flat Sp.row days0).toArray) (flat Sp.row days0).toArray := ⟨by kernel_rfl, rfl⟩

theorem stands_fn (main : Side) (h : Hp) (fs : List Fl) (ss : List St) (p : List Be) (f : Int) (vf vs : Value) (hf : Sl h Fl.row vf fs) (hs : Sl h St.row vs ss) (hall : HallOK fs ss) (hp : PlanOf fs ss p) (hf0 : 0 ≤ f) (hf1 : f < fs.length) : Pu prog main n_floor_hall_stands #[.agg #[vf, vs], planV p, I f] h (daysV (standsD fs ss p f)) := by
  obtain ⟨a, cap, rfl⟩ := hf.isSl
  obtain ⟨a', cap', rfl⟩ := hs.isSl
  obtain ⟨fl, hfl, -⟩ := has (show f.toNat < fs.length by omega)
  have hfe : flAt fs f = fl := by simp [flAt, List.getD, hfl]
  have hflo := hall.fl fl (List.mem_of_getElem? hfl)
  obtain ⟨b, off, c, E, fz, rfl, hb, hx, hy, hz⟩ := hf.at hfl
  have hz1 : c[off + f.toNat * 4 + 1]? = some (I fl.lo) := hz 1 (by decide)
  have hz2 : c[off + f.toNat * 4 + 2]? = some (I fl.hi) := hz 2 (by decide)
  have hsp : c.extract (off + f.toNat * 4 + 1) (off + f.toNat * 4 + 1 + 2) = #[I fl.lo, I fl.hi] := by
    apply Array.ext
    · simp; omega
    · intro i h1 h2
      simp at h2
      have : c[off + f.toNat * 4 + 1 + i]? = #[I fl.lo, I fl.hi][i]? := by
        rcases (by omega : i = 0 ∨ i = 1) with rfl | rfl
        · simpa using hz1
        · simpa using hz2
      rw [← Option.some_inj, ← Array.getElem?_eq_getElem, ← Array.getElem?_eq_getElem, ← this, Array.getElem?_extract]
      simp; omega
  have hsz := plan_sz hp.ok
  refine Fnc.of_body at_floor_hall_stands rfl (by show 3 ≤ 71; decide) [(0, .agg #[.slice (some ⟨b, off, none⟩) fs.length cap, .slice a' ss.length cap']), (1, planV p), (2, I f)] ⟨rfl, rfl, rfl, trivial⟩ ?_
  refine W.seq <| W.region rfl ?_
  refine Ops.box (fun β3 => ?_)
  refine Ops.box (fun β4 => ?_)
  refine Ops.new (fun β6 => ?_)
  refine Ops.nil <| thn_n <| W.seq <| W.region rfl ?_
  refine Ops.new (fun β7 => ?_)
  refine Ops.nil <| thn_n <| W.seq <| W.region rfl ?_
  refine oq (y_fieldAddr rfl rfl) rfl wn rfl rfl ?_
  refine oq (y_fieldAddr rfl rfl) rfl wn rfl rfl ?_
  refine oq (yld rfl rfl) rfl wn rfl rfl ?_
  refine qm rfl rfl rfl ?_
  first | refine oq (yix rfl rfl rfl) rfl wn rfl rfl ?_ | refine oq (yixI rfl rfl rfl) rfl wn rfl rfl ?_
  refine oq (y_fieldAddr rfl rfl) rfl wn rfl rfl ?_
  refine oq (yldA rfl rfl (.inl hb) (by omega) hsp) rfl wn rfl rfl ?_
  refine Ops.new (fun β8 => ?_)
  first | refine Ops.stoW ?_ | refine Ops.stoA ?_
  refine Ops.nil <| thn_n <| W.seq <| W.seq <| W.region rfl ?_
  first | refine oq (yldW rfl rfl) rfl wn rfl rfl ?_ | refine oq (yldA rfl rfl) rfl wn rfl rfl ?_
  first | refine oq (yldW rfl rfl) rfl wn rfl rfl ?_ | refine oq (yldA rfl rfl) rfl wn rfl rfl ?_
  refine qm rfl rfl rfl ?_
  refine c0 (fun h' hE hL => set_fn _ h' p f _ _ rfl rfl) (fun v A' hv => ?_)
  obtain ⟨b4, b5, b3, rfl, rfl⟩ := hv
  refine Ops.nil <| thn_n <| W.block ?_
  refine W.range (σ := List Sp) (X := Int) (enc := I) (xs := setL p f) rfl rfl rfl (fun d i => addSt (dayOf p i) fl.lo (coOf ss i) fl.hi.toNat 0 d) (fun _ _ => none) (fun d A => d.length = 22 ∧ A = [(β7, .cells (flat Sp.row d).toArray t_days (0, 0))]) days0 (.tail (.tail (.tail (.tail .head)))) ⟨rfl, rfl⟩ (fun h' hE hL => set1_iter _ h' p hp.ok f b4 b5 _ _ _ _ (hL b4 _ (by repeat (first | exact List.Mem.head _ | apply List.Mem.tail))) (hL b5 _ (by repeat (first | exact List.Mem.head _ | apply List.Mem.tail)))) (fun _ _ _ e => by cases e) ?_ ?_
  · rintro d i A hi ⟨hd, rfl⟩ l h1 hE1 hL1
    refine W.region rfl <| qs rfl rfl rfl <| Ops.nil ?_
    refine ⟨rfl, rfl, fun h0 hE0 hL0 => ?_⟩
    have h8 : h0 β8 = some (.cells #[I fl.lo, I fl.hi] t_Span (0, 0)) := hL0 _ _ (by repeat (first | exact List.Mem.head _ | apply List.Mem.tail))
    have h4 : h0 β4 = some (.cells (flat Be.row p).toArray t_plan (0, 0)) := hL0 _ _ (by repeat (first | exact List.Mem.head _ | apply List.Mem.tail))
    have h3 : h0 β3 = some (.cells #[.slice (some ⟨b, off, none⟩) fs.length cap, .slice a' ss.length cap'] t_hall (0, 0)) := hL0 _ _ (by repeat (first | exact List.Mem.head _ | apply List.Mem.tail))
    have hi4 := setL_lt hi
    obtain ⟨s, hsi, -⟩ := has (setL_st hp hf0 hi)
    have hco : coOf ss i = s.co := by simp [coOf, List.getD, hsi]
    obtain ⟨b2, off2, c2, E2, fz2, rfl, hb2, hx2, hy2, hw2⟩ := (hs.ext hE0).at hsi
    have hwc : c2[off2 + i.toNat * 3 + 1]? = some (I s.co) := hw2 1 (by decide)
    have hday : (flat Be.row p).toArray[0 + i.toNat * 2 + 1]? = some (I (dayOf p i)) := by have := (plan_at hp.ok (i := i.toNat) (by omega)).2; simpa [dayOf] using this
    have hilt : i < ss.length := by have := setL_st hp hf0 hi; omega
    have hd17 : 0 ≤ dayOf p i ∧ dayOf p i ≤ 17 := (beAt_some hp.ok (i := i.toNat) (by omega)).2.2.2
    refine W.block <| W.seq <| W.region rfl ?_
    refine oq (y_fieldAddr rfl rfl) rfl wn rfl rfl ?_
    refine oq (yld rfl rfl) rfl wn rfl rfl ?_
    refine qm rfl rfl rfl <| Ops.nil <| thn_n <| W.block ?_
    refine W.loop2 (fun (n : Nat) (d' : List Sp) => n ≤ fl.hi.toNat ∧ d'.length = 22 ∧ addSt (dayOf p i) fl.lo (coOf ss i) (fl.hi.toNat - n) n d' = addSt (dayOf p i) fl.lo (coOf ss i) fl.hi.toNat 0 d) (fun n d' => [(26, I n), (25, I fl.hi), (9, I i), (8, .pointer (some ⟨β8, 0, none⟩)), (7, .pointer (some ⟨β7, 0, none⟩)), (4, .pointer (some ⟨β4, 0, none⟩)), (3, .pointer (some ⟨β3, 0, none⟩))]) (fun n d' => [(β7, .cells (flat Sp.row d').toArray t_days (0, 0))]) (fun n _ => fl.hi.toNat - n) 0 d ⟨Nat.zero_le _, hd, rfl⟩ ⟨rfl, rfl, rfl, rfl, rfl, rfl, rfl, trivial⟩ .refl ?_
    rintro n d' ⟨hn, hd', hadd⟩
    refine W.seq <| W.region rfl ?_
    refine oq (y_lss rfl rfl rfl) rfl wn rfl rfl ?_
    refine Ops.nil <| thn_n <| W.seq ?_
    refine W.condp rfl (fun c27 => ?_) (fun c27 => ?_)
    · have hsz' := days_sz hd'
      obtain ⟨m, hm⟩ : ∃ m, fl.hi.toNat - n = m + 1 := ⟨fl.hi.toNat - n - 1, by omega⟩
      rw [hm] at hadd
      refine W.skip <| thn_n <| W.seq <| W.block <| W.seq <| W.region rfl <| qm rfl rfl rfl <| qs rfl rfl rfl <| Ops.nil <| thn_n ?_
      refine W.seq <| W.region rfl <| qm rfl rfl rfl ?_
      first | refine oq (yixA rfl rfl rfl) rfl wn rfl rfl ?_ | refine oq (yixAI rfl rfl rfl) rfl wn rfl rfl ?_
      refine oq (y_fieldAddr rfl rfl) rfl wn rfl rfl ?_
      refine oq (yld rfl rfl) rfl wn rfl rfl ?_
      refine qm rfl rfl rfl ?_
      first | refine oq (yadd rfl rfl rfl) rfl wn rfl rfl ?_ | refine oq (y_addw rfl rfl rfl) rfl wn rfl rfl ?_
      refine qs rfl rfl rfl <| Ops.nil <| thn_n <| W.seq <| W.seq <| W.region rfl <| qm rfl rfl rfl ?_
      refine oq (y_gtr rfl rfl rfl) rfl wn rfl rfl ?_
      refine Ops.nil <| thn_n ?_
      refine W.condp rfl (fun c36 => ?_) (fun c36 => ?_)
      · refine W.exit <| thn_x <| blk_o <| thn_x <| thn_x <| blk_x <| blk_n ?_
        have e : addSt (dayOf p i) fl.lo (coOf ss i) fl.hi.toNat 0 d = d' := by
          rw [← hadd]
          first
          | (simp only [addSt]; rw [if_pos c36])
          | (rw [show fl.hi.toNat - n = 0 by omega]; rfl)
        refine ⟨rfl, rfl, _, ⟨(addSt_len _ _ _).trans hd, rfl⟩, ?_⟩
        rw [e]
        exact .refl
      · obtain ⟨x, hx', -⟩ := has (show (dayOf p i + n).toNat < d'.length by omega)
        have hxa := days_at hx'
        have hxl := hxa.1
        have hxh := hxa.2
        refine W.skip <| thn_n <| W.seq ?_
        refine W.drawL [] (n := 15) rfl ?_
        refine aq (i := 0) (y_move rfl rfl) rfl an rfl rfl ?_
        first | refine aq (i := 1) (yixA rfl rfl rfl) rfl an rfl rfl ?_ | refine aq (i := 1) (yixAI rfl rfl rfl) rfl an rfl rfl ?_
        refine aq (i := 2) (y_fieldAddr rfl rfl) rfl an rfl rfl ?_
        refine aq (i := 4) (y_fieldAddr rfl rfl) rfl an rfl rfl ?_
        refine aq (i := 5) (y_fieldAddr rfl rfl) rfl an rfl rfl ?_
        refine aq (i := 6) (yld rfl rfl) rfl an rfl rfl ?_
        refine aq (i := 7) (y_move rfl rfl) rfl an rfl rfl ?_
        first | refine aq (i := 8) (yix rfl rfl rfl) rfl an rfl rfl ?_ | refine aq (i := 8) (yixI rfl rfl rfl) rfl an rfl rfl ?_
        refine aq (i := 9) (y_fieldAddr rfl rfl) rfl an rfl rfl ?_
        refine aq (i := 10) (yld rfl rfl) rfl an rfl rfl ?_
        refine ae (i := 3) rfl an rfl rfl (Ef.of_y (yld rfl rfl) ?_)
        refine ⟨.inr (by first | exact Keeps.refl | exact Keeps.nil | ((repeat (first | exact fun _ h => h | apply Keeps.cons | apply Keeps.app)) <;> fail) | (repeat (first | exact Keeps.nil | refine Keeps.one (by repeat (first | exact List.Mem.head _ | apply List.Mem.tail)) ?_))), ?_⟩
        first | refine aq (i := 11) (yadd rfl rfl rfl) rfl an rfl rfl ?_ | refine aq (i := 11) (y_addw rfl rfl rfl) rfl an rfl rfl ?_
        first | refine aq (i := 12) (yixA rfl rfl rfl) rfl an rfl rfl ?_ | refine aq (i := 12) (yixAI rfl rfl rfl) rfl an rfl rfl ?_
        refine aq (i := 13) (y_fieldAddr rfl rfl) rfl an rfl rfl ?_
        refine ae (i := 14) rfl an rfl rfl (eS rfl rfl rfl ?_)
        refine ⟨.inl (by kernel_rfl), ?_⟩
        refine az ?_
        refine thn_n <| W.seq ?_
        rw [flat_hi hx']
        refine W.region rfl <| qm rfl rfl rfl ?_
        refine oq (y_fieldAddr rfl rfl) rfl wn rfl rfl ?_
        refine oq (yld rfl rfl) rfl wn rfl rfl ?_
        refine oq (y_lss rfl rfl rfl) rfl wn rfl rfl ?_
        refine Ops.nil <| thn_n ?_
        refine W.condp rfl (fun c54 => ?_) (fun c54 => ?_)
        · have hx3 : (d'.set (dayOf p i + n).toNat ⟨x.lo, IntKind.i64.wrap (x.hi + s.co)⟩)[(dayOf p i + n).toNat]? = some ⟨x.lo, IntKind.i64.wrap (x.hi + s.co)⟩ := by rw [List.getElem?_set_self (by omega)]
          have hsz3 := days_sz (d := d'.set (dayOf p i + n).toNat ⟨x.lo, IntKind.i64.wrap (x.hi + s.co)⟩) (by simpa using hd')
          have hxl3 := (days_at hx3).1
          refine W.drawL [] (n := 15) rfl ?_
          refine aq (i := 0) (y_move rfl rfl) rfl an rfl rfl ?_
          first | refine aq (i := 1) (yixA rfl rfl rfl) rfl an rfl rfl ?_ | refine aq (i := 1) (yixAI rfl rfl rfl) rfl an rfl rfl ?_
          refine aq (i := 2) (y_fieldAddr rfl rfl) rfl an rfl rfl ?_
          refine aq (i := 4) (y_fieldAddr rfl rfl) rfl an rfl rfl ?_
          refine aq (i := 5) (y_fieldAddr rfl rfl) rfl an rfl rfl ?_
          refine aq (i := 6) (yld rfl rfl) rfl an rfl rfl ?_
          refine aq (i := 7) (y_move rfl rfl) rfl an rfl rfl ?_
          first | refine aq (i := 8) (yix rfl rfl rfl) rfl an rfl rfl ?_ | refine aq (i := 8) (yixI rfl rfl rfl) rfl an rfl rfl ?_
          refine aq (i := 9) (y_fieldAddr rfl rfl) rfl an rfl rfl ?_
          refine aq (i := 10) (yld rfl rfl) rfl an rfl rfl ?_
          refine ae (i := 3) rfl an rfl rfl (Ef.of_y (yld rfl rfl) ?_)
          refine ⟨.inr (by first | exact Keeps.refl | exact Keeps.nil | ((repeat (first | exact fun _ h => h | apply Keeps.cons | apply Keeps.app)) <;> fail) | (repeat (first | exact Keeps.nil | refine Keeps.one (by repeat (first | exact List.Mem.head _ | apply List.Mem.tail)) ?_))), ?_⟩
          first | refine aq (i := 11) (yadd rfl rfl rfl) rfl an rfl rfl ?_ | refine aq (i := 11) (y_addw rfl rfl rfl) rfl an rfl rfl ?_
          first | refine aq (i := 12) (yixA rfl rfl rfl) rfl an rfl rfl ?_ | refine aq (i := 12) (yixAI rfl rfl rfl) rfl an rfl rfl ?_
          refine aq (i := 13) (y_fieldAddr rfl rfl) rfl an rfl rfl ?_
          refine ae (i := 14) rfl an rfl rfl (eS rfl rfl rfl ?_)
          refine ⟨.inl (by kernel_rfl), ?_⟩
          refine az ?_
          refine blk_n <| thn_n ?_
          try rw [flat_lo hx3]
          refine W.region rfl ?_
          first | refine oq (yadd rfl rfl rfl) rfl wn rfl rfl ?_ | refine oq (y_addw rfl rfl rfl) rfl wn rfl rfl ?_
          refine qm rfl rfl rfl <| Ops.nil <| thn_n ?_
          have hb : addSt (dayOf p i) fl.lo (coOf ss i) m (n + 1) (bump d' (dayOf p i + n).toNat (decide ((n : Int) < fl.lo)) (coOf ss i)) = addSt (dayOf p i) fl.lo (coOf ss i) fl.hi.toNat 0 d := by
            rw [← hadd]; simp only [addSt]; rw [if_neg c36]
          have hm' : fl.hi.toNat - (n + 1) = m := by omega
          refine ⟨rfl, n + 1, bump d' (dayOf p i + n).toNat (decide ((n : Int) < fl.lo)) (coOf ss i), ⟨by omega, by rw [bump_len]; exact hd', by rw [hm']; exact hb⟩, by omega, ⟨rfl, rfl, rfl, rfl, rfl, rfl, rfl, trivial⟩, .of_perm ?_⟩
          simp only [bump, hx', hco, c54, decide_true, decide_false, if_true, Bool.false_eq_true, if_false, List.set_set]
          exact .refl _
        · refine W.skip <| blk_n <| thn_n ?_
          try rw [flat_lo hx3]
          refine W.region rfl ?_
          first | refine oq (yadd rfl rfl rfl) rfl wn rfl rfl ?_ | refine oq (y_addw rfl rfl rfl) rfl wn rfl rfl ?_
          refine qm rfl rfl rfl <| Ops.nil <| thn_n ?_
          have hb : addSt (dayOf p i) fl.lo (coOf ss i) m (n + 1) (bump d' (dayOf p i + n).toNat (decide ((n : Int) < fl.lo)) (coOf ss i)) = addSt (dayOf p i) fl.lo (coOf ss i) fl.hi.toNat 0 d := by
            rw [← hadd]; simp only [addSt]; rw [if_neg c36]
          have hm' : fl.hi.toNat - (n + 1) = m := by omega
          refine ⟨rfl, n + 1, bump d' (dayOf p i + n).toNat (decide ((n : Int) < fl.lo)) (coOf ss i), ⟨by omega, by rw [bump_len]; exact hd', by rw [hm']; exact hb⟩, by omega, ⟨rfl, rfl, rfl, rfl, rfl, rfl, rfl, trivial⟩, .of_perm ?_⟩
          simp only [bump, hx', hco, c54, decide_true, decide_false, if_true, Bool.false_eq_true, if_false, List.set_set]
          exact .refl _
    · refine W.exit <| thn_x <| thn_x <| blk_x <| blk_n ?_
      have e : addSt (dayOf p i) fl.lo (coOf ss i) fl.hi.toNat 0 d = d' := by
        rw [← hadd]
        first
        | (simp only [addSt]; rw [if_pos c36])
        | (rw [show fl.hi.toNat - n = 0 by omega]; rfl)
      refine ⟨rfl, rfl, _, ⟨(addSt_len _ _ _).trans hd, rfl⟩, ?_⟩
      rw [e]
      exact .refl
  · intro d e A he hA dd
    rw [runs_all] at he
    cases he
    obtain ⟨hd, rfl⟩ := hA
    refine blk_n <| thn_n <| W.seq ?_
    have hsz9 := days_sz hd
    have hon : ones (flat Sp.row (List.foldl (fun d i => addSt (dayOf p i) fl.lo (coOf ss i) fl.hi.toNat 0 d) days0 (setL p f))).toArray.toList = true := by simpa using flat_ones _
    refine W.region rfl ?_
    first | refine oq (yldW rfl rfl) rfl wn rfl rfl ?_ | refine oq (yldA rfl rfl) rfl wn rfl rfl ?_
    first | refine Ops.stoW ?_ | refine Ops.stoA ?_
    refine Ops.nil <| thn_n <| W.ret ?_
    refine lvm (hl := At.head) (lvc (hv := rAgg rNil) ⟨?_, by repeat (first | exact Shut.nil | refine Shut.cons rfl ?_)⟩)
    simp only [standsD, hfe]
    rfl
end Go.Mus

/- What is wrong on a floor. Conditions: none; over the given program. -/
namespace Go.Mus
set_option maxRecDepth 100000
set_option maxHeartbeats 4000000
instance mvFull : MV prog t_full "muscovado/floor.day" n_floor_full_day := MV.row (by kernel_rfl) (by kernel_rfl)
instance mvCold : MV prog t_cold "muscovado/floor.day" n_floor_cold_day := MV.row (by kernel_rfl) (by kernel_rfl)
instance : NI prog t_full := ⟨by kernel_rfl⟩
instance : NI prog t_cold := ⟨by kernel_rfl⟩
def faultV : Fault → Value
  | none => .nilIface
  | some (true, n) => .iface t_cold (.agg #[I n])
  | some (false, n) => .iface t_full (.agg #[I n])
theorem faultV_one (f : Fault) : one (faultV f) = true := by
  rcases f with _ | ⟨_ | _, n⟩ <;> rfl

theorem fullDay_fn (main : Side) (h : Hp) (n : Int) : Pu prog main n_floor_full_day #[.agg #[I n]] h (I n) := by
  refine Fnc.of_body at_floor_full_day rfl (by show 1 ≤ 5; decide) [(0, .agg #[I n])] ⟨rfl, trivial⟩ ?_
  refine W.seq <| W.region rfl ?_
  refine Ops.box (fun β1 => ?_)
  refine qs rfl rfl rfl <| Ops.nil <| thn_n <| W.seq <| W.region rfl ?_
  refine oq (y_fieldAddr rfl rfl) rfl wn rfl rfl ?_
  refine oq (yld rfl rfl) rfl wn rfl rfl ?_
  refine qs rfl rfl rfl <| Ops.nil <| thn_n <| W.ret ?_
  exact lvp rfl
theorem coldDay_fn (main : Side) (h : Hp) (n : Int) : Pu prog main n_floor_cold_day #[.agg #[I n]] h (I n) := by
  refine Fnc.of_body at_floor_cold_day rfl (by show 1 ≤ 5; decide) [(0, .agg #[I n])] ⟨rfl, trivial⟩ ?_
  refine W.seq <| W.region rfl ?_
  refine Ops.box (fun β1 => ?_)
  refine qs rfl rfl rfl <| Ops.nil <| thn_n <| W.seq <| W.region rfl ?_
  refine oq (y_fieldAddr rfl rfl) rfl wn rfl rfl ?_
  refine oq (yld rfl rfl) rfl wn rfl rfl ?_
  refine qs rfl rfl rfl <| Ops.nil <| thn_n <| W.ret ?_
  exact lvp rfl
section
variable {main : Side} {fn : FuncId} {m : Nat} {ro : Option Nat} {h : Hp} {Q : Post} {ρ : Env} {ds : List Deferred} {F : Frag} {ops : Array Oper} {i : Nat} {rest : List Nat} {d : Tmp} {ty : TypeId} {pos : String} {aft : Array Edge} {g : Option (Nat × Bool)} {L : Frag} {y : Operand} {c : Bool} {n : Int} {ts : Array TypeId}
theorem cday (K : Ops ⟨prog, main, fn, m, ro, h⟩ ops rest Q ((d, I n) :: ρ) ds F) (ho : nthO ops.toList i = some ⟨some d, .call ⟨.invoke y "muscovado/floor.day", #[], ts⟩, ty, pos, aft, g⟩ := by rfl) (hy : ev ρ y = some (faultV (some (c, n))) := by rfl) (hw : want ops ρ ⟨some d, .call ⟨.invoke y "muscovado/floor.day", #[], ts⟩, ty, pos, aft, g⟩ := by first | exact wn | exact want_some rfl rfl rfl) (hd : Nat.blt d m = true := by rfl) : Ops ⟨prog, main, fn, m, ro, h⟩ ops (i :: rest) Q ρ ds F := by
  cases c with
  | true => exact ci (args := []) (vs := []) (fun h' _ _ => coldDay_fn _ h' n) K ho hy rfl hw hd
  | false => exact ci (args := []) (vs := []) (fun h' _ _ => fullDay_fn _ h' n) K ho hy rfl hw hd
theorem acday {fuel listed : Nat} (K : Any ⟨prog, main, fn, m, ro, h⟩ ops L fuel (listed ||| 2 ^ i) Q ((d, I n) :: ρ) ds F) (hS : lastT ops i = true ∨ Keeps L F) (ho : nthO ops.toList i = some ⟨some d, .call ⟨.invoke y "muscovado/floor.day", #[], ts⟩, ty, pos, aft, g⟩ := by rfl) (hy : ev ρ y = some (faultV (some (c, n))) := by rfl)
    (hw : wantε ops (look ρ) ⟨some d, .call ⟨.invoke y "muscovado/floor.day", #[], ts⟩, ty, pos, aft, g⟩ true := by first | exact an | exact wantε_some rfl rfl rfl rfl) (hd : Nat.blt d m = true := by rfl) (hr : rdys ops listed = [i] := by kernel_rfl) : Any ⟨prog, main, fn, m, ro, h⟩ ops L (fuel + 1) listed Q ρ ds F := by
  cases c with
  | true => exact aci (args := []) (vs := []) (fun h' _ _ => coldDay_fn _ h' n) K hS ho hy rfl hw hd hr
  | false => exact aci (args := []) (vs := []) (fun h' _ _ => fullDay_fn _ h' n) K hS ho hy rfl hw hd hr
theorem y_nilB {x : Cx} {S : Frag → Prop} {o : Oper} {t t' : TypeId} {ms : Array (String × TypeId)} {y : Operand} {fd : Fault} (ho : o.op = .binOp .eql t y (.const .nilIface) t') [TD x.P t (.interface ms)] (hy : ev ρ y = some (faultV fd)) : Yv x S ρ o (.bool fd.isNone) := by
  rcases fd with _ | ⟨_ | _, n⟩
  · exact y_nilT ho hy
  · exact y_nilF ho hy
  · exact y_nilF ho hy
end
theorem fullF_drop {pl : Int} : ∀ {d : List Sp} {k j : Nat}, k ≤ d.length → (∀ i, i < k → ∀ s, d[i]? = some s → ¬ pl < s.hi) → fullF pl d j = fullF pl (d.drop k) (j + k)
  | d, 0, j, _, _ => rfl
  | [], k + 1, j, h, _ => by simp at h
  | s :: d, k + 1, j, h, hn => by
    have h0 := hn 0 (by omega) s rfl
    simp only [fullF, if_neg h0, List.drop_succ_cons]
    rw [fullF_drop (k := k) (j := j + 1) (by simpa using h) fun i hi s hs => hn (i + 1) (by omega) s (by simpa using hs)]
    congr 1; omega

theorem look_fn (main : Side) (h : Hp) (fs : List Fl) (ss : List St) (p : List Be) (f : Int) (vf vs : Value) (hf : Sl h Fl.row vf fs) (hs : Sl h St.row vs ss) (hall : HallOK fs ss) (hp : PlanOf fs ss p) (hf0 : 0 ≤ f) (hf1 : f < fs.length) : Pu prog main n_floor_hall_look #[.agg #[vf, vs], planV p, I f] h (faultV (lookF fs ss p f)) := by
  obtain ⟨a, cap, rfl⟩ := hf.isSl
  obtain ⟨a', cap', rfl⟩ := hs.isSl
  obtain ⟨fl, hfl, -⟩ := has (show f.toNat < fs.length by omega)
  have hfe : flAt fs f = fl := by simp [flAt, List.getD, hfl]
  have hflo := hall.fl fl (List.mem_of_getElem? hfl)
  obtain ⟨b, off, c, E, fz, rfl, hb, hx, hy, hz⟩ := hf.at hfl
  have hz0 : c[off + f.toNat * 4 + 0]? = some (I fl.pl) := hz 0 (by decide)
  have hz1 : c[off + f.toNat * 4 + 1 + 0]? = some (I fl.lo) := hz 1 (by decide)
  have hz3 : c[off + f.toNat * 4 + 3]? = some (I fl.co) := hz 3 (by decide)
  have hsz := plan_sz hp.ok
  obtain ⟨D, hD⟩ : ∃ D, D = standsD fs ss p f := ⟨_, rfl⟩
  have hDl : D.length = 22 := by rw [hD]; exact standsD_len
  have hDs := days_sz hDl
  have hDo : ones (flat Sp.row D).toArray.toList = true := by simpa using flat_ones _
  refine Fnc.of_body at_floor_hall_look rfl (by show 3 ≤ 90; decide) [(0, .agg #[.slice (some ⟨b, off, none⟩) fs.length cap, .slice a' ss.length cap']), (1, planV p), (2, I f)] ⟨rfl, rfl, rfl, trivial⟩ ?_
  refine W.seq <| W.region rfl ?_
  refine Ops.box (fun β3 => ?_)
  refine Ops.box (fun β4 => ?_)
  refine Ops.box (fun β5 => ?_)
  refine qs rfl rfl rfl <| Ops.nil <| thn_n <| W.seq <| W.region rfl ?_
  first | refine oq (yldW rfl rfl) rfl wn rfl rfl ?_ | refine oq (yldA rfl rfl) rfl wn rfl rfl ?_
  first | refine oq (yldW rfl rfl) rfl wn rfl rfl ?_ | refine oq (yldA rfl rfl) rfl wn rfl rfl ?_
  refine oq (yld rfl rfl) rfl wn rfl rfl ?_
  refine cp (fun h' hE hL => stands_fn _ h' fs ss p f _ _ (hf.ext hE) (hs.ext hE) hall hp hf0 hf1) ?_
  rw [← hD]
  refine Ops.new (fun β7 => ?_)
  first | refine Ops.stoW ?_ | refine Ops.stoA ?_
  refine Ops.nil <| thn_n <| W.seq <| W.region rfl ?_
  refine Ops.new (fun β8 => ?_)
  refine Ops.nil <| thn_n <| W.seq <| W.seq <| W.region rfl ?_
  first | refine oq (yldW rfl rfl) rfl wn rfl rfl ?_ | refine oq (yldA rfl rfl) rfl wn rfl rfl ?_
  refine qm rfl rfl rfl <| Ops.nil <| thn_n <| W.block ?_
  refine W.loop (σ := Nat) (fun k => k ≤ 22 ∧ ∀ i, i < k → ∀ s, D[i]? = some s → ¬ fl.pl < s.hi) (fun k => [(19, I k), (18, daysV D), (8, .pointer (some ⟨β8, 0, none⟩)), (7, .pointer (some ⟨β7, 0, none⟩)), (5, .pointer (some ⟨β5, 0, none⟩)), (4, .pointer (some ⟨β4, 0, none⟩)), (3, .pointer (some ⟨β3, 0, none⟩))]) (fun _ => [(β8, .cells #[.nilIface] t_fault (0, 0)), (β7, .cells (flat Sp.row D).toArray t_days (0, 0)), (β5, .cells #[I f] t_int (0, 0)), (β4, .cells (flat Be.row p).toArray t_plan (0, 0)), (β3, .cells #[.slice (some ⟨b, off, none⟩) fs.length cap, .slice a' ss.length cap'] t_hall (0, 0))]) (fun k => 22 - k) 0 ⟨Nat.zero_le _, fun i hi => absurd hi (Nat.not_lt_zero _)⟩ ⟨rfl, rfl, rfl, rfl, rfl, rfl, rfl, trivial⟩ sbA ?_
  rintro k ⟨hk, hn⟩
  refine W.seq <| W.region rfl ?_
  refine oq (y_lss rfl rfl rfl) rfl wn rfl rfl ?_
  refine Ops.nil <| thn_n <| W.seq ?_
  refine W.condp rfl (fun c20 => ?_) (fun c20 => ?_)
  · obtain ⟨s, hsk, hdr⟩ := has (show k < D.length by omega)
    have hex : (flat Sp.row D).toArray.extract ((k : Int).toNat * 2) ((k : Int).toNat * 2 + 2) = #[I s.lo, I s.hi] := days_ex hsk
    refine W.skip <| thn_n <| W.seq <| W.block <| W.seq <| W.region rfl <| qm rfl rfl rfl ?_
    first | refine oq (y_index rfl rfl rfl (by omega) (by omega) (by first | assumption | rfl)) rfl wn rfl rfl ?_ | refine oq (y_indexA rfl rfl rfl (by omega) (by omega) (by first | assumption | rfl)) rfl wn rfl rfl ?_
    refine Ops.new (fun β10 => ?_)
    refine qs rfl rfl rfl ?_
    first | refine Ops.stoW ?_ | refine Ops.stoA ?_
    refine Ops.nil <| thn_n <| W.seq ?_
    refine W.drawF (n := 10) rfl ?_
    refine aq (i := 0) (y_fieldAddr rfl rfl) rfl an rfl rfl ?_
    refine aq (i := 1) (yld rfl rfl) rfl an rfl rfl ?_
    refine aq (i := 2) (y_fieldAddr rfl rfl) rfl an rfl rfl ?_
    refine aq (i := 3) (y_fieldAddr rfl rfl) rfl an rfl rfl ?_
    refine aq (i := 4) (yld rfl rfl) rfl an rfl rfl ?_
    refine aq (i := 5) (yld rfl rfl) rfl an rfl rfl ?_
    first | refine aq (i := 6) (yix rfl rfl rfl) rfl an rfl rfl ?_ | refine aq (i := 6) (yixI rfl rfl rfl) rfl an rfl rfl ?_
    refine aq (i := 7) (y_fieldAddr rfl rfl) rfl an rfl rfl ?_
    refine aq (i := 8) (yld rfl rfl) rfl an rfl rfl ?_
    refine aq (i := 9) (y_gtr rfl rfl rfl) rfl an rfl rfl ?_
    refine az ?_
    refine thn_n ?_
    refine W.condp rfl (fun c32 => ?_) (fun c32 => ?_)
    · refine W.seq <| W.region rfl <| qm rfl rfl rfl ?_
      refine oq (y_build rfl rfl rfl) rfl wn rfl rfl ?_
      first | refine oq (yfcN rfl rfl) rfl wn rfl rfl ?_ | refine oq (yfc rfl rfl) rfl wn rfl rfl ?_
      refine Ops.sto ?_
      refine Ops.nil <| thn_n <| W.exit <| blk_o <| thn_x <| thn_x <| blk_x <| thn_n <| W.seq ?_
      have hff : ∃ fd, fullF fl.pl D 0 = fd := ⟨_, rfl⟩
      obtain ⟨fd, hff⟩ := hff
      refine W.sb (F' := [(β8, .cells #[faultV fd] t_fault (0, 0)), (β5, .cells #[I f] t_int (0, 0)), (β4, .cells (flat Be.row p).toArray t_plan (0, 0)), (β3, .cells #[.slice (some ⟨b, off, none⟩) fs.length cap, .slice a' ss.length cap'] t_hall (0, 0))]) ?_ ?_
      · first
        | (have e : fd = some (false, (k : Int)) := by
             rw [← hff, fullF_drop (k := k) (by omega) hn, hdr]; simp only [fullF]; rw [if_pos c32]; simp
           rw [e]; exact sbA)
        | (have e : fd = none := by
             rw [← hff, fullF_drop (k := k) (by omega) hn, show k = D.length by omega]; simp [fullF]
           rw [e]; exact sbA)
      refine W.region rfl ?_
      refine Ops.new (fun β11 => ?_)
      refine Ops.sto ?_
      refine Ops.nil <| thn_n <| W.seq <| W.seq <| W.region rfl ?_
      first | refine oq (yldW rfl rfl) rfl wn rfl rfl ?_ | refine oq (yldA rfl rfl) rfl wn rfl rfl ?_
      first | refine oq (yldW rfl rfl) rfl wn rfl rfl ?_ | refine oq (yldA rfl rfl) rfl wn rfl rfl ?_
      refine oq (yld rfl rfl) rfl wn rfl rfl ?_
      refine c0 (fun h' hE hL => set_fn _ h' p f _ _ rfl rfl) (fun v A' hv => ?_)
      obtain ⟨b4, b5, b3, rfl, rfl⟩ := hv
      refine Ops.nil <| thn_n <| W.block ?_
      refine W.range (σ := Fault × Int) (X := Int) (enc := I) (xs := setL p f) rfl rfl rfl (fun s i => lookS fl.co fl.lo (dayOf p i) s) (fun _ _ => none) (fun s A => A = [(β11, .cells #[I s.2] t_int (0, 0)), (β8, .cells #[faultV s.1] t_fault (0, 0))]) (fd, -1) (A₀ := [(β11, .cells #[I (-1)] t_int (0, 0)), (β8, .cells #[faultV fd] t_fault (0, 0))]) (.tail (.tail (.tail .head))) rfl (fun h' hE hL => set1_iter _ h' p hp.ok f b4 b5 _ _ _ _ (hL b4 _ (by repeat (first | exact List.Mem.head _ | apply List.Mem.tail))) (hL b5 _ (by repeat (first | exact List.Mem.head _ | apply List.Mem.tail)))) (fun _ _ _ e => by cases e) ?_ ?_
      · rintro ⟨fd1, u⟩ i A hi rfl l h1 - -
        dsimp only
        refine W.region rfl <| qs rfl rfl rfl <| Ops.nil ?_
        refine ⟨rfl, rfl, fun h1 hE1 hL1 => ?_⟩
        have h5' : h1 β5 = some (.cells #[I f] t_int (0, 0)) := hL1 _ _ (by repeat (first | exact List.Mem.head _ | apply List.Mem.tail))
        have h4' : h1 β4 = some (.cells (flat Be.row p).toArray t_plan (0, 0)) := hL1 _ _ (by repeat (first | exact List.Mem.head _ | apply List.Mem.tail))
        have h3' : h1 β3 = some (.cells #[.slice (some ⟨b, off, none⟩) fs.length cap, .slice a' ss.length cap'] t_hall (0, 0)) := hL1 _ _ (by repeat (first | exact List.Mem.head _ | apply List.Mem.tail))
        have hb' : h1 b = some (.cells c E fz) := hE1.1 _ _ hb
        clear hL1 hE1
        have hi4 := setL_lt hi
        have hday : (flat Be.row p).toArray[0 + i.toNat * 2 + 1]? = some (I (dayOf p i)) := by have := (plan_at hp.ok (i := i.toNat) (by omega)).2; simpa [dayOf] using this
        have hd17 : 0 ≤ dayOf p i ∧ dayOf p i ≤ 17 := (beAt_some hp.ok (i := i.toNat) (by omega)).2.2.2
        refine W.block <| W.seq <| W.seq ?_
        refine W.drawF (n := 10) rfl ?_
        refine aq (i := 0) (yld rfl rfl) rfl an rfl rfl ?_
        refine aq (i := 1) (y_fieldAddr rfl rfl) rfl an rfl rfl ?_
        refine aq (i := 2) (y_fieldAddr rfl rfl) rfl an rfl rfl ?_
        refine aq (i := 3) (yld rfl rfl) rfl an rfl rfl ?_
        refine aq (i := 4) (yld rfl rfl) rfl an rfl rfl ?_
        first | refine aq (i := 5) (yix rfl rfl rfl) rfl an rfl rfl ?_ | refine aq (i := 5) (yixI rfl rfl rfl) rfl an rfl rfl ?_
        refine aq (i := 6) (y_fieldAddr rfl rfl) rfl an rfl rfl ?_
        refine aq (i := 7) (yld rfl rfl) rfl an rfl rfl ?_
        first | refine aq (i := 8) (yadd rfl rfl rfl) rfl an rfl rfl ?_ | refine aq (i := 8) (y_addw rfl rfl rfl) rfl an rfl rfl ?_
        refine aq (i := 9) (y_assign rfl rfl) rfl an rfl rfl ?_
        refine az ?_
        refine thn_n <| W.seq <| W.region rfl ?_
        refine oq (yld rfl rfl) rfl wn rfl rfl ?_
        refine oq (y_geq rfl rfl rfl) rfl wn rfl rfl ?_
        refine qm rfl rfl rfl ?_
        refine Ops.ask (fun a13_3 => ?_) (fun a13_3 => ?_)
        · refine oq (y_move rfl rfl) rfl (want_some rfl rfl rfl) rfl rfl ?_
          first | refine oq (yixA rfl rfl rfl) rfl (want_some rfl rfl rfl) rfl rfl ?_ | refine oq (yixAI rfl rfl rfl) rfl (want_some rfl rfl rfl) rfl rfl ?_
          refine oq (y_fieldAddr rfl rfl) rfl (want_some rfl rfl rfl) rfl rfl ?_
          refine oq (yld rfl rfl) rfl (want_some rfl rfl rfl) rfl rfl ?_
          refine oq (y_move rfl rfl) rfl (want_some rfl rfl rfl) rfl rfl ?_
          refine oq (y_gtr rfl rfl rfl) rfl (want_some rfl rfl rfl) rfl rfl ?_
          refine oq (y_pickT rfl rfl rfl) rfl wn rfl rfl ?_
          refine qm rfl rfl rfl ?_
          refine Ops.ask (fun a13_11 => ?_) (fun a13_11 => ?_)
          · refine oq (yld rfl rfl) rfl (want_some rfl rfl rfl) rfl rfl ?_
            refine oq (y_nilB rfl rfl) rfl (want_some rfl rfl rfl) rfl rfl ?_
            refine oq (y_move rfl rfl) rfl (want_some rfl rfl rfl) rfl rfl ?_
            refine Ops.askB (fun a13_14 => ?_) (fun a13_14 => ?_)
            · refine Ops.no ?_
              refine Ops.no ?_
              refine Ops.no ?_
              refine Ops.no ?_
              refine oq (y_pickT rfl rfl rfl) rfl (want_some rfl rfl rfl) rfl rfl ?_
              refine oq (y_pickT rfl rfl rfl) rfl wn rfl rfl ?_
              refine Ops.nil <| thn_n ?_
              refine W.condT ?_
              first
              | have hea : early (wadd u fl.co) fd1 = true := early_none a13_14
              | have hea : early (wadd u fl.co) (some (cc, n1)) = true := early_some c70
              refine W.region rfl <| qm rfl rfl rfl ?_
              refine oq (y_build rfl rfl rfl) rfl wn rfl rfl ?_
              first | refine oq (yfcN rfl rfl) rfl wn rfl rfl ?_ | refine oq (yfc rfl rfl) rfl wn rfl rfl ?_
              refine Ops.sto ?_
              refine Ops.nil <| thn_n ?_
              refine W.drawF (n := 16) rfl ?_
              refine aq (i := 0) (yld rfl rfl) rfl an rfl rfl ?_
              refine aq (i := 1) (y_move rfl rfl) rfl an rfl rfl ?_
              first | refine aq (i := 2) (yixA rfl rfl rfl) rfl an rfl rfl ?_ | refine aq (i := 2) (yixAI rfl rfl rfl) rfl an rfl rfl ?_
              refine aq (i := 3) (y_fieldAddr rfl rfl) rfl an rfl rfl ?_
              refine aq (i := 4) (yld rfl rfl) rfl an rfl rfl ?_
              refine aq (i := 5) (y_fieldAddr rfl rfl) rfl an rfl rfl ?_
              refine aq (i := 6) (y_fieldAddr rfl rfl) rfl an rfl rfl ?_
              refine aq (i := 7) (yld rfl rfl) rfl an rfl rfl ?_
              refine aq (i := 8) (yld rfl rfl) rfl an rfl rfl ?_
              first | refine aq (i := 9) (yix rfl rfl rfl) rfl an rfl rfl ?_ | refine aq (i := 9) (yixI rfl rfl rfl) rfl an rfl rfl ?_
              refine aq (i := 10) (y_fieldAddr rfl rfl) rfl an rfl rfl ?_
              refine aq (i := 11) (y_fieldAddr rfl rfl) rfl an rfl rfl ?_
              refine aq (i := 12) (yld rfl rfl) rfl an rfl rfl ?_
              first | refine aq (i := 13) (yadd rfl rfl rfl) rfl an rfl rfl ?_ | refine aq (i := 13) (y_addw rfl rfl rfl) rfl an rfl rfl ?_
              refine aq (i := 14) (y_max rfl rfl rfl) rfl an rfl rfl ?_
              refine ae (i := 15) rfl an rfl rfl (eS rfl rfl rfl ?_)
              refine ⟨.inl (by kernel_rfl), ?_⟩
              refine az ?_
              refine blk_n ?_
              refine ⟨rfl, rfl, _, rfl, ?_⟩
              have e := lookS_pos (lo := fl.lo) a13_3 a13_11 hea
              rw [e]; exact sbA
            · obtain ⟨⟨cc, n1⟩, rfl⟩ : ∃ q, fd1 = some q := by
                cases fd1 with
                | none => simp at a13_14
                | some q => exact ⟨q, rfl⟩
              refine oq (y_move rfl rfl) rfl (want_some rfl rfl rfl) rfl rfl ?_
              refine oq (yld rfl rfl) rfl (want_some rfl rfl rfl) rfl rfl ?_
              refine cday ?_
              refine oq (y_lss rfl rfl rfl) rfl (want_some rfl rfl rfl) rfl rfl ?_
              refine oq (y_pickF rfl rfl rfl) rfl (want_some rfl rfl rfl) rfl rfl ?_
              refine oq (y_pickT rfl rfl rfl) rfl wn rfl rfl ?_
              refine Ops.nil <| thn_n ?_
              refine W.condp rfl (fun c70 => ?_) (fun c70 => ?_)
              · first
                | have hea : early (wadd u fl.co) fd1 = true := early_none a13_14
                | have hea : early (wadd u fl.co) (some (cc, n1)) = true := early_some c70
                refine W.region rfl <| qm rfl rfl rfl ?_
                refine oq (y_build rfl rfl rfl) rfl wn rfl rfl ?_
                first | refine oq (yfcN rfl rfl) rfl wn rfl rfl ?_ | refine oq (yfc rfl rfl) rfl wn rfl rfl ?_
                refine Ops.sto ?_
                refine Ops.nil <| thn_n ?_
                refine W.drawF (n := 16) rfl ?_
                refine aq (i := 0) (yld rfl rfl) rfl an rfl rfl ?_
                refine aq (i := 1) (y_move rfl rfl) rfl an rfl rfl ?_
                first | refine aq (i := 2) (yixA rfl rfl rfl) rfl an rfl rfl ?_ | refine aq (i := 2) (yixAI rfl rfl rfl) rfl an rfl rfl ?_
                refine aq (i := 3) (y_fieldAddr rfl rfl) rfl an rfl rfl ?_
                refine aq (i := 4) (yld rfl rfl) rfl an rfl rfl ?_
                refine aq (i := 5) (y_fieldAddr rfl rfl) rfl an rfl rfl ?_
                refine aq (i := 6) (y_fieldAddr rfl rfl) rfl an rfl rfl ?_
                refine aq (i := 7) (yld rfl rfl) rfl an rfl rfl ?_
                refine aq (i := 8) (yld rfl rfl) rfl an rfl rfl ?_
                first | refine aq (i := 9) (yix rfl rfl rfl) rfl an rfl rfl ?_ | refine aq (i := 9) (yixI rfl rfl rfl) rfl an rfl rfl ?_
                refine aq (i := 10) (y_fieldAddr rfl rfl) rfl an rfl rfl ?_
                refine aq (i := 11) (y_fieldAddr rfl rfl) rfl an rfl rfl ?_
                refine aq (i := 12) (yld rfl rfl) rfl an rfl rfl ?_
                first | refine aq (i := 13) (yadd rfl rfl rfl) rfl an rfl rfl ?_ | refine aq (i := 13) (y_addw rfl rfl rfl) rfl an rfl rfl ?_
                refine aq (i := 14) (y_max rfl rfl rfl) rfl an rfl rfl ?_
                refine ae (i := 15) rfl an rfl rfl (eS rfl rfl rfl ?_)
                refine ⟨.inl (by kernel_rfl), ?_⟩
                refine az ?_
                refine blk_n ?_
                refine ⟨rfl, rfl, _, rfl, ?_⟩
                have e := lookS_pos (lo := fl.lo) a13_3 a13_11 hea
                rw [e]; exact sbA
              · refine W.skip <| thn_n ?_
                refine W.drawF (n := 16) rfl ?_
                refine aq (i := 0) (yld rfl rfl) rfl an rfl rfl ?_
                refine aq (i := 1) (y_move rfl rfl) rfl an rfl rfl ?_
                first | refine aq (i := 2) (yixA rfl rfl rfl) rfl an rfl rfl ?_ | refine aq (i := 2) (yixAI rfl rfl rfl) rfl an rfl rfl ?_
                refine aq (i := 3) (y_fieldAddr rfl rfl) rfl an rfl rfl ?_
                refine aq (i := 4) (yld rfl rfl) rfl an rfl rfl ?_
                refine aq (i := 5) (y_fieldAddr rfl rfl) rfl an rfl rfl ?_
                refine aq (i := 6) (y_fieldAddr rfl rfl) rfl an rfl rfl ?_
                refine aq (i := 7) (yld rfl rfl) rfl an rfl rfl ?_
                refine aq (i := 8) (yld rfl rfl) rfl an rfl rfl ?_
                first | refine aq (i := 9) (yix rfl rfl rfl) rfl an rfl rfl ?_ | refine aq (i := 9) (yixI rfl rfl rfl) rfl an rfl rfl ?_
                refine aq (i := 10) (y_fieldAddr rfl rfl) rfl an rfl rfl ?_
                refine aq (i := 11) (y_fieldAddr rfl rfl) rfl an rfl rfl ?_
                refine aq (i := 12) (yld rfl rfl) rfl an rfl rfl ?_
                first | refine aq (i := 13) (yadd rfl rfl rfl) rfl an rfl rfl ?_ | refine aq (i := 13) (y_addw rfl rfl rfl) rfl an rfl rfl ?_
                refine aq (i := 14) (y_max rfl rfl rfl) rfl an rfl rfl ?_
                refine ae (i := 15) rfl an rfl rfl (eS rfl rfl rfl ?_)
                refine ⟨.inl (by kernel_rfl), ?_⟩
                refine az ?_
                refine blk_n ?_
                refine ⟨rfl, rfl, _, rfl, ?_⟩
                first
                | (have e := lookS_neg1 (co := fl.co) (lo := fl.lo) (day := dayOf p i) (fd := fd1) a13_3
                   rw [e]; exact sbA)
                | (have e := lookS_neg2 (lo := fl.lo) (fd := fd1) a13_11
                   rw [e]; exact sbA)
                | (have e := lookS_neg3 (lo := fl.lo) (day := dayOf p i) (c := cc) c70
                   rw [e]; exact sbA)
          · refine Ops.no ?_
            refine Ops.no ?_
            refine Ops.no ?_
            refine Ops.noU ?_
            refine Ops.noU ?_
            refine Ops.noU ?_
            refine Ops.noU ?_
            refine Ops.no ?_
            refine oq (y_pickF rfl rfl rfl) rfl wn rfl rfl ?_
            refine Ops.nil <| thn_n ?_
            refine W.condF ?_
            refine W.skip <| thn_n ?_
            refine W.drawF (n := 16) rfl ?_
            refine aq (i := 0) (yld rfl rfl) rfl an rfl rfl ?_
            refine aq (i := 1) (y_move rfl rfl) rfl an rfl rfl ?_
            first | refine aq (i := 2) (yixA rfl rfl rfl) rfl an rfl rfl ?_ | refine aq (i := 2) (yixAI rfl rfl rfl) rfl an rfl rfl ?_
            refine aq (i := 3) (y_fieldAddr rfl rfl) rfl an rfl rfl ?_
            refine aq (i := 4) (yld rfl rfl) rfl an rfl rfl ?_
            refine aq (i := 5) (y_fieldAddr rfl rfl) rfl an rfl rfl ?_
            refine aq (i := 6) (y_fieldAddr rfl rfl) rfl an rfl rfl ?_
            refine aq (i := 7) (yld rfl rfl) rfl an rfl rfl ?_
            refine aq (i := 8) (yld rfl rfl) rfl an rfl rfl ?_
            first | refine aq (i := 9) (yix rfl rfl rfl) rfl an rfl rfl ?_ | refine aq (i := 9) (yixI rfl rfl rfl) rfl an rfl rfl ?_
            refine aq (i := 10) (y_fieldAddr rfl rfl) rfl an rfl rfl ?_
            refine aq (i := 11) (y_fieldAddr rfl rfl) rfl an rfl rfl ?_
            refine aq (i := 12) (yld rfl rfl) rfl an rfl rfl ?_
            first | refine aq (i := 13) (yadd rfl rfl rfl) rfl an rfl rfl ?_ | refine aq (i := 13) (y_addw rfl rfl rfl) rfl an rfl rfl ?_
            refine aq (i := 14) (y_max rfl rfl rfl) rfl an rfl rfl ?_
            refine ae (i := 15) rfl an rfl rfl (eS rfl rfl rfl ?_)
            refine ⟨.inl (by kernel_rfl), ?_⟩
            refine az ?_
            refine blk_n ?_
            refine ⟨rfl, rfl, _, rfl, ?_⟩
            first
            | (have e := lookS_neg1 (co := fl.co) (lo := fl.lo) (day := dayOf p i) (fd := fd1) a13_3
               rw [e]; exact sbA)
            | (have e := lookS_neg2 (lo := fl.lo) (fd := fd1) a13_11
               rw [e]; exact sbA)
            | (have e := lookS_neg3 (lo := fl.lo) (day := dayOf p i) (c := cc) c70
               rw [e]; exact sbA)
        · refine Ops.no ?_
          refine Ops.no ?_
          refine Ops.no ?_
          refine Ops.no ?_
          refine Ops.no ?_
          refine Ops.no ?_
          refine oq (y_pickF rfl rfl rfl) rfl wn rfl rfl ?_
          refine qm rfl rfl rfl ?_
          refine Ops.no ?_
          refine Ops.no ?_
          refine Ops.no ?_
          refine Ops.noU ?_
          refine Ops.noU ?_
          refine Ops.noU ?_
          refine Ops.noU ?_
          refine Ops.no ?_
          refine oq (y_pickF rfl rfl rfl) rfl wn rfl rfl ?_
          refine Ops.nil <| thn_n ?_
          refine W.condF ?_
          refine W.skip <| thn_n ?_
          refine W.drawF (n := 16) rfl ?_
          refine aq (i := 0) (yld rfl rfl) rfl an rfl rfl ?_
          refine aq (i := 1) (y_move rfl rfl) rfl an rfl rfl ?_
          first | refine aq (i := 2) (yixA rfl rfl rfl) rfl an rfl rfl ?_ | refine aq (i := 2) (yixAI rfl rfl rfl) rfl an rfl rfl ?_
          refine aq (i := 3) (y_fieldAddr rfl rfl) rfl an rfl rfl ?_
          refine aq (i := 4) (yld rfl rfl) rfl an rfl rfl ?_
          refine aq (i := 5) (y_fieldAddr rfl rfl) rfl an rfl rfl ?_
          refine aq (i := 6) (y_fieldAddr rfl rfl) rfl an rfl rfl ?_
          refine aq (i := 7) (yld rfl rfl) rfl an rfl rfl ?_
          refine aq (i := 8) (yld rfl rfl) rfl an rfl rfl ?_
          first | refine aq (i := 9) (yix rfl rfl rfl) rfl an rfl rfl ?_ | refine aq (i := 9) (yixI rfl rfl rfl) rfl an rfl rfl ?_
          refine aq (i := 10) (y_fieldAddr rfl rfl) rfl an rfl rfl ?_
          refine aq (i := 11) (y_fieldAddr rfl rfl) rfl an rfl rfl ?_
          refine aq (i := 12) (yld rfl rfl) rfl an rfl rfl ?_
          first | refine aq (i := 13) (yadd rfl rfl rfl) rfl an rfl rfl ?_ | refine aq (i := 13) (y_addw rfl rfl rfl) rfl an rfl rfl ?_
          refine aq (i := 14) (y_max rfl rfl rfl) rfl an rfl rfl ?_
          refine ae (i := 15) rfl an rfl rfl (eS rfl rfl rfl ?_)
          refine ⟨.inl (by kernel_rfl), ?_⟩
          refine az ?_
          refine blk_n ?_
          refine ⟨rfl, rfl, _, rfl, ?_⟩
          first
          | (have e := lookS_neg1 (co := fl.co) (lo := fl.lo) (day := dayOf p i) (fd := fd1) a13_3
             rw [e]; exact sbA)
          | (have e := lookS_neg2 (lo := fl.lo) (fd := fd1) a13_11
             rw [e]; exact sbA)
          | (have e := lookS_neg3 (lo := fl.lo) (day := dayOf p i) (c := cc) c70
             rw [e]; exact sbA)
      · intro s e A he hA dd
        rw [runs_all] at he
        cases he
        subst hA
        refine blk_n <| thn_n <| W.seq <| W.region rfl ?_
        refine oq (yld rfl rfl) rfl wn rfl rfl ?_
        refine qs rfl rfl rfl <| Ops.nil <| thn_n <| W.ret ?_
        refine lvm (hl := At.head) (lvp ?_)
        simp only [lookF, hfe, ← hD, hff]
        rfl
    · refine W.skip <| blk_n <| thn_n <| W.region rfl ?_
      first | refine oq (yadd rfl rfl rfl) rfl wn rfl rfl ?_ | refine oq (y_addw rfl rfl rfl) rfl wn rfl rfl ?_
      refine qm rfl rfl rfl <| Ops.nil <| thn_n ?_
      refine ⟨rfl, k + 1, ⟨by omega, fun i hi s' hs' => ?_⟩, by omega, ⟨rfl, rfl, rfl, rfl, rfl, rfl, rfl, trivial⟩, sbA⟩
      rcases (by omega : i < k ∨ i = k) with hi | rfl
      · exact hn i hi s' hs'
      · rw [hsk] at hs'; cases hs'; exact c32
  · refine W.exit <| thn_x <| thn_x <| blk_x <| thn_n <| W.seq ?_
    have hff : ∃ fd, fullF fl.pl D 0 = fd := ⟨_, rfl⟩
    obtain ⟨fd, hff⟩ := hff
    refine W.sb (F' := [(β8, .cells #[faultV fd] t_fault (0, 0)), (β5, .cells #[I f] t_int (0, 0)), (β4, .cells (flat Be.row p).toArray t_plan (0, 0)), (β3, .cells #[.slice (some ⟨b, off, none⟩) fs.length cap, .slice a' ss.length cap'] t_hall (0, 0))]) ?_ ?_
    · first
      | (have e : fd = some (false, (k : Int)) := by
           rw [← hff, fullF_drop (k := k) (by omega) hn, hdr]; simp only [fullF]; rw [if_pos c32]; simp
         rw [e]; exact sbA)
      | (have e : fd = none := by
           rw [← hff, fullF_drop (k := k) (by omega) hn, show k = D.length by omega]; simp [fullF]
         rw [e]; exact sbA)
    refine W.region rfl ?_
    refine Ops.new (fun β11 => ?_)
    refine Ops.sto ?_
    refine Ops.nil <| thn_n <| W.seq <| W.seq <| W.region rfl ?_
    first | refine oq (yldW rfl rfl) rfl wn rfl rfl ?_ | refine oq (yldA rfl rfl) rfl wn rfl rfl ?_
    first | refine oq (yldW rfl rfl) rfl wn rfl rfl ?_ | refine oq (yldA rfl rfl) rfl wn rfl rfl ?_
    refine oq (yld rfl rfl) rfl wn rfl rfl ?_
    refine c0 (fun h' hE hL => set_fn _ h' p f _ _ rfl rfl) (fun v A' hv => ?_)
    obtain ⟨b4, b5, b3, rfl, rfl⟩ := hv
    refine Ops.nil <| thn_n <| W.block ?_
    refine W.range (σ := Fault × Int) (X := Int) (enc := I) (xs := setL p f) rfl rfl rfl (fun s i => lookS fl.co fl.lo (dayOf p i) s) (fun _ _ => none) (fun s A => A = [(β11, .cells #[I s.2] t_int (0, 0)), (β8, .cells #[faultV s.1] t_fault (0, 0))]) (fd, -1) (A₀ := [(β11, .cells #[I (-1)] t_int (0, 0)), (β8, .cells #[faultV fd] t_fault (0, 0))]) (.tail (.tail (.tail .head))) rfl (fun h' hE hL => set1_iter _ h' p hp.ok f b4 b5 _ _ _ _ (hL b4 _ (by repeat (first | exact List.Mem.head _ | apply List.Mem.tail))) (hL b5 _ (by repeat (first | exact List.Mem.head _ | apply List.Mem.tail)))) (fun _ _ _ e => by cases e) ?_ ?_
    · rintro ⟨fd1, u⟩ i A hi rfl l h1 - -
      dsimp only
      refine W.region rfl <| qs rfl rfl rfl <| Ops.nil ?_
      refine ⟨rfl, rfl, fun h1 hE1 hL1 => ?_⟩
      have h5' : h1 β5 = some (.cells #[I f] t_int (0, 0)) := hL1 _ _ (by repeat (first | exact List.Mem.head _ | apply List.Mem.tail))
      have h4' : h1 β4 = some (.cells (flat Be.row p).toArray t_plan (0, 0)) := hL1 _ _ (by repeat (first | exact List.Mem.head _ | apply List.Mem.tail))
      have h3' : h1 β3 = some (.cells #[.slice (some ⟨b, off, none⟩) fs.length cap, .slice a' ss.length cap'] t_hall (0, 0)) := hL1 _ _ (by repeat (first | exact List.Mem.head _ | apply List.Mem.tail))
      have hb' : h1 b = some (.cells c E fz) := hE1.1 _ _ hb
      clear hL1 hE1
      have hi4 := setL_lt hi
      have hday : (flat Be.row p).toArray[0 + i.toNat * 2 + 1]? = some (I (dayOf p i)) := by have := (plan_at hp.ok (i := i.toNat) (by omega)).2; simpa [dayOf] using this
      have hd17 : 0 ≤ dayOf p i ∧ dayOf p i ≤ 17 := (beAt_some hp.ok (i := i.toNat) (by omega)).2.2.2
      refine W.block <| W.seq <| W.seq ?_
      refine W.drawF (n := 10) rfl ?_
      refine aq (i := 0) (yld rfl rfl) rfl an rfl rfl ?_
      refine aq (i := 1) (y_fieldAddr rfl rfl) rfl an rfl rfl ?_
      refine aq (i := 2) (y_fieldAddr rfl rfl) rfl an rfl rfl ?_
      refine aq (i := 3) (yld rfl rfl) rfl an rfl rfl ?_
      refine aq (i := 4) (yld rfl rfl) rfl an rfl rfl ?_
      first | refine aq (i := 5) (yix rfl rfl rfl) rfl an rfl rfl ?_ | refine aq (i := 5) (yixI rfl rfl rfl) rfl an rfl rfl ?_
      refine aq (i := 6) (y_fieldAddr rfl rfl) rfl an rfl rfl ?_
      refine aq (i := 7) (yld rfl rfl) rfl an rfl rfl ?_
      first | refine aq (i := 8) (yadd rfl rfl rfl) rfl an rfl rfl ?_ | refine aq (i := 8) (y_addw rfl rfl rfl) rfl an rfl rfl ?_
      refine aq (i := 9) (y_assign rfl rfl) rfl an rfl rfl ?_
      refine az ?_
      refine thn_n <| W.seq <| W.region rfl ?_
      refine oq (yld rfl rfl) rfl wn rfl rfl ?_
      refine oq (y_geq rfl rfl rfl) rfl wn rfl rfl ?_
      refine qm rfl rfl rfl ?_
      refine Ops.ask (fun a13_3 => ?_) (fun a13_3 => ?_)
      · refine oq (y_move rfl rfl) rfl (want_some rfl rfl rfl) rfl rfl ?_
        first | refine oq (yixA rfl rfl rfl) rfl (want_some rfl rfl rfl) rfl rfl ?_ | refine oq (yixAI rfl rfl rfl) rfl (want_some rfl rfl rfl) rfl rfl ?_
        refine oq (y_fieldAddr rfl rfl) rfl (want_some rfl rfl rfl) rfl rfl ?_
        refine oq (yld rfl rfl) rfl (want_some rfl rfl rfl) rfl rfl ?_
        refine oq (y_move rfl rfl) rfl (want_some rfl rfl rfl) rfl rfl ?_
        refine oq (y_gtr rfl rfl rfl) rfl (want_some rfl rfl rfl) rfl rfl ?_
        refine oq (y_pickT rfl rfl rfl) rfl wn rfl rfl ?_
        refine qm rfl rfl rfl ?_
        refine Ops.ask (fun a13_11 => ?_) (fun a13_11 => ?_)
        · refine oq (yld rfl rfl) rfl (want_some rfl rfl rfl) rfl rfl ?_
          refine oq (y_nilB rfl rfl) rfl (want_some rfl rfl rfl) rfl rfl ?_
          refine oq (y_move rfl rfl) rfl (want_some rfl rfl rfl) rfl rfl ?_
          refine Ops.askB (fun a13_14 => ?_) (fun a13_14 => ?_)
          · refine Ops.no ?_
            refine Ops.no ?_
            refine Ops.no ?_
            refine Ops.no ?_
            refine oq (y_pickT rfl rfl rfl) rfl (want_some rfl rfl rfl) rfl rfl ?_
            refine oq (y_pickT rfl rfl rfl) rfl wn rfl rfl ?_
            refine Ops.nil <| thn_n ?_
            refine W.condT ?_
            first
            | have hea : early (wadd u fl.co) fd1 = true := early_none a13_14
            | have hea : early (wadd u fl.co) (some (cc, n1)) = true := early_some c70
            refine W.region rfl <| qm rfl rfl rfl ?_
            refine oq (y_build rfl rfl rfl) rfl wn rfl rfl ?_
            first | refine oq (yfcN rfl rfl) rfl wn rfl rfl ?_ | refine oq (yfc rfl rfl) rfl wn rfl rfl ?_
            refine Ops.sto ?_
            refine Ops.nil <| thn_n ?_
            refine W.drawF (n := 16) rfl ?_
            refine aq (i := 0) (yld rfl rfl) rfl an rfl rfl ?_
            refine aq (i := 1) (y_move rfl rfl) rfl an rfl rfl ?_
            first | refine aq (i := 2) (yixA rfl rfl rfl) rfl an rfl rfl ?_ | refine aq (i := 2) (yixAI rfl rfl rfl) rfl an rfl rfl ?_
            refine aq (i := 3) (y_fieldAddr rfl rfl) rfl an rfl rfl ?_
            refine aq (i := 4) (yld rfl rfl) rfl an rfl rfl ?_
            refine aq (i := 5) (y_fieldAddr rfl rfl) rfl an rfl rfl ?_
            refine aq (i := 6) (y_fieldAddr rfl rfl) rfl an rfl rfl ?_
            refine aq (i := 7) (yld rfl rfl) rfl an rfl rfl ?_
            refine aq (i := 8) (yld rfl rfl) rfl an rfl rfl ?_
            first | refine aq (i := 9) (yix rfl rfl rfl) rfl an rfl rfl ?_ | refine aq (i := 9) (yixI rfl rfl rfl) rfl an rfl rfl ?_
            refine aq (i := 10) (y_fieldAddr rfl rfl) rfl an rfl rfl ?_
            refine aq (i := 11) (y_fieldAddr rfl rfl) rfl an rfl rfl ?_
            refine aq (i := 12) (yld rfl rfl) rfl an rfl rfl ?_
            first | refine aq (i := 13) (yadd rfl rfl rfl) rfl an rfl rfl ?_ | refine aq (i := 13) (y_addw rfl rfl rfl) rfl an rfl rfl ?_
            refine aq (i := 14) (y_max rfl rfl rfl) rfl an rfl rfl ?_
            refine ae (i := 15) rfl an rfl rfl (eS rfl rfl rfl ?_)
            refine ⟨.inl (by kernel_rfl), ?_⟩
            refine az ?_
            refine blk_n ?_
            refine ⟨rfl, rfl, _, rfl, ?_⟩
            have e := lookS_pos (lo := fl.lo) a13_3 a13_11 hea
            rw [e]; exact sbA
          · obtain ⟨⟨cc, n1⟩, rfl⟩ : ∃ q, fd1 = some q := by
              cases fd1 with
              | none => simp at a13_14
              | some q => exact ⟨q, rfl⟩
            refine oq (y_move rfl rfl) rfl (want_some rfl rfl rfl) rfl rfl ?_
            refine oq (yld rfl rfl) rfl (want_some rfl rfl rfl) rfl rfl ?_
            refine cday ?_
            refine oq (y_lss rfl rfl rfl) rfl (want_some rfl rfl rfl) rfl rfl ?_
            refine oq (y_pickF rfl rfl rfl) rfl (want_some rfl rfl rfl) rfl rfl ?_
            refine oq (y_pickT rfl rfl rfl) rfl wn rfl rfl ?_
            refine Ops.nil <| thn_n ?_
            refine W.condp rfl (fun c70 => ?_) (fun c70 => ?_)
            · first
              | have hea : early (wadd u fl.co) fd1 = true := early_none a13_14
              | have hea : early (wadd u fl.co) (some (cc, n1)) = true := early_some c70
              refine W.region rfl <| qm rfl rfl rfl ?_
              refine oq (y_build rfl rfl rfl) rfl wn rfl rfl ?_
              first | refine oq (yfcN rfl rfl) rfl wn rfl rfl ?_ | refine oq (yfc rfl rfl) rfl wn rfl rfl ?_
              refine Ops.sto ?_
              refine Ops.nil <| thn_n ?_
              refine W.drawF (n := 16) rfl ?_
              refine aq (i := 0) (yld rfl rfl) rfl an rfl rfl ?_
              refine aq (i := 1) (y_move rfl rfl) rfl an rfl rfl ?_
              first | refine aq (i := 2) (yixA rfl rfl rfl) rfl an rfl rfl ?_ | refine aq (i := 2) (yixAI rfl rfl rfl) rfl an rfl rfl ?_
              refine aq (i := 3) (y_fieldAddr rfl rfl) rfl an rfl rfl ?_
              refine aq (i := 4) (yld rfl rfl) rfl an rfl rfl ?_
              refine aq (i := 5) (y_fieldAddr rfl rfl) rfl an rfl rfl ?_
              refine aq (i := 6) (y_fieldAddr rfl rfl) rfl an rfl rfl ?_
              refine aq (i := 7) (yld rfl rfl) rfl an rfl rfl ?_
              refine aq (i := 8) (yld rfl rfl) rfl an rfl rfl ?_
              first | refine aq (i := 9) (yix rfl rfl rfl) rfl an rfl rfl ?_ | refine aq (i := 9) (yixI rfl rfl rfl) rfl an rfl rfl ?_
              refine aq (i := 10) (y_fieldAddr rfl rfl) rfl an rfl rfl ?_
              refine aq (i := 11) (y_fieldAddr rfl rfl) rfl an rfl rfl ?_
              refine aq (i := 12) (yld rfl rfl) rfl an rfl rfl ?_
              first | refine aq (i := 13) (yadd rfl rfl rfl) rfl an rfl rfl ?_ | refine aq (i := 13) (y_addw rfl rfl rfl) rfl an rfl rfl ?_
              refine aq (i := 14) (y_max rfl rfl rfl) rfl an rfl rfl ?_
              refine ae (i := 15) rfl an rfl rfl (eS rfl rfl rfl ?_)
              refine ⟨.inl (by kernel_rfl), ?_⟩
              refine az ?_
              refine blk_n ?_
              refine ⟨rfl, rfl, _, rfl, ?_⟩
              have e := lookS_pos (lo := fl.lo) a13_3 a13_11 hea
              rw [e]; exact sbA
            · refine W.skip <| thn_n ?_
              refine W.drawF (n := 16) rfl ?_
              refine aq (i := 0) (yld rfl rfl) rfl an rfl rfl ?_
              refine aq (i := 1) (y_move rfl rfl) rfl an rfl rfl ?_
              first | refine aq (i := 2) (yixA rfl rfl rfl) rfl an rfl rfl ?_ | refine aq (i := 2) (yixAI rfl rfl rfl) rfl an rfl rfl ?_
              refine aq (i := 3) (y_fieldAddr rfl rfl) rfl an rfl rfl ?_
              refine aq (i := 4) (yld rfl rfl) rfl an rfl rfl ?_
              refine aq (i := 5) (y_fieldAddr rfl rfl) rfl an rfl rfl ?_
              refine aq (i := 6) (y_fieldAddr rfl rfl) rfl an rfl rfl ?_
              refine aq (i := 7) (yld rfl rfl) rfl an rfl rfl ?_
              refine aq (i := 8) (yld rfl rfl) rfl an rfl rfl ?_
              first | refine aq (i := 9) (yix rfl rfl rfl) rfl an rfl rfl ?_ | refine aq (i := 9) (yixI rfl rfl rfl) rfl an rfl rfl ?_
              refine aq (i := 10) (y_fieldAddr rfl rfl) rfl an rfl rfl ?_
              refine aq (i := 11) (y_fieldAddr rfl rfl) rfl an rfl rfl ?_
              refine aq (i := 12) (yld rfl rfl) rfl an rfl rfl ?_
              first | refine aq (i := 13) (yadd rfl rfl rfl) rfl an rfl rfl ?_ | refine aq (i := 13) (y_addw rfl rfl rfl) rfl an rfl rfl ?_
              refine aq (i := 14) (y_max rfl rfl rfl) rfl an rfl rfl ?_
              refine ae (i := 15) rfl an rfl rfl (eS rfl rfl rfl ?_)
              refine ⟨.inl (by kernel_rfl), ?_⟩
              refine az ?_
              refine blk_n ?_
              refine ⟨rfl, rfl, _, rfl, ?_⟩
              first
              | (have e := lookS_neg1 (co := fl.co) (lo := fl.lo) (day := dayOf p i) (fd := fd1) a13_3
                 rw [e]; exact sbA)
              | (have e := lookS_neg2 (lo := fl.lo) (fd := fd1) a13_11
                 rw [e]; exact sbA)
              | (have e := lookS_neg3 (lo := fl.lo) (day := dayOf p i) (c := cc) c70
                 rw [e]; exact sbA)
        · refine Ops.no ?_
          refine Ops.no ?_
          refine Ops.no ?_
          refine Ops.noU ?_
          refine Ops.noU ?_
          refine Ops.noU ?_
          refine Ops.noU ?_
          refine Ops.no ?_
          refine oq (y_pickF rfl rfl rfl) rfl wn rfl rfl ?_
          refine Ops.nil <| thn_n ?_
          refine W.condF ?_
          refine W.skip <| thn_n ?_
          refine W.drawF (n := 16) rfl ?_
          refine aq (i := 0) (yld rfl rfl) rfl an rfl rfl ?_
          refine aq (i := 1) (y_move rfl rfl) rfl an rfl rfl ?_
          first | refine aq (i := 2) (yixA rfl rfl rfl) rfl an rfl rfl ?_ | refine aq (i := 2) (yixAI rfl rfl rfl) rfl an rfl rfl ?_
          refine aq (i := 3) (y_fieldAddr rfl rfl) rfl an rfl rfl ?_
          refine aq (i := 4) (yld rfl rfl) rfl an rfl rfl ?_
          refine aq (i := 5) (y_fieldAddr rfl rfl) rfl an rfl rfl ?_
          refine aq (i := 6) (y_fieldAddr rfl rfl) rfl an rfl rfl ?_
          refine aq (i := 7) (yld rfl rfl) rfl an rfl rfl ?_
          refine aq (i := 8) (yld rfl rfl) rfl an rfl rfl ?_
          first | refine aq (i := 9) (yix rfl rfl rfl) rfl an rfl rfl ?_ | refine aq (i := 9) (yixI rfl rfl rfl) rfl an rfl rfl ?_
          refine aq (i := 10) (y_fieldAddr rfl rfl) rfl an rfl rfl ?_
          refine aq (i := 11) (y_fieldAddr rfl rfl) rfl an rfl rfl ?_
          refine aq (i := 12) (yld rfl rfl) rfl an rfl rfl ?_
          first | refine aq (i := 13) (yadd rfl rfl rfl) rfl an rfl rfl ?_ | refine aq (i := 13) (y_addw rfl rfl rfl) rfl an rfl rfl ?_
          refine aq (i := 14) (y_max rfl rfl rfl) rfl an rfl rfl ?_
          refine ae (i := 15) rfl an rfl rfl (eS rfl rfl rfl ?_)
          refine ⟨.inl (by kernel_rfl), ?_⟩
          refine az ?_
          refine blk_n ?_
          refine ⟨rfl, rfl, _, rfl, ?_⟩
          first
          | (have e := lookS_neg1 (co := fl.co) (lo := fl.lo) (day := dayOf p i) (fd := fd1) a13_3
             rw [e]; exact sbA)
          | (have e := lookS_neg2 (lo := fl.lo) (fd := fd1) a13_11
             rw [e]; exact sbA)
          | (have e := lookS_neg3 (lo := fl.lo) (day := dayOf p i) (c := cc) c70
             rw [e]; exact sbA)
      · refine Ops.no ?_
        refine Ops.no ?_
        refine Ops.no ?_
        refine Ops.no ?_
        refine Ops.no ?_
        refine Ops.no ?_
        refine oq (y_pickF rfl rfl rfl) rfl wn rfl rfl ?_
        refine qm rfl rfl rfl ?_
        refine Ops.no ?_
        refine Ops.no ?_
        refine Ops.no ?_
        refine Ops.noU ?_
        refine Ops.noU ?_
        refine Ops.noU ?_
        refine Ops.noU ?_
        refine Ops.no ?_
        refine oq (y_pickF rfl rfl rfl) rfl wn rfl rfl ?_
        refine Ops.nil <| thn_n ?_
        refine W.condF ?_
        refine W.skip <| thn_n ?_
        refine W.drawF (n := 16) rfl ?_
        refine aq (i := 0) (yld rfl rfl) rfl an rfl rfl ?_
        refine aq (i := 1) (y_move rfl rfl) rfl an rfl rfl ?_
        first | refine aq (i := 2) (yixA rfl rfl rfl) rfl an rfl rfl ?_ | refine aq (i := 2) (yixAI rfl rfl rfl) rfl an rfl rfl ?_
        refine aq (i := 3) (y_fieldAddr rfl rfl) rfl an rfl rfl ?_
        refine aq (i := 4) (yld rfl rfl) rfl an rfl rfl ?_
        refine aq (i := 5) (y_fieldAddr rfl rfl) rfl an rfl rfl ?_
        refine aq (i := 6) (y_fieldAddr rfl rfl) rfl an rfl rfl ?_
        refine aq (i := 7) (yld rfl rfl) rfl an rfl rfl ?_
        refine aq (i := 8) (yld rfl rfl) rfl an rfl rfl ?_
        first | refine aq (i := 9) (yix rfl rfl rfl) rfl an rfl rfl ?_ | refine aq (i := 9) (yixI rfl rfl rfl) rfl an rfl rfl ?_
        refine aq (i := 10) (y_fieldAddr rfl rfl) rfl an rfl rfl ?_
        refine aq (i := 11) (y_fieldAddr rfl rfl) rfl an rfl rfl ?_
        refine aq (i := 12) (yld rfl rfl) rfl an rfl rfl ?_
        first | refine aq (i := 13) (yadd rfl rfl rfl) rfl an rfl rfl ?_ | refine aq (i := 13) (y_addw rfl rfl rfl) rfl an rfl rfl ?_
        refine aq (i := 14) (y_max rfl rfl rfl) rfl an rfl rfl ?_
        refine ae (i := 15) rfl an rfl rfl (eS rfl rfl rfl ?_)
        refine ⟨.inl (by kernel_rfl), ?_⟩
        refine az ?_
        refine blk_n ?_
        refine ⟨rfl, rfl, _, rfl, ?_⟩
        first
        | (have e := lookS_neg1 (co := fl.co) (lo := fl.lo) (day := dayOf p i) (fd := fd1) a13_3
           rw [e]; exact sbA)
        | (have e := lookS_neg2 (lo := fl.lo) (fd := fd1) a13_11
           rw [e]; exact sbA)
        | (have e := lookS_neg3 (lo := fl.lo) (day := dayOf p i) (c := cc) c70
           rw [e]; exact sbA)
    · intro s e A he hA dd
      rw [runs_all] at he
      cases he
      subst hA
      refine blk_n <| thn_n <| W.seq <| W.region rfl ?_
      refine oq (yld rfl rfl) rfl wn rfl rfl ?_
      refine qs rfl rfl rfl <| Ops.nil <| thn_n <| W.ret ?_
      refine lvm (hl := At.head) (lvp ?_)
      simp only [lookF, hfe, ← hD, hff]
      rfl
end Go.Mus
