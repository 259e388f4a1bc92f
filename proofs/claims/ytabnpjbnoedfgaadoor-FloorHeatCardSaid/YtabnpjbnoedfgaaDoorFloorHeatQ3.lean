/- Cones on a day, days between, what shows in a heat. Conditions: none; over the given program. (And 2 texts more.) -/
import Derived.Test.YtabnpjbnoedfgaaDoorFloorHeatQ2
import Derived.Test.YtabnpjbnoedfgaaDoorFloorHeatQ1
set_option linter.unusedVariables false
set_option linter.unusedSimpArgs false
set_option linter.unusedSectionVars false

/- Cones on a day, days between, what shows in a heat. Conditions: none; over the given program. -/
namespace Go.Mus
set_option maxRecDepth 100000
set_option maxHeartbeats 4000000
theorem heG_co {ss : List St} {l : List Be} {ht : List Int} {fs : List Fl} (hall : HallOK fs ss) {f d : Int} : ∀ k, 0 ≤ sumK (heG ss l ht f d) k ∧ sumK (heG ss l ht f d) k ≤ 6 * k
  | 0 => ⟨Int.le_refl _, Int.le_refl _⟩
  | k + 1 => by
    have := heG_co (ss := ss) (l := l) (ht := ht) hall (f := f) (d := d) k
    have hc := co_ok hall k
    have : 0 ≤ heG ss l ht f d k ∧ heG ss l ht f d k ≤ 6 := by simp only [heG]; split <;> omega
    rw [sumK]; omega
theorem cones_fn (main : Side) (h : Hp) (fs : List Fl) (ss : List St) (l : List Be) (ht : List Int) (f d : Int) (vf vs vl vh : Value) (hs : Sl h St.row vs ss) (hl : Sl h Be.row vl l) (hh : Sl h rowI vh ht) (hck : ckPlan fs ss l = 0) (hht : IsHeat fs l ht) : Pu prog main n_law_cones #[.agg #[vf, vs], vl, vh, I f, I d] h (I (conesF ss l ht f d)) := by
  obtain ⟨hall, hp, hn⟩ := plan_ck hck
  have hns := hall.ns
  obtain ⟨a', cap', rfl⟩ := hs.isSl
  obtain ⟨al, lc, rfl⟩ := hl.isSl
  obtain ⟨ah, hc, rfl⟩ := hh.isSl
  refine Fnc.of_body at_law_cones rfl (by show 5 ≤ 58; decide) [(0, .agg #[vf, .slice a' ss.length cap']), (1, .slice al l.length lc), (2, .slice ah ht.length hc), (3, I f), (4, I d)] ⟨rfl, rfl, rfl, rfl, rfl, trivial⟩ ?_
  refine W.seq <| W.region rfl ?_
  refine Ops.box (cs := #[vf, .slice a' ss.length cap']) (fun β5 => ?_) rfl rfl rfl
  refine qs rfl rfl rfl <| Ops.nil <| thn_n <| W.seq <| W.region rfl <| qs rfl rfl rfl <| Ops.nil <| thn_n <| W.seq <| W.seq ?_
  refine W.region rfl <| qs rfl rfl rfl <| Ops.nil <| thn_n <| W.block ?_
  refine W.loop (σ := Nat) (fun k => k ≤ l.length) (fun k => [(12, I k), (11, I (sumK (heG ss l ht f d) k)), (5, .pointer (some ⟨β5, 0, none⟩)), (1, .slice al l.length lc), (2, .slice ah ht.length hc), (3, I f), (4, I d)]) (fun _ => [(β5, .cells #[vf, .slice a' ss.length cap'] t_Plant (0, 0))]) (fun k => l.length - k) 0 (Nat.zero_le _) ⟨rfl, rfl, rfl, rfl, rfl, rfl, rfl, trivial⟩ .refl ?_
  rintro k hk
  refine W.seq <| W.seq <| W.region rfl <| qm rfl rfl rfl <| qm rfl rfl rfl ?_
  refine oq (y_len rfl rfl) rfl wn rfl rfl ?_
  refine oq (y_lss rfl rfl rfl) rfl wn rfl rfl ?_
  refine Ops.nil <| thn_n ?_
  refine W.condp rfl (fun c16 => ?_) (fun c16 => ?_)
  · have hk1 : k < l.length := by omega
    have hb0 := be_some hall hp hn hk1
    have hpo := hp.ok.ok _ (List.mem_append_left _ (List.mem_of_getElem? hb0))
    have hsp := span_le hall hp hn (List.mem_of_getElem? hb0)
    have hhk := hht.2 k _ hb0
    have hhl := hht.1
    have hh0 : ht[k]? = some (ht.getD k 0) := by
      have := hht.1
      simp [List.getD, List.getElem?_eq_getElem (show k < ht.length by omega)]
    obtain ⟨s, hs0, -⟩ := has (show k < ss.length by omega)
    have hsa : stAt ss k = s := by simp [stAt, List.getD, hs0]
    have hco := co_ok hall k
    have hsum := heG_co (l := l) (ht := ht) hall (f := f) (d := d) k
    rw [hsa] at hco
    obtain ⟨bl, offl, cl, El, fzl, rfl, hbl, -, hyl, hzl⟩ := hl.at hb0
    have hfl0 : cl[offl + k * 2 + 0]? = some (I (beAt l k).fl) := hzl 0 (by decide)
    have hfl1 : cl[offl + k * 2 + 1]? = some (I (beAt l k).day) := hzl 1 (by decide)
    clear hzl
    obtain ⟨bh, offh, ch, Eh, fzh, rfl, hbh, -, hyh, hzh⟩ := hh.at hh0
    have hfh : ch[offh + k * 1 + 0]? = some (I (ht.getD k 0)) := hzh 0 (by decide)
    clear hzh
    obtain ⟨bs, offs, cs, Es, fzs, rfl, hbs, -, hys, hzs⟩ := hs.at hs0
    have hfs : cs[offs + k * 3 + 1]? = some (I s.co) := hzs 1 (by decide)
    clear hzs
    generalize hb : beAt l k = b at *
    generalize hq : ht.getD k 0 = q at *
    refine W.skip <| thn_n <| W.seq <| W.block <| W.seq ?_
    refine W.drawF (n := 30) rfl ?_
    refine aq (i := 0) (y_move rfl rfl) rfl an rfl rfl ?_
    refine aq (i := 1) (y_move rfl rfl) rfl an rfl rfl ?_
    first | refine aq (i := 2) (yix rfl rfl rfl) rfl an rfl rfl ?_ | refine aq (i := 2) (yixI rfl rfl rfl) rfl an rfl rfl ?_
    refine aq (i := 3) (y_fieldAddr rfl rfl) rfl an rfl rfl ?_
    refine aq (i := 4) (yld rfl rfl) rfl an rfl rfl ?_
    refine aq (i := 5) (y_move rfl rfl) rfl an rfl rfl ?_
    refine aq (i := 6) (y_eql rfl rfl rfl) rfl an rfl rfl ?_
    refine aq (i := 7) (y_move rfl rfl) rfl an rfl rfl ?_
    refine Any.ask (d' := 26) (fun a5_8 => ?_) (fun a5_8 => ?_)
    · refine aq (i := 8) (y_move rfl rfl) rfl (wantε_some rfl rfl rfl rfl) rfl rfl ?_
      refine aq (i := 9) (y_move rfl rfl) rfl (wantε_some rfl rfl rfl rfl) rfl rfl ?_
      refine aq (i := 10) (y_move rfl rfl) rfl (wantε_some rfl rfl rfl rfl) rfl rfl ?_
      first | refine aq (i := 11) (yix rfl rfl rfl) rfl (wantε_some rfl rfl rfl rfl) rfl rfl ?_ | refine aq (i := 11) (yixI rfl rfl rfl) rfl (wantε_some rfl rfl rfl rfl) rfl rfl ?_
      refine aq (i := 12) (y_fieldAddr rfl rfl) rfl (wantε_some rfl rfl rfl rfl) rfl rfl ?_
      refine aq (i := 13) (yld rfl rfl) rfl (wantε_some rfl rfl rfl rfl) rfl rfl ?_
      refine aq (i := 14) (y_geq rfl rfl rfl) rfl (wantε_some rfl rfl rfl rfl) rfl rfl ?_
      refine aq (i := 15) (y_pickT rfl rfl rfl) rfl an rfl rfl ?_
      refine aq (i := 16) (y_move rfl rfl) rfl an rfl rfl ?_
      refine Any.ask (d' := 35) (fun a5_17 => ?_) (fun a5_17 => ?_)
      · refine aq (i := 17) (y_move rfl rfl) rfl (wantε_some rfl rfl rfl rfl) rfl rfl ?_
        refine aq (i := 18) (y_move rfl rfl) rfl (wantε_some rfl rfl rfl rfl) rfl rfl ?_
        refine aq (i := 19) (y_move rfl rfl) rfl (wantε_some rfl rfl rfl rfl) rfl rfl ?_
        first | refine aq (i := 20) (yix rfl rfl rfl) rfl (wantε_some rfl rfl rfl rfl) rfl rfl ?_ | refine aq (i := 20) (yixI rfl rfl rfl) rfl (wantε_some rfl rfl rfl rfl) rfl rfl ?_
        refine aq (i := 21) (y_fieldAddr rfl rfl) rfl (wantε_some rfl rfl rfl rfl) rfl rfl ?_
        refine aq (i := 22) (yld rfl rfl) rfl (wantε_some rfl rfl rfl rfl) rfl rfl ?_
        refine aq (i := 23) (y_move rfl rfl) rfl (wantε_some rfl rfl rfl rfl) rfl rfl ?_
        refine aq (i := 24) (y_move rfl rfl) rfl (wantε_some rfl rfl rfl rfl) rfl rfl ?_
        first | refine aq (i := 25) (yix rfl rfl rfl) rfl (wantε_some rfl rfl rfl rfl) rfl rfl ?_ | refine aq (i := 25) (yixI rfl rfl rfl) rfl (wantε_some rfl rfl rfl rfl) rfl rfl ?_
        refine aq (i := 26) (yld rfl rfl) rfl (wantε_some rfl rfl rfl rfl) rfl rfl ?_
        refine aq (i := 27) (yadd rfl rfl rfl) rfl (wantε_some rfl rfl rfl rfl) rfl rfl ?_
        refine aq (i := 28) (y_lss rfl rfl rfl) rfl (wantε_some rfl rfl rfl rfl) rfl rfl ?_
        refine aq (i := 29) (y_pickT rfl rfl rfl) rfl an rfl rfl ?_
        refine az ?_
        refine thn_n ?_
        refine W.condp rfl (fun c48 => ?_) (fun c48 => ?_)
        · refine W.region rfl <| qm rfl rfl rfl ?_
          refine oq (y_fieldAddr rfl rfl) rfl wn rfl rfl ?_
          refine oq (yld rfl rfl) rfl wn rfl rfl ?_
          refine qm rfl rfl rfl ?_
          first | refine oq (yix rfl rfl rfl) rfl wn rfl rfl ?_ | refine oq (yixI rfl rfl rfl) rfl wn rfl rfl ?_
          refine oq (y_fieldAddr rfl rfl) rfl wn rfl rfl ?_
          refine oq (yld rfl rfl) rfl wn rfl rfl ?_
          refine oq (yadd rfl rfl rfl) rfl wn rfl rfl ?_
          refine qs rfl rfl rfl <| Ops.nil <| blk_n <| thn_n <| W.region rfl <| qm rfl rfl rfl ?_
          first | refine oq (yadd rfl rfl rfl) rfl wn rfl rfl ?_ | refine oq (y_addw rfl rfl rfl) rfl wn rfl rfl ?_
          refine qs rfl rfl rfl <| Ops.nil <| thn_n ?_
          have hg : heG ss l ht f d k = s.co := by simp only [heG, hb, hq, hsa]; exact if_pos (by omega)
          exact ⟨rfl, k + 1, by omega, by omega, ⟨rfl, lk rfl (show I _ = I _ by rw [sumK, hg]), rfl, rfl, rfl, rfl, rfl, trivial⟩, .refl⟩
        · refine W.skip <| blk_n <| thn_n <| W.region rfl <| qm rfl rfl rfl ?_
          first | refine oq (yadd rfl rfl rfl) rfl wn rfl rfl ?_ | refine oq (y_addw rfl rfl rfl) rfl wn rfl rfl ?_
          refine qs rfl rfl rfl <| Ops.nil <| thn_n ?_
          have hg : heG ss l ht f d k = 0 := by simp only [heG, hb, hq]; exact if_neg (by omega)
          exact ⟨rfl, k + 1, by omega, by omega, ⟨rfl, lk rfl (show I _ = I _ by rw [sumK, hg, Int.add_zero]), rfl, rfl, rfl, rfl, rfl, trivial⟩, .refl⟩
      · refine ap (i := 17) rfl rfl rfl rfl rfl rfl ?_
        refine ap (i := 18) rfl rfl rfl rfl rfl rfl ?_
        refine ap (i := 19) rfl rfl rfl rfl rfl rfl ?_
        refine ap (i := 20) rfl rfl rfl rfl rfl rfl ?_
        refine ap (i := 21) rfl rfl rfl rfl rfl rfl ?_
        refine ap (i := 22) rfl rfl rfl rfl rfl rfl ?_
        refine ap (i := 23) rfl rfl rfl rfl rfl rfl ?_
        refine ap (i := 24) rfl rfl rfl rfl rfl rfl ?_
        refine ap (i := 25) rfl rfl rfl rfl rfl rfl ?_
        refine ap (i := 26) rfl rfl rfl rfl rfl rfl ?_
        refine ap (i := 27) rfl rfl rfl rfl rfl rfl ?_
        refine ap (i := 28) rfl rfl rfl rfl rfl rfl ?_
        refine aq (i := 29) (y_pickF rfl rfl rfl) rfl an rfl rfl ?_
        refine az ?_
        refine thn_n ?_
        refine W.condF ?_
        refine W.skip <| blk_n <| thn_n <| W.region rfl <| qm rfl rfl rfl ?_
        first | refine oq (yadd rfl rfl rfl) rfl wn rfl rfl ?_ | refine oq (y_addw rfl rfl rfl) rfl wn rfl rfl ?_
        refine qs rfl rfl rfl <| Ops.nil <| thn_n ?_
        have hg : heG ss l ht f d k = 0 := by simp only [heG, hb, hq]; exact if_neg (by omega)
        exact ⟨rfl, k + 1, by omega, by omega, ⟨rfl, lk rfl (show I _ = I _ by rw [sumK, hg, Int.add_zero]), rfl, rfl, rfl, rfl, rfl, trivial⟩, .refl⟩
    · refine ap (i := 8) rfl rfl rfl rfl rfl rfl ?_
      refine ap (i := 9) rfl rfl rfl rfl rfl rfl ?_
      refine ap (i := 10) rfl rfl rfl rfl rfl rfl ?_
      refine ap (i := 11) rfl rfl rfl rfl rfl rfl ?_
      refine ap (i := 12) rfl rfl rfl rfl rfl rfl ?_
      refine ap (i := 13) rfl rfl rfl rfl rfl rfl ?_
      refine ap (i := 14) rfl rfl rfl rfl rfl rfl ?_
      refine aq (i := 15) (y_pickF rfl rfl rfl) rfl an rfl rfl ?_
      refine aq (i := 16) (y_move rfl rfl) rfl an rfl rfl ?_
      refine ap (i := 17) rfl rfl rfl rfl rfl rfl ?_
      refine ap (i := 18) rfl rfl rfl rfl rfl rfl ?_
      refine ap (i := 19) rfl rfl rfl rfl rfl rfl ?_
      refine ap (i := 20) rfl rfl rfl rfl rfl rfl ?_
      refine ap (i := 21) rfl rfl rfl rfl rfl rfl ?_
      refine ap (i := 22) rfl rfl rfl rfl rfl rfl ?_
      refine ap (i := 23) rfl rfl rfl rfl rfl rfl ?_
      refine ap (i := 24) rfl rfl rfl rfl rfl rfl ?_
      refine ap (i := 25) rfl rfl rfl rfl rfl rfl ?_
      refine ap (i := 26) rfl rfl rfl rfl rfl rfl ?_
      refine ap (i := 27) rfl rfl rfl rfl rfl rfl ?_
      refine ap (i := 28) rfl rfl rfl rfl rfl rfl ?_
      refine aq (i := 29) (y_pickF rfl rfl rfl) rfl an rfl rfl ?_
      refine az ?_
      refine thn_n ?_
      refine W.condF ?_
      refine W.skip <| blk_n <| thn_n <| W.region rfl <| qm rfl rfl rfl ?_
      first | refine oq (yadd rfl rfl rfl) rfl wn rfl rfl ?_ | refine oq (y_addw rfl rfl rfl) rfl wn rfl rfl ?_
      refine qs rfl rfl rfl <| Ops.nil <| thn_n ?_
      have hg : heG ss l ht f d k = 0 := by simp only [heG, hb, hq]; exact if_neg (by omega)
      exact ⟨rfl, k + 1, by omega, by omega, ⟨rfl, lk rfl (show I _ = I _ by rw [sumK, hg, Int.add_zero]), rfl, rfl, rfl, rfl, rfl, trivial⟩, .refl⟩
  · have hke : k = l.length := by omega
    subst hke
    refine W.exit <| thn_x <| thn_x <| blk_x <| thn_n <| W.seq <| W.region rfl <| qm rfl rfl rfl <| qs rfl rfl rfl <| Ops.nil ?_
    refine thn_n <| W.ret ?_
    exact lvp (hs := .cons rfl .nil) rfl

def anyK (q : Nat → Bool) : Nat → Bool
  | 0 => false
  | k + 1 => anyK q k || q k
theorem anyK_iff {q : Nat → Bool} : ∀ {k : Nat}, anyK q k = true ↔ ∃ i, i < k ∧ q i = true
  | 0 => by simp [anyK]
  | k + 1 => by
    rw [anyK, Bool.or_eq_true, anyK_iff]
    constructor
    · rintro (⟨i, h1, h2⟩ | h)
      · exact ⟨i, by omega, h2⟩
      · exact ⟨k, by omega, h⟩
    · rintro ⟨i, h1, h2⟩
      rcases (by omega : i < k ∨ i = k) with h | rfl
      · exact .inl ⟨i, h, h2⟩
      · exact .inr h2
def qB (l : List Be) (f d : Int) (i : Nat) : Bool := decide ((beAt l i).fl = f) && decide ((beAt l i).day < d)
def qA (l : List Be) (f d : Int) (i : Nat) : Bool := decide ((beAt l i).fl = f) && decide (d < (beAt l i).day)
def btwB (l : List Be) (f d : Int) : Bool := anyK (qB l f d) l.length && anyK (qA l f d) l.length
theorem btwB_iff {l : List Be} {f d : Int} : btwB l f d = true ↔ Btw l f d := by
  simp only [btwB, Bool.and_eq_true, anyK_iff, qB, qA, decide_eq_true_eq, Btw]
theorem between_fn (main : Side) (h : Hp) (l : List Be) (f d : Int) (vl : Value) (hl : Sl h Be.row vl l) (hn : l.length ≤ 1000) : Pu prog main n_law_between #[vl, I f, I d] h (.bool (btwB l f d)) := by
  obtain ⟨al, lc, rfl⟩ := hl.isSl
  refine Fnc.of_body at_law_between rfl (by show 3 ≤ 58; decide) [(0, .slice al l.length lc), (1, I f), (2, I d)] ⟨rfl, rfl, rfl, trivial⟩ ?_
  refine W.seq <| W.region rfl <| qs rfl rfl rfl <| Ops.nil <| thn_n <| W.seq <| W.region rfl <| qs rfl rfl rfl <| qs rfl rfl rfl <| Ops.nil ?_
  refine thn_n <| W.seq <| W.seq <| W.region rfl <| qs rfl rfl rfl <| Ops.nil <| thn_n <| W.block ?_
  refine W.loop (σ := Nat) (fun k => k ≤ l.length) (fun k => [(9, I k), (7, .bool (anyK (qB l f d) k)), (8, .bool (anyK (qA l f d) k)), (0, .slice al l.length lc), (1, I f), (2, I d)]) (fun _ => []) (fun k => l.length - k) 0 (Nat.zero_le _) ⟨rfl, rfl, rfl, rfl, rfl, rfl, trivial⟩ sbA ?_
  rintro k hk
  refine W.seq <| W.seq <| W.region rfl <| qm rfl rfl rfl <| qm rfl rfl rfl ?_
  refine oq (y_len rfl rfl) rfl wn rfl rfl ?_
  refine oq (y_lss rfl rfl rfl) rfl wn rfl rfl ?_
  refine Ops.nil <| thn_n ?_
  refine W.condp rfl (fun c13 => ?_) (fun c13 => ?_)
  · have hk1 : k < l.length := by omega
    have hb0 : l[k]? = some (beAt l k) := by simp [beAt, List.getD, List.getElem?_eq_getElem hk1]
    obtain ⟨bl, offl, cl, El, fzl, rfl, hbl, -, hyl, hzl⟩ := hl.at hb0
    have hfl0 : cl[offl + k * 2 + 0]? = some (I (beAt l k).fl) := hzl 0 (by decide)
    have hfl1 : cl[offl + k * 2 + 1]? = some (I (beAt l k).day) := hzl 1 (by decide)
    clear hzl
    have hq1 : anyK (qB l f d) (k + 1) = (anyK (qB l f d) k || (decide ((beAt l k).fl = f) && decide ((beAt l k).day < d))) := rfl
    have hq2 : anyK (qA l f d) (k + 1) = (anyK (qA l f d) k || (decide ((beAt l k).fl = f) && decide (d < (beAt l k).day))) := rfl
    generalize anyK (qB l f d) k = b1 at hq1 ⊢
    generalize anyK (qA l f d) k = b2 at hq2 ⊢
    generalize beAt l k = b at *
    refine W.skip <| thn_n <| W.seq <| W.block <| W.seq <| W.region rfl <| qm rfl rfl rfl <| qm rfl rfl rfl ?_
    refine Ops.askB (fun a5_2 => ?_) (fun a5_2 => ?_)
    · refine Ops.no ?_
      refine Ops.no ?_
      refine Ops.no ?_
      refine Ops.no ?_
      refine Ops.no ?_
      refine Ops.no ?_
      refine Ops.no ?_
      refine Ops.no ?_
      refine Ops.noU ?_
      refine Ops.noU ?_
      refine Ops.noU ?_
      refine Ops.noU ?_
      refine Ops.noU ?_
      refine Ops.noU ?_
      refine Ops.noU ?_
      refine Ops.no ?_
      refine oq (y_pickT rfl rfl rfl) rfl wn rfl rfl ?_
      refine qs rfl rfl rfl <| Ops.nil <| thn_n <| W.region rfl <| qm rfl rfl rfl <| qm rfl rfl rfl ?_
      refine Ops.askB (fun a6_2 => ?_) (fun a6_2 => ?_)
      · refine Ops.no ?_
        refine Ops.no ?_
        refine Ops.no ?_
        refine Ops.no ?_
        refine Ops.no ?_
        refine Ops.no ?_
        refine Ops.no ?_
        refine Ops.no ?_
        refine Ops.noU ?_
        refine Ops.noU ?_
        refine Ops.noU ?_
        refine Ops.noU ?_
        refine Ops.noU ?_
        refine Ops.noU ?_
        refine Ops.noU ?_
        refine Ops.no ?_
        refine oq (y_pickT rfl rfl rfl) rfl wn rfl rfl ?_
        refine qs rfl rfl rfl <| Ops.nil <| blk_n <| thn_n <| W.region rfl <| qm rfl rfl rfl ?_
        first | refine oq (yadd rfl rfl rfl) rfl wn rfl rfl ?_ | refine oq (y_addw rfl rfl rfl) rfl wn rfl rfl ?_
        refine qs rfl rfl rfl <| Ops.nil <| thn_n ?_
        refine ⟨rfl, k + 1, by omega, by omega, ⟨rfl, lk rfl (congrArg Value.bool ?_), lk rfl (congrArg Value.bool ?_), rfl, rfl, rfl, trivial⟩, .refl⟩
        · rw [hq1]; simp_all
        · rw [hq2]; simp_all
      · refine oq (y_move rfl rfl) rfl (want_some rfl rfl rfl) rfl rfl ?_
        refine oq (y_move rfl rfl) rfl (want_some rfl rfl rfl) rfl rfl ?_
        first | refine oq (yix rfl rfl rfl) rfl (want_some rfl rfl rfl) rfl rfl ?_ | refine oq (yixI rfl rfl rfl) rfl (want_some rfl rfl rfl) rfl rfl ?_
        refine oq (y_fieldAddr rfl rfl) rfl (want_some rfl rfl rfl) rfl rfl ?_
        refine oq (yld rfl rfl) rfl (want_some rfl rfl rfl) rfl rfl ?_
        refine oq (y_move rfl rfl) rfl (want_some rfl rfl rfl) rfl rfl ?_
        refine oq (y_eql rfl rfl rfl) rfl (want_some rfl rfl rfl) rfl rfl ?_
        refine oq (y_move rfl rfl) rfl (want_some rfl rfl rfl) rfl rfl ?_
        refine Ops.ask (fun a6_10 => ?_) (fun a6_10 => ?_)
        · refine oq (y_move rfl rfl) rfl (want_some rfl rfl rfl) rfl rfl ?_
          refine oq (y_move rfl rfl) rfl (want_some rfl rfl rfl) rfl rfl ?_
          first | refine oq (yix rfl rfl rfl) rfl (want_some rfl rfl rfl) rfl rfl ?_ | refine oq (yixI rfl rfl rfl) rfl (want_some rfl rfl rfl) rfl rfl ?_
          refine oq (y_fieldAddr rfl rfl) rfl (want_some rfl rfl rfl) rfl rfl ?_
          refine oq (yld rfl rfl) rfl (want_some rfl rfl rfl) rfl rfl ?_
          refine oq (y_move rfl rfl) rfl (want_some rfl rfl rfl) rfl rfl ?_
          refine oq (y_gtr rfl rfl rfl) rfl (want_some rfl rfl rfl) rfl rfl ?_
          refine oq (y_pickT rfl rfl rfl) rfl (want_some rfl rfl rfl) rfl rfl ?_
          refine oq (y_pickF rfl rfl rfl) rfl wn rfl rfl ?_
          refine qs rfl rfl rfl <| Ops.nil <| blk_n <| thn_n <| W.region rfl <| qm rfl rfl rfl ?_
          first | refine oq (yadd rfl rfl rfl) rfl wn rfl rfl ?_ | refine oq (y_addw rfl rfl rfl) rfl wn rfl rfl ?_
          refine qs rfl rfl rfl <| Ops.nil <| thn_n ?_
          refine ⟨rfl, k + 1, by omega, by omega, ⟨rfl, lk rfl (congrArg Value.bool ?_), lk rfl (congrArg Value.bool ?_), rfl, rfl, rfl, trivial⟩, .refl⟩
          · rw [hq1]; simp_all
          · rw [hq2]; simp_all
        · refine Ops.no ?_
          refine Ops.no ?_
          refine Ops.no ?_
          refine Ops.no ?_
          refine Ops.no ?_
          refine Ops.no ?_
          refine Ops.no ?_
          refine oq (y_pickF rfl rfl rfl) rfl (want_some rfl rfl rfl) rfl rfl ?_
          refine oq (y_pickF rfl rfl rfl) rfl wn rfl rfl ?_
          refine qs rfl rfl rfl <| Ops.nil <| blk_n <| thn_n <| W.region rfl <| qm rfl rfl rfl ?_
          first | refine oq (yadd rfl rfl rfl) rfl wn rfl rfl ?_ | refine oq (y_addw rfl rfl rfl) rfl wn rfl rfl ?_
          refine qs rfl rfl rfl <| Ops.nil <| thn_n ?_
          refine ⟨rfl, k + 1, by omega, by omega, ⟨rfl, lk rfl (congrArg Value.bool ?_), lk rfl (congrArg Value.bool ?_), rfl, rfl, rfl, trivial⟩, .refl⟩
          · rw [hq1]; simp_all
          · rw [hq2]; simp_all
    · refine oq (y_move rfl rfl) rfl (want_some rfl rfl rfl) rfl rfl ?_
      refine oq (y_move rfl rfl) rfl (want_some rfl rfl rfl) rfl rfl ?_
      first | refine oq (yix rfl rfl rfl) rfl (want_some rfl rfl rfl) rfl rfl ?_ | refine oq (yixI rfl rfl rfl) rfl (want_some rfl rfl rfl) rfl rfl ?_
      refine oq (y_fieldAddr rfl rfl) rfl (want_some rfl rfl rfl) rfl rfl ?_
      refine oq (yld rfl rfl) rfl (want_some rfl rfl rfl) rfl rfl ?_
      refine oq (y_move rfl rfl) rfl (want_some rfl rfl rfl) rfl rfl ?_
      refine oq (y_eql rfl rfl rfl) rfl (want_some rfl rfl rfl) rfl rfl ?_
      refine oq (y_move rfl rfl) rfl (want_some rfl rfl rfl) rfl rfl ?_
      refine Ops.ask (fun a5_10 => ?_) (fun a5_10 => ?_)
      · refine oq (y_move rfl rfl) rfl (want_some rfl rfl rfl) rfl rfl ?_
        refine oq (y_move rfl rfl) rfl (want_some rfl rfl rfl) rfl rfl ?_
        first | refine oq (yix rfl rfl rfl) rfl (want_some rfl rfl rfl) rfl rfl ?_ | refine oq (yixI rfl rfl rfl) rfl (want_some rfl rfl rfl) rfl rfl ?_
        refine oq (y_fieldAddr rfl rfl) rfl (want_some rfl rfl rfl) rfl rfl ?_
        refine oq (yld rfl rfl) rfl (want_some rfl rfl rfl) rfl rfl ?_
        refine oq (y_move rfl rfl) rfl (want_some rfl rfl rfl) rfl rfl ?_
        refine oq (y_lss rfl rfl rfl) rfl (want_some rfl rfl rfl) rfl rfl ?_
        refine oq (y_pickT rfl rfl rfl) rfl (want_some rfl rfl rfl) rfl rfl ?_
        refine oq (y_pickF rfl rfl rfl) rfl wn rfl rfl ?_
        refine qs rfl rfl rfl <| Ops.nil <| thn_n <| W.region rfl <| qm rfl rfl rfl <| qm rfl rfl rfl ?_
        refine Ops.askB (fun a6_2 => ?_) (fun a6_2 => ?_)
        · refine Ops.no ?_
          refine Ops.no ?_
          refine Ops.no ?_
          refine Ops.no ?_
          refine Ops.no ?_
          refine Ops.no ?_
          refine Ops.no ?_
          refine Ops.no ?_
          refine Ops.noU ?_
          refine Ops.noU ?_
          refine Ops.noU ?_
          refine Ops.noU ?_
          refine Ops.noU ?_
          refine Ops.noU ?_
          refine Ops.noU ?_
          refine Ops.no ?_
          refine oq (y_pickT rfl rfl rfl) rfl wn rfl rfl ?_
          refine qs rfl rfl rfl <| Ops.nil <| blk_n <| thn_n <| W.region rfl <| qm rfl rfl rfl ?_
          first | refine oq (yadd rfl rfl rfl) rfl wn rfl rfl ?_ | refine oq (y_addw rfl rfl rfl) rfl wn rfl rfl ?_
          refine qs rfl rfl rfl <| Ops.nil <| thn_n ?_
          refine ⟨rfl, k + 1, by omega, by omega, ⟨rfl, lk rfl (congrArg Value.bool ?_), lk rfl (congrArg Value.bool ?_), rfl, rfl, rfl, trivial⟩, .refl⟩
          · rw [hq1]; simp_all
          · rw [hq2]; simp_all
        · refine oq (y_move rfl rfl) rfl (want_some rfl rfl rfl) rfl rfl ?_
          refine oq (y_move rfl rfl) rfl (want_some rfl rfl rfl) rfl rfl ?_
          first | refine oq (yix rfl rfl rfl) rfl (want_some rfl rfl rfl) rfl rfl ?_ | refine oq (yixI rfl rfl rfl) rfl (want_some rfl rfl rfl) rfl rfl ?_
          refine oq (y_fieldAddr rfl rfl) rfl (want_some rfl rfl rfl) rfl rfl ?_
          refine oq (yld rfl rfl) rfl (want_some rfl rfl rfl) rfl rfl ?_
          refine oq (y_move rfl rfl) rfl (want_some rfl rfl rfl) rfl rfl ?_
          refine oq (y_eql rfl rfl rfl) rfl (want_some rfl rfl rfl) rfl rfl ?_
          refine oq (y_move rfl rfl) rfl (want_some rfl rfl rfl) rfl rfl ?_
          refine Ops.ask (fun a6_10 => ?_) (fun a6_10 => ?_)
          · refine oq (y_move rfl rfl) rfl (want_some rfl rfl rfl) rfl rfl ?_
            refine oq (y_move rfl rfl) rfl (want_some rfl rfl rfl) rfl rfl ?_
            first | refine oq (yix rfl rfl rfl) rfl (want_some rfl rfl rfl) rfl rfl ?_ | refine oq (yixI rfl rfl rfl) rfl (want_some rfl rfl rfl) rfl rfl ?_
            refine oq (y_fieldAddr rfl rfl) rfl (want_some rfl rfl rfl) rfl rfl ?_
            refine oq (yld rfl rfl) rfl (want_some rfl rfl rfl) rfl rfl ?_
            refine oq (y_move rfl rfl) rfl (want_some rfl rfl rfl) rfl rfl ?_
            refine oq (y_gtr rfl rfl rfl) rfl (want_some rfl rfl rfl) rfl rfl ?_
            refine oq (y_pickT rfl rfl rfl) rfl (want_some rfl rfl rfl) rfl rfl ?_
            refine oq (y_pickF rfl rfl rfl) rfl wn rfl rfl ?_
            refine qs rfl rfl rfl <| Ops.nil <| blk_n <| thn_n <| W.region rfl <| qm rfl rfl rfl ?_
            first | refine oq (yadd rfl rfl rfl) rfl wn rfl rfl ?_ | refine oq (y_addw rfl rfl rfl) rfl wn rfl rfl ?_
            refine qs rfl rfl rfl <| Ops.nil <| thn_n ?_
            refine ⟨rfl, k + 1, by omega, by omega, ⟨rfl, lk rfl (congrArg Value.bool ?_), lk rfl (congrArg Value.bool ?_), rfl, rfl, rfl, trivial⟩, .refl⟩
            · rw [hq1]; simp_all
            · rw [hq2]; simp_all
          · refine Ops.no ?_
            refine Ops.no ?_
            refine Ops.no ?_
            refine Ops.no ?_
            refine Ops.no ?_
            refine Ops.no ?_
            refine Ops.no ?_
            refine oq (y_pickF rfl rfl rfl) rfl (want_some rfl rfl rfl) rfl rfl ?_
            refine oq (y_pickF rfl rfl rfl) rfl wn rfl rfl ?_
            refine qs rfl rfl rfl <| Ops.nil <| blk_n <| thn_n <| W.region rfl <| qm rfl rfl rfl ?_
            first | refine oq (yadd rfl rfl rfl) rfl wn rfl rfl ?_ | refine oq (y_addw rfl rfl rfl) rfl wn rfl rfl ?_
            refine qs rfl rfl rfl <| Ops.nil <| thn_n ?_
            refine ⟨rfl, k + 1, by omega, by omega, ⟨rfl, lk rfl (congrArg Value.bool ?_), lk rfl (congrArg Value.bool ?_), rfl, rfl, rfl, trivial⟩, .refl⟩
            · rw [hq1]; simp_all
            · rw [hq2]; simp_all
      · refine Ops.no ?_
        refine Ops.no ?_
        refine Ops.no ?_
        refine Ops.no ?_
        refine Ops.no ?_
        refine Ops.no ?_
        refine Ops.no ?_
        refine oq (y_pickF rfl rfl rfl) rfl (want_some rfl rfl rfl) rfl rfl ?_
        refine oq (y_pickF rfl rfl rfl) rfl wn rfl rfl ?_
        refine qs rfl rfl rfl <| Ops.nil <| thn_n <| W.region rfl <| qm rfl rfl rfl <| qm rfl rfl rfl ?_
        refine Ops.askB (fun a6_2 => ?_) (fun a6_2 => ?_)
        · refine Ops.no ?_
          refine Ops.no ?_
          refine Ops.no ?_
          refine Ops.no ?_
          refine Ops.no ?_
          refine Ops.no ?_
          refine Ops.no ?_
          refine Ops.no ?_
          refine Ops.noU ?_
          refine Ops.noU ?_
          refine Ops.noU ?_
          refine Ops.noU ?_
          refine Ops.noU ?_
          refine Ops.noU ?_
          refine Ops.noU ?_
          refine Ops.no ?_
          refine oq (y_pickT rfl rfl rfl) rfl wn rfl rfl ?_
          refine qs rfl rfl rfl <| Ops.nil <| blk_n <| thn_n <| W.region rfl <| qm rfl rfl rfl ?_
          first | refine oq (yadd rfl rfl rfl) rfl wn rfl rfl ?_ | refine oq (y_addw rfl rfl rfl) rfl wn rfl rfl ?_
          refine qs rfl rfl rfl <| Ops.nil <| thn_n ?_
          refine ⟨rfl, k + 1, by omega, by omega, ⟨rfl, lk rfl (congrArg Value.bool ?_), lk rfl (congrArg Value.bool ?_), rfl, rfl, rfl, trivial⟩, .refl⟩
          · rw [hq1]; simp_all
          · rw [hq2]; simp_all
        · refine oq (y_move rfl rfl) rfl (want_some rfl rfl rfl) rfl rfl ?_
          refine oq (y_move rfl rfl) rfl (want_some rfl rfl rfl) rfl rfl ?_
          first | refine oq (yix rfl rfl rfl) rfl (want_some rfl rfl rfl) rfl rfl ?_ | refine oq (yixI rfl rfl rfl) rfl (want_some rfl rfl rfl) rfl rfl ?_
          refine oq (y_fieldAddr rfl rfl) rfl (want_some rfl rfl rfl) rfl rfl ?_
          refine oq (yld rfl rfl) rfl (want_some rfl rfl rfl) rfl rfl ?_
          refine oq (y_move rfl rfl) rfl (want_some rfl rfl rfl) rfl rfl ?_
          refine oq (y_eql rfl rfl rfl) rfl (want_some rfl rfl rfl) rfl rfl ?_
          refine oq (y_move rfl rfl) rfl (want_some rfl rfl rfl) rfl rfl ?_
          refine Ops.ask (fun a6_10 => ?_) (fun a6_10 => ?_)
          · refine oq (y_move rfl rfl) rfl (want_some rfl rfl rfl) rfl rfl ?_
            refine oq (y_move rfl rfl) rfl (want_some rfl rfl rfl) rfl rfl ?_
            first | refine oq (yix rfl rfl rfl) rfl (want_some rfl rfl rfl) rfl rfl ?_ | refine oq (yixI rfl rfl rfl) rfl (want_some rfl rfl rfl) rfl rfl ?_
            refine oq (y_fieldAddr rfl rfl) rfl (want_some rfl rfl rfl) rfl rfl ?_
            refine oq (yld rfl rfl) rfl (want_some rfl rfl rfl) rfl rfl ?_
            refine oq (y_move rfl rfl) rfl (want_some rfl rfl rfl) rfl rfl ?_
            refine oq (y_gtr rfl rfl rfl) rfl (want_some rfl rfl rfl) rfl rfl ?_
            refine oq (y_pickT rfl rfl rfl) rfl (want_some rfl rfl rfl) rfl rfl ?_
            refine oq (y_pickF rfl rfl rfl) rfl wn rfl rfl ?_
            refine qs rfl rfl rfl <| Ops.nil <| blk_n <| thn_n <| W.region rfl <| qm rfl rfl rfl ?_
            first | refine oq (yadd rfl rfl rfl) rfl wn rfl rfl ?_ | refine oq (y_addw rfl rfl rfl) rfl wn rfl rfl ?_
            refine qs rfl rfl rfl <| Ops.nil <| thn_n ?_
            refine ⟨rfl, k + 1, by omega, by omega, ⟨rfl, lk rfl (congrArg Value.bool ?_), lk rfl (congrArg Value.bool ?_), rfl, rfl, rfl, trivial⟩, .refl⟩
            · rw [hq1]; simp_all
            · rw [hq2]; simp_all
          · refine Ops.no ?_
            refine Ops.no ?_
            refine Ops.no ?_
            refine Ops.no ?_
            refine Ops.no ?_
            refine Ops.no ?_
            refine Ops.no ?_
            refine oq (y_pickF rfl rfl rfl) rfl (want_some rfl rfl rfl) rfl rfl ?_
            refine oq (y_pickF rfl rfl rfl) rfl wn rfl rfl ?_
            refine qs rfl rfl rfl <| Ops.nil <| blk_n <| thn_n <| W.region rfl <| qm rfl rfl rfl ?_
            first | refine oq (yadd rfl rfl rfl) rfl wn rfl rfl ?_ | refine oq (y_addw rfl rfl rfl) rfl wn rfl rfl ?_
            refine qs rfl rfl rfl <| Ops.nil <| thn_n ?_
            refine ⟨rfl, k + 1, by omega, by omega, ⟨rfl, lk rfl (congrArg Value.bool ?_), lk rfl (congrArg Value.bool ?_), rfl, rfl, rfl, trivial⟩, .refl⟩
            · rw [hq1]; simp_all
            · rw [hq2]; simp_all
  · have hke : k = l.length := by omega
    subst hke
    refine W.exit <| thn_x <| thn_x <| blk_x <| thn_n <| W.seq <| W.region rfl <| qm rfl rfl rfl <| qm rfl rfl rfl ?_
    refine Ops.askB (fun a7_2 => ?_) (fun a7_2 => ?_)
    · refine oq (y_move rfl rfl) rfl (want_some rfl rfl rfl) rfl rfl ?_
      refine oq (y_pickT rfl rfl rfl) rfl wn rfl rfl ?_
      refine qs rfl rfl rfl <| Ops.nil <| thn_n <| W.ret ?_
      first
      | (rw [show btwB l f d = anyK (qA l f d) l.length by simp [btwB, a7_2]]; exact lvp rfl)
      | (rw [show btwB l f d = false by simp [btwB, a7_2]]; exact lvp rfl)
    · refine Ops.no ?_
      refine oq (y_pickF rfl rfl rfl) rfl wn rfl rfl ?_
      refine qs rfl rfl rfl <| Ops.nil <| thn_n <| W.ret ?_
      first
      | (rw [show btwB l f d = anyK (qA l f d) l.length by simp [btwB, a7_2]]; exact lvp rfl)
      | (rw [show btwB l f d = false by simp [btwB, a7_2]]; exact lvp rfl)

open Classical in
noncomputable def idlL (ss : List St) (l : List Be) (ht : List Int) (nf d k : Nat) : List Int := (List.range nf).map fun j => if j < k then idleN ss l ht j (d + 1) else idleN ss l ht j d
theorem idlL_at {ss : List St} {l : List Be} {ht : List Int} {nf d k j : Nat} (h : j < nf) : (idlL ss l ht nf d k)[j]? = some (if j < k then idleN ss l ht j (d + 1) else idleN ss l ht j d) := by
  simp [idlL, h]
theorem idlL_set {ss : List St} {l : List Be} {ht : List Int} {nf d k : Nat} : (idlL ss l ht nf d k).set k (idleN ss l ht k (d + 1)) = idlL ss l ht nf d (k + 1) := by
  refine List.ext_getElem? fun i => ?_
  rw [List.getElem?_set]
  by_cases hi : i < nf
  · by_cases e : k = i
    · subst e; rw [if_pos rfl, if_pos (by simpa [idlL] using hi), idlL_at hi, if_pos (by omega)]
    · rw [if_neg e, idlL_at hi, idlL_at hi]
      by_cases h' : i < k
      · rw [if_pos h', if_pos (by omega)]
      · rw [if_neg h', if_neg (by omega)]
  · have h1 : (idlL ss l ht nf d k)[i]? = none := by simp [idlL]; omega
    have h2 : (idlL ss l ht nf d (k + 1))[i]? = none := by simp [idlL]; omega
    rw [h1, h2]
    split
    · rename_i e; subst e; rw [if_neg (by simp [idlL]; omega)]
    · rfl
theorem idlL_next {ss : List St} {l : List Be} {ht : List Int} {nf d : Nat} : idlL ss l ht nf d nf = idlL ss l ht nf (d + 1) 0 := by
  refine List.map_congr_left fun j hj => ?_
  rw [if_pos (List.mem_range.1 hj), if_neg (by omega)]
theorem idlL_0 {ss : List St} {l : List Be} {ht : List Int} {nf : Nat} : idlL ss l ht nf 0 0 = List.replicate nf 0 := by
  refine List.ext_getElem? fun i => ?_
  by_cases hi : i < nf
  · rw [idlL_at hi, if_neg (by omega), List.getElem?_replicate, if_pos hi]; rfl
  · have h1 : (idlL ss l ht nf 0 0)[i]? = none := by simp [idlL]; omega
    rw [h1, List.getElem?_replicate, if_neg hi]
theorem flat_rep {n : Nat} : flat rowI (List.replicate n (0 : Int)) = List.replicate n (I 0) := by
  induction n with
  | zero => rfl
  | succ n ih => rw [List.replicate_succ, List.replicate_succ, ← ih]; rfl
theorem shows_fn (main : Side) (h : Hp) (fs : List Fl) (ss : List St) (l : List Be) (ht : List Int) (vf vs vl vh : Value) (hf : Sl h Fl.row vf fs) (hs : Sl h St.row vs ss) (hl : Sl h Be.row vl l) (hh : Sl h rowI vh ht) (hck : ckPlan fs ss l = 0) (hht : IsHeat fs l ht) : Fnc prog main n_law_shows #[.agg #[vf, vs], vl, vh] h [] (fun v A => ∃ g d, v = .tuple #[I g, I d] ∧ MinS (Shw fs ss l ht) g d ∧ Shut A) := by
  obtain ⟨hall, hp, hn⟩ := plan_ck hck
  have hns := hall.ns
  have hnf := hall.nf
  obtain ⟨a, cap, rfl⟩ := hf.isSl
  obtain ⟨a', cap', rfl⟩ := hs.isSl
  obtain ⟨al, lc, rfl⟩ := hl.isSl
  obtain ⟨ah, hc, rfl⟩ := hh.isSl
  refine Fnc.of_body at_law_shows rfl (by show 3 ≤ 73; decide) [(0, .agg #[.slice a fs.length cap, .slice a' ss.length cap']), (1, .slice al l.length lc), (2, .slice ah ht.length hc)] ⟨rfl, rfl, rfl, trivial⟩ ?_
  refine W.seq <| W.region rfl ?_
  refine Ops.box (cs := #[.slice a fs.length cap, .slice a' ss.length cap']) (fun β3 => ?_) rfl rfl rfl
  refine qs rfl rfl rfl <| qs rfl rfl rfl <| Ops.nil <| thn_n <| W.seq <| W.region rfl ?_
  refine oq (y_fieldAddr rfl rfl) rfl wn rfl rfl ?_
  refine oq (yld rfl rfl) rfl wn rfl rfl ?_
  refine oq (y_len rfl rfl) rfl wn rfl rfl ?_
  refine oe rfl wn rfl rfl (e_makeSlice (n := fs.length) rfl rfl rfl (by omega) (fun β15 => ?_))
  refine qs rfl rfl rfl <| Ops.nil <| thn_n <| W.seq <| W.seq <| W.region rfl <| qs rfl rfl rfl <| Ops.nil <| thn_n <| W.block ?_
  refine W.loop (σ := Nat × Array Value) (fun q => q.1 ≤ 22 ∧ q.2.size = fs.length ∧ Part q.2 0 (flat rowI (idlL ss l ht fs.length q.1 0)) ∧ ∀ f d, d < q.1 → ¬ Shw fs ss l ht f d) (fun q => [(9, I q.1), (8, .slice (some ⟨β15, 0, none⟩) fs.length fs.length), (3, .pointer (some ⟨β3, 0, none⟩)), (1, .slice al l.length lc), (2, .slice ah ht.length hc)]) (fun q => [(β15, .cells q.2 t_int (0, 0)), (β3, .cells #[.slice a fs.length cap, .slice a' ss.length cap'] t_Plant (0, 0))]) (fun q => 22 - q.1) (0, (List.replicate fs.length (I 0)).toArray) ⟨Nat.zero_le _, by simp, by rw [idlL_0, flat_rep]; exact Part.all _, fun f d hd => by simp at hd⟩ ⟨rfl, rfl, rfl, rfl, rfl, trivial⟩ .refl ?_
  rintro ⟨d, c⟩ ⟨hd, hcs, hP, hno⟩
  simp only at hd hcs hP hno
  refine W.seq <| W.seq <| W.region rfl <| qm rfl rfl rfl ?_
  refine oq (y_leq rfl rfl rfl) rfl wn rfl rfl ?_
  refine Ops.nil <| thn_n ?_
  refine W.condp rfl (fun c17 => ?_) (fun c17 => ?_)
  · have hd1 : d < 22 := by omega
    refine W.skip <| thn_n <| W.seq <| W.block <| W.seq <| W.region rfl <| qs rfl rfl rfl <| Ops.nil <| thn_n <| W.block ?_
    refine W.loop (σ := Nat × Array Value) (fun q => q.1 ≤ fs.length ∧ q.2.size = fs.length ∧ Part q.2 0 (flat rowI (idlL ss l ht fs.length d q.1)) ∧ ∀ f, f < q.1 → ¬ Shw fs ss l ht f d) (fun q => [(10, I q.1), (9, I d), (8, .slice (some ⟨β15, 0, none⟩) fs.length fs.length), (3, .pointer (some ⟨β3, 0, none⟩)), (1, .slice al l.length lc), (2, .slice ah ht.length hc)]) (fun q => [(β15, .cells q.2 t_int (0, 0)), (β3, .cells #[.slice a fs.length cap, .slice a' ss.length cap'] t_Plant (0, 0))]) (fun q => fs.length - q.1) (0, c) ⟨Nat.zero_le _, hcs, hP, fun f hf => by simp at hf⟩ ⟨rfl, rfl, rfl, rfl, rfl, rfl, trivial⟩ .refl ?_
    rintro ⟨k, c⟩ ⟨hk, hcs, hP, hnk⟩
    simp only at hk hcs hP hnk
    refine W.seq <| W.seq <| W.region rfl <| qm rfl rfl rfl ?_
    refine oq (y_fieldAddr rfl rfl) rfl wn rfl rfl ?_
    refine oq (yld rfl rfl) rfl wn rfl rfl ?_
    refine oq (y_len rfl rfl) rfl wn rfl rfl ?_
    refine oq (y_lss rfl rfl rfl) rfl wn rfl rfl ?_
    refine Ops.nil <| thn_n ?_
    refine W.condp rfl (fun c24 => ?_) (fun c24 => ?_)
    · have hk1 : k < fs.length := by omega
      obtain ⟨x, hx0, -⟩ := has hk1
      have hfa : flAt fs k = x := by simp [flAt, List.getD, hx0]
      obtain ⟨bf, off, cf, E, fz, rfl, hb, -, hy1, hz1⟩ := hf.at hx0
      have hd0 : cf[off + k * 4 + 0]? = some (I x.pl) := hz1 0 (by decide)
      have hd3 : cf[off + k * 4 + 3]? = some (I x.co) := hz1 3 (by decide)
      clear hz1
      have hil := idlL_at (ss := ss) (l := l) (ht := ht) (d := d) (k := k) hk1
      rw [if_neg (by omega)] at hil
      have hc0 : c[0 + k * 1 + 0]? = some (I (idleN ss l ht k d)) := hP.rowG hil 0 (by decide)
      have hw := (hP.rowE hil).2
      have hidn := idle_nn (ss := ss) (l := l) (h := ht) (f := (k : Int)) d
      have hidn1 := idle_nn (ss := ss) (l := l) (h := ht) (f := (k : Int)) (d + 1)
      have hP2 : Part (c.setIfInBounds (0 + k * 1 + 0) (I (idleN ss l ht k (d + 1)))) 0 (flat rowI (idlL ss l ht fs.length d (k + 1))) := by
        have := hP.setR (idleN ss l ht k (d + 1)) 0 (I (idleN ss l ht k (d + 1))) (by decide) hil rfl
        rw [idlL_set] at this
        rw [Nat.zero_add]; exact this
      have hcn : (c.setIfInBounds (0 + k * 1 + 0) (I (idleN ss l ht k (d + 1))))[0 + k * 1 + 0]? = some (I (idleN ss l ht k (d + 1))) := by
        rw [Array.getElem?_setIfInBounds, if_pos rfl, if_pos (by omega)]
      have hcs2 : (c.setIfInBounds (0 + k * 1 + 0) (I (idleN ss l ht k (d + 1)))).size = fs.length := by rw [Array.size_setIfInBounds]; exact hcs
      refine W.skip <| thn_n <| W.seq <| W.block <| W.seq <| W.region rfl ?_
      first | refine oq (yldW rfl rfl) rfl wn rfl rfl ?_ | refine oq (yldA rfl rfl) rfl wn rfl rfl ?_
      refine qm rfl rfl rfl <| qm rfl rfl rfl <| qm rfl rfl rfl <| qm rfl rfl rfl ?_
      refine cp (fun h' hE hL => cones_fn _ h' fs ss l ht k d _ _ _ _ (hs.ext hE) (hl.ext hE) (hh.ext hE) hck hht) ?_
      refine qs rfl rfl rfl <| Ops.nil <| thn_n <| W.seq <| W.seq <| W.region rfl <| qm rfl rfl rfl ?_
      refine oq (y_eql rfl rfl rfl) rfl wn rfl rfl ?_
      refine qm rfl rfl rfl ?_
      refine Ops.ask (fun a9_3 => ?_) (fun a9_3 => ?_)
      · refine oq (y_move rfl rfl) rfl (want_some rfl rfl rfl) rfl rfl ?_
        refine oq (y_move rfl rfl) rfl (want_some rfl rfl rfl) rfl rfl ?_
        refine oq (y_move rfl rfl) rfl (want_some rfl rfl rfl) rfl rfl ?_
        refine cp (fun h' hE hL => between_fn _ h' l k d _ (hl.ext hE) (by omega)) ?_ (hw := want_some rfl rfl rfl)
        refine oq (y_pickT rfl rfl rfl) rfl wn rfl rfl ?_
        refine Ops.nil <| thn_n ?_
        refine W.cond rfl (fun c40 => ?_) (fun c40 => ?_)
        · have hI : idleN ss l ht k (d + 1) = idleN ss l ht k d + 1 := by rw [idleN]; exact if_pos ⟨by first | exact a9_3 | omega, btwB_iff.1 (by first | exact c40 | simpa using c40)⟩
          refine W.region rfl <| qm rfl rfl rfl <| qm rfl rfl rfl ?_
          first | refine oq (yix rfl rfl rfl) rfl wn rfl rfl ?_ | refine oq (yixI rfl rfl rfl) rfl wn rfl rfl ?_
          refine oq (yld rfl rfl) rfl wn rfl rfl ?_
          refine oq ((yadd rfl rfl rfl).eq (u := I (idleN ss l ht k (d + 1))) (congrArg I hI.symm)) rfl wn rfl rfl ?_
          first | refine oq (yix rfl rfl rfl) rfl wn rfl rfl ?_ | refine oq (yixI rfl rfl rfl) rfl wn rfl rfl ?_
          refine Ops.sto ?_
          refine Ops.nil <| thn_n <| W.seq ?_
          refine W.drawF (n := 21) rfl ?_
          refine aq (i := 0) (y_move rfl rfl) rfl an rfl rfl ?_
          refine aq (i := 1) (y_fieldAddr rfl rfl) rfl an rfl rfl ?_
          refine aq (i := 2) (yld rfl rfl) rfl an rfl rfl ?_
          refine aq (i := 3) (y_move rfl rfl) rfl an rfl rfl ?_
          first | refine aq (i := 4) (yix rfl rfl rfl) rfl an rfl rfl ?_ | refine aq (i := 4) (yixI rfl rfl rfl) rfl an rfl rfl ?_
          refine aq (i := 5) (y_fieldAddr rfl rfl) rfl an rfl rfl ?_
          refine aq (i := 6) (yld rfl rfl) rfl an rfl rfl ?_
          refine aq (i := 7) (y_gtr rfl rfl rfl) rfl an rfl rfl ?_
          refine aq (i := 8) (y_move rfl rfl) rfl an rfl rfl ?_
          refine Any.ask (d' := 58) (fun a12_9 => ?_) (fun a12_9 => ?_)
          · refine ap (i := 9) rfl rfl rfl rfl rfl rfl ?_
            refine ap (i := 10) rfl rfl rfl rfl rfl rfl ?_
            refine ap (i := 11) rfl rfl rfl rfl rfl rfl ?_
            refine ap (i := 12) rfl rfl rfl rfl rfl rfl ?_
            refine ap (i := 13) rfl rfl rfl rfl rfl rfl ?_
            refine ap (i := 14) rfl rfl rfl rfl rfl rfl ?_
            refine ap (i := 15) rfl rfl rfl rfl rfl rfl ?_
            refine ap (i := 16) rfl rfl rfl rfl rfl rfl ?_
            refine ap (i := 17) rfl rfl rfl rfl rfl rfl ?_
            refine ap (i := 18) rfl rfl rfl rfl rfl rfl ?_
            refine ap (i := 19) rfl rfl rfl rfl rfl rfl ?_
            refine aq (i := 20) (y_pickT rfl rfl rfl) rfl an rfl rfl ?_
            refine az ?_
            refine thn_n ?_
            refine W.condT ?_
            have hsh : Shw fs ss l ht k d := ⟨hd1, hk1, by rw [hfa]; first | exact .inl (by omega) | exact .inr (by omega)⟩
            refine W.seq <| W.region rfl <| qm rfl rfl rfl <| qm rfl rfl rfl <| qs rfl rfl rfl <| qs rfl rfl rfl <| Ops.nil <| thn_n <| W.ret <| blk_r ?_
            refine thn_r <| thn_r <| blk_r <| blk_r <| thn_r <| thn_r <| blk_r <| thn_r ?_
            exact lvt (vs := [_, _]) ⟨k, d, rfl, .inr ⟨k, d, rfl, rfl, hsh, fun f' d' hx => by
              rcases Nat.lt_or_ge d' d with h1 | h1
              · exact absurd hx (hno f' d' h1)
              · rcases Nat.lt_or_ge d d' with h2 | h2
                · exact .inl h2
                · obtain rfl : d = d' := by omega
                  refine .inr ⟨rfl, ?_⟩
                  rcases Nat.lt_or_ge f' k with h3 | h3
                  · exact absurd hx (hnk f' h3)
                  · exact h3⟩, .cons rfl (.cons rfl .nil)⟩
          · refine aq (i := 9) (y_move rfl rfl) rfl (wantε_some rfl rfl rfl rfl) rfl rfl ?_
            refine aq (i := 10) (y_move rfl rfl) rfl (wantε_some rfl rfl rfl rfl) rfl rfl ?_
            first | refine aq (i := 11) (yix rfl rfl rfl) rfl (wantε_some rfl rfl rfl rfl) rfl rfl ?_ | refine aq (i := 11) (yixI rfl rfl rfl) rfl (wantε_some rfl rfl rfl rfl) rfl rfl ?_
            refine aq (i := 12) (yld rfl rfl) rfl (wantε_some rfl rfl rfl rfl) rfl rfl ?_
            refine aq (i := 13) (y_fieldAddr rfl rfl) rfl (wantε_some rfl rfl rfl rfl) rfl rfl ?_
            refine aq (i := 14) (yld rfl rfl) rfl (wantε_some rfl rfl rfl rfl) rfl rfl ?_
            refine aq (i := 15) (y_move rfl rfl) rfl (wantε_some rfl rfl rfl rfl) rfl rfl ?_
            first | refine aq (i := 16) (yix rfl rfl rfl) rfl (wantε_some rfl rfl rfl rfl) rfl rfl ?_ | refine aq (i := 16) (yixI rfl rfl rfl) rfl (wantε_some rfl rfl rfl rfl) rfl rfl ?_
            refine aq (i := 17) (y_fieldAddr rfl rfl) rfl (wantε_some rfl rfl rfl rfl) rfl rfl ?_
            refine aq (i := 18) (yld rfl rfl) rfl (wantε_some rfl rfl rfl rfl) rfl rfl ?_
            refine aq (i := 19) (y_gtr rfl rfl rfl) rfl (wantε_some rfl rfl rfl rfl) rfl rfl ?_
            refine aq (i := 20) (y_pickF rfl rfl rfl) rfl an rfl rfl ?_
            refine az ?_
            refine thn_n ?_
            refine W.condp rfl (fun c70 => ?_) (fun c70 => ?_)
            · have hsh : Shw fs ss l ht k d := ⟨hd1, hk1, by rw [hfa]; first | exact .inl (by omega) | exact .inr (by omega)⟩
              refine W.seq <| W.region rfl <| qm rfl rfl rfl <| qm rfl rfl rfl <| qs rfl rfl rfl <| qs rfl rfl rfl <| Ops.nil <| thn_n <| W.ret <| blk_r ?_
              refine thn_r <| thn_r <| blk_r <| blk_r <| thn_r <| thn_r <| blk_r <| thn_r ?_
              exact lvt (vs := [_, _]) ⟨k, d, rfl, .inr ⟨k, d, rfl, rfl, hsh, fun f' d' hx => by
                rcases Nat.lt_or_ge d' d with h1 | h1
                · exact absurd hx (hno f' d' h1)
                · rcases Nat.lt_or_ge d d' with h2 | h2
                  · exact .inl h2
                  · obtain rfl : d = d' := by omega
                    refine .inr ⟨rfl, ?_⟩
                    rcases Nat.lt_or_ge f' k with h3 | h3
                    · exact absurd hx (hnk f' h3)
                    · exact h3⟩, .cons rfl (.cons rfl .nil)⟩
            · have hns : ¬ Shw fs ss l ht k d := by
                rintro ⟨-, -, hx⟩
                rw [hfa] at hx
                rcases hx with hx | hx <;> omega
              refine W.skip <| blk_n <| thn_n <| W.region rfl <| qm rfl rfl rfl ?_
              first | refine oq (yadd rfl rfl rfl) rfl wn rfl rfl ?_ | refine oq (y_addw rfl rfl rfl) rfl wn rfl rfl ?_
              refine qs rfl rfl rfl <| Ops.nil <| thn_n ?_
              refine ⟨rfl, (k + 1, _), ⟨by simp only; omega, hcs2, hP2, fun f hf => ?_⟩, by simp only; omega, ⟨rfl, rfl, rfl, rfl, rfl, rfl, trivial⟩, .refl⟩
              by_cases e : f = k
              · subst e; exact hns
              · exact hnk f (by simp only at hf; omega)
        · have hI : idleN ss l ht k (d + 1) = 0 := by rw [idleN]; exact if_neg (fun hx => by first | exact absurd hx.1 (by omega) | exact absurd (btwB_iff.2 hx.2) (by simpa using c40))
          refine W.region rfl <| qm rfl rfl rfl <| qm rfl rfl rfl ?_
          first | refine oq (yix rfl rfl rfl) rfl wn rfl rfl ?_ | refine oq (yixI rfl rfl rfl) rfl wn rfl rfl ?_
          refine Ops.sto (u := I (idleN ss l ht k (d + 1))) ?_ (hy := by rw [hI]; rfl)
          refine Ops.nil <| thn_n <| W.seq ?_
          refine W.drawF (n := 21) rfl ?_
          refine aq (i := 0) (y_move rfl rfl) rfl an rfl rfl ?_
          refine aq (i := 1) (y_fieldAddr rfl rfl) rfl an rfl rfl ?_
          refine aq (i := 2) (yld rfl rfl) rfl an rfl rfl ?_
          refine aq (i := 3) (y_move rfl rfl) rfl an rfl rfl ?_
          first | refine aq (i := 4) (yix rfl rfl rfl) rfl an rfl rfl ?_ | refine aq (i := 4) (yixI rfl rfl rfl) rfl an rfl rfl ?_
          refine aq (i := 5) (y_fieldAddr rfl rfl) rfl an rfl rfl ?_
          refine aq (i := 6) (yld rfl rfl) rfl an rfl rfl ?_
          refine aq (i := 7) (y_gtr rfl rfl rfl) rfl an rfl rfl ?_
          refine aq (i := 8) (y_move rfl rfl) rfl an rfl rfl ?_
          refine Any.ask (d' := 58) (fun a12_9 => ?_) (fun a12_9 => ?_)
          · refine ap (i := 9) rfl rfl rfl rfl rfl rfl ?_
            refine ap (i := 10) rfl rfl rfl rfl rfl rfl ?_
            refine ap (i := 11) rfl rfl rfl rfl rfl rfl ?_
            refine ap (i := 12) rfl rfl rfl rfl rfl rfl ?_
            refine ap (i := 13) rfl rfl rfl rfl rfl rfl ?_
            refine ap (i := 14) rfl rfl rfl rfl rfl rfl ?_
            refine ap (i := 15) rfl rfl rfl rfl rfl rfl ?_
            refine ap (i := 16) rfl rfl rfl rfl rfl rfl ?_
            refine ap (i := 17) rfl rfl rfl rfl rfl rfl ?_
            refine ap (i := 18) rfl rfl rfl rfl rfl rfl ?_
            refine ap (i := 19) rfl rfl rfl rfl rfl rfl ?_
            refine aq (i := 20) (y_pickT rfl rfl rfl) rfl an rfl rfl ?_
            refine az ?_
            refine thn_n ?_
            refine W.condT ?_
            have hsh : Shw fs ss l ht k d := ⟨hd1, hk1, by rw [hfa]; first | exact .inl (by omega) | exact .inr (by omega)⟩
            refine W.seq <| W.region rfl <| qm rfl rfl rfl <| qm rfl rfl rfl <| qs rfl rfl rfl <| qs rfl rfl rfl <| Ops.nil <| thn_n <| W.ret <| blk_r ?_
            refine thn_r <| thn_r <| blk_r <| blk_r <| thn_r <| thn_r <| blk_r <| thn_r ?_
            exact lvt (vs := [_, _]) ⟨k, d, rfl, .inr ⟨k, d, rfl, rfl, hsh, fun f' d' hx => by
              rcases Nat.lt_or_ge d' d with h1 | h1
              · exact absurd hx (hno f' d' h1)
              · rcases Nat.lt_or_ge d d' with h2 | h2
                · exact .inl h2
                · obtain rfl : d = d' := by omega
                  refine .inr ⟨rfl, ?_⟩
                  rcases Nat.lt_or_ge f' k with h3 | h3
                  · exact absurd hx (hnk f' h3)
                  · exact h3⟩, .cons rfl (.cons rfl .nil)⟩
          · refine aq (i := 9) (y_move rfl rfl) rfl (wantε_some rfl rfl rfl rfl) rfl rfl ?_
            refine aq (i := 10) (y_move rfl rfl) rfl (wantε_some rfl rfl rfl rfl) rfl rfl ?_
            first | refine aq (i := 11) (yix rfl rfl rfl) rfl (wantε_some rfl rfl rfl rfl) rfl rfl ?_ | refine aq (i := 11) (yixI rfl rfl rfl) rfl (wantε_some rfl rfl rfl rfl) rfl rfl ?_
            refine aq (i := 12) (yld rfl rfl) rfl (wantε_some rfl rfl rfl rfl) rfl rfl ?_
            refine aq (i := 13) (y_fieldAddr rfl rfl) rfl (wantε_some rfl rfl rfl rfl) rfl rfl ?_
            refine aq (i := 14) (yld rfl rfl) rfl (wantε_some rfl rfl rfl rfl) rfl rfl ?_
            refine aq (i := 15) (y_move rfl rfl) rfl (wantε_some rfl rfl rfl rfl) rfl rfl ?_
            first | refine aq (i := 16) (yix rfl rfl rfl) rfl (wantε_some rfl rfl rfl rfl) rfl rfl ?_ | refine aq (i := 16) (yixI rfl rfl rfl) rfl (wantε_some rfl rfl rfl rfl) rfl rfl ?_
            refine aq (i := 17) (y_fieldAddr rfl rfl) rfl (wantε_some rfl rfl rfl rfl) rfl rfl ?_
            refine aq (i := 18) (yld rfl rfl) rfl (wantε_some rfl rfl rfl rfl) rfl rfl ?_
            refine aq (i := 19) (y_gtr rfl rfl rfl) rfl (wantε_some rfl rfl rfl rfl) rfl rfl ?_
            refine aq (i := 20) (y_pickF rfl rfl rfl) rfl an rfl rfl ?_
            refine az ?_
            refine thn_n ?_
            refine W.condp rfl (fun c70 => ?_) (fun c70 => ?_)
            · have hsh : Shw fs ss l ht k d := ⟨hd1, hk1, by rw [hfa]; first | exact .inl (by omega) | exact .inr (by omega)⟩
              refine W.seq <| W.region rfl <| qm rfl rfl rfl <| qm rfl rfl rfl <| qs rfl rfl rfl <| qs rfl rfl rfl <| Ops.nil <| thn_n <| W.ret <| blk_r ?_
              refine thn_r <| thn_r <| blk_r <| blk_r <| thn_r <| thn_r <| blk_r <| thn_r ?_
              exact lvt (vs := [_, _]) ⟨k, d, rfl, .inr ⟨k, d, rfl, rfl, hsh, fun f' d' hx => by
                rcases Nat.lt_or_ge d' d with h1 | h1
                · exact absurd hx (hno f' d' h1)
                · rcases Nat.lt_or_ge d d' with h2 | h2
                  · exact .inl h2
                  · obtain rfl : d = d' := by omega
                    refine .inr ⟨rfl, ?_⟩
                    rcases Nat.lt_or_ge f' k with h3 | h3
                    · exact absurd hx (hnk f' h3)
                    · exact h3⟩, .cons rfl (.cons rfl .nil)⟩
            · have hns : ¬ Shw fs ss l ht k d := by
                rintro ⟨-, -, hx⟩
                rw [hfa] at hx
                rcases hx with hx | hx <;> omega
              refine W.skip <| blk_n <| thn_n <| W.region rfl <| qm rfl rfl rfl ?_
              first | refine oq (yadd rfl rfl rfl) rfl wn rfl rfl ?_ | refine oq (y_addw rfl rfl rfl) rfl wn rfl rfl ?_
              refine qs rfl rfl rfl <| Ops.nil <| thn_n ?_
              refine ⟨rfl, (k + 1, _), ⟨by simp only; omega, hcs2, hP2, fun f hf => ?_⟩, by simp only; omega, ⟨rfl, rfl, rfl, rfl, rfl, rfl, trivial⟩, .refl⟩
              by_cases e : f = k
              · subst e; exact hns
              · exact hnk f (by simp only at hf; omega)
      · refine Ops.no ?_
        refine Ops.no ?_
        refine Ops.no ?_
        refine Ops.no ?_
        refine oq (y_pickF rfl rfl rfl) rfl wn rfl rfl ?_
        refine Ops.nil <| thn_n ?_
        refine W.condF ?_
        have hI : idleN ss l ht k (d + 1) = 0 := by rw [idleN]; exact if_neg (fun hx => by first | exact absurd hx.1 (by omega) | exact absurd (btwB_iff.2 hx.2) (by simpa using c40))
        refine W.region rfl <| qm rfl rfl rfl <| qm rfl rfl rfl ?_
        first | refine oq (yix rfl rfl rfl) rfl wn rfl rfl ?_ | refine oq (yixI rfl rfl rfl) rfl wn rfl rfl ?_
        refine Ops.sto (u := I (idleN ss l ht k (d + 1))) ?_ (hy := by rw [hI]; rfl)
        refine Ops.nil <| thn_n <| W.seq ?_
        refine W.drawF (n := 21) rfl ?_
        refine aq (i := 0) (y_move rfl rfl) rfl an rfl rfl ?_
        refine aq (i := 1) (y_fieldAddr rfl rfl) rfl an rfl rfl ?_
        refine aq (i := 2) (yld rfl rfl) rfl an rfl rfl ?_
        refine aq (i := 3) (y_move rfl rfl) rfl an rfl rfl ?_
        first | refine aq (i := 4) (yix rfl rfl rfl) rfl an rfl rfl ?_ | refine aq (i := 4) (yixI rfl rfl rfl) rfl an rfl rfl ?_
        refine aq (i := 5) (y_fieldAddr rfl rfl) rfl an rfl rfl ?_
        refine aq (i := 6) (yld rfl rfl) rfl an rfl rfl ?_
        refine aq (i := 7) (y_gtr rfl rfl rfl) rfl an rfl rfl ?_
        refine aq (i := 8) (y_move rfl rfl) rfl an rfl rfl ?_
        refine Any.ask (d' := 58) (fun a12_9 => ?_) (fun a12_9 => ?_)
        · refine ap (i := 9) rfl rfl rfl rfl rfl rfl ?_
          refine ap (i := 10) rfl rfl rfl rfl rfl rfl ?_
          refine ap (i := 11) rfl rfl rfl rfl rfl rfl ?_
          refine ap (i := 12) rfl rfl rfl rfl rfl rfl ?_
          refine ap (i := 13) rfl rfl rfl rfl rfl rfl ?_
          refine ap (i := 14) rfl rfl rfl rfl rfl rfl ?_
          refine ap (i := 15) rfl rfl rfl rfl rfl rfl ?_
          refine ap (i := 16) rfl rfl rfl rfl rfl rfl ?_
          refine ap (i := 17) rfl rfl rfl rfl rfl rfl ?_
          refine ap (i := 18) rfl rfl rfl rfl rfl rfl ?_
          refine ap (i := 19) rfl rfl rfl rfl rfl rfl ?_
          refine aq (i := 20) (y_pickT rfl rfl rfl) rfl an rfl rfl ?_
          refine az ?_
          refine thn_n ?_
          refine W.condT ?_
          have hsh : Shw fs ss l ht k d := ⟨hd1, hk1, by rw [hfa]; first | exact .inl (by omega) | exact .inr (by omega)⟩
          refine W.seq <| W.region rfl <| qm rfl rfl rfl <| qm rfl rfl rfl <| qs rfl rfl rfl <| qs rfl rfl rfl <| Ops.nil <| thn_n <| W.ret <| blk_r ?_
          refine thn_r <| thn_r <| blk_r <| blk_r <| thn_r <| thn_r <| blk_r <| thn_r ?_
          exact lvt (vs := [_, _]) ⟨k, d, rfl, .inr ⟨k, d, rfl, rfl, hsh, fun f' d' hx => by
            rcases Nat.lt_or_ge d' d with h1 | h1
            · exact absurd hx (hno f' d' h1)
            · rcases Nat.lt_or_ge d d' with h2 | h2
              · exact .inl h2
              · obtain rfl : d = d' := by omega
                refine .inr ⟨rfl, ?_⟩
                rcases Nat.lt_or_ge f' k with h3 | h3
                · exact absurd hx (hnk f' h3)
                · exact h3⟩, .cons rfl (.cons rfl .nil)⟩
        · refine aq (i := 9) (y_move rfl rfl) rfl (wantε_some rfl rfl rfl rfl) rfl rfl ?_
          refine aq (i := 10) (y_move rfl rfl) rfl (wantε_some rfl rfl rfl rfl) rfl rfl ?_
          first | refine aq (i := 11) (yix rfl rfl rfl) rfl (wantε_some rfl rfl rfl rfl) rfl rfl ?_ | refine aq (i := 11) (yixI rfl rfl rfl) rfl (wantε_some rfl rfl rfl rfl) rfl rfl ?_
          refine aq (i := 12) (yld rfl rfl) rfl (wantε_some rfl rfl rfl rfl) rfl rfl ?_
          refine aq (i := 13) (y_fieldAddr rfl rfl) rfl (wantε_some rfl rfl rfl rfl) rfl rfl ?_
          refine aq (i := 14) (yld rfl rfl) rfl (wantε_some rfl rfl rfl rfl) rfl rfl ?_
          refine aq (i := 15) (y_move rfl rfl) rfl (wantε_some rfl rfl rfl rfl) rfl rfl ?_
          first | refine aq (i := 16) (yix rfl rfl rfl) rfl (wantε_some rfl rfl rfl rfl) rfl rfl ?_ | refine aq (i := 16) (yixI rfl rfl rfl) rfl (wantε_some rfl rfl rfl rfl) rfl rfl ?_
          refine aq (i := 17) (y_fieldAddr rfl rfl) rfl (wantε_some rfl rfl rfl rfl) rfl rfl ?_
          refine aq (i := 18) (yld rfl rfl) rfl (wantε_some rfl rfl rfl rfl) rfl rfl ?_
          refine aq (i := 19) (y_gtr rfl rfl rfl) rfl (wantε_some rfl rfl rfl rfl) rfl rfl ?_
          refine aq (i := 20) (y_pickF rfl rfl rfl) rfl an rfl rfl ?_
          refine az ?_
          refine thn_n ?_
          refine W.condp rfl (fun c70 => ?_) (fun c70 => ?_)
          · have hsh : Shw fs ss l ht k d := ⟨hd1, hk1, by rw [hfa]; first | exact .inl (by omega) | exact .inr (by omega)⟩
            refine W.seq <| W.region rfl <| qm rfl rfl rfl <| qm rfl rfl rfl <| qs rfl rfl rfl <| qs rfl rfl rfl <| Ops.nil <| thn_n <| W.ret <| blk_r ?_
            refine thn_r <| thn_r <| blk_r <| blk_r <| thn_r <| thn_r <| blk_r <| thn_r ?_
            exact lvt (vs := [_, _]) ⟨k, d, rfl, .inr ⟨k, d, rfl, rfl, hsh, fun f' d' hx => by
              rcases Nat.lt_or_ge d' d with h1 | h1
              · exact absurd hx (hno f' d' h1)
              · rcases Nat.lt_or_ge d d' with h2 | h2
                · exact .inl h2
                · obtain rfl : d = d' := by omega
                  refine .inr ⟨rfl, ?_⟩
                  rcases Nat.lt_or_ge f' k with h3 | h3
                  · exact absurd hx (hnk f' h3)
                  · exact h3⟩, .cons rfl (.cons rfl .nil)⟩
          · have hns : ¬ Shw fs ss l ht k d := by
              rintro ⟨-, -, hx⟩
              rw [hfa] at hx
              rcases hx with hx | hx <;> omega
            refine W.skip <| blk_n <| thn_n <| W.region rfl <| qm rfl rfl rfl ?_
            first | refine oq (yadd rfl rfl rfl) rfl wn rfl rfl ?_ | refine oq (y_addw rfl rfl rfl) rfl wn rfl rfl ?_
            refine qs rfl rfl rfl <| Ops.nil <| thn_n ?_
            refine ⟨rfl, (k + 1, _), ⟨by simp only; omega, hcs2, hP2, fun f hf => ?_⟩, by simp only; omega, ⟨rfl, rfl, rfl, rfl, rfl, rfl, trivial⟩, .refl⟩
            by_cases e : f = k
            · subst e; exact hns
            · exact hnk f (by simp only at hf; omega)
    · refine W.exit <| thn_x <| thn_x <| blk_x <| blk_n <| thn_n <| W.region rfl <| qm rfl rfl rfl ?_
      first | refine oq (yadd rfl rfl rfl) rfl wn rfl rfl ?_ | refine oq (y_addw rfl rfl rfl) rfl wn rfl rfl ?_
      refine qs rfl rfl rfl <| Ops.nil <| thn_n ?_
      have hke : k = fs.length := by omega
      subst hke
      rw [idlL_next] at hP
      refine ⟨rfl, (d + 1, c), ⟨by simp only; omega, hcs, hP, fun f d' hd' => ?_⟩, by simp only; omega, ⟨rfl, rfl, rfl, rfl, rfl, trivial⟩, .refl⟩
      simp only at hd'
      by_cases e : d' = d
      · subst e
        intro hx
        exact hnk f hx.2.1 hx
      · exact hno f d' (by omega)
  · refine W.exit <| thn_x <| thn_x <| blk_x <| thn_n <| W.seq <| W.region rfl <| qs rfl rfl rfl <| qs rfl rfl rfl <| Ops.nil ?_
    refine thn_n <| W.ret ?_
    exact lvt (vs := [_, _]) ⟨-1, -1, rfl, .inl ⟨rfl, rfl, fun f d' hx => hno f d' (by have := hx.1; omega) hx⟩, .cons rfl (.cons rfl .nil)⟩
end Go.Mus

/- Whatever the heat is. Conditions: none; over the given program. -/
namespace Go.Mus
set_option maxRecDepth 100000
set_option maxHeartbeats 4000000
def ShwK (fs : List Fl) (ss : List St) (l : List Be) (H : List (List Int)) (k : Nat) (f d : Nat) : Prop := ∃ j g, j < k ∧ H[j]? = some g ∧ Shw fs ss l g f d
theorem shwK_succ {fs : List Fl} {ss : List St} {l : List Be} {H : List (List Int)} {k : Nat} {g : List Int} (hg : H[k]? = some g) : ShwK fs ss l H (k + 1) = fun f d => ShwK fs ss l H k f d ∨ Shw fs ss l g f d := by
  funext f d
  refine propext ⟨?_, ?_⟩
  · rintro ⟨j, g', hj, hg', hs⟩
    rcases (by omega : j < k ∨ j = k) with h | rfl
    · exact .inl ⟨j, g', h, hg', hs⟩
    · rw [hg] at hg'; cases hg'; exact .inr hs
  · rintro (⟨j, g', hj, hg', hs⟩ | hs)
    · exact ⟨j, g', by omega, hg', hs⟩
    · exact ⟨k, g, by omega, hg, hs⟩
theorem shwK_all {fs : List Fl} {ss : List St} {l : List Be} {H : List (List Int)} : ShwK fs ss l H H.length = fun f d => ∃ h ∈ H, Shw fs ss l h f d := by
  funext f d
  refine propext ⟨?_, ?_⟩
  · rintro ⟨j, g, -, hg, hs⟩; exact ⟨g, List.mem_of_getElem? hg, hs⟩
  · rintro ⟨g, hg, hs⟩
    obtain ⟨j, hj⟩ := List.mem_iff_getElem?.1 hg
    exact ⟨j, g, lt_of_get hj, hj, hs⟩

theorem FloorHeat_top (main : Side) (hS : ∀ S, main.ok S → ∃ Fin, S = Mn prog Fin) (hmb : main.b = true) (h : Hp) (nums : List Int) (lv : Value) (Eg : TypeId) (zg : Nat × Nat) (hl : Sl h rowI lv nums) (hg : h 0 = some (.cells #[rtV t_error] Eg zg)) (z0 : h.z 0) : TopV prog main n_law_FloorHeat #[lv] h (.bool true) := by
  refine TopV.of_body at_law_FloorHeat rfl (by show 1 ≤ 82; decide) [(0, lv)] ⟨rfl, trivial⟩ ?_
  refine W.seq <| W.region rfl <| qs rfl rfl rfl <| Ops.nil <| thn_n <| W.seq <| W.region rfl <| qm rfl rfl rfl ?_
  refine c0 (fun h' hE hL => NewHat_fn _ h' nums lv (hl.ext hE)) (fun v A' hv => ?_)
  obtain ⟨bh, s0, rfl, rfl⟩ := hv
  refine cg (A := [(bh, _)]) .head (fun h' hE hL => tiny_fn _ h' nums lv bh s0 (hl.ext hE)) (fun v A' hv => ?_)
  obtain ⟨vf, vs, vl, fs, ss, l, Sf, Ss, Sq, rfl, ⟨hOf, hOs, hOl⟩, ⟨hck, hcp, hn4, hw⟩, hsb⟩ := hv
  refine Ops.sb (F' := Sq ++ (Sf ++ Ss)) (hsb.trans (Sb.right .refl .nil)) ?_
  obtain ⟨a, cap, rfl⟩ := hOf.isSl
  obtain ⟨a', cap', rfl⟩ := hOs.isSl
  obtain ⟨al, lc, rfl⟩ := hOl.isSl
  have hnf := (hall_ck hck).nf
  have hlen : l.length ≤ 4 := by have := ckPlan0 hcp; omega
  obtain ⟨wf, wd, hwr, hmin⟩ := wrong_min hcp
  refine qm rfl rfl rfl <| oq (y_extract rfl rfl rfl) rfl wn rfl rfl <| oq (y_extract rfl rfl rfl) rfl wn rfl rfl ?_
  refine Ops.new (fun β3 => ?_)
  first | refine Ops.stoW ?_ | refine Ops.stoA ?_
  refine qs rfl rfl rfl <| Ops.nil <| thn_n ?_
  refine freezeAt hOl (.tail .head) (fun hz hEz hsll hzl => ?_)
  refine freezeAt hOf (.tail .head) (fun hx hEx hslf hzf => ?_)
  refine freezeAt hOs (.tail .all) (fun hy hEy hsls hzs => ?_)
  have hE0 := (hEz.trans hEx).trans hEy
  replace hsll := hsll.ext (hEx.trans hEy)
  replace hslf := hslf.ext hEy
  refine W.seq <| W.region rfl ?_
  first | refine oq (yldW rfl rfl) rfl wn rfl rfl ?_ | refine oq (yldA rfl rfl) rfl wn rfl rfl ?_
  refine qm rfl rfl rfl ?_
  refine cp (u := .tuple #[I wf, I wd, I 0]) (fun h' hE hL => ?_) ?_
  · have := Wrong_fn main h' fs ss l _ _ _ Eg zg (hslf.ext hE) (hsls.ext hE) (hsll.ext hE) ((hE0.trans hE).1 _ _ hg)
    rw [hwr] at this
    exact this
  refine qm rfl rfl rfl <| oq (y_extract rfl rfl rfl) rfl wn rfl rfl <| oq (y_extract rfl rfl rfl) rfl wn rfl rfl <| oq (y_extract rfl rfl rfl) rfl wn rfl rfl <| qs rfl rfl rfl <| qs rfl rfl rfl <| qs rfl rfl rfl <| Ops.nil <| thn_n <| W.seq ?_
  refine W.seq <| W.region rfl <| qm rfl rfl rfl ?_
  refine oq ((y_neq rfl rfl rfl).eq (u := .bool false) rfl) rfl wn rfl rfl ?_
  refine Ops.nil <| thn_n ?_
  refine W.condF ?_
  refine W.skip <| thn_n <| W.seq <| W.region rfl <| qs rfl rfl rfl <| qs rfl rfl rfl <| Ops.nil <| thn_n <| W.seq <| W.region rfl ?_
  first | refine oq (yldW rfl rfl) rfl wn rfl rfl ?_ | refine oq (yldA rfl rfl) rfl wn rfl rfl ?_
  refine qm rfl rfl rfl ?_
  refine c0 (fun h' hE hL => heats_fn _ h' fs ss l _ _ _ (hslf.ext hE) (hsll.ext hE) hcp) (fun v A' hv => ?_)
  obtain ⟨O, us, B, hO, hB, hHl, hsb2⟩ := hv
  obtain ⟨ua, uc, rfl⟩ := hO.isSl
  refine Ops.sb (hsb2.app .refl) ?_
  refine qs rfl rfl rfl <| Ops.nil <| thn_n <| W.seq ?_
  have hul := hB.len
  refine W.sb (F' := O ++ (B ++ [(β3, .cells #[.slice a fs.length cap, .slice a' ss.length cap'] t_Plant (0, 0))])) (.of_perm (by rw [List.append_assoc])) ?_
  refine freezeOs hO (fun g1 hG1 hslO hzO => ?_)
  refine freezeOss hB (fun g2 hG2 hslB => ?_)
  have hGG := hG1.trans hG2
  refine W.seq <| W.region rfl <| qs rfl rfl rfl <| Ops.nil <| thn_n <| W.block ?_
  refine W.loop (σ := Nat × Int × Int) (fun q => q.1 ≤ us.length ∧ MinS (ShwK fs ss l (heatsF fs l) q.1) q.2.1 q.2.2) (fun q => [(11, I q.1), (8, I q.2.1), (9, I q.2.2), (10, .slice ua us.length uc), (6, I wd), (5, I wf), (4, .slice al l.length lc), (3, .pointer (some ⟨β3, 0, none⟩))]) (fun _ => [(β3, .cells #[.slice a fs.length cap, .slice a' ss.length cap'] t_Plant (0, 0))]) (fun q => us.length - q.1) (0, -1, -1) ⟨Nat.zero_le _, .inl ⟨rfl, rfl, fun f d ⟨j, g, hj, _⟩ => by omega⟩⟩ ⟨rfl, rfl, rfl, rfl, rfl, rfl, rfl, rfl, trivial⟩ .refl ?_
  rintro ⟨k, on, first⟩ ⟨hk, hM⟩
  simp only at hk hM
  refine W.seq <| W.seq <| W.region rfl <| qm rfl rfl rfl <| qm rfl rfl rfl ?_
  refine oq (y_len rfl rfl) rfl wn rfl rfl ?_
  refine oq (y_lss rfl rfl rfl) rfl wn rfl rfl ?_
  refine Ops.nil <| thn_n ?_
  refine W.condp rfl (fun c35 => ?_) (fun c35 => ?_)
  · have hk1 : k < us.length := by omega
    obtain ⟨g, hgk, -⟩ := has (show k < (heatsF fs l).length by omega)
    obtain ⟨s, hs0, -⟩ := has hk1
    have hht := mem_heats.1 (List.mem_of_getElem? hgk)
    obtain ⟨hslg, -⟩ := hslB k s g hs0 hgk
    have hslO2 := hslO.ext hG2
    obtain ⟨bo, offo, co, Eo, fzo, rfl, hbo, -, hyo, hzo⟩ := hslO2.at hs0
    have hcell : co[offo + k * 1 + 0]? = some (.slice s.a s.n s.cap) := hzo 0 (by decide)
    clear hzo
    refine W.skip <| thn_n <| W.seq <| W.block <| W.seq ?_
    refine W.drawF (n := 12) rfl ?_
    first | refine aq (i := 0) (yldW rfl rfl) rfl an rfl rfl ?_ | refine aq (i := 0) (yldA rfl rfl) rfl an rfl rfl ?_
    refine aq (i := 1) (y_move rfl rfl) rfl an rfl rfl ?_
    refine aq (i := 2) (y_move rfl rfl) rfl an rfl rfl ?_
    refine aq (i := 3) (y_move rfl rfl) rfl an rfl rfl ?_
    first | refine aq (i := 4) (yix rfl rfl rfl) rfl an rfl rfl ?_ | refine aq (i := 4) (yixI rfl rfl rfl) rfl an rfl rfl ?_
    refine aq (i := 5) (yld rfl rfl) rfl an rfl rfl ?_
    refine ae (i := 6) rfl an rfl rfl (e_call0 (args := [_, _, _]) (vs := [.agg #[.slice a fs.length cap, .slice a' ss.length cap'], .slice al l.length lc, s.val]) rfl rfl (fun h' hE hL => shows_fn _ h' fs ss l g _ _ _ s.val (hslf.ext (hGG.trans hE)) (hsls.ext (hGG.trans hE)) (hsll.ext (hGG.trans hE)) (hslg.ext hE) hcp hht) (fun v A' hv => ?_))
    obtain ⟨gf, gd, rfl, hMg, hsh⟩ := hv
    refine ⟨.inr (Keeps.app Keeps.refl), ?_⟩
    refine Any.sb (Sb.left .refl hsh) ?_
    refine aq (i := 7) (y_move rfl rfl) rfl an rfl rfl ?_
    refine aq (i := 8) (y_extract rfl rfl rfl) rfl an rfl rfl ?_
    refine aq (i := 9) (y_extract rfl rfl rfl) rfl an rfl rfl ?_
    refine aq (i := 10) (y_assign rfl rfl) rfl an rfl rfl ?_
    refine aq (i := 11) (y_assign rfl rfl) rfl an rfl rfl ?_
    refine az ?_
    refine thn_n <| W.seq <| W.region rfl <| qm rfl rfl rfl ?_
    refine oq (y_geq rfl rfl rfl) rfl wn rfl rfl ?_
    refine qm rfl rfl rfl ?_
    refine Ops.ask (fun a11_3 => ?_) (fun a11_3 => ?_)
    · refine oq (y_move rfl rfl) rfl (want_some rfl rfl rfl) rfl rfl ?_
      refine oq (y_lss rfl rfl rfl) rfl (want_some rfl rfl rfl) rfl rfl ?_
      refine oq (y_move rfl rfl) rfl (want_some rfl rfl rfl) rfl rfl ?_
      refine Ops.ask (fun a11_6 => ?_) (fun a11_6 => ?_)
      · refine Ops.no ?_
        refine Ops.no ?_
        refine Ops.no ?_
        refine oq (y_pickT rfl rfl rfl) rfl (want_some rfl rfl rfl) rfl rfl ?_
        refine oq (y_move rfl rfl) rfl (want_some rfl rfl rfl) rfl rfl ?_
        refine Ops.no ?_
        refine Ops.no ?_
        refine Ops.no ?_
        refine Ops.no ?_
        refine Ops.noU ?_
        refine Ops.noU ?_
        refine Ops.noU ?_
        refine Ops.no ?_
        refine oq (y_pickT rfl rfl rfl) rfl (want_some rfl rfl rfl) rfl rfl ?_
        refine oq (y_pickT rfl rfl rfl) rfl wn rfl rfl ?_
        refine Ops.nil <| thn_n ?_
        refine W.condT ?_
        dsimp only at *
        have hcc : 0 ≤ gd ∧ (first < 0 ∨ gd < first ∨ gd = first ∧ gf < on) := by omega
        refine W.region rfl <| qm rfl rfl rfl <| qm rfl rfl rfl <| qs rfl rfl rfl <| qs rfl rfl rfl <| Ops.nil <| blk_n <| thn_n <| W.region rfl <| qm rfl rfl rfl ?_
        first | refine oq (yadd rfl rfl rfl) rfl wn rfl rfl ?_ | refine oq (y_addw rfl rfl rfl) rfl wn rfl rfl ?_
        refine qs rfl rfl rfl <| Ops.nil <| thn_n ?_
        exact ⟨rfl, (k + 1, gf, gd), ⟨by simp only; omega, by simp only; rw [shwK_succ hgk]; exact hM.new hMg hcc⟩, by simp only; omega, ⟨rfl, rfl, rfl, rfl, rfl, rfl, rfl, rfl, trivial⟩, .refl⟩
      · refine oq (y_move rfl rfl) rfl (want_some rfl rfl rfl) rfl rfl ?_
        refine oq (y_move rfl rfl) rfl (want_some rfl rfl rfl) rfl rfl ?_
        refine oq (y_lss rfl rfl rfl) rfl (want_some rfl rfl rfl) rfl rfl ?_
        refine oq (y_pickF rfl rfl rfl) rfl (want_some rfl rfl rfl) rfl rfl ?_
        refine oq (y_move rfl rfl) rfl (want_some rfl rfl rfl) rfl rfl ?_
        refine Ops.ask (fun a11_11 => ?_) (fun a11_11 => ?_)
        · refine Ops.no ?_
          refine Ops.no ?_
          refine Ops.no ?_
          refine Ops.no ?_
          refine Ops.noU ?_
          refine Ops.noU ?_
          refine Ops.noU ?_
          refine Ops.no ?_
          refine oq (y_pickT rfl rfl rfl) rfl (want_some rfl rfl rfl) rfl rfl ?_
          refine oq (y_pickT rfl rfl rfl) rfl wn rfl rfl ?_
          refine Ops.nil <| thn_n ?_
          refine W.condT ?_
          dsimp only at *
          have hcc : 0 ≤ gd ∧ (first < 0 ∨ gd < first ∨ gd = first ∧ gf < on) := by omega
          refine W.region rfl <| qm rfl rfl rfl <| qm rfl rfl rfl <| qs rfl rfl rfl <| qs rfl rfl rfl <| Ops.nil <| blk_n <| thn_n <| W.region rfl <| qm rfl rfl rfl ?_
          first | refine oq (yadd rfl rfl rfl) rfl wn rfl rfl ?_ | refine oq (y_addw rfl rfl rfl) rfl wn rfl rfl ?_
          refine qs rfl rfl rfl <| Ops.nil <| thn_n ?_
          exact ⟨rfl, (k + 1, gf, gd), ⟨by simp only; omega, by simp only; rw [shwK_succ hgk]; exact hM.new hMg hcc⟩, by simp only; omega, ⟨rfl, rfl, rfl, rfl, rfl, rfl, rfl, rfl, trivial⟩, .refl⟩
        · refine oq (y_move rfl rfl) rfl (want_some rfl rfl rfl) rfl rfl ?_
          refine oq (y_move rfl rfl) rfl (want_some rfl rfl rfl) rfl rfl ?_
          refine oq (y_eql rfl rfl rfl) rfl (want_some rfl rfl rfl) rfl rfl ?_
          refine oq (y_move rfl rfl) rfl (want_some rfl rfl rfl) rfl rfl ?_
          refine Ops.ask (fun a11_15 => ?_) (fun a11_15 => ?_)
          · refine oq (y_move rfl rfl) rfl (want_some rfl rfl rfl) rfl rfl ?_
            refine oq (y_move rfl rfl) rfl (want_some rfl rfl rfl) rfl rfl ?_
            refine oq (y_lss rfl rfl rfl) rfl (want_some rfl rfl rfl) rfl rfl ?_
            refine oq (y_pickT rfl rfl rfl) rfl (want_some rfl rfl rfl) rfl rfl ?_
            refine oq (y_pickF rfl rfl rfl) rfl (want_some rfl rfl rfl) rfl rfl ?_
            refine oq (y_pickT rfl rfl rfl) rfl wn rfl rfl ?_
            refine Ops.nil <| thn_n ?_
            refine W.condp rfl (fun c68 => ?_) (fun c68 => ?_)
            · dsimp only at *
              have hcc : 0 ≤ gd ∧ (first < 0 ∨ gd < first ∨ gd = first ∧ gf < on) := by omega
              refine W.region rfl <| qm rfl rfl rfl <| qm rfl rfl rfl <| qs rfl rfl rfl <| qs rfl rfl rfl <| Ops.nil <| blk_n <| thn_n <| W.region rfl <| qm rfl rfl rfl ?_
              first | refine oq (yadd rfl rfl rfl) rfl wn rfl rfl ?_ | refine oq (y_addw rfl rfl rfl) rfl wn rfl rfl ?_
              refine qs rfl rfl rfl <| Ops.nil <| thn_n ?_
              exact ⟨rfl, (k + 1, gf, gd), ⟨by simp only; omega, by simp only; rw [shwK_succ hgk]; exact hM.new hMg hcc⟩, by simp only; omega, ⟨rfl, rfl, rfl, rfl, rfl, rfl, rfl, rfl, trivial⟩, .refl⟩
            · dsimp only at *
              have hcc : ¬ (0 ≤ gd ∧ (first < 0 ∨ gd < first ∨ gd = first ∧ gf < on)) := by omega
              refine W.skip <| blk_n <| thn_n <| W.region rfl <| qm rfl rfl rfl ?_
              first | refine oq (yadd rfl rfl rfl) rfl wn rfl rfl ?_ | refine oq (y_addw rfl rfl rfl) rfl wn rfl rfl ?_
              refine qs rfl rfl rfl <| Ops.nil <| thn_n ?_
              exact ⟨rfl, (k + 1, on, first), ⟨by simp only; omega, by simp only; rw [shwK_succ hgk]; exact hM.old hMg hcc⟩, by simp only; omega, ⟨rfl, rfl, rfl, rfl, rfl, rfl, rfl, rfl, trivial⟩, .refl⟩
          · refine Ops.no ?_
            refine Ops.no ?_
            refine Ops.no ?_
            refine oq (y_pickF rfl rfl rfl) rfl (want_some rfl rfl rfl) rfl rfl ?_
            refine oq (y_pickF rfl rfl rfl) rfl (want_some rfl rfl rfl) rfl rfl ?_
            refine oq (y_pickT rfl rfl rfl) rfl wn rfl rfl ?_
            refine Ops.nil <| thn_n ?_
            refine W.condF ?_
            dsimp only at *
            have hcc : ¬ (0 ≤ gd ∧ (first < 0 ∨ gd < first ∨ gd = first ∧ gf < on)) := by omega
            refine W.skip <| blk_n <| thn_n <| W.region rfl <| qm rfl rfl rfl ?_
            first | refine oq (yadd rfl rfl rfl) rfl wn rfl rfl ?_ | refine oq (y_addw rfl rfl rfl) rfl wn rfl rfl ?_
            refine qs rfl rfl rfl <| Ops.nil <| thn_n ?_
            exact ⟨rfl, (k + 1, on, first), ⟨by simp only; omega, by simp only; rw [shwK_succ hgk]; exact hM.old hMg hcc⟩, by simp only; omega, ⟨rfl, rfl, rfl, rfl, rfl, rfl, rfl, rfl, trivial⟩, .refl⟩
    · refine Ops.no ?_
      refine Ops.no ?_
      refine Ops.no ?_
      refine Ops.noU ?_
      refine Ops.noU ?_
      refine Ops.noU ?_
      refine Ops.no ?_
      refine Ops.no ?_
      refine Ops.noU ?_
      refine Ops.noU ?_
      refine Ops.noU ?_
      refine Ops.noU ?_
      refine Ops.noU ?_
      refine Ops.noU ?_
      refine Ops.noU ?_
      refine Ops.noU ?_
      refine Ops.no ?_
      refine oq (y_pickF rfl rfl rfl) rfl wn rfl rfl ?_
      refine Ops.nil <| thn_n ?_
      refine W.condF ?_
      dsimp only at *
      have hcc : ¬ (0 ≤ gd ∧ (first < 0 ∨ gd < first ∨ gd = first ∧ gf < on)) := by omega
      refine W.skip <| blk_n <| thn_n <| W.region rfl <| qm rfl rfl rfl ?_
      first | refine oq (yadd rfl rfl rfl) rfl wn rfl rfl ?_ | refine oq (y_addw rfl rfl rfl) rfl wn rfl rfl ?_
      refine qs rfl rfl rfl <| Ops.nil <| thn_n ?_
      exact ⟨rfl, (k + 1, on, first), ⟨by simp only; omega, by simp only; rw [shwK_succ hgk]; exact hM.old hMg hcc⟩, by simp only; omega, ⟨rfl, rfl, rfl, rfl, rfl, rfl, rfl, rfl, trivial⟩, .refl⟩
  · have hke : k = us.length := by omega
    subst hke
    rw [hul, shwK_all] at hM
    obtain ⟨rfl, rfl⟩ := hM.eq hmin
    refine W.exit <| thn_x <| thn_x <| blk_x <| thn_n <| W.seq <| W.region rfl <| qm rfl rfl rfl <| qm rfl rfl rfl ?_
    refine oq ((y_eql rfl rfl rfl).eq (u := .bool true) (congrArg Value.bool (decide_eq_true rfl))) rfl wn rfl rfl ?_
    refine qm rfl rfl rfl ?_
    refine oq (y_move rfl rfl) rfl (want_some rfl rfl rfl) rfl rfl ?_
    refine oq (y_move rfl rfl) rfl (want_some rfl rfl rfl) rfl rfl ?_
    refine oq ((y_eql rfl rfl rfl).eq (u := .bool true) (congrArg Value.bool (decide_eq_true rfl))) rfl (want_some rfl rfl rfl) rfl rfl ?_
    refine oq (y_pickT rfl rfl rfl) rfl wn rfl rfl ?_
    refine qm rfl rfl rfl ?_
    refine cp (fun h' hE hL => exs_fn _ hS hmb h' Eg zg ((hE0.trans hE).1 _ _ hg) ((hE0.trans hE).2 _ z0)) ?_ (hw := want_some rfl rfl rfl)
    refine oq (y_pickT rfl rfl rfl) rfl wn rfl rfl ?_
    refine qs rfl rfl rfl <| Ops.nil <| thn_n <| W.ret ?_
    exact lvq rfl
end Go.Mus

/- FloorHeat's card. Conditions: as the card says; over the given program. -/
namespace Go.Proofs.YtabnpjbnoedfgaaDoor
open Go Go.Mus
set_option maxRecDepth 100000
set_option maxHeartbeats 4000000
theorem floorHeat_row : Rows.FloorHeatSaid :=
  OpenClaim.holds_of_wide_leaving n_law_FloorHeat F_law_FloorHeat rfl rfl rfl rfl rfl rfl rfl ⟨rfl, rfl, rfl, rfl, rfl⟩ rfl rfl rfl rfl rfl (by kernel_rfl) at_law_FloorHeat (by kernel_rfl)
    (of_decide_eq_true (by kernel_rfl)) (by unfold Func.isWrapper; first | (rw [if_pos (by decide +kernel)]; kernel_rfl) | (rw [if_neg (by decide +kernel)]; exact ⟨rfl, rfl⟩))
    (fun os started H enc _ => lift1 (s := Rows.floorHeatSpec) os started H enc at_law_FloorHeat (by kernel_rfl) (by kernel_rfl) (by kernel_rfl) (by kernel_rfl) (by kernel_rfl) rfl (fun _ => rfl)
      (ChangeSpec.witness_at (enc := enc) (C := Tryd.checked) (os := os) (X := fun w _ => laidMetH prog laid0 w) false (laidWorld os) #[.slice none 0 0] 8 rfl (by kernel_rfl) (by kernel_rfl) (by kernel_rfl) (by kernel_rfl) (by kernel_rfl) (laidWorld_met os _))
      (fun main hS hmb h nums lv Eg zg hl hg z0 => FloorHeat_top main hS hmb h nums lv Eg zg hl hg z0))

theorem FloorHeat_card : Rows.FloorHeatCardSaid :=
  tied_goes .later [] [.handle] true (true, "2e2133920f864db8286a366f85eb0bf56b29bab96a3561a4e902e110205c3504") true
    floorHeat_row (fun _ h => by cases h) (by kernel_rfl) (fun _ h => by cases h) floorHeat_row_tie rfl ⟨rfl, rfl⟩ (by kernel_rfl) rfl
    (fun f fn hf hfn => by
      obtain rfl : f = n_law_FloorHeat := (Option.some.inj ((show prog.funcNamed Rows.floorHeatRow.func = some n_law_FloorHeat by kernel_rfl).symm.trans hf)).symm
      obtain rfl : fn = F_law_FloorHeat := (Option.some.inj (at_law_FloorHeat.symm.trans hfn)).symm
      exact ⟨by kernel_rfl, fun j t ht => by
        rw [show (F_law_FloorHeat).params = #[t_sl_int] by kernel_rfl] at ht
        have h3 : t = t_sl_int := by
          rcases j with _ | j
          · simpa using ht.symm
          · simp at ht
        subst h3
        exact (show prog.wantsStandIn t_sl_int = false by kernel_rfl)⟩)
    (by kernel_rfl)
#print axioms FloorHeat_card
end Go.Proofs.YtabnpjbnoedfgaaDoor
