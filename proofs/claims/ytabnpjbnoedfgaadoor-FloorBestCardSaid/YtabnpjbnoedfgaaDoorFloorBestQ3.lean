/- All plans tried. Conditions: none; over the given program. (And 1 texts more.) -/
import Derived.Test.YtabnpjbnoedfgaaDoorFloorBestQ2
import Derived.Test.YtabnpjbnoedfgaaDoorFloorBestQ1
set_option linter.unusedVariables false
set_option linter.unusedSimpArgs false
set_option linter.unusedSectionVars false

/- All plans tried. Conditions: none; over the given program. -/
namespace Go.Mus
set_option maxRecDepth 100000
set_option maxHeartbeats 40000000
theorem take_filter {α : Type} {l : List α} {i : Nat} {g : α} {q : α → Bool} (h : l[i]? = some g) : (l.take (i + 1)).filter q = (l.take i).filter q ++ if q g then [g] else [] := by
  rw [take_next h, List.filter_append, List.filter_cons]; rfl
theorem FloorBest_top (main : Side) (hS : ∀ S, main.ok S → ∃ Fin, S = Mn prog Fin) (hmb : main.b = true) (h : Hp) (nums : List Int) (lv : Value) (Eg : TypeId) (zg : Nat × Nat) (hl : Sl h rowI lv nums) (hg : h 0 = some (.cells #[rtV t_error] Eg zg)) (z0 : h.z 0) : TopV prog main n_law_FloorBest #[lv] h (.bool true) := by
  refine TopV.of_body at_law_FloorBest rfl (by show 1 ≤ 163; decide) [(0, lv)] ⟨rfl, trivial⟩ ?_
  refine W.seq <| W.region rfl <| qs rfl rfl rfl <| Ops.nil <| thn_n <| W.seq <| W.region rfl <| qm rfl rfl rfl ?_
  refine c0 (fun h' hE hL => NewHat_fn _ h' nums lv (hl.ext hE)) (fun v A' hv => ?_)
  obtain ⟨bh, s0, rfl, rfl⟩ := hv
  refine cg (A := [(bh, _)]) .head (fun h' hE hL => tiny_fn _ h' nums lv bh s0 (hl.ext hE)) (fun v A' hv => ?_)
  obtain ⟨vf, vs, vl, fs, ss, l, Sf, Ss, Sq, rfl, ⟨hOf, hOs, hOl⟩, ⟨hck, hcp0, hn4, hw⟩, hsb⟩ := hv
  refine Ops.sb (F' := Sq ++ (Sf ++ Ss)) (hsb.trans (Sb.right .refl .nil)) ?_
  obtain ⟨a, cap, rfl⟩ := hOf.isSl
  obtain ⟨a', cap', rfl⟩ := hOs.isSl
  obtain ⟨al, lc, rfl⟩ := hOl.isSl
  have hall := hall_ck hck
  have hnf := hall.nf
  have hns := hall.ns
  have hbb : bestB fs ss = (((bestF fs ss).2.headD []).take ss.length, (bestF fs ss).1, 0) := by rw [bestB, if_neg (by simp [hck])]
  have hcc : countB fs ss = (((bestF fs ss).2.length : Int), 0) := by rw [countB, if_neg (by simp [hck])]
  refine qm rfl rfl rfl <| oq (y_extract rfl rfl rfl) rfl wn rfl rfl <| oq (y_extract rfl rfl rfl) rfl wn rfl rfl ?_
  refine Ops.new (fun β3 => ?_)
  first | refine Ops.stoW ?_ | refine Ops.stoA ?_
  refine qs rfl rfl rfl <| Ops.nil <| thn_n ?_
  refine freezeAt hOl (.tail .head) (fun hz hEz hsll hzl => ?_)
  refine freezeAt hOf (.tail .head) (fun hx hEx hslf hzf => ?_)
  refine freezeAt hOs (.tail .all) (fun hy hEy hsls hzs => ?_)
  have hE0 := (hEz.trans hEx).trans hEy
  replace hslf := hslf.ext hEy
  replace hzf := hzf.ext hEy
  refine W.seq <| W.region rfl ?_
  first | refine oq (yldW rfl rfl) rfl wn rfl rfl ?_ | refine oq (yldA rfl rfl) rfl wn rfl rfl ?_
  refine c0 (fun h' hE hL => Best_fn _ hS hmb h' fs ss _ _ Eg zg (hslf.ext hE) (hsls.ext hE) (hzf.ext hE) (hzs.ext hE) ((hE0.trans hE).1 _ _ hg) ((hE0.trans hE).2 _ z0)) (fun v A' hv => ?_)
  rw [hbb] at hv
  obtain ⟨u, S, rfl, hOg, hsb1⟩ := hv
  obtain ⟨ga, gc, rfl⟩ := hOg.isSl
  refine Ops.sb (F' := (β3, .cells #[.slice a fs.length cap, .slice a' ss.length cap'] t_Plant (0, 0)) :: S) (Sb.trans (.of_perm (List.perm_append_comm (l₁ := [_]))) (hsb1.app .refl)) ?_
  refine qm rfl rfl rfl <| oq (y_extract rfl rfl rfl) rfl wn rfl rfl <| oq (y_extract rfl rfl rfl) rfl wn rfl rfl <| oq (y_extract rfl rfl rfl) rfl wn rfl rfl <| qs rfl rfl rfl <| qs rfl rfl rfl <| qs rfl rfl rfl <| Ops.nil <| thn_n <| W.seq ?_
  refine W.region rfl ?_
  first | refine oq (yldW rfl rfl) rfl wn rfl rfl ?_ | refine oq (yldA rfl rfl) rfl wn rfl rfl ?_
  refine cp (u := .tuple #[I (bestF fs ss).2.length, I 0]) (fun h' hE hL => ?_) ?_
  · have := Count_fn main hS hmb h' fs ss _ _ Eg zg (hslf.ext hE) (hsls.ext hE) (hzf.ext hE) (hzs.ext hE) ((hE0.trans hE).1 _ _ hg) ((hE0.trans hE).2 _ z0)
    rw [hcc] at this
    exact this
  refine qm rfl rfl rfl <| oq (y_extract rfl rfl rfl) rfl wn rfl rfl <| oq (y_extract rfl rfl rfl) rfl wn rfl rfl <| qs rfl rfl rfl <| qs rfl rfl rfl <| Ops.nil <| thn_n <| W.seq <| W.seq <| W.region rfl ?_
  refine qm rfl rfl rfl ?_
  refine oq ((y_neq rfl rfl rfl).eq (u := .bool false) rfl) rfl wn rfl rfl ?_
  refine qm rfl rfl rfl ?_
  refine oq (y_move rfl rfl) rfl (want_some rfl rfl rfl) rfl rfl ?_
  refine oq ((y_neq rfl rfl rfl).eq (u := .bool false) rfl) rfl (want_some rfl rfl rfl) rfl rfl ?_
  refine oq (y_pickF rfl rfl rfl) rfl wn rfl rfl ?_
  refine Ops.nil <| thn_n ?_
  refine W.condF ?_
  refine W.skip <| thn_n <| W.seq <| W.region rfl ?_
  first | refine oq (yldW rfl rfl) rfl wn rfl rfl ?_ | refine oq (yldA rfl rfl) rfl wn rfl rfl ?_
  refine c0 (fun h' hE hL => lists_fn _ h' fs ss _ _ (hslf.ext hE) (hsls.ext hE) hck) (fun v A' hv => ?_)
  obtain ⟨O, us, B, hO, hB, hsb2⟩ := hv
  obtain ⟨ua, uc, rfl⟩ := hO.isSl
  refine Ops.sb (hsb2.app .refl) ?_
  refine qs rfl rfl rfl <| Ops.nil <| thn_n ?_
  have hul := hB.len
  have hLl := Nat.le_trans (listF_le hall ss.length (Nat.le_refl _)) (pow13 hns)
  refine W.sb (F' := O ++ (B ++ (S ++ [(β3, .cells #[.slice a fs.length cap, .slice a' ss.length cap'] t_Plant (0, 0))]))) (.of_perm (perm_cnt fun y => by simp only [List.count_append, List.count_cons, List.count_nil]; omega)) ?_
  refine freezeOs hO (fun g1 hG1 hslO hzO => ?_)
  refine freezeOss hB (fun g2 hG2 hslB => ?_)
  refine freezeOs hOg (fun g3 hG3 hslG hzG => ?_)
  have hGG := (hG1.trans hG2).trans hG3
  obtain ⟨LL, hLL⟩ : ∃ L, listF fs ss ss.length = L := ⟨_, rfl⟩
  rw [hLL] at hul hLl hslB
  refine W.seq <| W.region rfl <| qs rfl rfl rfl <| Ops.nil <| thn_n <| W.seq <| W.region rfl <| qs rfl rfl rfl <| qs rfl rfl rfl <| Ops.nil ?_
  refine thn_n <| W.seq <| W.region rfl ?_
  refine oq (y_fieldAddr rfl rfl) rfl wn rfl rfl ?_
  refine oq (yld rfl rfl) rfl wn rfl rfl ?_
  refine oq (y_len rfl rfl) rfl wn rfl rfl ?_
  refine oe rfl wn rfl rfl (e_makeSlice (n := ss.length) rfl rfl rfl (by omega) (fun bm0 => ?_))
  refine qs rfl rfl rfl <| Ops.nil <| thn_n <| W.seq <| W.seq <| W.region rfl <| qs rfl rfl rfl <| Ops.nil <| thn_n <| W.block ?_
  refine W.loop (σ := Nat × Int × List (List Be) × Value × Nat × Array Value) (fun q => q.1 ≤ us.length ∧ BI ss ((LL.take q.1).filter (isR fs ss)) q.2.2.1 q.2.1 ∧ Sl g3 Be.row q.2.2.2.1 (q.2.2.1.headD []) ∧ q.2.2.2.2.2.size = ss.length ∧ Part q.2.2.2.2.2 0 (flat rowI (metB q.2.2.1 ss.length))) (fun q => [(15, I q.1), (14, .slice (some ⟨q.2.2.2.2.1, 0, none⟩) ss.length ss.length), (13, I q.2.2.1.length), (12, I q.2.1), (11, q.2.2.2.1), (10, .slice ua us.length uc), (8, I (bestF fs ss).2.length), (6, I (bestF fs ss).1), (5, .slice ga (((bestF fs ss).2.headD []).take ss.length).length gc), (3, .pointer (some ⟨β3, 0, none⟩))]) (fun q => [(q.2.2.2.2.1, .cells q.2.2.2.2.2 t_int (0, 0)), (β3, .cells #[.slice a fs.length cap, .slice a' ss.length cap'] t_Plant (0, 0))]) (fun q => us.length - q.1) (0, -1, [], .slice none 0 0, bm0, (List.replicate ss.length (I 0)).toArray) ⟨Nat.zero_le _, BI.nil, .nil, by simp, by rw [metB_nil, flat_rep]; exact Part.all _⟩ ⟨rfl, rfl, rfl, rfl, rfl, rfl, rfl, rfl, rfl, rfl, trivial⟩ .refl ?_
  rintro ⟨i, most, B0, fv, bm, c⟩ ⟨hi, hBI, hF, hcs, hP⟩
  dsimp only at *
  refine W.seq <| W.seq <| W.region rfl <| qm rfl rfl rfl <| qm rfl rfl rfl ?_
  refine oq (y_len rfl rfl) rfl wn rfl rfl ?_
  refine oq (y_lss rfl rfl rfl) rfl wn rfl rfl ?_
  refine Ops.nil <| thn_n ?_
  refine W.condp rfl (fun c57 => ?_) (fun c57 => ?_)
  · have hi1 : i < us.length := by omega
    obtain ⟨g, hgk, -⟩ := has (show i < LL.length by omega)
    obtain ⟨⟨sa, sn, sc⟩, hs0, -⟩ := has hi1
    obtain ⟨hslg, -⟩ := hslB i _ g hs0 hgk
    replace hslg := hslg.ext hG3
    have hslO2 := hslO.ext (hG2.trans hG3)
    obtain ⟨bo, offo, co, Eo, fzo, rfl, hbo, -, hyo, hzo⟩ := hslO2.at hs0
    have hcell : co[offo + i * 1 + 0]? = some (.slice sa sn sc) := hzo 0 (by decide)
    clear hzo
    obtain ⟨xa, xc, hxe⟩ := hslg.isSl
    cases hxe
    have hgm : g ∈ listF fs ss ss.length := by rw [hLL]; exact List.mem_of_getElem? hgk
    have hgl := listF_len _ g hgm
    have hcp := list_ck hck hgm
    obtain ⟨wf, wd, hwr, hwi⟩ := wrong_ok hcp
    have htk := take_filter (q := isR fs ss) hgk
    have hB0l : B0.length ≤ 28561 := by
      rw [hBI.eq]
      have h1 := List.length_filter_le (fun l => decide (loaL ss l = most)) ((LL.take i).filter (isR fs ss))
      have h2 := List.length_filter_le (isR fs ss) (LL.take i)
      have h3 : (LL.take i).length ≤ LL.length := by rw [List.length_take]; omega
      omega
    obtain ⟨kk, hkk⟩ : ∃ kk, loaL ss g = kk := ⟨_, rfl⟩
    have hk0 : 0 ≤ kk := by
      rw [← hkk, loaves_sum hall]
      exact (loavesK_eq hall _ (by omega)).2.1
    refine W.skip <| thn_n <| W.seq <| W.block <| W.seq ?_
    refine W.drawF (n := 7) rfl ?_
    first | refine aq (i := 0) (yldW rfl rfl) rfl an rfl rfl ?_ | refine aq (i := 0) (yldA rfl rfl) rfl an rfl rfl ?_
    refine aq (i := 1) (y_move rfl rfl) rfl an rfl rfl ?_
    refine aq (i := 2) (y_move rfl rfl) rfl an rfl rfl ?_
    first | refine aq (i := 3) (yix rfl rfl rfl) rfl an rfl rfl ?_ | refine aq (i := 3) (yixI rfl rfl rfl) rfl an rfl rfl ?_
    refine aq (i := 4) (yld rfl rfl) rfl an rfl rfl ?_
    refine acp (i := 5) (u := I kk) (vs := [.agg #[.slice a fs.length cap, .slice a' ss.length cap'], .slice sa g.length sc]) (fun h' hE hL => by rw [← hkk]; exact Loaves_fn _ h' fs ss g _ _ _ (hsls.ext (hGG.trans hE)) (hslg.ext hE) hall hgl) ?_
    refine aq (i := 6) (y_assign rfl rfl) rfl an rfl rfl ?_
    refine az ?_
    refine thn_n <| W.seq <| W.seq <| W.region rfl <| qm rfl rfl rfl <| qm rfl rfl rfl ?_
    refine oq (y_lss rfl rfl rfl) rfl wn rfl rfl ?_
    refine Ops.nil <| thn_n ?_
    refine W.condp rfl (fun c68 => ?_) (fun c68 => ?_)
    · refine W.exit <| thn_x <| blk_x <| thn_n <| W.region rfl <| qm rfl rfl rfl ?_
      first | refine oq (yadd rfl rfl rfl) rfl wn rfl rfl ?_ | refine oq (y_addw rfl rfl rfl) rfl wn rfl rfl ?_
      refine qs rfl rfl rfl <| Ops.nil <| thn_n ?_
      have hB2 : BI ss ((LL.take (i + 1)).filter (isR fs ss)) B0 most := by
        rw [htk]
        split
        · exact hBI.less (by omega) (by omega)
        · rw [List.append_nil]; exact hBI
      exact ⟨rfl, (i + 1, most, B0, fv, bm, c), ⟨by simp only; omega, hB2, hF, hcs, hP⟩, by simp only; omega, ⟨rfl, rfl, rfl, rfl, rfl, rfl, rfl, rfl, rfl, rfl, trivial⟩, .refl⟩
    · refine W.skip <| thn_n <| W.seq ?_
      refine W.drawF (n := 13) rfl ?_
      first | refine aq (i := 0) (yldW rfl rfl) rfl an rfl rfl ?_ | refine aq (i := 0) (yldA rfl rfl) rfl an rfl rfl ?_
      refine aq (i := 1) (y_move rfl rfl) rfl an rfl rfl ?_
      refine aq (i := 2) (y_move rfl rfl) rfl an rfl rfl ?_
      first | refine aq (i := 3) (yix rfl rfl rfl) rfl an rfl rfl ?_ | refine aq (i := 3) (yixI rfl rfl rfl) rfl an rfl rfl ?_
      refine aq (i := 4) (yld rfl rfl) rfl an rfl rfl ?_
      refine acp (i := 5) (u := .tuple #[I wf, I wd, I 0]) (vs := [.agg #[.slice a fs.length cap, .slice a' ss.length cap'], .slice sa g.length sc]) (fun h' hE hL => ?_) ?_
      · have := Wrong_fn main h' fs ss g _ _ _ Eg zg (hslf.ext (hGG.trans hE)) (hsls.ext (hGG.trans hE)) (hslg.ext hE) (((hE0.trans hGG).trans hE).1 _ _ hg)
        rw [hwr] at this
        exact this
      refine aq (i := 6) (y_move rfl rfl) rfl an rfl rfl ?_
      refine aq (i := 7) (y_extract rfl rfl rfl) rfl an rfl rfl ?_
      refine aq (i := 8) (y_extract rfl rfl rfl) rfl an rfl rfl ?_
      refine aq (i := 9) (y_extract rfl rfl rfl) rfl an rfl rfl ?_
      refine aq (i := 10) (y_assign rfl rfl) rfl an rfl rfl ?_
      refine aq (i := 11) (y_assign rfl rfl) rfl an rfl rfl ?_
      refine aq (i := 12) (y_assign rfl rfl) rfl an rfl rfl ?_
      refine az ?_
      refine thn_n <| W.seq <| W.seq <| W.region rfl <| qm rfl rfl rfl ?_
      refine oq ((y_neq rfl rfl rfl).eq (u := .bool false) rfl) rfl wn rfl rfl ?_
      refine Ops.nil <| thn_n ?_
      refine W.condF ?_
      refine W.skip <| thn_n <| W.seq <| W.seq <| W.region rfl <| qm rfl rfl rfl ?_
      refine oq (y_geq rfl rfl rfl) rfl wn rfl rfl ?_
      refine Ops.nil <| thn_n ?_
      refine W.condp rfl (fun c82 => ?_) (fun c82 => ?_)
      · refine W.exit <| thn_x <| blk_x <| thn_n <| W.region rfl <| qm rfl rfl rfl ?_
        first | refine oq (yadd rfl rfl rfl) rfl wn rfl rfl ?_ | refine oq (y_addw rfl rfl rfl) rfl wn rfl rfl ?_
        refine qs rfl rfl rfl <| Ops.nil <| thn_n ?_
        have hR : isR fs ss g = false := by
          cases hx : isR fs ss g with
          | false => rfl
          | true => have := hwi.2 hx; omega
        rw [hR, if_neg (by decide), List.append_nil] at htk
        exact ⟨rfl, (i + 1, most, B0, fv, bm, c), ⟨by simp only; omega, by simp only; rw [htk]; exact hBI, hF, hcs, hP⟩, by simp only; omega, ⟨rfl, rfl, rfl, rfl, rfl, rfl, rfl, rfl, rfl, rfl, trivial⟩, .refl⟩
      · have hR : isR fs ss g = true := hwi.1 (by omega)
        rw [hR, if_pos rfl] at htk
        refine W.skip <| thn_n <| W.seq <| W.seq <| W.region rfl <| qm rfl rfl rfl <| qm rfl rfl rfl ?_
        refine oq (y_gtr rfl rfl rfl) rfl wn rfl rfl ?_
        refine Ops.nil <| thn_n ?_
        refine W.condp rfl (fun c85 => ?_) (fun c85 => ?_)
        · obtain ⟨B1, hB1⟩ : ∃ B1 : List (List Be), B1 = [] := ⟨_, rfl⟩
          have hBI2 : BI ss ((LL.take (i + 1)).filter (isR fs ss)) (B1 ++ [g]) kk := by rw [hB1, htk, ← hkk]; exact hBI.more (by omega)
          obtain ⟨fv, hfv⟩ : ∃ v, v = Value.slice sa g.length sc := ⟨_, rfl⟩
          have hF2 : Sl g3 Be.row fv ((B1 ++ [g]).headD []) := by rw [hB1, hfv]; exact hslg
          have hB1l : B1.length ≤ 28561 := by rw [hB1]; simp
          refine W.drawF (n := 13) rfl ?_
          refine aq (i := 0) (y_move rfl rfl) rfl an rfl rfl ?_
          refine aq (i := 1) (y_move rfl rfl) rfl an rfl rfl ?_
          first | refine aq (i := 2) (yix rfl rfl rfl) rfl an rfl rfl ?_ | refine aq (i := 2) (yixI rfl rfl rfl) rfl an rfl rfl ?_
          refine aq (i := 3) (yld rfl rfl) rfl an rfl rfl ?_
          refine aq (i := 4) (y_move rfl rfl) rfl an rfl rfl ?_
          refine aq (i := 5) (y_fieldAddr rfl rfl) rfl an rfl rfl ?_
          refine aq (i := 6) (yld rfl rfl) rfl an rfl rfl ?_
          refine aq (i := 7) (y_len rfl rfl) rfl an rfl rfl ?_
          refine aq (i := 9) (y_assign rfl rfl) rfl an rfl rfl ?_
          refine aq (i := 10) (y_assign rfl rfl) rfl an rfl rfl ?_
          refine aq (i := 11) (y_assign rfl rfl) rfl an rfl rfl ?_
          refine ae (i := 8) rfl an rfl rfl (e_makeSlice (n := ss.length) rfl rfl rfl (by omega) (fun bm => ⟨.inr (fun q hq => .tail _ hq), ?_⟩))
          obtain ⟨c, hc⟩ : ∃ c, c = (List.replicate ss.length (I 0)).toArray := ⟨_, rfl⟩
          rw [← hc]
          have hcs : c.size = ss.length := by rw [hc]; simp
          have hP1 : Part c 0 (flat rowI (metB B1 ss.length)) := by rw [hB1, hc, metB_nil, flat_rep]; exact Part.all _
          refine aq (i := 12) (y_assign rfl rfl) rfl an rfl rfl ?_
          refine az ?_
          refine thn_n <| W.seq ?_
          first | rw [← hfv] | skip
          refine W.region rfl <| qm rfl rfl rfl ?_
          first | refine oq (yadd rfl rfl rfl) rfl wn rfl rfl ?_ | refine oq (y_addw rfl rfl rfl) rfl wn rfl rfl ?_
          refine qs rfl rfl rfl <| Ops.nil <| thn_n <| W.seq <| W.region rfl <| qs rfl rfl rfl <| Ops.nil <| thn_n <| W.block ?_
          first
          | refine W.loop (σ := Nat × Array Value) (fun q => q.1 ≤ ss.length ∧ q.2.size = ss.length ∧ Part q.2 0 (flat rowI (metJ B1 g ss.length q.1))) (fun q => [(20, I q.1), (15, I i), (14, .slice (some ⟨bm, 0, none⟩) ss.length ss.length), (13, I (B1 ++ [g]).length), (12, I kk), (11, fv), (10, .slice _ us.length uc), (8, I (bestF fs ss).2.length), (6, I (bestF fs ss).1), (5, .slice ga (((bestF fs ss).2.headD []).take ss.length).length gc), (3, .pointer (some ⟨β3, 0, none⟩))]) (fun q => [(bm, .cells q.2 t_int (0, 0)), (β3, .cells #[.slice a fs.length cap, .slice a' ss.length cap'] t_Plant (0, 0))]) (fun q => ss.length - q.1) (0, c) ⟨Nat.zero_le _, hcs, by rw [metJ_0]; exact hP1⟩ ⟨rfl, rfl, rfl, lk rfl (show I _ = I _ by subst hB1; simp), rfl, rfl, rfl, rfl, rfl, rfl, rfl, trivial⟩ (.cons (.skip rfl .refl)) ?_
          | refine W.loop (σ := Nat × Array Value) (fun q => q.1 ≤ ss.length ∧ q.2.size = ss.length ∧ Part q.2 0 (flat rowI (metJ B1 g ss.length q.1))) (fun q => [(20, I q.1), (15, I i), (14, .slice (some ⟨bm, 0, none⟩) ss.length ss.length), (13, I (B1 ++ [g]).length), (12, I most), (11, fv), (10, .slice _ us.length uc), (8, I (bestF fs ss).2.length), (6, I (bestF fs ss).1), (5, .slice ga (((bestF fs ss).2.headD []).take ss.length).length gc), (3, .pointer (some ⟨β3, 0, none⟩))]) (fun q => [(bm, .cells q.2 t_int (0, 0)), (β3, .cells #[.slice a fs.length cap, .slice a' ss.length cap'] t_Plant (0, 0))]) (fun q => ss.length - q.1) (0, c) ⟨Nat.zero_le _, hcs, by rw [metJ_0]; exact hP1⟩ ⟨rfl, rfl, rfl, lk rfl (show I _ = I _ by subst hB1; simp), rfl, rfl, rfl, rfl, rfl, rfl, rfl, trivial⟩ .refl ?_
          clear hP1 hcs
          rintro ⟨j, c⟩ ⟨hj, hcs, hPj⟩
          dsimp only at *
          refine W.seq <| W.seq <| W.region rfl <| qm rfl rfl rfl <| qm rfl rfl rfl ?_
          refine oq (y_len rfl rfl) rfl wn rfl rfl ?_
          refine oq (y_lss rfl rfl rfl) rfl wn rfl rfl ?_
          refine Ops.nil <| thn_n ?_
          refine W.condp rfl (fun c100 => ?_) (fun c100 => ?_)
          · have hj1 : j < ss.length := by omega
            have hgj : g[j]? = some (beAt g j) := by simp [beAt, List.getD, List.getElem?_eq_getElem (show j < g.length by omega)]
            obtain ⟨bl, offl, cl, El, fzl, rfl, hbl, -, hyl, hzl⟩ := hslg.at hgj
            have hfl0 : cl[offl + j * 2 + 0]? = some (I (beAt g j).fl) := hzl 0 (by decide)
            clear hzl
            have hmj := metJ_at (B := B1) (l := g) (k := j) hj1
            rw [if_neg (by omega)] at hmj
            have hcj : c[0 + j * 1 + 0]? = some (I (cntB B1 j)) := hPj.rowG hmj 0 (by decide)
            have hcb : 0 ≤ cntB B1 j ∧ cntB B1 j ≤ B1.length := by
              have : cntF j B1 ≤ B1.length := List.countP_le_length
              unfold cntB; omega
            have hmw := (hPj.rowE hmj).2
            refine W.skip <| thn_n <| W.seq <| W.block <| W.seq <| W.region rfl <| qm rfl rfl rfl <| qm rfl rfl rfl ?_
            first | refine oq (yix rfl rfl rfl) rfl wn rfl rfl ?_ | refine oq (yixI rfl rfl rfl) rfl wn rfl rfl ?_
            refine oq (yld rfl rfl) rfl wn rfl rfl ?_
            refine qm rfl rfl rfl ?_
            first | refine oq (yix rfl rfl rfl) rfl wn rfl rfl ?_ | refine oq (yixI rfl rfl rfl) rfl wn rfl rfl ?_
            refine oq (y_fieldAddr rfl rfl) rfl wn rfl rfl ?_
            refine oq (yld rfl rfl) rfl wn rfl rfl ?_
            refine oq (y_geq rfl rfl rfl) rfl wn rfl rfl ?_
            refine Ops.nil <| thn_n ?_
            refine W.condp rfl (fun c111 => ?_) (fun c111 => ?_)
            · have hP2 : Part (c.setIfInBounds (0 + j * 1 + 0) (I (cntB B1 j + 1))) 0 (flat rowI (metJ B1 g ss.length (j + 1))) := by
                have := hPj.setR (cntB B1 j + 1) 0 (I (cntB B1 j + 1)) (by decide) hmj rfl
                have e : cntB (B1 ++ [g]) j = cntB B1 j + 1 := by rw [cntB_snoc, if_pos c111]
                rw [← e, metJ_set, e] at this
                rw [Nat.zero_add]; exact this
              have hcs2 : (c.setIfInBounds (0 + j * 1 + 0) (I (cntB B1 j + 1))).size = ss.length := by rw [Array.size_setIfInBounds]; exact hcs
              refine W.region rfl <| qm rfl rfl rfl <| qm rfl rfl rfl ?_
              first | refine oq (yix rfl rfl rfl) rfl wn rfl rfl ?_ | refine oq (yixI rfl rfl rfl) rfl wn rfl rfl ?_
              refine oq (yld rfl rfl) rfl wn rfl rfl ?_
              first | refine oq (yadd rfl rfl rfl) rfl wn rfl rfl ?_ | refine oq (y_addw rfl rfl rfl) rfl wn rfl rfl ?_
              first | refine oq (yix rfl rfl rfl) rfl wn rfl rfl ?_ | refine oq (yixI rfl rfl rfl) rfl wn rfl rfl ?_
              refine Ops.sto ?_
              refine Ops.nil <| blk_n <| thn_n <| W.region rfl <| qm rfl rfl rfl ?_
              first | refine oq (yadd rfl rfl rfl) rfl wn rfl rfl ?_ | refine oq (y_addw rfl rfl rfl) rfl wn rfl rfl ?_
              refine qs rfl rfl rfl <| Ops.nil <| thn_n ?_
              exact ⟨rfl, (j + 1, _), ⟨by simp only; omega, hcs2, hP2⟩, by simp only; omega, ⟨rfl, rfl, rfl, rfl, rfl, rfl, rfl, rfl, rfl, rfl, rfl, trivial⟩, .refl⟩
            · refine W.skip <| blk_n <| thn_n <| W.region rfl <| qm rfl rfl rfl ?_
              first | refine oq (yadd rfl rfl rfl) rfl wn rfl rfl ?_ | refine oq (y_addw rfl rfl rfl) rfl wn rfl rfl ?_
              refine qs rfl rfl rfl <| Ops.nil <| thn_n ?_
              exact ⟨rfl, (j + 1, c), ⟨by simp only; omega, hcs, by simp only; rw [← metJ_skip c111]; exact hPj⟩, by simp only; omega, ⟨rfl, rfl, rfl, rfl, rfl, rfl, rfl, rfl, rfl, rfl, rfl, trivial⟩, .refl⟩
          · refine W.exit <| thn_x <| thn_x <| blk_x <| blk_n <| thn_n <| W.region rfl <| qm rfl rfl rfl ?_
            first | refine oq (yadd rfl rfl rfl) rfl wn rfl rfl ?_ | refine oq (y_addw rfl rfl rfl) rfl wn rfl rfl ?_
            refine qs rfl rfl rfl <| Ops.nil <| thn_n ?_
            have hje : j = ss.length := by omega
            subst hje
            rw [metJ_n] at hPj
            exact ⟨rfl, (i + 1, _, B1 ++ [g], fv, bm, c), ⟨by simp only; omega, hBI2, hF2, hcs, hPj⟩, by simp only; omega, ⟨rfl, rfl, rfl, rfl, rfl, rfl, rfl, rfl, rfl, rfl, trivial⟩, .refl⟩
        · have hmk : most = kk := by omega
          subst hmk
          obtain ⟨B1, hB1⟩ : ∃ B1 : List (List Be), B1 = B0 := ⟨_, rfl⟩
          have hBI2 : BI ss ((LL.take (i + 1)).filter (isR fs ss)) (B1 ++ [g]) most := by rw [hB1, htk]; exact hBI.same hkk (by omega)
          have hF2 : Sl g3 Be.row fv ((B1 ++ [g]).headD []) := by
            rw [hB1]
            cases hx : B0 with
            | nil =>
              have : most = -1 := hBI.em (by
                cases hy : (LL.take i).filter (isR fs ss) with
                | nil => rfl
                | cons p r => exact absurd hx (hBI.ne (by rw [hy]; simp)))
              omega
            | cons b r => rw [hx] at hF; exact hF
          have hB1l : B1.length ≤ 28561 := by rw [hB1]; exact hB0l
          have hP1 : Part c 0 (flat rowI (metB B1 ss.length)) := by rw [hB1]; exact hP
          refine W.skip <| thn_n <| W.seq ?_
          first | rw [← hfv] | skip
          refine W.region rfl <| qm rfl rfl rfl ?_
          first | refine oq (yadd rfl rfl rfl) rfl wn rfl rfl ?_ | refine oq (y_addw rfl rfl rfl) rfl wn rfl rfl ?_
          refine qs rfl rfl rfl <| Ops.nil <| thn_n <| W.seq <| W.region rfl <| qs rfl rfl rfl <| Ops.nil <| thn_n <| W.block ?_
          first
          | refine W.loop (σ := Nat × Array Value) (fun q => q.1 ≤ ss.length ∧ q.2.size = ss.length ∧ Part q.2 0 (flat rowI (metJ B1 g ss.length q.1))) (fun q => [(20, I q.1), (15, I i), (14, .slice (some ⟨bm, 0, none⟩) ss.length ss.length), (13, I (B1 ++ [g]).length), (12, I kk), (11, fv), (10, .slice _ us.length uc), (8, I (bestF fs ss).2.length), (6, I (bestF fs ss).1), (5, .slice ga (((bestF fs ss).2.headD []).take ss.length).length gc), (3, .pointer (some ⟨β3, 0, none⟩))]) (fun q => [(bm, .cells q.2 t_int (0, 0)), (β3, .cells #[.slice a fs.length cap, .slice a' ss.length cap'] t_Plant (0, 0))]) (fun q => ss.length - q.1) (0, c) ⟨Nat.zero_le _, hcs, by rw [metJ_0]; exact hP1⟩ ⟨rfl, rfl, rfl, lk rfl (show I _ = I _ by subst hB1; simp), rfl, rfl, rfl, rfl, rfl, rfl, rfl, trivial⟩ (.cons (.skip rfl .refl)) ?_
          | refine W.loop (σ := Nat × Array Value) (fun q => q.1 ≤ ss.length ∧ q.2.size = ss.length ∧ Part q.2 0 (flat rowI (metJ B1 g ss.length q.1))) (fun q => [(20, I q.1), (15, I i), (14, .slice (some ⟨bm, 0, none⟩) ss.length ss.length), (13, I (B1 ++ [g]).length), (12, I most), (11, fv), (10, .slice _ us.length uc), (8, I (bestF fs ss).2.length), (6, I (bestF fs ss).1), (5, .slice ga (((bestF fs ss).2.headD []).take ss.length).length gc), (3, .pointer (some ⟨β3, 0, none⟩))]) (fun q => [(bm, .cells q.2 t_int (0, 0)), (β3, .cells #[.slice a fs.length cap, .slice a' ss.length cap'] t_Plant (0, 0))]) (fun q => ss.length - q.1) (0, c) ⟨Nat.zero_le _, hcs, by rw [metJ_0]; exact hP1⟩ ⟨rfl, rfl, rfl, lk rfl (show I _ = I _ by subst hB1; simp), rfl, rfl, rfl, rfl, rfl, rfl, rfl, trivial⟩ .refl ?_
          clear hP1 hcs
          rintro ⟨j, c⟩ ⟨hj, hcs, hPj⟩
          dsimp only at *
          refine W.seq <| W.seq <| W.region rfl <| qm rfl rfl rfl <| qm rfl rfl rfl ?_
          refine oq (y_len rfl rfl) rfl wn rfl rfl ?_
          refine oq (y_lss rfl rfl rfl) rfl wn rfl rfl ?_
          refine Ops.nil <| thn_n ?_
          refine W.condp rfl (fun c100 => ?_) (fun c100 => ?_)
          · have hj1 : j < ss.length := by omega
            have hgj : g[j]? = some (beAt g j) := by simp [beAt, List.getD, List.getElem?_eq_getElem (show j < g.length by omega)]
            obtain ⟨bl, offl, cl, El, fzl, rfl, hbl, -, hyl, hzl⟩ := hslg.at hgj
            have hfl0 : cl[offl + j * 2 + 0]? = some (I (beAt g j).fl) := hzl 0 (by decide)
            clear hzl
            have hmj := metJ_at (B := B1) (l := g) (k := j) hj1
            rw [if_neg (by omega)] at hmj
            have hcj : c[0 + j * 1 + 0]? = some (I (cntB B1 j)) := hPj.rowG hmj 0 (by decide)
            have hcb : 0 ≤ cntB B1 j ∧ cntB B1 j ≤ B1.length := by
              have : cntF j B1 ≤ B1.length := List.countP_le_length
              unfold cntB; omega
            have hmw := (hPj.rowE hmj).2
            refine W.skip <| thn_n <| W.seq <| W.block <| W.seq <| W.region rfl <| qm rfl rfl rfl <| qm rfl rfl rfl ?_
            first | refine oq (yix rfl rfl rfl) rfl wn rfl rfl ?_ | refine oq (yixI rfl rfl rfl) rfl wn rfl rfl ?_
            refine oq (yld rfl rfl) rfl wn rfl rfl ?_
            refine qm rfl rfl rfl ?_
            first | refine oq (yix rfl rfl rfl) rfl wn rfl rfl ?_ | refine oq (yixI rfl rfl rfl) rfl wn rfl rfl ?_
            refine oq (y_fieldAddr rfl rfl) rfl wn rfl rfl ?_
            refine oq (yld rfl rfl) rfl wn rfl rfl ?_
            refine oq (y_geq rfl rfl rfl) rfl wn rfl rfl ?_
            refine Ops.nil <| thn_n ?_
            refine W.condp rfl (fun c111 => ?_) (fun c111 => ?_)
            · have hP2 : Part (c.setIfInBounds (0 + j * 1 + 0) (I (cntB B1 j + 1))) 0 (flat rowI (metJ B1 g ss.length (j + 1))) := by
                have := hPj.setR (cntB B1 j + 1) 0 (I (cntB B1 j + 1)) (by decide) hmj rfl
                have e : cntB (B1 ++ [g]) j = cntB B1 j + 1 := by rw [cntB_snoc, if_pos c111]
                rw [← e, metJ_set, e] at this
                rw [Nat.zero_add]; exact this
              have hcs2 : (c.setIfInBounds (0 + j * 1 + 0) (I (cntB B1 j + 1))).size = ss.length := by rw [Array.size_setIfInBounds]; exact hcs
              refine W.region rfl <| qm rfl rfl rfl <| qm rfl rfl rfl ?_
              first | refine oq (yix rfl rfl rfl) rfl wn rfl rfl ?_ | refine oq (yixI rfl rfl rfl) rfl wn rfl rfl ?_
              refine oq (yld rfl rfl) rfl wn rfl rfl ?_
              first | refine oq (yadd rfl rfl rfl) rfl wn rfl rfl ?_ | refine oq (y_addw rfl rfl rfl) rfl wn rfl rfl ?_
              first | refine oq (yix rfl rfl rfl) rfl wn rfl rfl ?_ | refine oq (yixI rfl rfl rfl) rfl wn rfl rfl ?_
              refine Ops.sto ?_
              refine Ops.nil <| blk_n <| thn_n <| W.region rfl <| qm rfl rfl rfl ?_
              first | refine oq (yadd rfl rfl rfl) rfl wn rfl rfl ?_ | refine oq (y_addw rfl rfl rfl) rfl wn rfl rfl ?_
              refine qs rfl rfl rfl <| Ops.nil <| thn_n ?_
              exact ⟨rfl, (j + 1, _), ⟨by simp only; omega, hcs2, hP2⟩, by simp only; omega, ⟨rfl, rfl, rfl, rfl, rfl, rfl, rfl, rfl, rfl, rfl, rfl, trivial⟩, .refl⟩
            · refine W.skip <| blk_n <| thn_n <| W.region rfl <| qm rfl rfl rfl ?_
              first | refine oq (yadd rfl rfl rfl) rfl wn rfl rfl ?_ | refine oq (y_addw rfl rfl rfl) rfl wn rfl rfl ?_
              refine qs rfl rfl rfl <| Ops.nil <| thn_n ?_
              exact ⟨rfl, (j + 1, c), ⟨by simp only; omega, hcs, by simp only; rw [← metJ_skip c111]; exact hPj⟩, by simp only; omega, ⟨rfl, rfl, rfl, rfl, rfl, rfl, rfl, rfl, rfl, rfl, rfl, trivial⟩, .refl⟩
          · refine W.exit <| thn_x <| thn_x <| blk_x <| blk_n <| thn_n <| W.region rfl <| qm rfl rfl rfl ?_
            first | refine oq (yadd rfl rfl rfl) rfl wn rfl rfl ?_ | refine oq (y_addw rfl rfl rfl) rfl wn rfl rfl ?_
            refine qs rfl rfl rfl <| Ops.nil <| thn_n ?_
            have hje : j = ss.length := by omega
            subst hje
            rw [metJ_n] at hPj
            exact ⟨rfl, (i + 1, _, B1 ++ [g], fv, bm, c), ⟨by simp only; omega, hBI2, hF2, hcs, hPj⟩, by simp only; omega, ⟨rfl, rfl, rfl, rfl, rfl, rfl, rfl, rfl, rfl, rfl, trivial⟩, .refl⟩
  · have hie : i = us.length := by omega
    subst hie
    rw [hul, List.take_length, ← hLL] at hBI
    obtain ⟨hb1, hb2, hb3, hb4⟩ := hBI.best hall
    obtain ⟨b0, Br, hBe⟩ : ∃ b r, B0 = b :: r := by
      cases B0 with
      | nil => exact absurd rfl hb3
      | cons b r => exact ⟨b, r, rfl⟩
    have hb0l := listF_len _ b0 (hb4 b0 (by rw [hBe]; exact List.mem_cons_self ..))
    have hgot : ((bestF fs ss).2.headD []).take ss.length = b0 := by
      rw [hb2, hBe]
      show (padB b0).take ss.length = b0
      rw [padB, List.take_append_of_le_length (by omega), ← hb0l, List.take_length]
    have hF0 : Sl g3 Be.row fv b0 := by rw [hBe] at hF; exact hF
    have hcl : (bestF fs ss).2.length = B0.length := by rw [hb2, List.length_map]
    refine W.exit <| thn_x <| thn_x <| blk_x <| thn_n <| W.seq <| W.seq <| W.region rfl <| qm rfl rfl rfl <| qm rfl rfl rfl ?_
    refine oq ((y_neq rfl rfl rfl).eq (u := .bool false) (by simp [hb1])) rfl wn rfl rfl ?_
    refine qm rfl rfl rfl ?_
    refine oq (y_move rfl rfl) rfl (want_some rfl rfl rfl) rfl rfl ?_
    refine oq (y_move rfl rfl) rfl (want_some rfl rfl rfl) rfl rfl ?_
    refine oq ((y_neq rfl rfl rfl).eq (u := .bool false) (by simp [hcl])) rfl (want_some rfl rfl rfl) rfl rfl ?_
    refine oq (y_pickF rfl rfl rfl) rfl wn rfl rfl ?_
    refine qm rfl rfl rfl ?_
    refine oq (y_move rfl rfl) rfl (want_some rfl rfl rfl) rfl rfl ?_
    refine oq (y_move rfl rfl) rfl (want_some rfl rfl rfl) rfl rfl ?_
    refine cp (u := .bool true) (fun h' hE hL => ?_) ?_ (hw := want_some rfl rfl rfl)
    · have := EqBerths_fn main h' (((bestF fs ss).2.headD []).take ss.length) b0 _ fv (hslG.ext hE) (hF0.ext hE) (by rw [hgot]; omega)
      rw [decide_eq_true hgot] at this
      exact this
    refine oq (y_not rfl rfl) rfl (want_some rfl rfl rfl) rfl rfl ?_
    refine oq (y_pickF rfl rfl rfl) rfl wn rfl rfl ?_
    refine Ops.nil <| thn_n ?_
    refine W.condF ?_
    refine W.skip <| thn_n <| W.seq <| W.seq <| W.region rfl <| qs rfl rfl rfl <| Ops.nil <| thn_n <| W.block ?_
    refine W.loop (σ := Nat) (fun k => k ≤ ss.length) (fun k => [(21, I k), (14, .slice (some ⟨bm, 0, none⟩) ss.length ss.length), (13, I B0.length), (3, .pointer (some ⟨β3, 0, none⟩))]) (fun _ => [(bm, .cells c t_int (0, 0)), (β3, .cells #[.slice a fs.length cap, .slice a' ss.length cap'] t_Plant (0, 0))]) (fun k => ss.length - k) 0 (Nat.zero_le _) ⟨rfl, rfl, rfl, rfl, trivial⟩ .refl ?_
    rintro k hk
    refine W.seq <| W.seq <| W.region rfl <| qm rfl rfl rfl <| qm rfl rfl rfl ?_
    refine oq (y_len rfl rfl) rfl wn rfl rfl ?_
    refine oq (y_lss rfl rfl rfl) rfl wn rfl rfl ?_
    refine Ops.nil <| thn_n ?_
    refine W.condp rfl (fun c135 => ?_) (fun c135 => ?_)
    · have hk1 : k < ss.length := by omega
      have hck0 : c[0 + k * 1 + 0]? = some (I (cntB B0 k)) := hP.rowG (metB_at hk1) 0 (by decide)
      have hmw := (hP.rowE (metB_at hk1)).2
      have hvm := verd_met (fs := fs) (ss := ss) (s := k) hb2
      refine W.skip <| thn_n <| W.seq <| W.block <| W.seq <| W.region rfl <| qs rfl rfl rfl <| Ops.nil <| thn_n <| W.seq ?_
      refine W.seq <| W.region rfl <| qm rfl rfl rfl <| qm rfl rfl rfl ?_
      first | refine oq (yix rfl rfl rfl) rfl wn rfl rfl ?_ | refine oq (yixI rfl rfl rfl) rfl wn rfl rfl ?_
      refine oq (yld rfl rfl) rfl wn rfl rfl ?_
      refine oq (y_eql rfl rfl rfl) rfl wn rfl rfl ?_
      refine Ops.nil <| thn_n ?_
      refine W.condp rfl (fun c142 => ?_) (fun c142 => ?_)
      · have he : verdF fs ss k = 2 := by rw [hvm, if_pos c142]
        refine W.region rfl <| qs rfl rfl rfl <| Ops.nil <| thn_n <| W.seq <| W.region rfl ?_
        first | refine oq (yldW rfl rfl) rfl wn rfl rfl ?_ | refine oq (yldA rfl rfl) rfl wn rfl rfl ?_
        refine qm rfl rfl rfl ?_
        refine cp (u := .tuple #[I (verdF fs ss k), I 0]) (fun h' hE hL => Verdict_fn _ hS hmb h' fs ss k _ _ Eg zg (hslf.ext (hGG.trans hE)) (hsls.ext (hGG.trans hE)) (hzf.ext (hGG.trans hE)) (hzs.ext (hGG.trans hE)) hck hk1 (((hE0.trans hGG).trans hE).1 _ _ hg) (((hE0.trans hGG).trans hE).2 _ z0)) ?_
        refine qm rfl rfl rfl <| oq (y_extract rfl rfl rfl) rfl wn rfl rfl <| oq (y_extract rfl rfl rfl) rfl wn rfl rfl <| qs rfl rfl rfl <| qs rfl rfl rfl <| Ops.nil <| thn_n <| W.seq <| W.region rfl <| qm rfl rfl rfl ?_
        refine oq ((y_neq rfl rfl rfl).eq (u := .bool false) rfl) rfl wn rfl rfl ?_
        refine qm rfl rfl rfl ?_
        refine oq (y_move rfl rfl) rfl (want_some rfl rfl rfl) rfl rfl ?_
        refine oq (y_move rfl rfl) rfl (want_some rfl rfl rfl) rfl rfl ?_
        refine oq ((y_neq rfl rfl rfl).eq (u := .bool false) (by simp [he])) rfl (want_some rfl rfl rfl) rfl rfl ?_
        refine oq (y_pickF rfl rfl rfl) rfl wn rfl rfl ?_
        refine Ops.nil <| thn_n ?_
        refine W.condF ?_
        refine W.skip <| blk_n <| thn_n <| W.region rfl <| qm rfl rfl rfl ?_
        first | refine oq (yadd rfl rfl rfl) rfl wn rfl rfl ?_ | refine oq (y_addw rfl rfl rfl) rfl wn rfl rfl ?_
        refine qs rfl rfl rfl <| Ops.nil <| thn_n ?_
        exact ⟨rfl, k + 1, by omega, by omega, ⟨rfl, rfl, rfl, rfl, trivial⟩, .refl⟩
      · refine W.seq <| W.region rfl <| qm rfl rfl rfl <| qm rfl rfl rfl ?_
        first | refine oq (yix rfl rfl rfl) rfl wn rfl rfl ?_ | refine oq (yixI rfl rfl rfl) rfl wn rfl rfl ?_
        refine oq (yld rfl rfl) rfl wn rfl rfl ?_
        refine qm rfl rfl rfl ?_
        refine oq (y_eql rfl rfl rfl) rfl wn rfl rfl ?_
        refine Ops.nil <| thn_n ?_
        refine W.condp rfl (fun c148 => ?_) (fun c148 => ?_)
        · have he : verdF fs ss k = 1 := by rw [hvm, if_neg c142, if_pos c148]
          refine W.region rfl <| qs rfl rfl rfl <| Ops.nil <| thn_n <| W.seq <| W.region rfl ?_
          first | refine oq (yldW rfl rfl) rfl wn rfl rfl ?_ | refine oq (yldA rfl rfl) rfl wn rfl rfl ?_
          refine qm rfl rfl rfl ?_
          refine cp (u := .tuple #[I (verdF fs ss k), I 0]) (fun h' hE hL => Verdict_fn _ hS hmb h' fs ss k _ _ Eg zg (hslf.ext (hGG.trans hE)) (hsls.ext (hGG.trans hE)) (hzf.ext (hGG.trans hE)) (hzs.ext (hGG.trans hE)) hck hk1 (((hE0.trans hGG).trans hE).1 _ _ hg) (((hE0.trans hGG).trans hE).2 _ z0)) ?_
          refine qm rfl rfl rfl <| oq (y_extract rfl rfl rfl) rfl wn rfl rfl <| oq (y_extract rfl rfl rfl) rfl wn rfl rfl <| qs rfl rfl rfl <| qs rfl rfl rfl <| Ops.nil <| thn_n <| W.seq <| W.region rfl <| qm rfl rfl rfl ?_
          refine oq ((y_neq rfl rfl rfl).eq (u := .bool false) rfl) rfl wn rfl rfl ?_
          refine qm rfl rfl rfl ?_
          refine oq (y_move rfl rfl) rfl (want_some rfl rfl rfl) rfl rfl ?_
          refine oq (y_move rfl rfl) rfl (want_some rfl rfl rfl) rfl rfl ?_
          refine oq ((y_neq rfl rfl rfl).eq (u := .bool false) (by simp [he])) rfl (want_some rfl rfl rfl) rfl rfl ?_
          refine oq (y_pickF rfl rfl rfl) rfl wn rfl rfl ?_
          refine Ops.nil <| thn_n ?_
          refine W.condF ?_
          refine W.skip <| blk_n <| thn_n <| W.region rfl <| qm rfl rfl rfl ?_
          first | refine oq (yadd rfl rfl rfl) rfl wn rfl rfl ?_ | refine oq (y_addw rfl rfl rfl) rfl wn rfl rfl ?_
          refine qs rfl rfl rfl <| Ops.nil <| thn_n ?_
          exact ⟨rfl, k + 1, by omega, by omega, ⟨rfl, rfl, rfl, rfl, trivial⟩, .refl⟩
        · have he : verdF fs ss k = 3 := by rw [hvm, if_neg c142, if_neg c148]
          refine W.skip <| thn_n <| W.seq <| W.region rfl ?_
          first | refine oq (yldW rfl rfl) rfl wn rfl rfl ?_ | refine oq (yldA rfl rfl) rfl wn rfl rfl ?_
          refine qm rfl rfl rfl ?_
          refine cp (u := .tuple #[I (verdF fs ss k), I 0]) (fun h' hE hL => Verdict_fn _ hS hmb h' fs ss k _ _ Eg zg (hslf.ext (hGG.trans hE)) (hsls.ext (hGG.trans hE)) (hzf.ext (hGG.trans hE)) (hzs.ext (hGG.trans hE)) hck hk1 (((hE0.trans hGG).trans hE).1 _ _ hg) (((hE0.trans hGG).trans hE).2 _ z0)) ?_
          refine qm rfl rfl rfl <| oq (y_extract rfl rfl rfl) rfl wn rfl rfl <| oq (y_extract rfl rfl rfl) rfl wn rfl rfl <| qs rfl rfl rfl <| qs rfl rfl rfl <| Ops.nil <| thn_n <| W.seq <| W.region rfl <| qm rfl rfl rfl ?_
          refine oq ((y_neq rfl rfl rfl).eq (u := .bool false) rfl) rfl wn rfl rfl ?_
          refine qm rfl rfl rfl ?_
          refine oq (y_move rfl rfl) rfl (want_some rfl rfl rfl) rfl rfl ?_
          refine oq (y_move rfl rfl) rfl (want_some rfl rfl rfl) rfl rfl ?_
          refine oq ((y_neq rfl rfl rfl).eq (u := .bool false) (by simp [he])) rfl (want_some rfl rfl rfl) rfl rfl ?_
          refine oq (y_pickF rfl rfl rfl) rfl wn rfl rfl ?_
          refine Ops.nil <| thn_n ?_
          refine W.condF ?_
          refine W.skip <| blk_n <| thn_n <| W.region rfl <| qm rfl rfl rfl ?_
          first | refine oq (yadd rfl rfl rfl) rfl wn rfl rfl ?_ | refine oq (y_addw rfl rfl rfl) rfl wn rfl rfl ?_
          refine qs rfl rfl rfl <| Ops.nil <| thn_n ?_
          exact ⟨rfl, k + 1, by omega, by omega, ⟨rfl, rfl, rfl, rfl, trivial⟩, .refl⟩
    · refine W.exit <| thn_x <| thn_x <| blk_x <| thn_n <| W.seq <| W.region rfl ?_
      refine cp (fun h' hE hL => exs_fn _ hS hmb h' Eg zg (((hE0.trans hGG).trans hE).1 _ _ hg) (((hE0.trans hGG).trans hE).2 _ z0)) ?_
      refine qs rfl rfl rfl <| Ops.nil <| thn_n <| W.ret ?_
      exact lvq rfl
end Go.Mus

/- FloorBest's card. Conditions: as the card says; over the given program. -/
namespace Go.Proofs.YtabnpjbnoedfgaaDoor
open Go Go.Mus
set_option maxRecDepth 100000
set_option maxHeartbeats 4000000
theorem floorBest_row : Rows.FloorBestSaid :=
  OpenClaim.holds_of_wide_leaving n_law_FloorBest F_law_FloorBest rfl rfl rfl rfl rfl rfl rfl ⟨rfl, rfl, rfl, rfl, rfl⟩ rfl rfl rfl rfl rfl (by kernel_rfl) at_law_FloorBest (by kernel_rfl)
    (of_decide_eq_true (by kernel_rfl)) (by unfold Func.isWrapper; first | (rw [if_pos (by decide +kernel)]; kernel_rfl) | (rw [if_neg (by decide +kernel)]; exact ⟨rfl, rfl⟩))
    (fun os started H enc _ => lift1 (s := Rows.floorBestSpec) os started H enc at_law_FloorBest (by kernel_rfl) (by kernel_rfl) (by kernel_rfl) (by kernel_rfl) (by kernel_rfl) rfl (fun _ => rfl)
      (ChangeSpec.witness_at (enc := enc) (C := Tryd.checked) (os := os) (X := fun w _ => laidMetH prog laid0 w) false (laidWorld os) #[.slice none 0 0] 8 rfl (by kernel_rfl) (by kernel_rfl) (by kernel_rfl) (by kernel_rfl) (by kernel_rfl) (laidWorld_met os _))
      (fun main hS hmb h nums lv Eg zg hl hg z0 => FloorBest_top main hS hmb h nums lv Eg zg hl hg z0))

theorem FloorBest_card : Rows.FloorBestCardSaid :=
  tied_goes .later [] [.handle] true (true, "2e2133920f864db8286a366f85eb0bf56b29bab96a3561a4e902e110205c3504") true
    floorBest_row (fun _ h => by cases h) (by kernel_rfl) (fun _ h => by cases h) floorBest_row_tie rfl ⟨rfl, rfl⟩ (by kernel_rfl) rfl
    (fun f fn hf hfn => by
      obtain rfl : f = n_law_FloorBest := (Option.some.inj ((show prog.funcNamed Rows.floorBestRow.func = some n_law_FloorBest by kernel_rfl).symm.trans hf)).symm
      obtain rfl : fn = F_law_FloorBest := (Option.some.inj (at_law_FloorBest.symm.trans hfn)).symm
      exact ⟨by kernel_rfl, fun j t ht => by
        rw [show (F_law_FloorBest).params = #[t_sl_int] by kernel_rfl] at ht
        have h3 : t = t_sl_int := by
          rcases j with _ | j
          · simpa using ht.symm
          · simp at ht
        subst h3
        exact (show prog.wantsStandIn t_sl_int = false by kernel_rfl)⟩)
    (by kernel_rfl)
#print axioms FloorBest_card
end Go.Proofs.YtabnpjbnoedfgaaDoor
