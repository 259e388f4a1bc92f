/- When a floor is empty, when cones are done, days of doubt. Conditions: none; over the given program. (And 7 texts more.) -/
import Derived.Test.YtnffnndmilpnoaaGreatDoorFloorWrongsQ2
import Derived.Test.YtnffnndmilpnoaaGreatDoorFloorWrongsQ1
import Derived.Test.YtnffnndmilpnoaaGreatDoorR06
set_option linter.unusedVariables false
set_option linter.unusedSimpArgs false
set_option linter.unusedSectionVars false

/- When a floor is empty, when cones are done, days of doubt. Conditions: none; over the given program. -/
namespace Go.Mus
set_option maxRecDepth 100000
set_option maxHeartbeats 4000000
theorem Ready_fn (main : Side) (h : Hp) (fs : List Fl) (ss : List St) (l : List Be) (i : Int) (vf vs vl : Value) (hf : Sl h Fl.row vf fs) (hs : Sl h St.row vs ss) (hl : Sl h Be.row vl l) : Pu prog main n_floor_Ready #[.agg #[vf, vs], vl, I i] h (.tuple #[(readyV fs ss l i).1.val, I (readyV fs ss l i).2]) := by
  obtain ⟨a, cap, rfl⟩ := hf.isSl
  obtain ⟨a', cap', rfl⟩ := hs.isSl
  obtain ⟨a2, cap2, rfl⟩ := hl.isSl
  obtain ⟨va, vb, pp, hsh, h1a, h1b, hpp, hok⟩ := askV_shape (.slice a fs.length cap) (.slice a' ss.length cap') fs ss l [] rfl rfl
  have hsz : (flat Be.row pp).toArray.size = 8 := by simp [flat_len, hpp]
  have hon : ones (flat Be.row pp).toArray.toList = true := plan_ones
  have hon2 : ones (#[va, vb] : Array Value).toList = true := by simp [ones, h1a, h1b]
  refine Fnc.of_body at_floor_Ready rfl (by show 3 ≤ 57; decide) [(0, .agg #[.slice a fs.length cap, .slice a' ss.length cap']), (1, .slice a2 l.length cap2), (2, I i)] ⟨rfl, rfl, rfl, trivial⟩ ?_
  refine W.seq <| W.region rfl ?_
  refine Ops.box (fun β3 => ?_)
  refine Ops.new (fun β6 => ?_)
  refine qs rfl rfl rfl <| Ops.nil <| thn_n <| W.seq <| W.region rfl ?_
  first | refine oq (yldW rfl rfl) rfl wn rfl rfl ?_ | refine oq (yldA rfl rfl) rfl wn rfl rfl ?_
  refine qm rfl rfl rfl ?_
  refine cp (u := .tuple #[.agg #[va, vb], planV pp, I (askE fs ss l [])]) (fun h' hE hL => by rw [← hsh]; exact asked_fn _ h' fs ss l [] _ _ _ (.slice none 0 0) (hf.ext hE) (hs.ext hE) (hl.ext hE) .nil (by simp)) ?_
  refine qm rfl rfl rfl <| oq (y_extract rfl rfl rfl) rfl wn rfl rfl <| oq (y_extract rfl rfl rfl) rfl wn rfl rfl <| oq (y_extract rfl rfl rfl) rfl wn rfl rfl ?_
  refine Ops.new (fun β8 => ?_)
  refine Ops.new (fun β9 => ?_)
  first | refine Ops.stoW ?_ | refine Ops.stoA ?_
  first | refine Ops.stoW ?_ | refine Ops.stoA ?_
  refine qs rfl rfl rfl <| Ops.nil <| thn_n <| W.seq <| W.seq <| W.region rfl <| qm rfl rfl rfl ?_
  refine oq (y_neq rfl rfl rfl) rfl wn rfl rfl ?_
  refine Ops.nil <| thn_n ?_
  refine W.condp rfl (fun c21 => ?_) (fun c21 => ?_)
  · refine W.seq <| W.region rfl ?_
    refine oq (y_build (parts := []) (cs := #[I 0, I 0]) rfl rfl rfl) rfl wn rfl rfl ?_
    refine qm rfl rfl rfl ?_
    first | refine Ops.stoW ?_ | refine Ops.stoA ?_
    refine qs rfl rfl rfl <| Ops.nil <| thn_n <| W.ret <| thn_r ?_
    refine lvc (hv := rAgg (rTmp rNil)) ⟨?_, by repeat (first | exact Shut.nil | refine Shut.cons rfl ?_)⟩
    simp only [readyV]; rw [if_pos c21]; rfl
  · have h0 : askE fs ss l [] = 0 := by simpa using c21
    obtain ⟨rfl, rfl, rfl⟩ := hok h0
    obtain ⟨hck, -⟩ := askE0 h0
    obtain ⟨hall, hp, hll⟩ := plan_ck hck
    have hns := hall.ns
    refine W.skip <| thn_n <| W.seq <| W.seq <| W.region rfl <| qm rfl rfl rfl ?_
    refine oq (y_fieldAddr rfl rfl) rfl wn rfl rfl ?_
    refine oq (yld rfl rfl) rfl wn rfl rfl ?_
    refine oq (y_len rfl rfl) rfl wn rfl rfl ?_
    first | refine oq (ysub rfl rfl rfl) rfl wn rfl rfl ?_ | refine oq (y_subw rfl rfl rfl) rfl wn rfl rfl ?_
    refine cp (fun h' hE hL => outside_fn _ h' _ _ _) ?_
    refine Ops.nil <| thn_n ?_
    refine W.condp rfl (fun c29 => ?_) (fun c29 => ?_)
    · refine W.seq <| W.region rfl ?_
      refine oq (y_build (parts := []) (cs := #[I 0, I 0]) rfl rfl rfl) rfl wn rfl rfl ?_
      first | refine Ops.stoW ?_ | refine Ops.stoA ?_
      refine qs rfl rfl rfl <| Ops.nil <| thn_n <| W.ret <| thn_r ?_
      refine lvc (hv := rAgg (rTmp rNil)) ⟨?_, by repeat (first | exact Shut.nil | refine Shut.cons rfl ?_)⟩
      simp only [readyV]; rw [if_neg c21, if_pos c29]; rfl
    · have hi : 0 ≤ i ∧ i < ss.length := by simp only [outs, not_or] at c29; omega
      obtain ⟨k, rfl⟩ : ∃ k : Nat, i = k := ⟨i.toNat, by omega⟩
      obtain ⟨hbk, hb1, hb2, hb3, hb4⟩ := beAt_some hp.ok (show k < 4 by omega)
      have hex : (flat Be.row (padB l)).toArray.extract (0 + k * 2) (0 + k * 2 + 2) = #[I (beAt (padB l) k).fl, I (beAt (padB l) k).day] := by
        have hP : Part (flat Be.row (padB l)).toArray 0 (flat Be.row (padB l)) := Part.all _
        have := (hP.rowE hbk).1
        simpa [Be.row] using this
      have hsz8 : 0 + k * 2 + 2 ≤ (flat Be.row (padB l)).toArray.size := by omega
      have hb5 := hp.fl _ (List.mem_of_getElem? hbk)
      rw [be_pad] at hex hb1 hb2 hb3 hb4 hb5
      refine W.skip <| thn_n <| W.seq <| W.region rfl <| qm rfl rfl rfl ?_
      first | refine oq (yixA rfl rfl rfl) rfl wn rfl rfl ?_ | refine oq (yixAI rfl rfl rfl) rfl wn rfl rfl ?_
      refine oq (yldA (vs := #[I (beAt l k).fl, I (beAt l k).day]) rfl rfl (hn := hsz8) (hv := hex)) rfl wn rfl rfl ?_
      refine Ops.new (fun β11 => ?_)
      first | refine Ops.stoW ?_ | refine Ops.stoA ?_
      refine Ops.nil <| thn_n <| W.seq <| W.seq <| W.region rfl ?_
      refine oq (y_fieldAddr rfl rfl) rfl wn rfl rfl ?_
      refine oq (yld rfl rfl) rfl wn rfl rfl ?_
      refine oq (y_lss rfl rfl rfl) rfl wn rfl rfl ?_
      refine Ops.nil <| thn_n ?_
      refine W.condp rfl (fun c36 => ?_) (fun c36 => ?_)
      · refine W.seq <| W.region rfl ?_
        refine oq (y_build (parts := []) (cs := #[I 0, I 0]) rfl rfl rfl) rfl wn rfl rfl ?_
        first | refine Ops.stoW ?_ | refine Ops.stoA ?_
        refine qs rfl rfl rfl <| Ops.nil <| thn_n <| W.ret <| thn_r ?_
        refine lvc (hv := rAgg (rTmp rNil)) ⟨?_, by repeat (first | exact Shut.nil | refine Shut.cons rfl ?_)⟩
        simp only [readyV, Int.toNat_natCast]; rw [if_neg c21, if_neg c29, if_pos c36]; rfl
      · have hx0 := flAt_some (fs := fs) (f := (beAt l k).fl) (by omega) hb5
        have hfo := fl_ok hall (f := (beAt l k).fl) (by omega) hb5
        generalize hb : beAt l k = b at *
        obtain ⟨⟨pl, lo, hi', co⟩, hfa⟩ : ∃ x, flAt fs b.fl = x := ⟨_, rfl⟩
        rw [hfa] at hx0 hfo
        obtain ⟨bf, off, c, E, fz, rfl, hbk', hx1, hy1, hz1⟩ := hf.at hx0
        have hx2 := ext2 hx1
        clear hx1 hz1
        refine W.skip <| thn_n <| W.seq <| W.region rfl ?_
        refine oq (y_fieldAddr rfl rfl) rfl wn rfl rfl ?_
        refine oq (y_fieldAddr rfl rfl) rfl wn rfl rfl ?_
        refine oq (yld rfl rfl) rfl wn rfl rfl ?_
        refine oq (y_fieldAddr rfl rfl) rfl wn rfl rfl ?_
        refine oq (yld rfl rfl) rfl wn rfl rfl ?_
        first | refine oq (yix rfl rfl rfl) rfl wn rfl rfl ?_ | refine oq (yixI rfl rfl rfl) rfl wn rfl rfl ?_
        refine oq (y_fieldAddr rfl rfl) rfl wn rfl rfl ?_
        first | refine oq (yldW rfl rfl) rfl wn rfl rfl ?_ | refine oq (yldA rfl rfl) rfl wn rfl rfl ?_
        refine Ops.new (fun β12 => ?_)
        first | refine Ops.stoW ?_ | refine Ops.stoA ?_
        refine Ops.nil <| thn_n <| W.seq <| W.region rfl ?_
        refine oq (y_fieldAddr rfl rfl) rfl wn rfl rfl ?_
        refine oq (yld rfl rfl) rfl wn rfl rfl ?_
        refine oq (y_fieldAddr rfl rfl) rfl wn rfl rfl ?_
        refine oq (yld rfl rfl) rfl wn rfl rfl ?_
        first | refine oq (yadd rfl rfl rfl) rfl wn rfl rfl ?_ | refine oq (y_addw rfl rfl rfl) rfl wn rfl rfl ?_
        refine oq (y_fieldAddr rfl rfl) rfl wn rfl rfl ?_
        refine oq (yld rfl rfl) rfl wn rfl rfl ?_
        refine oq (y_fieldAddr rfl rfl) rfl wn rfl rfl ?_
        refine oq (yld rfl rfl) rfl wn rfl rfl ?_
        first | refine oq (yadd rfl rfl rfl) rfl wn rfl rfl ?_ | refine oq (y_addw rfl rfl rfl) rfl wn rfl rfl ?_
        refine oq (y_build rfl rfl rfl) rfl wn rfl rfl ?_
        first | refine Ops.stoW ?_ | refine Ops.stoA ?_
        refine qs rfl rfl rfl <| Ops.nil <| thn_n <| W.ret ?_
        refine lvc (hv := rAgg (rTmp rNil)) ⟨?_, by repeat (first | exact Shut.nil | refine Shut.cons rfl ?_)⟩
        simp only [readyV, Int.toNat_natCast]; rw [if_neg c21, if_neg c29, hb, if_neg c36, hfa]; rfl

/-! Days, beside each other -/
theorem eqv_days : EqV prog t_days 44 3 := EqV.array (n := 22) (w := 2) (K := 2) eqv_span.at
instance : EV prog t_days 44 := ⟨eqv_days.le (by decide)⟩
instance : NS prog t_days := ⟨by kernel_rfl, by kernel_rfl⟩
def spI (D : List Sp) : List Int := D.flatMap fun s => [s.lo, s.hi]
theorem spI_flat {D : List Sp} : (spI D).map nI = flat Sp.row D := by
  induction D with
  | nil => rfl
  | cons s D ih => show nI s.lo :: nI s.hi :: (spI D).map nI = _; rw [ih]; rfl
theorem spI_len {D : List Sp} : (spI D).length = D.length * 2 := by
  induction D with
  | nil => rfl
  | cons s D ih => show (spI D).length + 1 + 1 = _; rw [ih, List.length_cons]; omega
theorem spI_inj : ∀ {D D' : List Sp}, D.length = D'.length → spI D = spI D' → D = D'
  | [], [], _, _ => rfl
  | [], _ :: _, h, _ => by simp at h
  | _ :: _, [], h, _ => by simp at h
  | ⟨a, b⟩ :: D, ⟨a', b'⟩ :: D', h, he => by
    have he' : a :: b :: spI D = a' :: b' :: spI D' := he
    simp only [List.cons.injEq] at he'
    obtain ⟨rfl, rfl, h3⟩ := he'
    rw [spI_inj (by simpa using h) h3]

theorem Doubt_fn (main : Side) (h : Hp) (fs : List Fl) (ss : List St) (l : List Be) (vf vs vl : Value) (hf : Sl h Fl.row vf fs) (hs : Sl h St.row vs ss) (hl : Sl h Be.row vl l) : Fnc prog main n_floor_Doubt #[.agg #[vf, vs], vl] h [] (fun v A => ∃ u N us C, v = .tuple #[u, I (doubtV fs ss l).2] ∧ Os t_sl_int rowS u us N ∧ Oss t_int rowI us (doubtV fs ss l).1 C ∧ Sb (N ++ C) A) := by
  obtain ⟨a, cap, rfl⟩ := hf.isSl
  obtain ⟨a', cap', rfl⟩ := hs.isSl
  obtain ⟨a2, cap2, rfl⟩ := hl.isSl
  obtain ⟨va, vb, pp, hsh, h1a, h1b, hpp, hok⟩ := askV_shape (.slice a fs.length cap) (.slice a' ss.length cap') fs ss l [] rfl rfl
  have hsz : (flat Be.row pp).toArray.size = 8 := by simp [flat_len, hpp]
  have hon : ones (flat Be.row pp).toArray.toList = true := plan_ones
  have hon2 : ones (#[va, vb] : Array Value).toList = true := by simp [ones, h1a, h1b]
  refine Fnc.of_body at_floor_Doubt rfl (by show 2 ≤ 57; decide) [(0, .agg #[.slice a fs.length cap, .slice a' ss.length cap']), (1, .slice a2 l.length cap2)] ⟨rfl, rfl, trivial⟩ ?_
  refine W.seq <| W.region rfl ?_
  refine Ops.box (fun β2 => ?_)
  refine qs rfl rfl rfl <| qs rfl rfl rfl <| Ops.nil <| thn_n <| W.seq <| W.region rfl ?_
  first | refine oq (yldW rfl rfl) rfl wn rfl rfl ?_ | refine oq (yldA rfl rfl) rfl wn rfl rfl ?_
  refine qm rfl rfl rfl ?_
  refine cp (u := .tuple #[.agg #[va, vb], planV pp, I (askE fs ss l [])]) (fun h' hE hL => by rw [← hsh]; exact asked_fn _ h' fs ss l [] _ _ _ (.slice none 0 0) (hf.ext hE) (hs.ext hE) (hl.ext hE) .nil (by simp)) ?_
  refine qm rfl rfl rfl <| oq (y_extract rfl rfl rfl) rfl wn rfl rfl <| oq (y_extract rfl rfl rfl) rfl wn rfl rfl <| oq (y_extract rfl rfl rfl) rfl wn rfl rfl ?_
  refine Ops.new (fun β6 => ?_)
  refine Ops.new (fun β7 => ?_)
  first | refine Ops.stoW ?_ | refine Ops.stoA ?_
  first | refine Ops.stoW ?_ | refine Ops.stoA ?_
  refine qs rfl rfl rfl <| Ops.nil <| thn_n <| W.seq <| W.seq <| W.region rfl <| qm rfl rfl rfl ?_
  refine oq (y_neq rfl rfl rfl) rfl wn rfl rfl ?_
  refine Ops.nil <| thn_n ?_
  refine W.condp rfl (fun c22 => ?_) (fun c22 => ?_)
  · refine W.seq <| W.region rfl <| qm rfl rfl rfl <| qs rfl rfl rfl <| qs rfl rfl rfl <| Ops.nil <| thn_n <| W.ret <| thn_r ?_
    refine lvt (vs := [_, _]) ⟨.slice none 0 0, [], [], [], ?_, .nil .nil, ?_, ?_⟩
    · simp only [doubtV]; rw [if_pos c22]; rfl
    · simp only [doubtV]; rw [if_pos c22]; exact .nil
    · repeat (first | exact Sb.refl | refine Sb.skip rfl ?_)
  · have h0 : askE fs ss l [] = 0 := by simpa using c22
    obtain ⟨rfl, rfl, rfl⟩ := hok h0
    obtain ⟨hck, -⟩ := askE0 h0
    obtain ⟨hall, hp, hll⟩ := plan_ck hck
    have hnf := hall.nf
    have hdv : doubtV fs ss l = (dbF fs ss (padB l) fs.length, 0) := by simp only [doubtV]; rw [if_neg c22]
    rw [hdv]
    refine W.skip <| thn_n <| W.seq <| W.region rfl <| qs rfl rfl rfl <| Ops.nil <| thn_n <| W.seq <| W.seq <| W.region rfl ?_
    refine oq (y_fieldAddr rfl rfl) rfl wn rfl rfl ?_
    refine oq (y_fieldAddr rfl rfl) rfl wn rfl rfl ?_
    refine oq (yld rfl rfl) rfl wn rfl rfl ?_
    refine oq (y_len rfl rfl) rfl wn rfl rfl ?_
    refine qm rfl rfl rfl <| Ops.nil <| thn_n <| W.block ?_
    refine W.loop (σ := Nat × List Sv × Option Addr × Nat × Frag × Frag) (fun q => q.1 ≤ fs.length ∧ Os t_sl_int rowS (.slice q.2.2.1 q.2.1.length q.2.2.2.1) q.2.1 q.2.2.2.2.1 ∧ Oss t_int rowI q.2.1 (dbF fs ss (padB l) q.1) q.2.2.2.2.2) (fun q => [(28, I q.1), (27, I fs.length), (9, .slice q.2.2.1 q.2.1.length q.2.2.2.1), (7, .pointer (some ⟨β7, 0, none⟩)), (6, .pointer (some ⟨β6, 0, none⟩))]) (fun q => (β7, .cells (flat Be.row (padB l)).toArray t_plan (0, 0)) :: (β6, .cells #[.slice a fs.length cap, .slice a' ss.length cap'] t_hall (0, 0)) :: (q.2.2.2.2.1 ++ q.2.2.2.2.2)) (fun q => fs.length - q.1) (0, [], none, 0, [], []) ⟨Nat.zero_le _, .nil .nil, .nil⟩ ⟨rfl, rfl, rfl, rfl, rfl, trivial⟩ (.cons (.cons (.skip rfl .refl))) ?_
    rintro ⟨k, us, na, nc, N, C⟩ ⟨hk, hN, hC⟩
    dsimp only at *
    refine W.seq <| W.region rfl ?_
    refine oq (y_lss rfl rfl rfl) rfl wn rfl rfl ?_
    refine Ops.nil <| thn_n <| W.seq ?_
    refine W.condp rfl (fun c29 => ?_) (fun c29 => ?_)
    · have hk1 : k < fs.length := by omega
      obtain ⟨D, hD⟩ : ∃ D, standsD fs ss (padB l) k = D := ⟨_, rfl⟩
      have hDl : D.length = 22 := by rw [← hD]; exact standsD_len
      have hDs := days_sz hDl
      have hon3 : ones (flat Sp.row D).toArray.toList = true := by simpa using flat_ones _
      have hul := hC.len
      have hdl := dbF_len (fs := fs) (ss := ss) (p := padB l) k
      have hdF : dbF fs ss (padB l) (k + 1) = dbF fs ss (padB l) k ++ dbK k D 22 := by rw [dbF, hD]
      refine W.skip <| thn_n <| W.seq <| W.block <| W.seq <| W.region rfl <| qm rfl rfl rfl <| qs rfl rfl rfl <| Ops.nil <| thn_n ?_
      refine W.seq <| W.region rfl ?_
      first | refine oq (yldW rfl rfl) rfl wn rfl rfl ?_ | refine oq (yldA rfl rfl) rfl wn rfl rfl ?_
      first | refine oq (yldW rfl rfl) rfl wn rfl rfl ?_ | refine oq (yldA rfl rfl) rfl wn rfl rfl ?_
      refine qm rfl rfl rfl ?_
      refine cp (u := daysV D) (fun h' hE hL => by rw [← hD]; exact stands_fn _ h' fs ss (padB l) k _ _ (hf.ext hE) (hs.ext hE) hall hp (by omega) (by omega)) ?_
      refine Ops.new (fun β11 => ?_)
      first | refine Ops.stoW ?_ | refine Ops.stoA ?_
      refine Ops.nil <| thn_n <| W.seq <| W.seq <| W.region rfl ?_
      first | refine oq (yldW rfl rfl) rfl wn rfl rfl ?_ | refine oq (yldA rfl rfl) rfl wn rfl rfl ?_
      refine oq (y_build0 rfl) rfl wn rfl rfl ?_
      refine oq (Yv.eq (u := .bool (decide (spI D = spI days0))) (y_eqA (w := 44) (spI D) (spI days0) rfl rfl rfl (by rw [spI_flat]) (by rw [spI_flat]) (by rw [spI_len, hDl]) rfl) rfl) rfl wn rfl rfl ?_
      refine Ops.nil <| thn_n ?_
      refine W.condp rfl (fun c37 => ?_) (fun c37 => ?_)
      · have hz : dbK k D 22 = [] := by rw [spI_inj (by rw [hDl]; rfl) c37]; exact dbK_zero 22
        refine W.exit <| thn_x <| blk_x <| thn_n <| W.region rfl ?_
        first | refine oq (yadd rfl rfl rfl) rfl wn rfl rfl ?_ | refine oq (y_addw rfl rfl rfl) rfl wn rfl rfl ?_
        refine qm rfl rfl rfl <| Ops.nil <| thn_n ?_
        exact ⟨rfl, (k + 1, us, na, nc, N, C), ⟨by simp only; omega, hN, by simp only; rw [hdF, hz, List.append_nil]; exact hC⟩, by simp only; omega, ⟨rfl, rfl, rfl, rfl, rfl, trivial⟩, .skip rfl .refl⟩
      · refine W.skip <| thn_n <| W.seq <| W.region rfl ?_
        first | refine oq (yldW rfl rfl) rfl wn rfl rfl ?_ | refine oq (yldA rfl rfl) rfl wn rfl rfl ?_
        refine qm rfl rfl rfl <| Ops.nil <| thn_n <| W.block ?_
        refine W.loop (σ := Nat × List Sv × Option Addr × Nat × Frag × Frag) (fun q => q.1 ≤ 22 ∧ Os t_sl_int rowS (.slice q.2.2.1 q.2.1.length q.2.2.2.1) q.2.1 q.2.2.2.2.1 ∧ Oss t_int rowI q.2.1 (dbF fs ss (padB l) k ++ dbK k D q.1) q.2.2.2.2.2) (fun q => [(39, I q.1), (38, daysV D), (10, I k), (28, I k), (27, I fs.length), (9, .slice q.2.2.1 q.2.1.length q.2.2.2.1), (7, .pointer (some ⟨β7, 0, none⟩)), (6, .pointer (some ⟨β6, 0, none⟩))]) (fun q => (β7, .cells (flat Be.row (padB l)).toArray t_plan (0, 0)) :: (β6, .cells #[.slice a fs.length cap, .slice a' ss.length cap'] t_hall (0, 0)) :: (q.2.2.2.2.1 ++ q.2.2.2.2.2)) (fun q => 22 - q.1) (0, us, na, nc, N, C) ⟨Nat.zero_le _, hN, by simp only [dbK, List.append_nil]; exact hC⟩ ⟨rfl, rfl, rfl, rfl, rfl, rfl, rfl, rfl, trivial⟩ (.skip rfl .refl) ?_
        rintro ⟨j, us, na, nc, N, C⟩ ⟨hj, hN, hC⟩
        dsimp only at *
        refine W.seq <| W.region rfl ?_
        refine oq (y_lss rfl rfl rfl) rfl wn rfl rfl ?_
        refine Ops.nil <| thn_n <| W.seq ?_
        refine W.condp rfl (fun c40 => ?_) (fun c40 => ?_)
        · obtain ⟨s, hsk, hdr⟩ := has (show j < D.length by omega)
          have hex : (flat Sp.row D).toArray.extract ((j : Int).toNat * 2) ((j : Int).toNat * 2 + 2) = #[I s.lo, I s.hi] := days_ex hsk
          have hgD : D.getD j ⟨0, 0⟩ = s := by simp [List.getD, hsk]
          have hkl := dbK_len (f := k) (D := D) j
          have hul2 := hC.len
          rw [List.length_append] at hul2
          refine W.skip <| thn_n <| W.seq <| W.block <| W.seq <| W.region rfl <| qm rfl rfl rfl ?_
          first | refine oq (y_index rfl rfl rfl (by omega) (by omega) (by first | assumption | rfl)) rfl wn rfl rfl ?_ | refine oq (y_indexA rfl rfl rfl (by omega) (by omega) (by first | assumption | rfl)) rfl wn rfl rfl ?_
          refine Ops.new (fun β13 => ?_)
          refine qs rfl rfl rfl ?_
          first | refine Ops.stoW ?_ | refine Ops.stoA ?_
          refine Ops.nil <| thn_n <| W.seq <| W.region rfl ?_
          refine oq (y_fieldAddr rfl rfl) rfl wn rfl rfl ?_
          refine oq (yld rfl rfl) rfl wn rfl rfl ?_
          refine oq (y_fieldAddr rfl rfl) rfl wn rfl rfl ?_
          refine oq (yld rfl rfl) rfl wn rfl rfl ?_
          refine oq (y_neq rfl rfl rfl) rfl wn rfl rfl ?_
          refine Ops.nil <| thn_n ?_
          refine W.condp rfl (fun c47 => ?_) (fun c47 => ?_)
          · refine W.region rfl <| qm rfl rfl rfl <| qm rfl rfl rfl <| qm rfl rfl rfl ?_
            refine Ops.bsl (cs := #[I k, I j]) (fun β51 => ?_) rfl
            refine Ops.bsl (cs := #[.slice (some ⟨β51, 0, none⟩) 2 2]) (fun β52 => ?_) rfl
            have hOn : Os t_int rowI (.slice (some ⟨β51, 0, none⟩) 2 2) [(k : Int), (j : Int)] [(β51, .cells #[I k, I j] t_int (0, 0))] := .inr ⟨β51, _, 2, [], rfl, rfl, rfl, Nat.le_refl _, Part.all _, .nil⟩
            refine oe rfl wn rfl rfl (e_append (row := rowS) (l' := [(⟨some ⟨β51, 0, none⟩, 2, 2⟩ : Sv)]) rfl rfl rfl hN (.tail (.tail (.tail (.tail (.tail .head))))) (fun h2 _ hl => Sl.mk (hl β52 _ (.head _)) rfl (Part.all (rowS (⟨some ⟨β51, 0, none⟩, 2, 2⟩ : Sv)))) (by simp; omega) (by decide) rfl (fun v3 N3 hN3 => ?_))
            obtain ⟨na3, nc3, rfl⟩ := hN3.isSl
            refine qs rfl rfl rfl <| Ops.nil <| blk_n <| thn_n <| W.region rfl ?_
            first | refine oq (yadd rfl rfl rfl) rfl wn rfl rfl ?_ | refine oq (y_addw rfl rfl rfl) rfl wn rfl rfl ?_
            refine qm rfl rfl rfl <| Ops.nil <| thn_n ?_
            refine ⟨rfl, (j + 1, us ++ [⟨some ⟨β51, 0, none⟩, 2, 2⟩], na3, nc3, N3, C ++ [(β51, .cells #[I k, I j] t_int (0, 0))]), ⟨by simp only; omega, hN3, ?_⟩, by simp only; omega, ⟨rfl, rfl, rfl, rfl, rfl, rfl, rfl, rfl, trivial⟩, ?_⟩
            · have := hC.snoc (s := ⟨some ⟨β51, 0, none⟩, 2, 2⟩) hOn
              simp only [dbK]
              rw [hgD, if_pos c47, ← List.append_assoc]
              exact this
            · dsimp only
              show Sb _ ((β52, .cells #[.slice (some ⟨β51, 0, none⟩) 2 2] t_sl_int (0, 0)) :: (β51, .cells #[I k, I j] t_int (0, 0)) :: (β13, .cells #[I s.lo, I s.hi] t_Span (0, 0)) :: _)
              refine ⟨[(β52, .cells #[.slice (some ⟨β51, 0, none⟩) 2 2] t_sl_int (0, 0)), (β13, .cells #[I s.lo, I s.hi] t_Span (0, 0))], perm_cnt fun y => ?_, .cons rfl (.cons rfl .nil)⟩
              simp only [List.count_append, List.count_cons, List.count_nil]; omega
          · refine W.skip <| blk_n <| thn_n <| W.region rfl ?_
            first | refine oq (yadd rfl rfl rfl) rfl wn rfl rfl ?_ | refine oq (y_addw rfl rfl rfl) rfl wn rfl rfl ?_
            refine qm rfl rfl rfl <| Ops.nil <| thn_n ?_
            refine ⟨rfl, (j + 1, us, na, nc, N, C), ⟨by simp only; omega, hN, ?_⟩, by simp only; omega, ⟨rfl, rfl, rfl, rfl, rfl, rfl, rfl, rfl, trivial⟩, .skip rfl .refl⟩
            simp only [dbK]
            rw [hgD, if_neg c47]
            exact hC
        · refine W.exit <| thn_x <| thn_x <| blk_x <| blk_n <| thn_n <| W.region rfl ?_
          first | refine oq (yadd rfl rfl rfl) rfl wn rfl rfl ?_ | refine oq (y_addw rfl rfl rfl) rfl wn rfl rfl ?_
          refine qm rfl rfl rfl <| Ops.nil <| thn_n ?_
          have hje : j = 22 := by omega
          subst hje
          exact ⟨rfl, (k + 1, us, na, nc, N, C), ⟨by simp only; omega, hN, by simp only; rw [hdF]; exact hC⟩, by simp only; omega, ⟨rfl, rfl, rfl, rfl, rfl, trivial⟩, .refl⟩
    · have hke : k = fs.length := by omega
      subst hke
      refine W.exit <| thn_x <| thn_x <| blk_x <| thn_n <| W.seq <| W.region rfl <| qm rfl rfl rfl <| qs rfl rfl rfl <| qs rfl rfl rfl ?_
      refine Ops.nil <| thn_n <| W.ret ?_
      exact lvt (vs := [_, _]) ⟨_, N, us, C, rfl, hN, hC, .skip rfl (.skip rfl .refl)⟩
end Go.Mus

/- All heats gone through. Conditions: none; over the given program. -/
namespace Go.Mus
set_option maxRecDepth 100000
set_option maxHeartbeats 40000000
theorem EqInts_fn (main : Side) (h : Hp) (l l' : List Int) (v v' : Value) (hl : Sl h rowI v l) (hl' : Sl h rowI v' l') (hn : l.length ≤ 100000) : Pu prog main n_kit_EqInts #[v, v'] h (.bool (decide (l = l'))) := by
  obtain ⟨a, cap, rfl⟩ := hl.isSl
  obtain ⟨a', cap', rfl⟩ := hl'.isSl
  refine Fnc.of_body at_kit_EqInts rfl (by show 2 ≤ 32; decide) [(0, .slice a l.length cap), (1, .slice a' l'.length cap')] ⟨rfl, rfl, trivial⟩ ?_
  refine W.seq <| W.region rfl <| qs rfl rfl rfl <| Ops.nil <| thn_n <| W.seq <| W.seq <| W.region rfl <| qs rfl rfl rfl <| Ops.nil ?_
  refine thn_n <| W.block ?_
  refine W.loop (σ := Nat) (fun k => k ≤ l.length ∧ k ≤ l'.length ∧ l.take k = l'.take k) (fun k => [(5, I k), (0, .slice a l.length cap), (1, .slice a' l'.length cap')]) (fun _ => []) (fun k => l.length - k) 0 ⟨Nat.zero_le _, Nat.zero_le _, rfl⟩ ⟨rfl, rfl, rfl, trivial⟩ sbA ?_
  rintro k ⟨hk, hk', he⟩
  refine W.seq <| W.seq <| W.region rfl <| qm rfl rfl rfl <| qm rfl rfl rfl ?_
  refine oq (y_len rfl rfl) rfl wn rfl rfl ?_
  refine oq (y_lss rfl rfl rfl) rfl wn rfl rfl ?_
  refine qm rfl rfl rfl ?_
  refine Ops.ask (fun a2_5 => ?_) (fun a2_5 => ?_)
  · refine oq (y_move rfl rfl) rfl (want_some rfl rfl rfl) rfl rfl ?_
    refine oq (y_move rfl rfl) rfl (want_some rfl rfl rfl) rfl rfl ?_
    refine oq (y_len rfl rfl) rfl (want_some rfl rfl rfl) rfl rfl ?_
    refine oq (y_lss rfl rfl rfl) rfl (want_some rfl rfl rfl) rfl rfl ?_
    refine oq (y_pickT rfl rfl rfl) rfl wn rfl rfl ?_
    refine Ops.nil <| thn_n ?_
    refine W.condp rfl (fun c15 => ?_) (fun c15 => ?_)
    · obtain ⟨p, hp, -⟩ := has (show k < l.length by omega)
      obtain ⟨q, hq, -⟩ := has (show k < l'.length by omega)
      obtain ⟨b, off, c, E, fz, rfl, hb, -, hy1, hz1⟩ := hl.at hp
      have hx2 : c[off + k * 1 + 0]? = some (I p) := hz1 0 (by decide)
      clear hz1
      obtain ⟨b', off', c', E', fz', rfl, hb', -, hy2, hz1⟩ := hl'.at hq
      have hx3 : c'[off' + k * 1 + 0]? = some (I q) := hz1 0 (by decide)
      clear hz1
      refine W.skip <| thn_n <| W.seq <| W.block <| W.seq ?_
      refine W.drawF (n := 9) rfl ?_
      refine aq (i := 0) (y_move rfl rfl) rfl an rfl rfl ?_
      refine aq (i := 1) (y_move rfl rfl) rfl an rfl rfl ?_
      first | refine aq (i := 2) (yix rfl rfl rfl) rfl an rfl rfl ?_ | refine aq (i := 2) (yixI rfl rfl rfl) rfl an rfl rfl ?_
      refine aq (i := 3) (yld rfl rfl) rfl an rfl rfl ?_
      refine aq (i := 4) (y_move rfl rfl) rfl an rfl rfl ?_
      refine aq (i := 5) (y_move rfl rfl) rfl an rfl rfl ?_
      first | refine aq (i := 6) (yix rfl rfl rfl) rfl an rfl rfl ?_ | refine aq (i := 6) (yixI rfl rfl rfl) rfl an rfl rfl ?_
      refine aq (i := 7) (yld rfl rfl) rfl an rfl rfl ?_
      refine aq (i := 8) (y_neq rfl rfl rfl) rfl an rfl rfl ?_
      refine az ?_
      refine thn_n ?_
      refine W.condp rfl (fun c26 => ?_) (fun c26 => ?_)
      · refine W.seq <| W.region rfl <| qs rfl rfl rfl <| Ops.nil <| thn_n <| W.ret <| blk_r <| thn_r <| thn_r <| blk_r ?_
        refine thn_r ?_
        refine lvp ?_
        refine congrArg Value.bool (decide_eq_false fun e => ?_).symm
        subst e
        rw [hp] at hq
        cases hq
        exact c26 rfl
      · refine W.skip <| blk_n <| thn_n <| W.region rfl <| qm rfl rfl rfl ?_
        first | refine oq (yadd rfl rfl rfl) rfl wn rfl rfl ?_ | refine oq (y_addw rfl rfl rfl) rfl wn rfl rfl ?_
        refine qs rfl rfl rfl <| Ops.nil <| thn_n ?_
        have hpq : p = q := Decidable.byContradiction c26
        subst hpq
        exact ⟨rfl, k + 1, ⟨by omega, by omega, by rw [take_next hp, take_next hq, he]⟩, by omega, ⟨rfl, rfl, rfl, trivial⟩, sbA⟩
    · refine W.exit <| thn_x <| thn_x <| blk_x <| thn_n <| W.seq <| W.region rfl <| qm rfl rfl rfl ?_
      refine oq (y_len rfl rfl) rfl wn rfl rfl ?_
      refine qm rfl rfl rfl ?_
      refine oq (y_len rfl rfl) rfl wn rfl rfl ?_
      refine oq (y_eql rfl rfl rfl) rfl wn rfl rfl ?_
      refine qs rfl rfl rfl <| Ops.nil <| thn_n <| W.ret ?_
      refine lvp ?_
      refine congrArg Value.bool (decide_eq_decide.2 ⟨fun e => ?_, fun e => ?_⟩)
      · have e' : l.length = l'.length := by omega
        have hkl : k = l.length := by omega
        rw [← List.take_length (l := l), ← List.take_length (l := l'), ← e', ← hkl, he]
      · rw [e]
  · refine Ops.no ?_
    refine Ops.no ?_
    refine Ops.no ?_
    refine Ops.no ?_
    refine oq (y_pickF rfl rfl rfl) rfl wn rfl rfl ?_
    refine Ops.nil <| thn_n ?_
    refine W.condF ?_
    refine W.exit <| thn_x <| thn_x <| blk_x <| thn_n <| W.seq <| W.region rfl <| qm rfl rfl rfl ?_
    refine oq (y_len rfl rfl) rfl wn rfl rfl ?_
    refine qm rfl rfl rfl ?_
    refine oq (y_len rfl rfl) rfl wn rfl rfl ?_
    refine oq (y_eql rfl rfl rfl) rfl wn rfl rfl ?_
    refine qs rfl rfl rfl <| Ops.nil <| thn_n <| W.ret ?_
    refine lvp ?_
    refine congrArg Value.bool (decide_eq_decide.2 ⟨fun e => ?_, fun e => ?_⟩)
    · have e' : l.length = l'.length := by omega
      have hkl : k = l.length := by omega
      rw [← List.take_length (l := l), ← List.take_length (l := l'), ← e', ← hkl, he]
    · rw [e]

end Go.Mus

/- All plans of a plant, in their order; the loaves of a plan. Conditions: none; over the given program. -/
namespace Go.Mus
set_option maxRecDepth 100000
set_option maxHeartbeats 40000000
end Go.Mus

/- What the chapter's examples come to. Conditions: none. -/
namespace Go.Mus
set_option maxRecDepth 100000
end Go.Mus

/- The chapter's examples. Conditions: none; over the given program. -/
namespace Go.Mus
set_option maxRecDepth 100000
set_option maxHeartbeats 40000000
/-- Blocks that are never written again. -/
structure Kn (h0 h : Hp) (L : Frag) : Prop where
  ext : Ext h0 h
  all : ∀ p ∈ L, h p.1 = some p.2 ∧ h.z p.1
theorem Kn.nil {h : Hp} : Kn h h [] := ⟨⟨fun _ _ q => q, fun _ q => q⟩, fun p hp => by cases hp⟩
theorem freezeK {x : Cx} {c : Code} {Q : Post} {ρ : Env} {ds : List Deferred} {F : Frag} {U : Frag → Frag} {b : Nat} {o : Obj} {h0 : Hp} {L : Frag} (hK : Kn h0 x.h L) (ho : opn o = false) (hg : Seg [(b, o)] F U) (H : ∀ h', Kn h0 h' ((b, o) :: L) → W { x with h := h' } c Q ρ ds (U [])) : W x c Q ρ ds F :=
  W.perm hg.perm.1 (W.freeze ho fun h' hE hb hz => H h' ⟨hK.ext.trans hE, fun p hp => by
    rcases List.mem_cons.1 hp with rfl | hp
    · exact ⟨hb, hz⟩
    · exact ⟨hE.1 _ _ (hK.all p hp).1, hE.2 _ (hK.all p hp).2⟩⟩)
theorem Kn.sl {h0 h : Hp} {L : Frag} {α : Type} {row : α → List Value} {w : Nat} [Rw row w] {b n cap : Nat} {E : TypeId} {z : Nat × Nat} {l : List α} (hK : Kn h0 h L) (i : Nat) (hi : L[i]? = some (b, .cells (flat row l).toArray E z)) (hn : n = l.length) : Sl h row (.slice (some ⟨b, 0, none⟩) n cap) l ∧ Zs h (.slice (some ⟨b, 0, none⟩) n cap) :=
  ⟨exSl (hK.all _ (List.mem_of_getElem? hi)).1 hn, exZ (hK.all _ (List.mem_of_getElem? hi)).2⟩

theorem EqLists_fn (main : Side) (h : Hp) (us us' : List Sv) (l l' : List (List Int)) (v v' : Value) (hu : Sl h rowS v us) (hu' : Sl h rowS v' us') (he : ∀ (k : Nat) (s : Sv) (g : List Int), us[k]? = some s → l[k]? = some g → Sl h rowI s.val g) (he' : ∀ (k : Nat) (s : Sv) (g : List Int), us'[k]? = some s → l'[k]? = some g → Sl h rowI s.val g) (hl : us.length = l.length) (hl' : us'.length = l'.length) (hn : us.length ≤ 100000) (hn2 : ∀ g ∈ l, g.length ≤ 100000) : Pu prog main n_kit_EqLists #[v, v'] h (.bool (decide (l = l'))) := by
  obtain ⟨a, cap, rfl⟩ := hu.isSl
  obtain ⟨a', cap', rfl⟩ := hu'.isSl
  refine Fnc.of_body at_kit_EqLists rfl (by show 2 ≤ 33; decide) [(0, .slice a us.length cap), (1, .slice a' us'.length cap')] ⟨rfl, rfl, trivial⟩ ?_
  refine W.seq <| W.region rfl <| qs rfl rfl rfl <| Ops.nil <| thn_n <| W.seq <| W.seq <| W.region rfl <| qs rfl rfl rfl <| Ops.nil ?_
  refine thn_n <| W.block ?_
  refine W.loop (σ := Nat) (fun k => k ≤ us.length ∧ k ≤ us'.length ∧ l.take k = l'.take k) (fun k => [(5, I k), (0, .slice a us.length cap), (1, .slice a' us'.length cap')]) (fun _ => []) (fun k => us.length - k) 0 ⟨Nat.zero_le _, Nat.zero_le _, rfl⟩ ⟨rfl, rfl, rfl, trivial⟩ sbA ?_
  rintro k ⟨hk, hk', het⟩
  refine W.seq <| W.seq <| W.region rfl <| qm rfl rfl rfl <| qm rfl rfl rfl ?_
  refine oq (y_len rfl rfl) rfl wn rfl rfl ?_
  refine oq (y_lss rfl rfl rfl) rfl wn rfl rfl ?_
  refine qm rfl rfl rfl ?_
  refine Ops.ask (fun a2_5 => ?_) (fun a2_5 => ?_)
  · refine oq (y_move rfl rfl) rfl (want_some rfl rfl rfl) rfl rfl ?_
    refine oq (y_move rfl rfl) rfl (want_some rfl rfl rfl) rfl rfl ?_
    refine oq (y_len rfl rfl) rfl (want_some rfl rfl rfl) rfl rfl ?_
    refine oq (y_lss rfl rfl rfl) rfl (want_some rfl rfl rfl) rfl rfl ?_
    refine oq (y_pickT rfl rfl rfl) rfl wn rfl rfl ?_
    refine Ops.nil <| thn_n ?_
    refine W.condp rfl (fun c15 => ?_) (fun c15 => ?_)
    · obtain ⟨s, hs, -⟩ := has (show k < us.length by omega)
      obtain ⟨s', hs', -⟩ := has (show k < us'.length by omega)
      obtain ⟨g, hg, -⟩ := has (show k < l.length by omega)
      obtain ⟨g', hg', -⟩ := has (show k < l'.length by omega)
      have hsg := he k s g hs hg
      have hsg' := he' k s' g' hs' hg'
      have hgl := hn2 g (List.mem_of_getElem? hg)
      obtain ⟨b, off, c, E, fz, rfl, hb, -, hy1, hz1⟩ := hu.at hs
      have hx2 : c[off + k * 1 + 0]? = some (.slice s.a s.n s.cap) := hz1 0 (by decide)
      clear hz1
      obtain ⟨b', off', c', E', fz', rfl, hb', -, hy2, hz1⟩ := hu'.at hs'
      have hx3 : c'[off' + k * 1 + 0]? = some (.slice s'.a s'.n s'.cap) := hz1 0 (by decide)
      clear hz1
      refine W.skip <| thn_n <| W.seq <| W.block <| W.seq ?_
      refine W.drawF (n := 10) rfl ?_
      refine aq (i := 0) (y_move rfl rfl) rfl an rfl rfl ?_
      refine aq (i := 1) (y_move rfl rfl) rfl an rfl rfl ?_
      first | refine aq (i := 2) (yix rfl rfl rfl) rfl an rfl rfl ?_ | refine aq (i := 2) (yixI rfl rfl rfl) rfl an rfl rfl ?_
      refine aq (i := 3) (yld rfl rfl) rfl an rfl rfl ?_
      refine aq (i := 4) (y_move rfl rfl) rfl an rfl rfl ?_
      refine aq (i := 5) (y_move rfl rfl) rfl an rfl rfl ?_
      first | refine aq (i := 6) (yix rfl rfl rfl) rfl an rfl rfl ?_ | refine aq (i := 6) (yixI rfl rfl rfl) rfl an rfl rfl ?_
      refine aq (i := 7) (yld rfl rfl) rfl an rfl rfl ?_
      refine acp (i := 8) (u := .bool (decide (g = g'))) (vs := [s.val, s'.val]) (fun h' hE hL => EqInts_fn _ h' g g' s.val s'.val (hsg.ext hE) (hsg'.ext hE) hgl) ?_
      refine aq (i := 9) (y_not rfl rfl) rfl an rfl rfl ?_
      refine az ?_
      refine thn_n ?_
      refine W.cond rfl (fun c27 => ?_) (fun c27 => ?_)
      · refine W.seq <| W.region rfl <| qs rfl rfl rfl <| Ops.nil <| thn_n <| W.ret <| blk_r <| thn_r <| thn_r <| blk_r ?_
        refine thn_r ?_
        refine lvp ?_
        refine congrArg Value.bool (decide_eq_false fun e => ?_).symm
        subst e
        rw [hg] at hg'
        cases hg'
        simp at c27
      · refine W.skip <| blk_n <| thn_n <| W.region rfl <| qm rfl rfl rfl ?_
        first | refine oq (yadd rfl rfl rfl) rfl wn rfl rfl ?_ | refine oq (y_addw rfl rfl rfl) rfl wn rfl rfl ?_
        refine qs rfl rfl rfl <| Ops.nil <| thn_n ?_
        have hpq : g = g' := by simpa using c27
        subst hpq
        exact ⟨rfl, k + 1, ⟨by omega, by omega, by rw [take_next hg, take_next hg', het]⟩, by omega, ⟨rfl, rfl, rfl, trivial⟩, sbA⟩
    · refine W.exit <| thn_x <| thn_x <| blk_x <| thn_n <| W.seq <| W.region rfl <| qm rfl rfl rfl ?_
      refine oq (y_len rfl rfl) rfl wn rfl rfl ?_
      refine qm rfl rfl rfl ?_
      refine oq (y_len rfl rfl) rfl wn rfl rfl ?_
      refine oq (y_eql rfl rfl rfl) rfl wn rfl rfl ?_
      refine qs rfl rfl rfl <| Ops.nil <| thn_n <| W.ret ?_
      refine lvp ?_
      refine congrArg Value.bool (decide_eq_decide.2 ⟨fun e => ?_, fun e => ?_⟩)
      · have e' : l.length = l'.length := by omega
        have hkl : k = l.length := by omega
        rw [← List.take_length (l := l), ← List.take_length (l := l'), ← e', ← hkl, het]
      · rw [hl, hl', e]
  · refine Ops.no ?_
    refine Ops.no ?_
    refine Ops.no ?_
    refine Ops.no ?_
    refine oq (y_pickF rfl rfl rfl) rfl wn rfl rfl ?_
    refine Ops.nil <| thn_n ?_
    refine W.condF ?_
    refine W.exit <| thn_x <| thn_x <| blk_x <| thn_n <| W.seq <| W.region rfl <| qm rfl rfl rfl ?_
    refine oq (y_len rfl rfl) rfl wn rfl rfl ?_
    refine qm rfl rfl rfl ?_
    refine oq (y_len rfl rfl) rfl wn rfl rfl ?_
    refine oq (y_eql rfl rfl rfl) rfl wn rfl rfl ?_
    refine qs rfl rfl rfl <| Ops.nil <| thn_n <| W.ret ?_
    refine lvp ?_
    refine congrArg Value.bool (decide_eq_decide.2 ⟨fun e => ?_, fun e => ?_⟩)
    · have e' : l.length = l'.length := by omega
      have hkl : k = l.length := by omega
      rw [← List.take_length (l := l), ← List.take_length (l := l'), ← e', ← hkl, het]
    · rw [hl, hl', e]

end Go.Mus

/- Slices of structs of numbers, as they are handed in. Conditions: none; over any program. -/
namespace Go.Mus
/-- A type whose reading is w numbers. -/
def RowT (P : Program) (t : TypeId) (w : Nat) : Prop := P.cellsOf t = w ∧ ∀ {H : Type} {enc : TypeId × Value → H} {W : World} {base : Nat} {spare : Nat → Bool} {held : Bool} {fuel : Nat} {cs : List Value} {x : DataW H × List MemPlace}, DataW.trod enc P W base spare held fuel t cs = some x → ∃ ns : List Int, cs = ns.map nI ∧ ns.length = w
theorem RowT.int {P : Program} {t : TypeId} (ht : P.underlying t = some (.int .i64)) (hc : P.cellsOf t = 1) : RowT P t 1 := ⟨hc, fun h => by
  obtain ⟨n, rfl, -, -⟩ := DataW.trod_int ht h
  exact ⟨[n], rfl, rfl⟩⟩
def LayR (P : Program) : List Field → List Nat → Nat → Prop
  | [], [], _ => True
  | f :: fs, w :: ws, o => f.offset = o ∧ RowT P f.type w ∧ LayR P fs ws (o + w)
  | _, _, _ => False
theorem layR_run {P : Program} {H : Type} {enc : TypeId × Value → H} {W : World} {base : Nat} {spare : Nat → Bool} {held : Bool} {n : Nat} {cs : List Value} : ∀ (fs : List Field) (ws : List Nat) (o : Nat), LayR P fs ws o → (∀ f ∈ fs, ∃ x, DataW.trod enc P W base spare held n f.type ((cs.drop f.offset).take (P.cellsOf f.type)) = some x) → o + ws.sum = cs.length → ∃ ns : List Int, cs.drop o = ns.map nI ∧ ns.length = ws.sum
  | [], [], o, _, _, hl => ⟨[], by simp at hl; simp; omega, rfl⟩
  | f :: fs, w :: ws, o, ⟨ho, ⟨hc, hr⟩, hrest⟩, hx, hl => by
    obtain ⟨x, h1⟩ := hx f (List.mem_cons_self ..)
    obtain ⟨ns, h2, h3⟩ := hr h1
    rw [List.sum_cons] at hl
    obtain ⟨ms, h4, h5⟩ := layR_run fs ws (o + w) hrest (fun g hg => hx g (List.mem_cons_of_mem _ hg)) (by omega)
    subst ho
    rw [hc] at h2
    refine ⟨ns ++ ms, ?_, by rw [List.length_append, h3, h5, List.sum_cons]⟩
    rw [List.map_append, ← h2, ← h4, ← List.drop_drop, List.take_append_drop]
  | [], _ :: _, _, h, _, _ => h.elim
  | _ :: _, [], _, h, _, _ => h.elim
theorem RowT.struct {P : Program} {t : TypeId} {fs : Array Field} {ws : List Nat} (ht : P.underlying t = some (.struct fs)) (hl : LayR P fs.toList ws 0) (hc : P.cellsOf t = ws.sum) : RowT P t ws.sum := ⟨hc, fun {H enc W base spare held fuel cs x} h => by
  obtain ⟨xs, n, -, -, h1, h2, h3⟩ := DataW.trod_struct ht h
  have := layR_run (cs := cs) fs.toList ws 0 hl (fun f hf => by
    obtain ⟨i, hi⟩ := List.mem_iff_getElem?.1 hf
    have hi' : fs[i]? = some f := by simpa using hi
    have hlt : i < xs.length := by
      rw [h2]
      rcases Nat.lt_or_ge i fs.size with h | h
      · exact h
      · rw [Array.getElem?_eq_none h] at hi'; cases hi'
    exact ⟨xs[i], by rw [h3 i f hi', List.getElem?_eq_getElem hlt]⟩) (by omega)
  simpa using this⟩
/-- A value of such a type. -/
theorem RowT.val {P : Program} {t w : Nat} (R : RowT P t w) {H : Type} {enc : TypeId × Value → H} {W : World} {base : Nat} {spare : Nat → Bool} {held : Bool} {v : Value} {d : DataW H} {ps : List MemPlace} (h : DataW.Trod enc P W base spare held t v d ps) : ∃ ns : List Int, v.cells.toList = ns.map nI ∧ ns.length = w := by
  obtain ⟨fuel, h⟩ := h
  exact R.2 h

theorem cells_some {W : World} {base n : Nat} {a : Addr} {cs : List Value} (h : W.cells? base a n = some cs) : cs.length = n ∧ ∀ i, i < n → W.cell? (a.add i) = cs[i]? := by
  unfold World.cells? at h
  split at h
  · have h1 := mapM_some_length h
    rw [List.length_range] at h1
    exact ⟨h1, fun i hi => mapM_some_get h i i (by simp [hi])⟩
  · cases h
/-- ████ A SLICE OF SUCH A TYPE. -/
theorem RowT.slice {P : Program} {e t w : Nat} (R : RowT P e w) (hw : 0 < w) {α : Type} {row : α → List Value} [Rw row w] (mk : ∀ ns : List Int, ns.length = w → ∃ p : α, row p = ns.map nI) (ht : P.underlying t = some (.slice e)) {H : Type} {enc : TypeId × Value → H} {W : World} {base : Nat} {spare : Nat → Bool} {held : Bool} {v : Value} {fuel : Nat} {x : DataW H × List MemPlace} (hf : DataW.trod enc P W base spare held fuel t [v] = some x) : ∃ l : List α, Sl (atStart W) row v l := by
  rcases DataW.trod_slice ht hf with ⟨hcs, -⟩ | ⟨a, len, cap, elems, rest, n, -, hcs, -, hb, hle, hm, hlen, hel, -, -⟩
  · obtain rfl : v = .slice none 0 0 := by simpa using hcs
    exact ⟨[], .nil⟩
  · obtain rfl : v = .slice (some a) len cap := by simpa using hcs
    rw [R.1] at hel
    have each : ∀ i, i < len → ∃ p : α, ∀ j, j < w → W.cell? ((a.add (i * w)).add j) = (row p)[j]? := fun i hi => by
      have h1 := hel i hi
      rw [List.getElem?_eq_getElem (by omega), Option.bind_eq_some_iff] at h1
      obtain ⟨cs, h2, h3⟩ := h1
      obtain ⟨ns, rfl, h4⟩ := R.2 h3
      obtain ⟨p, hp⟩ := mk ns h4
      refine ⟨p, fun j hj => ?_⟩
      rw [(cells_some h2).2 j hj, hp]
    have all : ∀ m, m ≤ len → ∃ l : List α, l.length = m ∧ ∀ i p, l[i]? = some p → ∀ j, j < w → W.cell? ((a.add (i * w)).add j) = (row p)[j]? := by
      intro m
      induction m with
      | zero => intro _; exact ⟨[], rfl, fun i p hp => by simp at hp⟩
      | succ m ih =>
        intro hm
        obtain ⟨l, h1, h2⟩ := ih (by omega)
        obtain ⟨p, hp⟩ := each m (by omega)
        refine ⟨l ++ [p], by simp [h1], fun i q hq => ?_⟩
        rcases Nat.lt_or_ge i l.length with h | h
        · rw [List.getElem?_append_left h] at hq; exact h2 i q hq
        · have hlt := lt_of_get hq
          simp at hlt
          have : i = m := by omega
          subst this
          rw [List.getElem?_append_right h, show i - l.length = 0 by omega] at hq
          simp at hq
          subst hq
          exact hp
    obtain ⟨l, hl, hc⟩ := all len (Nat.le_refl _)
    refine ⟨l, some a, cap, by rw [hl], fun hne => ?_⟩
    have hpos : 0 < len := by
      rcases Nat.eq_zero_or_pos len with h | h
      · subst h; exact absurd (List.eq_nil_of_length_eq_zero hl) hne
      · exact h
    obtain ⟨b, off, spot⟩ := a
    have hsp : spot = none := by
      obtain ⟨p, hp, -⟩ := has (show 0 < l.length by omega)
      have h0 := hc 0 p hp 0 hw
      have hrw : (row p).length = w := Rw.len p
      rw [List.getElem?_eq_getElem (by omega)] at h0
      cases hs : spot with
      | none => rfl
      | some s =>
        subst hs
        exfalso
        simp only [Nat.zero_mul, World.cell?, Addr.add, if_true] at h0
        split at h0
        · simp at h0
        · cases h0
    subst hsp
    have cell : ∀ k, k < (flat row l).length → ∃ c E fz, W.heap[b]? = some (.cells c E fz) ∧ c[off + k]? = (flat row l)[k]? := fun k hk => by
      rw [flat_len] at hk
      have hi : k / w < l.length := Nat.div_lt_of_lt_mul (by rw [Nat.mul_comm]; exact hk)
      have hj : k % w < w := Nat.mod_lt _ hw
      obtain ⟨p, hp, -⟩ := has hi
      have h1 := hc _ p hp _ hj
      have hrw : (row p).length = w := Rw.len p
      have e1 : k / w * w + k % w = k := Nat.div_add_mod' k w
      have h2 : (flat row l)[k]? = (row p)[k % w]? := by
        have hP : Part (flat row l).toArray 0 (flat row l) := Part.all _
        have h3 := hP.rowG hp (k % w) hj
        rw [Nat.zero_add, e1] at h3
        simpa using h3
      have ea : ((⟨b, off, none⟩ : Addr).add (k / w * w)).add (k % w) = ⟨b, off + k, none⟩ := by
        have e2 : (⟨b, off, none⟩ : Addr).add (k / w * w) = ⟨b, off + k / w * w, none⟩ := add_spot rfl _
        rw [e2, add_spot rfl]
        simp only [Addr.mk.injEq, true_and, and_true]
        omega
      rw [ea] at h1
      rw [h2]
      rw [List.getElem?_eq_getElem (show k % w < (row p).length by omega)] at h1 ⊢
      simp only [World.cell?] at h1
      split at h1
      · rename_i c E fz hb
        exact ⟨c, E, fz, hb, by simpa using h1⟩
      · cases h1
    have hfl := flat_len (row := row) l
    have hpos2 : 0 < (flat row l).length := by rw [hfl]; exact Nat.mul_pos (by omega) hw
    obtain ⟨c, E, fz, hb', h0⟩ := cell 0 hpos2
    refine ⟨b, off, c, E, fz, rfl, atStart_some.2 ⟨hb', rfl⟩, Part.of_get (fun j hj => ?_) (fun e => by rw [e] at hpos2; simp at hpos2)⟩
    obtain ⟨c', E', fz', hb2, hj'⟩ := cell j hj
    rw [hb'] at hb2
    cases hb2
    exact hj'
end Go.Mus

/- From a law of plants, floors, strikes, plans and numbers that answers true to its card. Conditions: as the cards say; over the given program. -/
namespace Go.Mus
open Go.Proofs.YtnffnndmilpnoaaGreatDoor
set_option maxRecDepth 100000
set_option maxHeartbeats 4000000
section
open Go.ChangeShapes Go.WideShapes Go.RowKit
theorem rT_int : RowT prog t_int 1 := RowT.int under_int cells_int
theorem rT_span : RowT prog t_Span 2 := RowT.struct (ws := [1, 1]) (TD.out (t := t_Span)) ⟨rfl, rT_int, rfl, rT_int, trivial⟩ (by kernel_rfl)
theorem rT_floor : RowT prog t_Floor 4 := RowT.struct (ws := [1, 2, 1]) (TD.out (t := t_Floor)) ⟨rfl, rT_int, rfl, rT_span, rfl, rT_int, trivial⟩ (by kernel_rfl)
theorem rT_strike : RowT prog t_Strike 3 := RowT.struct (ws := [1, 1, 1]) (TD.out (t := t_Strike)) ⟨rfl, rT_int, rfl, rT_int, rfl, rT_int, trivial⟩ (by kernel_rfl)
theorem rT_berth : RowT prog t_Berth 2 := RowT.struct (ws := [1, 1]) (TD.out (t := t_Berth)) ⟨rfl, rT_int, rfl, rT_int, trivial⟩ (by kernel_rfl)
theorem mkFl : ∀ ns : List Int, ns.length = 4 → ∃ p : Fl, p.row = ns.map nI
  | [a, b, c, d], _ => ⟨⟨a, b, c, d⟩, rfl⟩
theorem mkSt : ∀ ns : List Int, ns.length = 3 → ∃ p : St, p.row = ns.map nI
  | [a, b, c], _ => ⟨⟨a, b, c⟩, rfl⟩
theorem mkBe : ∀ ns : List Int, ns.length = 2 → ∃ p : Be, p.row = ns.map nI
  | [a, b], _ => ⟨⟨a, b⟩, rfl⟩
theorem mkI : ∀ ns : List Int, ns.length = 1 → ∃ p : Int, rowI p = ns.map nI
  | [a], _ => ⟨a, rfl⟩

/-- What an argument is. -/
structure ArgOK (h : Hp) (t : TypeId) (v : Value) : Prop where
  plant : t = t_Plant → ∃ vf vs fs ss, v = .agg #[vf, vs] ∧ Sl h Fl.row vf fs ∧ Sl h St.row vs ss
  floor : t = t_Floor → ∃ f : Fl, v = f.val
  strike : t = t_Strike → ∃ s : St, v = s.val
  plan : t = t_sl_Berth → ∃ l, Sl h Be.row v l
  int : t = t_int → ∃ n, v = I n
  ints : t = t_sl_int → ∃ l, Sl h rowI v l
def ArgsOK (h : Hp) : List TypeId → List Value → Prop
  | [], [] => True
  | t :: ts, v :: vs => ArgOK h t v ∧ ArgsOK h ts vs
  | _, _ => False
theorem arg_ok {H : Type} {enc : TypeId × Value → H} {W : World} {n : Nat} {t : TypeId} {v : Value} {d : DataW H} {ps : List MemPlace} (hv : Value.okWide prog W .any n t v) (h : DataW.Trod enc prog W 0 (fun _ => true) true t v d ps) : ArgOK (atStart W) t v := by
  refine ⟨?_, ?_, ?_, ?_, ?_, ?_⟩
  · rintro rfl
    obtain ⟨cs, rfl, hc⟩ := okWide_struct (TD.out (t := t_Plant)) hv
    obtain ⟨fuel, h⟩ := h
    obtain ⟨y0, y1, m, -, hl, h0, h1⟩ := trod_struct2 (TD.out (t := t_Plant)) h
    have hc2 : cs.size = 2 := by rw [hc]; kernel_rfl
    obtain ⟨l⟩ := cs
    match l, hc2 with
    | [vf, vs], _ =>
      have h0' : DataW.trod enc prog W 0 (fun _ => true) true m t_sl_Floor [vf] = some y0 := h0
      have h1' : DataW.trod enc prog W 0 (fun _ => true) true m t_sl_Strike [vs] = some y1 := h1
      obtain ⟨fs, hf⟩ := rT_floor.slice (row := Fl.row) (by decide) mkFl (TD.out (t := t_sl_Floor)) h0'
      obtain ⟨ss, hs⟩ := rT_strike.slice (row := St.row) (by decide) mkSt (TD.out (t := t_sl_Strike)) h1'
      exact ⟨vf, vs, fs, ss, rfl, hf, hs⟩
  · rintro rfl
    obtain ⟨cs, rfl, hc⟩ := okWide_struct (TD.out (t := t_Floor)) hv
    obtain ⟨ns, h1, h2⟩ := rT_floor.val h
    obtain ⟨p, hp⟩ := mkFl ns h2
    refine ⟨p, ?_⟩
    have : cs.toList = p.row := by rw [hp]; exact h1
    rw [show cs = p.row.toArray by rw [← this]]
    rfl
  · rintro rfl
    obtain ⟨cs, rfl, hc⟩ := okWide_struct (TD.out (t := t_Strike)) hv
    obtain ⟨ns, h1, h2⟩ := rT_strike.val h
    obtain ⟨p, hp⟩ := mkSt ns h2
    refine ⟨p, ?_⟩
    have : cs.toList = p.row := by rw [hp]; exact h1
    rw [show cs = p.row.toArray by rw [← this]]
    rfl
  · rintro rfl
    obtain ⟨a, len, cap, rfl⟩ := okWide_slice (TD.out (t := t_sl_Berth)) hv
    obtain ⟨fuel, h⟩ := h
    exact rT_berth.slice (row := Be.row) (by decide) mkBe (TD.out (t := t_sl_Berth)) h
  · rintro rfl
    obtain ⟨ns, h1, h2⟩ := rT_int.val h
    obtain ⟨n, rfl⟩ := okWide_int under_int hv
    exact ⟨n, rfl⟩
  · rintro rfl
    obtain ⟨a, len, cap, rfl⟩ := okWide_slice under_sl_int hv
    obtain ⟨fuel, h⟩ := h
    exact rT_int.slice (row := rowI) (by decide) mkI under_sl_int h
theorem args_ok {H : Type} {enc : TypeId × Value → H} {W : World} {n : Nat} : ∀ {ts : List TypeId} {vs : List Value} {ds : List (DataW H)} {ps : List MemPlace}, (∀ (j : Nat) t v, ts[j]? = some t → vs[j]? = some v → Value.okWide prog W .any n t v) → DataW.TrodAll enc prog W 0 (fun _ => true) true ts vs ds ps → ArgsOK (atStart W) ts vs ∧ ds.length = ts.length
  | [], [], ds, ps, _, h => by
    cases ds with
    | nil => exact ⟨trivial, rfl⟩
    | cons d ds => exact h.elim
  | [], _ :: _, _, _, _, h => h.elim
  | _ :: _, [], _, _, _, h => h.elim
  | t :: ts, v :: vs, [], _, _, h => h.elim
  | t :: ts, v :: vs, d :: ds, ps, hv, h => by
    obtain ⟨p, q, h1, h2, -⟩ := h
    obtain ⟨h3, h4⟩ := args_ok (fun j t v a b => hv (j + 1) t v (by simpa using a) (by simpa using b)) h2
    exact ⟨⟨arg_ok (hv 0 t v rfl rfl) h1, h3⟩, by simp [h4]⟩
theorem args_stay {H : Type} {enc : TypeId × Value → H} {W W' : World} (hb : Below W.heap.size W W') : ∀ {ts : List TypeId} {vs : List Value} {ds : List (DataW H)} {ps : List MemPlace}, (∀ t ∈ ts, prog.readableRec t = true ∧ t < prog.types.size) → DataW.TrodAll enc prog W 0 (fun _ => true) true ts vs ds ps → (∀ x ∈ ps, x.block < W.heap.size) → DataW.TrodAll enc prog W' 0 (fun b => decide (b < W.heap.size)) true ts vs ds ps
  | [], [], ds, ps, _, h, _ => by
    cases ds with
    | nil => exact h
    | cons d ds => exact h.elim
  | [], _ :: _, _, _, _, h, _ => h.elim
  | _ :: _, [], _, _, _, h, _ => h.elim
  | t :: ts, v :: vs, [], _, _, h, _ => h.elim
  | t :: ts, v :: vs, d :: ds, ps, ht, h, hlt => by
    obtain ⟨p, q, h1, h2, rfl⟩ := h
    exact ⟨p, q, Below.trod laidOut0 (ht t (List.mem_cons_self ..)).1 (ht t (List.mem_cons_self ..)).2 h1 hb (fun x hx => hlt x (List.mem_append_left _ hx)), args_stay hb (fun t h => ht t (List.mem_cons_of_mem _ h)) h2 (fun x hx => hlt x (List.mem_append_right _ hx)), rfl⟩
/-- ████ A LAW OF SUCH ARGUMENTS. -/
theorem liftN {s : ChangeSpec} {f : FuncId} {fn : Func} (os : Go.Os) (started : os.Started) (H : Type) (enc : TypeId × Value → H) (hfn : prog.funcs[f]? = some fn) (hinit : prog.inits.idxOf? f = none) (ts : List TypeId) (hp : fn.params.toList = ts) (hts : ∀ t ∈ ts, prog.readableRec t = true ∧ t < prog.types.size) (hr : fn.resultTypes.toList = [t_bool]) (hrs : fn.resultTypes.size = 1) (hv : s.vars = [])
    (hs : ∀ ds : List (DataW H), ds.length = ts.length → s.fn H ds = { results := [.lit (.bool true)], args := ds })
    (witness : ∃ (w : World) (tape : Tape) (i : Input), w.os = os ∧ (w.forCall tape i).Shaped prog ∧ i.vars = [] ∧ Input.okWide prog (w.forCall tape i) .any w.heap.size f i ∧
      ((s.pre enc prog fn [] false (w.forCall tape i).memory i.args ∧ laidMetH prog laid0 (w.forCall tape i).memory) ∧ sizedMet enc prog fn (OpenSpec.ofChange s) false (w.forCall tape i).memory i.args) ∧ ({} : Assume).holds prog (lone (Frame.enter prog f i.args .normal) [] (w.forCall tape i)))
    (T : ∀ (main : Side) (_ : ∀ S, main.ok S → ∃ Fin, S = Mn prog Fin) (_ : main.b = true) (h : Hp) (args : List Value) (_ : ArgsOK h ts args) (Eg : TypeId) (zg : Nat × Nat) (_ : h 0 = some (.cells #[rtV t_error] Eg zg)) (_ : h.z 0), TopV prog main f args.toArray h (.bool true)) :
    ReturnsInLeavingWide {} Go.Proofs.Tryz.checked os f .any (fun w args => (s.pre enc prog fn [] false w args ∧ laidMetH prog laid0 w) ∧ sizedMet enc prog fn (OpenSpec.ofChange s) false w args) (s.post enc prog fn false true false false) := by
  refine returnsInLeavingWide_of_good (C := Go.Proofs.Tryz.checked) own0 started witness ?_
  intro w tape i _ _ _ hok hpre _
  obtain ⟨_, _, _, fn', hfn', _, _, _, _, hval0⟩ := hok
  have e : fn' = fn := Option.some.inj (hfn'.symm.trans hfn)
  subst e
  obtain ⟨⟨⟨ds, gs, before, hw, -⟩, hx⟩, -⟩ := hpre
  have hW := DataW.Whole.of_heap (w' := w.forCall tape i) (by rfl) hw
  have hL : laidMetH prog laid0 (w.forCall tape i) := laidMetH_heap (by rfl) hx
  generalize w.forCall tape i = W at *
  have hval : ∀ (j : Nat) t v, fn'.params[j]? = some t → i.args[j]? = some v → Value.okWide prog W .any w.heap.size t v := hval0
  have hW' := hW
  obtain ⟨p, q, hA0, hV, rfl, _, _⟩ := hW
  have hA : DataW.TrodAll enc prog W 0 (fun _ => true) true fn'.params.toList i.args.toList ds p := hA0
  rw [hp] at hA
  obtain ⟨hao, hdl⟩ := args_ok (n := w.heap.size) (fun j t v a b => hval j t v (by rw [← Array.getElem?_toList, hp]; exact a) (by rw [← Array.getElem?_toList]; exact b)) hA
  rw [hv] at hV
  obtain ⟨rfl, rfl⟩ := trodVars_none hV
  simp only [List.append_nil] at hW'
  have hlt : ∀ x ∈ p, x.block < W.heap.size := fun x hx => by simpa using hW'.lt x hx
  obtain ⟨E, z, hg⟩ := handle0 hL
  have hgs : atStart W 0 = some (.cells #[rtV t_error] E z) := atStart_some.2 ⟨hg, rfl⟩
  obtain ⟨M, last, o, w', t', h1, h2, h3, h4⟩ := TopV.run hinit (T (mainS prog (FinOK prog fun v _ => v = .bool true)) (fun S h => ⟨_, h⟩) rfl (atStart W) i.args.toList hao E z hgs ⟨_, hg, rfl⟩)
  refine ⟨M, last, o, w', t', h1, h2, h3, h4.mono fun v hF => ?_⟩
  obtain ⟨rfl, hk⟩ := hF
  have hb := hk.below
  refine ChangeSpec.post_blind ⟨ds, [], p, [], p, [], hW', ?_, ?_, ?_, hb.frame _, fun h => by cases h⟩
  · have hrl : Value.resultList fn'.resultTypes.size (.bool true) = [.bool true] := by rw [hrs]; rfl
    rw [List.append_nil, hs ds hdl, hrl, hr]; exact trodAll_mk1 (shut_bool under_bool true)
  · rw [List.append_nil, hs ds hdl, hp]
    exact args_stay hb hts hA hlt
  · rw [List.append_nil, hs ds hdl, hv]; rfl
end
end Go.Mus

/- The document's answers of layer 5: checks, what stands. Conditions: none; over the given program. -/
namespace Go.Mus
set_option maxRecDepth 100000
set_option maxHeartbeats 40000000
theorem among_fn (main : Side) (h : Hp) (n lo hi : Int) : Pu prog main n_ref_among #[I n, I lo, I hi] h (.bool (!decide (outs n lo hi))) := by
  refine Fnc.of_body at_ref_among rfl (by show 3 ≤ 15; decide) [(0, I n), (1, I lo), (2, I hi)] ⟨rfl, rfl, rfl, trivial⟩ ?_
  refine W.seq <| W.region rfl <| qs rfl rfl rfl <| Ops.nil <| thn_n <| W.seq <| W.region rfl <| qm rfl rfl rfl <| qm rfl rfl rfl ?_
  refine oq (y_geq rfl rfl rfl) rfl wn rfl rfl ?_
  refine qm rfl rfl rfl ?_
  refine Ops.ask (fun a1_4 => ?_) (fun a1_4 => ?_)
  · refine oq (y_move rfl rfl) rfl (want_some rfl rfl rfl) rfl rfl ?_
    refine oq (y_move rfl rfl) rfl (want_some rfl rfl rfl) rfl rfl ?_
    refine oq (y_leq rfl rfl rfl) rfl (want_some rfl rfl rfl) rfl rfl ?_
    refine oq (y_pickT rfl rfl rfl) rfl wn rfl rfl ?_
    refine qs rfl rfl rfl <| Ops.nil <| thn_n <| W.ret ?_
    refine lvp ?_
    refine congrArg Value.bool ?_
    first
    | (rw [decide_eq_true (show outs n lo hi from .inl (by omega))]; rfl)
    | (by_cases h1 : n ≤ hi
       · rw [decide_eq_false (show ¬ outs n lo hi from fun h => h.elim (by omega) (by omega))]; exact decide_eq_true h1
       · rw [decide_eq_true (show outs n lo hi from .inr (by omega))]; exact decide_eq_false h1)
  · refine Ops.no ?_
    refine Ops.no ?_
    refine Ops.no ?_
    refine oq (y_pickF rfl rfl rfl) rfl wn rfl rfl ?_
    refine qs rfl rfl rfl <| Ops.nil <| thn_n <| W.ret ?_
    refine lvp ?_
    refine congrArg Value.bool ?_
    first
    | (rw [decide_eq_true (show outs n lo hi from .inl (by omega))]; rfl)
    | (by_cases h1 : n ≤ hi
       · rw [decide_eq_false (show ¬ outs n lo hi from fun h => h.elim (by omega) (by omega))]; exact decide_eq_true h1
       · rw [decide_eq_true (show outs n lo hi from .inr (by omega))]; exact decide_eq_false h1)
theorem rcheckFloor_fn (main : Side) (h : Hp) (f : Fl) : Pu prog main n_ref_checkFloor #[f.val] h (I (ckFloor f)) := by
  refine Fnc.of_body at_ref_checkFloor rfl (by show 1 ≤ 32; decide) [(0, f.val)] ⟨rfl, trivial⟩ ?_
  refine W.seq <| W.region rfl ?_
  refine Ops.box (cs := #[I f.pl, I f.lo, I f.hi, I f.co]) (fun β1 => ?_) rfl rfl rfl
  refine qs rfl rfl rfl <| Ops.nil <| thn_n <| W.seq <| W.seq <| W.region rfl ?_
  refine oq (y_fieldAddr rfl rfl) rfl wn rfl rfl ?_
  refine oq (yld rfl rfl) rfl wn rfl rfl ?_
  refine cp (fun h' hE hL => among_fn _ h' _ _ _) ?_
  refine oq (y_not rfl rfl) rfl wn rfl rfl ?_
  refine qm rfl rfl rfl ?_
  refine Ops.askB (fun a1_5 => ?_) (fun a1_5 => ?_)
  · refine Ops.no ?_
    refine Ops.no ?_
    refine Ops.no ?_
    refine Ops.no ?_
    refine Ops.no ?_
    refine oq (y_pickT rfl rfl rfl) rfl wn rfl rfl ?_
    refine qm rfl rfl rfl ?_
    refine Ops.no ?_
    refine Ops.no ?_
    refine Ops.no ?_
    refine Ops.no ?_
    refine Ops.no ?_
    refine oq (y_pickT rfl rfl rfl) rfl wn rfl rfl ?_
    refine Ops.nil <| thn_n ?_
    refine W.condT ?_
    refine W.seq <| W.region rfl <| qs rfl rfl rfl <| Ops.nil <| thn_n <| W.ret <| thn_r ?_
    refine lvp (hs := .cons rfl .nil) ?_
    simp_all [ckFloor, pack]
  · refine oq (y_fieldAddr rfl rfl) rfl (want_some rfl rfl rfl) rfl rfl ?_
    refine oq (y_fieldAddr rfl rfl) rfl (want_some rfl rfl rfl) rfl rfl ?_
    refine oq (yld rfl rfl) rfl (want_some rfl rfl rfl) rfl rfl ?_
    refine cp (fun h' hE hL => among_fn _ h' _ _ _) ?_
    refine oq (y_not rfl rfl) rfl (want_some rfl rfl rfl) rfl rfl ?_
    refine oq (y_pickF rfl rfl rfl) rfl wn rfl rfl ?_
    refine qm rfl rfl rfl ?_
    refine Ops.askB (fun a1_12 => ?_) (fun a1_12 => ?_)
    · refine Ops.no ?_
      refine Ops.no ?_
      refine Ops.no ?_
      refine Ops.no ?_
      refine Ops.no ?_
      refine oq (y_pickT rfl rfl rfl) rfl wn rfl rfl ?_
      refine Ops.nil <| thn_n ?_
      refine W.condT ?_
      refine W.seq <| W.region rfl <| qs rfl rfl rfl <| Ops.nil <| thn_n <| W.ret <| thn_r ?_
      refine lvp (hs := .cons rfl .nil) ?_
      simp_all [ckFloor, pack]
    · refine oq (y_fieldAddr rfl rfl) rfl (want_some rfl rfl rfl) rfl rfl ?_
      refine oq (y_fieldAddr rfl rfl) rfl (want_some rfl rfl rfl) rfl rfl ?_
      refine oq (yld rfl rfl) rfl (want_some rfl rfl rfl) rfl rfl ?_
      refine cp (fun h' hE hL => among_fn _ h' _ _ _) ?_
      refine oq (y_not rfl rfl) rfl (want_some rfl rfl rfl) rfl rfl ?_
      refine oq (y_pickF rfl rfl rfl) rfl wn rfl rfl ?_
      refine Ops.nil <| thn_n ?_
      refine W.cond rfl (fun c20 => ?_) (fun c20 => ?_)
      · refine W.seq <| W.region rfl <| qs rfl rfl rfl <| Ops.nil <| thn_n <| W.ret <| thn_r ?_
        refine lvp (hs := .cons rfl .nil) ?_
        simp_all [ckFloor, pack]
      · refine W.skip <| thn_n <| W.seq <| W.seq <| W.region rfl ?_
        refine oq (y_fieldAddr rfl rfl) rfl wn rfl rfl ?_
        refine oq (y_fieldAddr rfl rfl) rfl wn rfl rfl ?_
        refine oq (yld rfl rfl) rfl wn rfl rfl ?_
        refine oq (y_fieldAddr rfl rfl) rfl wn rfl rfl ?_
        refine oq (y_fieldAddr rfl rfl) rfl wn rfl rfl ?_
        refine oq (yld rfl rfl) rfl wn rfl rfl ?_
        refine oq (y_gtr rfl rfl rfl) rfl wn rfl rfl ?_
        refine Ops.nil <| thn_n ?_
        refine W.condp rfl (fun c27 => ?_) (fun c27 => ?_)
        · refine W.seq <| W.region rfl <| qs rfl rfl rfl <| Ops.nil <| thn_n <| W.ret <| thn_r ?_
          refine lvp (hs := .cons rfl .nil) ?_
          simp_all [ckFloor, pack]
        · refine W.skip <| thn_n <| W.seq <| W.seq <| W.region rfl ?_
          refine oq (y_fieldAddr rfl rfl) rfl wn rfl rfl ?_
          refine oq (yld rfl rfl) rfl wn rfl rfl ?_
          refine cp (fun h' hE hL => among_fn _ h' _ _ _) ?_
          refine oq (y_not rfl rfl) rfl wn rfl rfl ?_
          refine Ops.nil <| thn_n ?_
          refine W.cond rfl (fun c31 => ?_) (fun c31 => ?_)
          · refine W.seq <| W.region rfl <| qs rfl rfl rfl <| Ops.nil <| thn_n <| W.ret <| thn_r ?_
            refine lvp (hs := .cons rfl .nil) ?_
            simp_all [ckFloor, pack]
          · refine W.skip <| thn_n <| W.seq <| W.region rfl <| qs rfl rfl rfl <| Ops.nil <| thn_n <| W.ret ?_
            refine lvp (hs := .cons rfl .nil) ?_
            simp_all [ckFloor, pack]

def befD (ss : List St) (k : Nat) : Int := if k = 0 then 0 else (stAt ss (k - 1)).day
theorem RCheck_fn (main : Side) (h : Hp) (fs : List Fl) (ss : List St) (vf vs : Value) (hf : Sl h Fl.row vf fs) (hs : Sl h St.row vs ss) : Pu prog main n_ref_Check #[.agg #[vf, vs]] h (I (ckPlant fs ss)) := by
  obtain ⟨a, cap, rfl⟩ := hf.isSl
  obtain ⟨a', cap', rfl⟩ := hs.isSl
  refine Fnc.of_body at_ref_Check rfl (by show 1 ≤ 77; decide) [(0, .agg #[.slice a fs.length cap, .slice a' ss.length cap'])] ⟨rfl, trivial⟩ ?_
  refine W.seq <| W.region rfl ?_
  refine Ops.box (cs := #[.slice a fs.length cap, .slice a' ss.length cap']) (fun β1 => ?_) rfl rfl rfl
  refine qs rfl rfl rfl <| Ops.nil <| thn_n <| W.seq <| W.seq <| W.region rfl ?_
  refine oq (y_fieldAddr rfl rfl) rfl wn rfl rfl ?_
  refine oq (yld rfl rfl) rfl wn rfl rfl ?_
  refine oq (y_len rfl rfl) rfl wn rfl rfl ?_
  refine oq (y_eql rfl rfl rfl) rfl wn rfl rfl ?_
  refine Ops.nil <| thn_n ?_
  refine W.condp rfl (fun c10 => ?_) (fun c10 => ?_)
  · refine W.seq <| W.region rfl <| qs rfl rfl rfl <| Ops.nil <| thn_n <| W.ret <| thn_r ?_
    refine lvp (hs := .cons rfl .nil) ?_
    show I _ = I _; congr 1; simp only [ckPlant]; rw [if_pos (by omega)]
  · refine W.skip <| thn_n <| W.seq <| W.seq <| W.region rfl ?_
    refine oq (y_fieldAddr rfl rfl) rfl wn rfl rfl ?_
    refine oq (yld rfl rfl) rfl wn rfl rfl ?_
    refine oq (y_len rfl rfl) rfl wn rfl rfl ?_
    refine oq (y_gtr rfl rfl rfl) rfl wn rfl rfl ?_
    refine Ops.nil <| thn_n ?_
    refine W.condp rfl (fun c14 => ?_) (fun c14 => ?_)
    · refine W.seq <| W.region rfl <| qs rfl rfl rfl <| Ops.nil <| thn_n <| W.ret <| thn_r ?_
      refine lvp (hs := .cons rfl .nil) ?_
      show I _ = I _; congr 1; simp only [ckPlant]; rw [if_neg (by omega), if_pos (by omega)]
    · refine W.skip <| thn_n <| W.seq <| W.seq <| W.region rfl <| qs rfl rfl rfl <| Ops.nil <| thn_n <| W.block ?_
      refine W.loop (σ := Nat) (fun k => k ≤ fs.length ∧ ckFloors fs = ckFloors (fs.drop k)) (fun k => [(3, I k), (1, .pointer (some ⟨β1, 0, none⟩))]) (fun _ => [(β1, .cells #[.slice a fs.length cap, .slice a' ss.length cap'] t_Plant (0, 0))]) (fun k => fs.length - k) 0 ⟨Nat.zero_le _, rfl⟩ ⟨rfl, rfl, trivial⟩ .refl ?_
      rintro k ⟨hk, hd⟩
      refine W.seq <| W.seq <| W.region rfl <| qm rfl rfl rfl ?_
      refine oq (y_fieldAddr rfl rfl) rfl wn rfl rfl ?_
      refine oq (yld rfl rfl) rfl wn rfl rfl ?_
      refine oq (y_len rfl rfl) rfl wn rfl rfl ?_
      refine oq (y_lss rfl rfl rfl) rfl wn rfl rfl ?_
      refine Ops.nil <| thn_n ?_
      refine W.condp rfl (fun c19 => ?_) (fun c19 => ?_)
      · obtain ⟨p, hp, hdr⟩ := has (show k < fs.length by omega)
        rw [hdr] at hd
        obtain ⟨b, off, c, E, fz, rfl, hb, hx, hy, hz⟩ := hf.at hp
        have hx' : c.extract (off + k * 4) (off + k * 4 + 4) = #[I p.pl, I p.lo, I p.hi, I p.co] := hx
        clear hx hz
        refine W.skip <| thn_n <| W.seq <| W.block <| W.seq <| W.region rfl ?_
        refine oq (y_fieldAddr rfl rfl) rfl wn rfl rfl ?_
        refine oq (yld rfl rfl) rfl wn rfl rfl ?_
        refine qm rfl rfl rfl ?_
        first | refine oq (yix rfl rfl rfl) rfl wn rfl rfl ?_ | refine oq (yixI rfl rfl rfl) rfl wn rfl rfl ?_
        first | refine oq (yldW rfl rfl) rfl wn rfl rfl ?_ | refine oq (yldA rfl rfl) rfl wn rfl rfl ?_
        refine cp (fun h' hE hL => rcheckFloor_fn _ h' _) ?_
        refine qs rfl rfl rfl <| Ops.nil <| thn_n <| W.seq <| W.region rfl <| qm rfl rfl rfl ?_
        refine oq (y_neq rfl rfl rfl) rfl wn rfl rfl ?_
        refine Ops.nil <| thn_n ?_
        refine W.condp rfl (fun c29 => ?_) (fun c29 => ?_)
        · refine W.seq <| W.region rfl <| qm rfl rfl rfl <| qs rfl rfl rfl <| Ops.nil <| thn_n <| W.ret <| blk_r <| thn_r <| thn_r ?_
          refine blk_r <| thn_r ?_
          refine lvp (hs := .cons rfl .nil) ?_
          show I _ = I _; congr 1; simp only [ckPlant]; simp only [ckFloors] at hd; simp_all; omega
        · refine W.skip <| blk_n <| thn_n <| W.region rfl <| qm rfl rfl rfl ?_
          first | refine oq (yadd rfl rfl rfl) rfl wn rfl rfl ?_ | refine oq (y_addw rfl rfl rfl) rfl wn rfl rfl ?_
          refine qs rfl rfl rfl <| Ops.nil <| thn_n ?_
          exact ⟨rfl, k + 1, ⟨by omega, by simp only [ckFloors] at hd; simp_all⟩, by omega, ⟨rfl, rfl, trivial⟩, .refl⟩
      · have : k = fs.length := by omega
        subst this
        have hz : ckFloors fs = 0 := by rw [hd]; simp [ckFloors]
        clear hd
        refine W.exit <| thn_x <| thn_x <| blk_x <| thn_n <| W.seq <| W.seq <| W.region rfl ?_
        refine oq (y_fieldAddr rfl rfl) rfl wn rfl rfl ?_
        refine oq (yld rfl rfl) rfl wn rfl rfl ?_
        refine oq (y_len rfl rfl) rfl wn rfl rfl ?_
        refine oq (y_gtr rfl rfl rfl) rfl wn rfl rfl ?_
        refine Ops.nil <| thn_n ?_
        refine W.condp rfl (fun c34 => ?_) (fun c34 => ?_)
        · refine W.seq <| W.region rfl <| qs rfl rfl rfl <| Ops.nil <| thn_n <| W.ret <| thn_r ?_
          refine lvp (hs := .cons rfl .nil) ?_
          show I _ = I _; congr 1; simp only [ckPlant]; rw [if_neg (by omega), if_neg (by omega), if_neg (by omega), if_pos (by omega)]
        · refine W.skip <| thn_n <| W.seq <| W.seq <| W.region rfl <| qs rfl rfl rfl <| Ops.nil <| thn_n <| W.block ?_
          refine W.loop (σ := Nat) (fun k => k ≤ ss.length ∧ ckStrikes 0 ss = ckStrikes (befD ss k) (ss.drop k)) (fun k => [(5, I k), (1, .pointer (some ⟨β1, 0, none⟩))]) (fun _ => [(β1, .cells #[.slice a fs.length cap, .slice a' ss.length cap'] t_Plant (0, 0))]) (fun k => ss.length - k) 0 ⟨Nat.zero_le _, rfl⟩ ⟨rfl, rfl, trivial⟩ .refl ?_
          rintro k ⟨hk', hd'⟩
          refine W.seq <| W.seq <| W.region rfl <| qm rfl rfl rfl ?_
          refine oq (y_fieldAddr rfl rfl) rfl wn rfl rfl ?_
          refine oq (yld rfl rfl) rfl wn rfl rfl ?_
          refine oq (y_len rfl rfl) rfl wn rfl rfl ?_
          refine oq (y_lss rfl rfl rfl) rfl wn rfl rfl ?_
          refine Ops.nil <| thn_n ?_
          refine W.condp rfl (fun c39 => ?_) (fun c39 => ?_)
          · have hk1 : k < ss.length := by omega
            obtain ⟨p, hp, hdr⟩ := has hk1
            have hnx : befD ss (k + 1) = p.day := by simp [befD, stAt, List.getD, hp]
            rw [hdr] at hd'
            obtain ⟨b, off, c, E, fz, rfl, hb, hx, hy, hz⟩ := hs.at hp
            have hx' : c.extract (off + k * 3) (off + k * 3 + 3) = #[I p.day, I p.co, I p.wa] := hx
            clear hx hz
            refine W.skip <| thn_n <| W.seq <| W.block <| W.seq <| W.region rfl ?_
            refine oq (y_fieldAddr rfl rfl) rfl wn rfl rfl ?_
            refine oq (yld rfl rfl) rfl wn rfl rfl ?_
            refine qm rfl rfl rfl ?_
            first | refine oq (yix rfl rfl rfl) rfl wn rfl rfl ?_ | refine oq (yixI rfl rfl rfl) rfl wn rfl rfl ?_
            first | refine oq (yldW rfl rfl) rfl wn rfl rfl ?_ | refine oq (yldA rfl rfl) rfl wn rfl rfl ?_
            refine Ops.new (fun β6 => ?_)
            first | refine Ops.stoW ?_ | refine Ops.stoA ?_
            refine Ops.nil <| thn_n <| W.seq <| W.seq <| W.region rfl ?_
            refine oq (y_fieldAddr rfl rfl) rfl wn rfl rfl ?_
            refine oq (yld rfl rfl) rfl wn rfl rfl ?_
            refine cp (fun h' hE hL => among_fn _ h' _ _ _) ?_
            refine oq (y_not rfl rfl) rfl wn rfl rfl ?_
            refine qm rfl rfl rfl ?_
            refine Ops.askB (fun a17_5 => ?_) (fun a17_5 => ?_)
            · refine Ops.no ?_
              refine Ops.no ?_
              refine Ops.no ?_
              refine Ops.no ?_
              refine oq (y_pickT rfl rfl rfl) rfl wn rfl rfl ?_
              refine qm rfl rfl rfl ?_
              refine Ops.no ?_
              refine Ops.no ?_
              refine Ops.no ?_
              refine Ops.no ?_
              refine oq (y_pickT rfl rfl rfl) rfl wn rfl rfl ?_
              refine Ops.nil <| thn_n ?_
              refine W.condT ?_
              refine W.seq <| W.region rfl <| qs rfl rfl rfl <| Ops.nil <| thn_n <| W.ret <| thn_r <| blk_r <| thn_r <| thn_r ?_
              refine blk_r <| thn_r ?_
              refine lvp (hs := .cons rfl (.cons rfl .nil)) ?_
              have hc : ckStrike (befD ss k) p = 1 := by simp only [ckStrike]; rw [if_pos]; simp_all
              show I _ = I _; congr 1; simp only [ckPlant]; simp only [ckStrikes, hc] at hd'; rw [if_neg (by omega), if_neg (by omega), if_neg (by omega), if_neg (by omega), hd']; rfl
            · refine oq (y_fieldAddr rfl rfl) rfl (want_some rfl rfl rfl) rfl rfl ?_
              refine oq (yld rfl rfl) rfl (want_some rfl rfl rfl) rfl rfl ?_
              refine cp (fun h' hE hL => among_fn _ h' _ _ _) ?_
              refine oq (y_not rfl rfl) rfl (want_some rfl rfl rfl) rfl rfl ?_
              refine oq (y_pickF rfl rfl rfl) rfl wn rfl rfl ?_
              refine qm rfl rfl rfl ?_
              refine Ops.askB (fun a17_11 => ?_) (fun a17_11 => ?_)
              · refine Ops.no ?_
                refine Ops.no ?_
                refine Ops.no ?_
                refine Ops.no ?_
                refine oq (y_pickT rfl rfl rfl) rfl wn rfl rfl ?_
                refine Ops.nil <| thn_n ?_
                refine W.condT ?_
                refine W.seq <| W.region rfl <| qs rfl rfl rfl <| Ops.nil <| thn_n <| W.ret <| thn_r <| blk_r <| thn_r <| thn_r ?_
                refine blk_r <| thn_r ?_
                refine lvp (hs := .cons rfl (.cons rfl .nil)) ?_
                have hc : ckStrike (befD ss k) p = 1 := by simp only [ckStrike]; rw [if_pos]; simp_all
                show I _ = I _; congr 1; simp only [ckPlant]; simp only [ckStrikes, hc] at hd'; rw [if_neg (by omega), if_neg (by omega), if_neg (by omega), if_neg (by omega), hd']; rfl
              · refine oq (y_fieldAddr rfl rfl) rfl (want_some rfl rfl rfl) rfl rfl ?_
                refine oq (yld rfl rfl) rfl (want_some rfl rfl rfl) rfl rfl ?_
                refine cp (fun h' hE hL => among_fn _ h' _ _ _) ?_
                refine oq (y_not rfl rfl) rfl (want_some rfl rfl rfl) rfl rfl ?_
                refine oq (y_pickF rfl rfl rfl) rfl wn rfl rfl ?_
                refine Ops.nil <| thn_n ?_
                refine W.cond rfl (fun c62 => ?_) (fun c62 => ?_)
                · refine W.seq <| W.region rfl <| qs rfl rfl rfl <| Ops.nil <| thn_n <| W.ret <| thn_r <| blk_r <| thn_r <| thn_r ?_
                  refine blk_r <| thn_r ?_
                  refine lvp (hs := .cons rfl (.cons rfl .nil)) ?_
                  have hc : ckStrike (befD ss k) p = 1 := by simp only [ckStrike]; rw [if_pos]; simp_all
                  show I _ = I _; congr 1; simp only [ckPlant]; simp only [ckStrikes, hc] at hd'; rw [if_neg (by omega), if_neg (by omega), if_neg (by omega), if_neg (by omega), hd']; rfl
                · refine W.skip <| thn_n <| W.seq ?_
                  refine W.drawF (n := 14) rfl ?_
                  have ho : ¬ (outs p.day 0 12 ∨ outs p.co 1 6 ∨ outs p.wa 0 3) := by simp_all
                  refine aq (i := 0) (y_move rfl rfl) rfl an rfl rfl ?_
                  refine aq (i := 1) (y_gtr rfl rfl rfl) rfl an rfl rfl ?_
                  refine aq (i := 2) (y_move rfl rfl) rfl an rfl rfl ?_
                  refine Any.ask (d' := 65) (fun a19_3 => ?_) (fun a19_3 => ?_)
                  · obtain ⟨j, rfl⟩ : ∃ j, k = j + 1 := ⟨k - 1, by omega⟩
                    obtain ⟨q, hq, -⟩ := has (show j < ss.length by omega)
                    have hbq : befD ss (j + 1) = q.day := by simp [befD, stAt, List.getD, hq]
                    obtain ⟨b2, off2, c2, E2, fz2, hae, hb2, -, hy2, hz2⟩ := hs.at hq
                    cases hae
                    have hq0 : c2[off + j * 3 + 0]? = some (I q.day) := hz2 0 (by decide)
                    clear hz2
                    rw [hb] at hb2
                    cases hb2
                    refine aq (i := 3) (y_fieldAddr rfl rfl) rfl (wantε_some rfl rfl rfl rfl) rfl rfl ?_
                    refine aq (i := 4) (yld rfl rfl) rfl (wantε_some rfl rfl rfl rfl) rfl rfl ?_
                    refine aq (i := 5) (y_fieldAddr rfl rfl) rfl (wantε_some rfl rfl rfl rfl) rfl rfl ?_
                    refine aq (i := 6) (yld rfl rfl) rfl (wantε_some rfl rfl rfl rfl) rfl rfl ?_
                    refine aq (i := 7) (y_move rfl rfl) rfl (wantε_some rfl rfl rfl rfl) rfl rfl ?_
                    refine aq (i := 8) ((ysub rfl rfl rfl).eq (u := I j) (congrArg I (by omega))) rfl (wantε_some rfl rfl rfl rfl) rfl rfl ?_
                    first | refine aq (i := 9) (yix rfl rfl rfl) rfl (wantε_some rfl rfl rfl rfl) rfl rfl ?_ | refine aq (i := 9) (yixI rfl rfl rfl) rfl (wantε_some rfl rfl rfl rfl) rfl rfl ?_
                    refine aq (i := 10) (y_fieldAddr rfl rfl) rfl (wantε_some rfl rfl rfl rfl) rfl rfl ?_
                    refine aq (i := 11) (yld rfl rfl) rfl (wantε_some rfl rfl rfl rfl) rfl rfl ?_
                    refine aq (i := 12) (y_lss rfl rfl rfl) rfl (wantε_some rfl rfl rfl rfl) rfl rfl ?_
                    refine aq (i := 13) (y_pickT rfl rfl rfl) rfl an rfl rfl ?_
                    refine az ?_
                    refine thn_n ?_
                    refine W.condp rfl (fun c76 => ?_) (fun c76 => ?_)
                    · refine W.seq <| W.region rfl <| qs rfl rfl rfl <| Ops.nil <| thn_n <| W.ret <| blk_r <| thn_r <| thn_r <| blk_r ?_
                      refine thn_r ?_
                      refine lvp (hs := .cons rfl (.cons rfl .nil)) ?_
                      have hc : ckStrike (befD ss (j + 1)) p = 5 := by
                        simp only [ckStrike]; rw [if_neg ho, if_pos (by omega)]
                      show I _ = I _; congr 1; simp only [ckPlant]; simp only [ckStrikes, hc] at hd'; rw [if_neg (by omega), if_neg (by omega), if_neg (by omega), if_neg (by omega), hd']; rfl
                    · refine W.skip <| blk_n <| thn_n <| W.region rfl <| qm rfl rfl rfl ?_
                      first | refine oq (yadd rfl rfl rfl) rfl wn rfl rfl ?_ | refine oq (y_addw rfl rfl rfl) rfl wn rfl rfl ?_
                      refine qs rfl rfl rfl <| Ops.nil <| thn_n ?_
                      first
                      | (have hc : ckStrike (befD ss (j + 1)) p = 0 := by
                           simp only [ckStrike]; rw [if_neg ho, if_neg (by omega)]
                         exact ⟨rfl, j + 1 + 1, ⟨by omega, by rw [hnx, hd']; simp only [ckStrikes, hc]; rfl⟩, by omega, ⟨rfl, rfl, trivial⟩, .skip rfl .refl⟩)
                      | (have hk0 : k = 0 := by omega
                         subst hk0
                         have ho2 := ho
                         simp only [outs, not_or] at ho2
                         have hc : ckStrike (befD ss 0) p = 0 := by
                           simp only [ckStrike]; rw [if_neg ho, if_neg (by simp only [befD, if_true]; omega)]
                         exact ⟨rfl, 0 + 1, ⟨by omega, by rw [hnx, hd']; simp only [ckStrikes, hc]; rfl⟩, by omega, ⟨rfl, rfl, trivial⟩, .skip rfl .refl⟩)
                  · refine ap (i := 3) rfl rfl rfl rfl rfl rfl ?_
                    refine ap (i := 4) rfl rfl rfl rfl rfl rfl ?_
                    refine ap (i := 5) rfl rfl rfl rfl rfl rfl ?_
                    refine ap (i := 6) rfl rfl rfl rfl rfl rfl ?_
                    refine ap (i := 7) rfl rfl rfl rfl rfl rfl ?_
                    refine ap (i := 8) rfl rfl rfl rfl rfl rfl ?_
                    refine ap (i := 9) rfl rfl rfl rfl rfl rfl ?_
                    refine ap (i := 10) rfl rfl rfl rfl rfl rfl ?_
                    refine ap (i := 11) rfl rfl rfl rfl rfl rfl ?_
                    refine ap (i := 12) rfl rfl rfl rfl rfl rfl ?_
                    refine aq (i := 13) (y_pickF rfl rfl rfl) rfl an rfl rfl ?_
                    refine az ?_
                    refine thn_n ?_
                    refine W.condF ?_
                    refine W.skip <| blk_n <| thn_n <| W.region rfl <| qm rfl rfl rfl ?_
                    first | refine oq (yadd rfl rfl rfl) rfl wn rfl rfl ?_ | refine oq (y_addw rfl rfl rfl) rfl wn rfl rfl ?_
                    refine qs rfl rfl rfl <| Ops.nil <| thn_n ?_
                    first
                    | (have hc : ckStrike (befD ss (j + 1)) p = 0 := by
                         simp only [ckStrike]; rw [if_neg ho, if_neg (by omega)]
                       exact ⟨rfl, j + 1 + 1, ⟨by omega, by rw [hnx, hd']; simp only [ckStrikes, hc]; rfl⟩, by omega, ⟨rfl, rfl, trivial⟩, .skip rfl .refl⟩)
                    | (have hk0 : k = 0 := by omega
                       subst hk0
                       have ho2 := ho
                       simp only [outs, not_or] at ho2
                       have hc : ckStrike (befD ss 0) p = 0 := by
                         simp only [ckStrike]; rw [if_neg ho, if_neg (by simp only [befD, if_true]; omega)]
                       exact ⟨rfl, 0 + 1, ⟨by omega, by rw [hnx, hd']; simp only [ckStrikes, hc]; rfl⟩, by omega, ⟨rfl, rfl, trivial⟩, .skip rfl .refl⟩)
          · have : k = ss.length := by omega
            subst this
            refine W.exit <| thn_x <| thn_x <| blk_x <| thn_n <| W.seq <| W.region rfl <| qs rfl rfl rfl <| Ops.nil <| thn_n ?_
            refine W.ret ?_
            refine lvp (hs := .cons rfl .nil) ?_
            show I _ = I _; congr 1; simp only [ckPlant]; rw [if_neg (by omega), if_neg (by omega), if_neg (by omega), if_neg (by omega), hd']; simp [ckStrikes]

theorem RCheckPlan_fn (main : Side) (h : Hp) (fs : List Fl) (ss : List St) (l : List Be) (vf vs vl : Value) (hf : Sl h Fl.row vf fs) (hs : Sl h St.row vs ss) (hl : Sl h Be.row vl l) : Pu prog main n_ref_CheckPlan #[.agg #[vf, vs], vl] h (I (ckPlan fs ss l)) := by
  obtain ⟨a, cap, rfl⟩ := hf.isSl
  obtain ⟨a', cap', rfl⟩ := hs.isSl
  obtain ⟨a2, cap2, rfl⟩ := hl.isSl
  refine Fnc.of_body at_ref_CheckPlan rfl (by show 2 ≤ 76; decide) [(0, .agg #[.slice a fs.length cap, .slice a' ss.length cap']), (1, .slice a2 l.length cap2)] ⟨rfl, rfl, trivial⟩ ?_
  refine W.seq <| W.region rfl ?_
  refine Ops.box (cs := #[.slice a fs.length cap, .slice a' ss.length cap']) (fun β2 => ?_) rfl rfl rfl
  refine qs rfl rfl rfl <| Ops.nil <| thn_n <| W.seq <| W.seq <| W.region rfl ?_
  first | refine oq (yldW rfl rfl) rfl wn rfl rfl ?_ | refine oq (yldA rfl rfl) rfl wn rfl rfl ?_
  refine cp (fun h' hE hL => RCheck_fn _ h' _ _ _ _ (hf.ext hE) (hs.ext hE)) ?_
  refine qs rfl rfl rfl <| Ops.nil <| thn_n <| W.seq <| W.region rfl <| qm rfl rfl rfl ?_
  refine oq (y_neq rfl rfl rfl) rfl wn rfl rfl ?_
  refine Ops.nil <| thn_n ?_
  refine W.condp rfl (fun c12 => ?_) (fun c12 => ?_)
  · refine W.seq <| W.region rfl <| qm rfl rfl rfl <| qs rfl rfl rfl <| Ops.nil <| thn_n <| W.ret <| thn_r ?_
    refine lvp (hs := .cons rfl .nil) ?_
    show I _ = I _; congr 1; simp only [ckPlan]; rw [if_pos c12]
  · have h0 : ckPlant fs ss = 0 := by simpa using c12
    obtain ⟨hf0, hf2, hs4, _, _⟩ := ckPlant0 h0
    have e0 : ckPlan fs ss l = if l.length < ss.length then 7 else if ss.length < l.length then 6 else ckBerths fs.length ss l := by simp only [ckPlan]; rw [if_neg c12]
    refine W.skip <| thn_n <| W.seq <| W.seq <| W.region rfl <| qm rfl rfl rfl ?_
    refine oq (y_len rfl rfl) rfl wn rfl rfl ?_
    refine oq (y_fieldAddr rfl rfl) rfl wn rfl rfl ?_
    refine oq (yld rfl rfl) rfl wn rfl rfl ?_
    refine oq (y_len rfl rfl) rfl wn rfl rfl ?_
    refine oq (y_lss rfl rfl rfl) rfl wn rfl rfl ?_
    refine Ops.nil <| thn_n ?_
    refine W.condp rfl (fun c19 => ?_) (fun c19 => ?_)
    · refine W.seq <| W.region rfl <| qs rfl rfl rfl <| Ops.nil <| thn_n <| W.ret <| thn_r ?_
      refine lvp (hs := .cons rfl .nil) ?_
      show I _ = I _; congr 1; rw [e0, if_pos (by omega)]
    · refine W.skip <| thn_n <| W.seq <| W.seq <| W.region rfl <| qm rfl rfl rfl ?_
      refine oq (y_len rfl rfl) rfl wn rfl rfl ?_
      refine oq (y_fieldAddr rfl rfl) rfl wn rfl rfl ?_
      refine oq (yld rfl rfl) rfl wn rfl rfl ?_
      refine oq (y_len rfl rfl) rfl wn rfl rfl ?_
      refine oq (y_gtr rfl rfl rfl) rfl wn rfl rfl ?_
      refine Ops.nil <| thn_n ?_
      refine W.condp rfl (fun c25 => ?_) (fun c25 => ?_)
      · refine W.seq <| W.region rfl <| qs rfl rfl rfl <| Ops.nil <| thn_n <| W.ret <| thn_r ?_
        refine lvp (hs := .cons rfl .nil) ?_
        show I _ = I _; congr 1; rw [e0, if_neg (by omega), if_pos (by omega)]
      · have hll : l.length = ss.length := by omega
        have e1 : ckPlan fs ss l = ckBerths fs.length ss l := by rw [e0, if_neg (by omega), if_neg (by omega)]
        refine W.skip <| thn_n <| W.seq <| W.seq <| W.region rfl <| qs rfl rfl rfl <| Ops.nil <| thn_n <| W.block ?_
        refine W.loop (σ := Nat) (fun k => k ≤ l.length ∧ ckPlan fs ss l = ckBerths fs.length (ss.drop k) (l.drop k)) (fun k => [(6, I k), (2, .pointer (some ⟨β2, 0, none⟩)), (1, .slice a2 l.length cap2)]) (fun _ => [(β2, .cells #[.slice a fs.length cap, .slice a' ss.length cap'] t_Plant (0, 0))]) (fun k => l.length - k) 0 ⟨Nat.zero_le _, e1⟩ ⟨rfl, rfl, rfl, trivial⟩ .refl ?_
        rintro k ⟨hk, hd⟩
        refine W.seq <| W.seq <| W.region rfl <| qm rfl rfl rfl <| qm rfl rfl rfl ?_
        refine oq (y_len rfl rfl) rfl wn rfl rfl ?_
        refine oq (y_lss rfl rfl rfl) rfl wn rfl rfl ?_
        refine Ops.nil <| thn_n ?_
        refine W.condp rfl (fun c29 => ?_) (fun c29 => ?_)
        · obtain ⟨p, hp, hdr⟩ := has (show k < l.length by omega)
          obtain ⟨s, hsk, hdr'⟩ := has (show k < ss.length by omega)
          rw [hdr, hdr'] at hd
          obtain ⟨b, off, c, E, fz, rfl, hb, hx, hy, hz⟩ := hl.at hp
          have hx' : c.extract (off + k * 2) (off + k * 2 + 2) = #[I p.fl, I p.day] := hx
          clear hx hz
          obtain ⟨b', off', c', E', fz', rfl, hb', hx, hy', hz⟩ := hs.at hsk
          have hx2 : c'.extract (off' + k * 3) (off' + k * 3 + 3) = #[I s.day, I s.co, I s.wa] := hx
          clear hx hz
          have hso := strike_ok h0 hsk
          refine W.skip <| thn_n <| W.seq <| W.block <| W.seq ?_
          refine W.drawP1 (n := 13) rfl ?_
          refine aq (i := 0) (y_move rfl rfl) rfl an rfl rfl ?_
          refine aq (i := 1) (y_move rfl rfl) rfl an rfl rfl ?_
          refine aq (i := 2) (yix rfl rfl rfl) rfl an rfl rfl ?_
          refine aq (i := 3) (yldA rfl rfl) rfl an rfl rfl ?_
          refine aq (i := 4) (y_fieldAddr rfl rfl) rfl an rfl rfl ?_
          refine aq (i := 5) (yld rfl rfl) rfl an rfl rfl ?_
          refine aq (i := 6) (y_move rfl rfl) rfl an rfl rfl ?_
          refine aq (i := 7) (yix rfl rfl rfl) rfl an rfl rfl ?_
          refine aq (i := 8) (yldA rfl rfl) rfl an rfl rfl ?_
          refine Any.bag (fuel := 2) (m := 2) (B := [(9, 7, NewP t_Berth _), (10, 8, NewP t_Strike _)]) (by
            intro s hs
            simp only [List.mem_cons, List.not_mem_nil, or_false] at hs
            rcases hs with rfl | rfl
            · exact Adds.new
            · exact Adds.new) ?_ (Keeps.one (.head _) .nil) rfl (by
            intro s hs
            simp only [List.mem_cons, List.not_mem_nil, or_false] at hs
            rcases hs with rfl | rfl <;> rfl) (by kernel_rfl) (show [9, 10].Nodup by decide) (show [7, 8].Nodup by decide)
          simp only [bagA]
          rintro v1 A1 ⟨β7, rfl, rfl⟩ v2 A2 ⟨β8, rfl, rfl⟩
          first | refine ae (i := 11) rfl an rfl rfl (eSW rfl rfl rfl ?_) | refine ae (i := 11) rfl an rfl rfl (eSA rfl rfl rfl ?_)
          refine ⟨.inr (Keeps.one (by repeat (first | exact List.Mem.head _ | apply List.Mem.tail | apply List.mem_append_right)) .nil), ?_⟩
          first | refine ae (i := 12) rfl an rfl rfl (eSW rfl rfl rfl ?_) | refine ae (i := 12) rfl an rfl rfl (eSA rfl rfl rfl ?_)
          refine ⟨.inl (by kernel_rfl), ?_⟩
          refine az ?_
          refine thn_n <| W.block <| W.seq <| W.region rfl ?_
          refine oq (y_fieldAddr rfl rfl) rfl wn rfl rfl ?_
          refine oq (yld rfl rfl) rfl wn rfl rfl ?_
          refine oq (y_fieldAddr rfl rfl) rfl wn rfl rfl ?_
          refine oq (yld rfl rfl) rfl wn rfl rfl ?_
          refine oq (y_len rfl rfl) rfl wn rfl rfl ?_
          first | refine oq (ysub rfl rfl rfl) rfl wn rfl rfl ?_ | refine oq (y_subw rfl rfl rfl) rfl wn rfl rfl ?_
          refine cp (fun h' hE hL => among_fn _ h' _ _ _) ?_
          refine oq (y_not rfl rfl) rfl wn rfl rfl ?_
          refine qs rfl rfl rfl <| Ops.nil <| thn_n ?_
          refine W.cond rfl (fun c41 => ?_) (fun c41 => ?_)
          · refine W.seq <| W.region rfl <| qs rfl rfl rfl <| Ops.nil <| thn_n <| W.ret <| blk_r <| blk_r <| thn_r <| thn_r ?_
            refine blk_r <| thn_r ?_
            refine lvp (hs := .cons rfl (.cons rfl (.cons rfl .nil))) ?_
            have hc : ckBerth fs.length s p = 3 := by simp only [ckBerth]; rw [if_pos]; simp_all
            show I _ = I _; congr 1; rw [hd]; simp only [ckBerths, hc]; rfl
          · refine W.seq <| W.region rfl ?_
            refine oq (y_fieldAddr rfl rfl) rfl wn rfl rfl ?_
            refine oq (yld rfl rfl) rfl wn rfl rfl ?_
            refine oq (y_lss rfl rfl rfl) rfl wn rfl rfl ?_
            refine qm rfl rfl rfl ?_
            refine Ops.ask (fun a14_4 => ?_) (fun a14_4 => ?_)
            · refine oq (y_fieldAddr rfl rfl) rfl (want_some rfl rfl rfl) rfl rfl ?_
              refine oq (yld rfl rfl) rfl (want_some rfl rfl rfl) rfl rfl ?_
              refine oq (y_neq rfl rfl rfl) rfl (want_some rfl rfl rfl) rfl rfl ?_
              refine oq (y_pickT rfl rfl rfl) rfl wn rfl rfl ?_
              refine qs rfl rfl rfl <| Ops.nil <| thn_n ?_
              refine W.condp rfl (fun c50 => ?_) (fun c50 => ?_)
              · refine W.seq <| W.region rfl <| qs rfl rfl rfl <| Ops.nil <| thn_n <| W.ret <| blk_r <| blk_r <| thn_r <| thn_r ?_
                refine blk_r <| thn_r ?_
                refine lvp (hs := .cons rfl (.cons rfl (.cons rfl .nil))) ?_
                have h3 : ¬ outs p.fl (-1) ((fs.length : Int) - 1) := by simp_all
                have hc : ckBerth fs.length s p = 8 := by simp only [ckBerth]; rw [if_neg h3, if_pos ⟨by assumption, by assumption⟩]
                show I _ = I _; congr 1; rw [hd]; simp only [ckBerths, hc]; rfl
              · refine W.seq <| W.region rfl ?_
                refine oq (y_fieldAddr rfl rfl) rfl wn rfl rfl ?_
                refine oq (yld rfl rfl) rfl wn rfl rfl ?_
                refine oq (y_geq rfl rfl rfl) rfl wn rfl rfl ?_
                refine qm rfl rfl rfl ?_
                refine Ops.ask (fun a16_4 => ?_) (fun a16_4 => ?_)
                · refine oq (y_fieldAddr rfl rfl) rfl (want_some rfl rfl rfl) rfl rfl ?_
                  refine oq (yld rfl rfl) rfl (want_some rfl rfl rfl) rfl rfl ?_
                  refine oq (y_fieldAddr rfl rfl) rfl (want_some rfl rfl rfl) rfl rfl ?_
                  refine oq (yld rfl rfl) rfl (want_some rfl rfl rfl) rfl rfl ?_
                  refine oq (y_fieldAddr rfl rfl) rfl (want_some rfl rfl rfl) rfl rfl ?_
                  refine oq (yld rfl rfl) rfl (want_some rfl rfl rfl) rfl rfl ?_
                  refine oq (y_fieldAddr rfl rfl) rfl (want_some rfl rfl rfl) rfl rfl ?_
                  refine oq (yld rfl rfl) rfl (want_some rfl rfl rfl) rfl rfl ?_
                  first | refine oq (yadd rfl rfl rfl) rfl (want_some rfl rfl rfl) rfl rfl ?_ | refine oq (y_addw rfl rfl rfl) rfl (want_some rfl rfl rfl) rfl rfl ?_
                  refine cp (fun h' hE hL => among_fn _ h' _ _ _) ?_
                  refine oq (y_not rfl rfl) rfl (want_some rfl rfl rfl) rfl rfl ?_
                  refine oq (y_pickT rfl rfl rfl) rfl wn rfl rfl ?_
                  refine qs rfl rfl rfl <| Ops.nil <| thn_n ?_
                  refine W.cond rfl (fun c59 => ?_) (fun c59 => ?_)
                  · refine W.seq <| W.region rfl <| qs rfl rfl rfl <| Ops.nil <| thn_n <| W.ret <| blk_r <| blk_r <| thn_r <| thn_r ?_
                    refine blk_r <| thn_r ?_
                    refine lvp (hs := .cons rfl (.cons rfl (.cons rfl .nil))) ?_
                    have h3 : ¬ outs p.fl (-1) ((fs.length : Int) - 1) := by simp_all
                    have h4 : outs p.day s.day (s.day + s.wa) := by simp_all
                    have hc : ckBerth fs.length s p = 12 := by simp only [ckBerth]; rw [if_neg h3, if_neg (by omega), if_pos ⟨by assumption, h4⟩]
                    show I _ = I _; congr 1; rw [hd]; simp only [ckBerths, hc]; rfl
                  · refine W.skip <| blk_n <| blk_n <| thn_n <| W.region rfl <| qm rfl rfl rfl ?_
                    first | refine oq (yadd rfl rfl rfl) rfl wn rfl rfl ?_ | refine oq (y_addw rfl rfl rfl) rfl wn rfl rfl ?_
                    refine qs rfl rfl rfl <| Ops.nil <| thn_n ?_
                    have h3 : ¬ outs p.fl (-1) ((fs.length : Int) - 1) := by simp_all
                    have hc : ckBerth fs.length s p = 0 := by
                      simp only [ckBerth]
                      rw [if_neg h3, if_neg (by omega), if_neg ?_]
                      first | (rintro ⟨q1, q2⟩; simp_all; done) | (rintro ⟨q1, q2⟩; omega)
                    exact ⟨rfl, k + 1, ⟨by omega, by rw [hd]; simp only [ckBerths, hc]; rfl⟩, by omega, ⟨rfl, rfl, rfl, trivial⟩, .skip rfl (.skip rfl .refl)⟩
                · refine Ops.no ?_
                  refine Ops.no ?_
                  refine Ops.no ?_
                  refine Ops.no ?_
                  refine Ops.no ?_
                  refine Ops.no ?_
                  refine Ops.no ?_
                  refine Ops.no ?_
                  refine Ops.no ?_
                  refine Ops.no ?_
                  refine Ops.no ?_
                  refine oq (y_pickF rfl rfl rfl) rfl wn rfl rfl ?_
                  refine qs rfl rfl rfl <| Ops.nil <| thn_n ?_
                  refine W.condF ?_
                  refine W.skip <| blk_n <| blk_n <| thn_n <| W.region rfl <| qm rfl rfl rfl ?_
                  first | refine oq (yadd rfl rfl rfl) rfl wn rfl rfl ?_ | refine oq (y_addw rfl rfl rfl) rfl wn rfl rfl ?_
                  refine qs rfl rfl rfl <| Ops.nil <| thn_n ?_
                  have h3 : ¬ outs p.fl (-1) ((fs.length : Int) - 1) := by simp_all
                  have hc : ckBerth fs.length s p = 0 := by
                    simp only [ckBerth]
                    rw [if_neg h3, if_neg (by omega), if_neg ?_]
                    first | (rintro ⟨q1, q2⟩; simp_all; done) | (rintro ⟨q1, q2⟩; omega)
                  exact ⟨rfl, k + 1, ⟨by omega, by rw [hd]; simp only [ckBerths, hc]; rfl⟩, by omega, ⟨rfl, rfl, rfl, trivial⟩, .skip rfl (.skip rfl .refl)⟩
            · refine Ops.no ?_
              refine Ops.no ?_
              refine Ops.no ?_
              refine oq (y_pickF rfl rfl rfl) rfl wn rfl rfl ?_
              refine qs rfl rfl rfl <| Ops.nil <| thn_n ?_
              refine W.condF ?_
              refine W.seq <| W.region rfl ?_
              refine oq (y_fieldAddr rfl rfl) rfl wn rfl rfl ?_
              refine oq (yld rfl rfl) rfl wn rfl rfl ?_
              refine oq (y_geq rfl rfl rfl) rfl wn rfl rfl ?_
              refine qm rfl rfl rfl ?_
              refine Ops.ask (fun a16_4 => ?_) (fun a16_4 => ?_)
              · refine oq (y_fieldAddr rfl rfl) rfl (want_some rfl rfl rfl) rfl rfl ?_
                refine oq (yld rfl rfl) rfl (want_some rfl rfl rfl) rfl rfl ?_
                refine oq (y_fieldAddr rfl rfl) rfl (want_some rfl rfl rfl) rfl rfl ?_
                refine oq (yld rfl rfl) rfl (want_some rfl rfl rfl) rfl rfl ?_
                refine oq (y_fieldAddr rfl rfl) rfl (want_some rfl rfl rfl) rfl rfl ?_
                refine oq (yld rfl rfl) rfl (want_some rfl rfl rfl) rfl rfl ?_
                refine oq (y_fieldAddr rfl rfl) rfl (want_some rfl rfl rfl) rfl rfl ?_
                refine oq (yld rfl rfl) rfl (want_some rfl rfl rfl) rfl rfl ?_
                first | refine oq (yadd rfl rfl rfl) rfl (want_some rfl rfl rfl) rfl rfl ?_ | refine oq (y_addw rfl rfl rfl) rfl (want_some rfl rfl rfl) rfl rfl ?_
                refine cp (fun h' hE hL => among_fn _ h' _ _ _) ?_
                refine oq (y_not rfl rfl) rfl (want_some rfl rfl rfl) rfl rfl ?_
                refine oq (y_pickT rfl rfl rfl) rfl wn rfl rfl ?_
                refine qs rfl rfl rfl <| Ops.nil <| thn_n ?_
                refine W.cond rfl (fun c59 => ?_) (fun c59 => ?_)
                · refine W.seq <| W.region rfl <| qs rfl rfl rfl <| Ops.nil <| thn_n <| W.ret <| blk_r <| blk_r <| thn_r <| thn_r ?_
                  refine blk_r <| thn_r ?_
                  refine lvp (hs := .cons rfl (.cons rfl (.cons rfl .nil))) ?_
                  have h3 : ¬ outs p.fl (-1) ((fs.length : Int) - 1) := by simp_all
                  have h4 : outs p.day s.day (s.day + s.wa) := by simp_all
                  have hc : ckBerth fs.length s p = 12 := by simp only [ckBerth]; rw [if_neg h3, if_neg (by omega), if_pos ⟨by assumption, h4⟩]
                  show I _ = I _; congr 1; rw [hd]; simp only [ckBerths, hc]; rfl
                · refine W.skip <| blk_n <| blk_n <| thn_n <| W.region rfl <| qm rfl rfl rfl ?_
                  first | refine oq (yadd rfl rfl rfl) rfl wn rfl rfl ?_ | refine oq (y_addw rfl rfl rfl) rfl wn rfl rfl ?_
                  refine qs rfl rfl rfl <| Ops.nil <| thn_n ?_
                  have h3 : ¬ outs p.fl (-1) ((fs.length : Int) - 1) := by simp_all
                  have hc : ckBerth fs.length s p = 0 := by
                    simp only [ckBerth]
                    rw [if_neg h3, if_neg (by omega), if_neg ?_]
                    first | (rintro ⟨q1, q2⟩; simp_all; done) | (rintro ⟨q1, q2⟩; omega)
                  exact ⟨rfl, k + 1, ⟨by omega, by rw [hd]; simp only [ckBerths, hc]; rfl⟩, by omega, ⟨rfl, rfl, rfl, trivial⟩, .skip rfl (.skip rfl .refl)⟩
              · refine Ops.no ?_
                refine Ops.no ?_
                refine Ops.no ?_
                refine Ops.no ?_
                refine Ops.no ?_
                refine Ops.no ?_
                refine Ops.no ?_
                refine Ops.no ?_
                refine Ops.no ?_
                refine Ops.no ?_
                refine Ops.no ?_
                refine oq (y_pickF rfl rfl rfl) rfl wn rfl rfl ?_
                refine qs rfl rfl rfl <| Ops.nil <| thn_n ?_
                refine W.condF ?_
                refine W.skip <| blk_n <| blk_n <| thn_n <| W.region rfl <| qm rfl rfl rfl ?_
                first | refine oq (yadd rfl rfl rfl) rfl wn rfl rfl ?_ | refine oq (y_addw rfl rfl rfl) rfl wn rfl rfl ?_
                refine qs rfl rfl rfl <| Ops.nil <| thn_n ?_
                have h3 : ¬ outs p.fl (-1) ((fs.length : Int) - 1) := by simp_all
                have hc : ckBerth fs.length s p = 0 := by
                  simp only [ckBerth]
                  rw [if_neg h3, if_neg (by omega), if_neg ?_]
                  first | (rintro ⟨q1, q2⟩; simp_all; done) | (rintro ⟨q1, q2⟩; omega)
                exact ⟨rfl, k + 1, ⟨by omega, by rw [hd]; simp only [ckBerths, hc]; rfl⟩, by omega, ⟨rfl, rfl, rfl, trivial⟩, .skip rfl (.skip rfl .refl)⟩
        · refine W.exit <| thn_x <| thn_x <| blk_x <| thn_n <| W.seq <| W.region rfl <| qs rfl rfl rfl <| Ops.nil <| thn_n ?_
          refine W.ret ?_
          refine lvp (hs := .cons rfl .nil) ?_
          show I _ = I _; congr 1; rw [hd, show k = l.length by omega]; simp [ckBerths]

theorem sums_le {fs : List Fl} {ss : List St} {l : List Be} {f d : Int} (hall : HallOK fs ss) (h0 : 0 ≤ f) (hf : f < fs.length) : ∀ k, 0 ≤ sumK (loG fs ss l f d) k ∧ sumK (loG fs ss l f d) k ≤ sumK (hiG fs ss l f d) k ∧ sumK (hiG fs ss l f d) k ≤ 6 * k
  | 0 => ⟨Int.le_refl _, Int.le_refl _, Int.le_refl _⟩
  | k + 1 => by
    have ih := sums_le (l := l) (d := d) hall h0 hf k
    have hc := co_ok hall k
    have hfo := fl_ok hall h0 hf
    have : 0 ≤ loG fs ss l f d k ∧ loG fs ss l f d k ≤ hiG fs ss l f d k ∧ hiG fs ss l f d k ≤ 6 := by
      simp only [loG, hiG]
      split
      · rw [if_pos (by omega)]; omega
      · split <;> omega
    simp only [sumK]; omega
theorem Rstands_fn (main : Side) (h : Hp) (fs : List Fl) (ss : List St) (l : List Be) (f d : Int) (vf vs vl : Value) (hf : Sl h Fl.row vf fs) (hs : Sl h St.row vs ss) (hl : Sl h Be.row vl l) (hck : ckPlan fs ss l = 0) (hf0 : 0 ≤ f ∧ f < fs.length) : Pu prog main n_ref_stands #[.agg #[vf, vs], vl, I f, I d] h (.agg #[I (sumK (loG fs ss l f d) l.length), I (sumK (hiG fs ss l f d) l.length)]) := by
  obtain ⟨hall, hpl, hn⟩ := plan_ck hck
  have hns := hall.ns
  have hfo := fl_ok hall hf0.1 hf0.2
  have hx0 := flAt_some hf0.1 hf0.2
  obtain ⟨⟨pl, lo, hi', co⟩, hfa⟩ : ∃ x, flAt fs f = x := ⟨_, rfl⟩
  rw [hfa] at hx0 hfo
  dsimp only at hfo
  obtain ⟨a', cap', rfl⟩ := hs.isSl
  obtain ⟨a2, cap2, rfl⟩ := hl.isSl
  obtain ⟨a, cap, rfl⟩ := hf.isSl
  obtain ⟨bf, off, c, E, fz, rfl, hbk, hx1, hy1, hz1⟩ := hf.at hx0
  have hx2 := ext2 hx1
  clear hx1 hz1
  refine Fnc.of_body at_ref_stands rfl (by show 4 ≤ 81; decide) [(0, .agg #[.slice (some ⟨bf, off, none⟩) fs.length cap, .slice a' ss.length cap']), (1, .slice a2 l.length cap2), (2, I f), (3, I d)] ⟨rfl, rfl, rfl, rfl, trivial⟩ ?_
  refine W.seq <| W.region rfl ?_
  refine Ops.box (cs := #[.slice (some ⟨bf, off, none⟩) fs.length cap, .slice a' ss.length cap']) (fun β4 => ?_) rfl rfl rfl
  refine Ops.new (fun β8 => ?_)
  refine Ops.nil <| thn_n <| W.seq <| W.region rfl ?_
  refine Ops.new (fun β9 => ?_)
  refine Ops.nil <| thn_n <| W.seq <| W.region rfl ?_
  refine oq (y_fieldAddr rfl rfl) rfl wn rfl rfl ?_
  refine oq (yld rfl rfl) rfl wn rfl rfl ?_
  refine qm rfl rfl rfl ?_
  first | refine oq (yix rfl rfl rfl) rfl wn rfl rfl ?_ | refine oq (yixI rfl rfl rfl) rfl wn rfl rfl ?_
  refine oq (y_fieldAddr rfl rfl) rfl wn rfl rfl ?_
  first | refine oq (yldW rfl rfl) rfl wn rfl rfl ?_ | refine oq (yldA rfl rfl) rfl wn rfl rfl ?_
  refine Ops.new (fun β10 => ?_)
  first | refine Ops.stoW ?_ | refine Ops.stoA ?_
  refine Ops.nil <| thn_n <| W.seq <| W.seq <| W.region rfl <| qs rfl rfl rfl <| Ops.nil <| thn_n <| W.block ?_
  refine W.loop (σ := Nat) (fun k => k ≤ l.length) (fun k => [(11, I k), (10, .pointer (some ⟨β10, 0, none⟩)), (9, .pointer (some ⟨β9, 0, none⟩)), (8, .pointer (some ⟨β8, 0, none⟩)), (4, .pointer (some ⟨β4, 0, none⟩)), (1, .slice a2 l.length cap2), (2, I f), (3, I d)]) (fun k => [(β10, .cells #[I lo, I hi'] t_Span (0, 0)), (β9, .cells #[I (sumK (loG fs ss l f d) k), I (sumK (hiG fs ss l f d) k)] t_Span (0, 0)), (β8, .cells #[I 0, I 0] t_Span (0, 0)), (β4, .cells #[.slice (some ⟨bf, off, none⟩) fs.length cap, .slice a' ss.length cap'] t_Plant (0, 0))]) (fun k => l.length - k) 0 (Nat.zero_le _) ⟨rfl, rfl, rfl, rfl, rfl, rfl, rfl, rfl, trivial⟩ .refl ?_
  rintro k hk
  refine W.seq <| W.seq <| W.region rfl <| qm rfl rfl rfl <| qm rfl rfl rfl ?_
  refine oq (y_len rfl rfl) rfl wn rfl rfl ?_
  refine oq (y_lss rfl rfl rfl) rfl wn rfl rfl ?_
  refine Ops.nil <| thn_n ?_
  refine W.condp rfl (fun c21 => ?_) (fun c21 => ?_)
  · have hk1 : k < l.length := by omega
    have hb0 := be_some hall hpl hn hk1
    have hpo := hpl.ok.ok _ (List.mem_append_left _ (List.mem_of_getElem? hb0))
    obtain ⟨s, hs0, -⟩ := has (show k < ss.length by omega)
    have hsa : stAt ss k = s := by simp [stAt, List.getD, hs0]
    have hco := co_ok hall k
    rw [hsa] at hco
    have hsum := sums_le (l := l) (d := d) hall hf0.1 hf0.2 k
    have hlg : loG fs ss l f d k = if (beAt l k).fl = f ∧ (beAt l k).day ≤ d ∧ d < (beAt l k).day + lo then s.co else 0 := by rw [loG, hfa, hsa]
    have hhg : hiG fs ss l f d k = if (beAt l k).fl = f ∧ (beAt l k).day ≤ d ∧ d < (beAt l k).day + hi' then s.co else 0 := by rw [hiG, hfa, hsa]
    have hs1 : sumK (loG fs ss l f d) (k + 1) = sumK (loG fs ss l f d) k + loG fs ss l f d k := rfl
    have hs2 : sumK (hiG fs ss l f d) (k + 1) = sumK (hiG fs ss l f d) k + hiG fs ss l f d k := rfl
    rw [hlg] at hs1
    rw [hhg] at hs2
    generalize sumK (loG fs ss l f d) k = x1 at *
    generalize sumK (hiG fs ss l f d) k = x2 at *
    obtain ⟨bl, offl, cl, El, fzl, rfl, hbl, -, hyl, hzl⟩ := hl.at hb0
    have hfl0 : cl[offl + k * 2 + 0]? = some (I (beAt l k).fl) := hzl 0 (by decide)
    have hfl1 : cl[offl + k * 2 + 1]? = some (I (beAt l k).day) := hzl 1 (by decide)
    clear hzl
    obtain ⟨bs, offs, cs, Es, fzs, rfl, hbs, -, hys, hzs⟩ := hs.at hs0
    have hfs : cs[offs + k * 3 + 1]? = some (I s.co) := hzs 1 (by decide)
    clear hzs
    generalize beAt l k = b at *
    refine W.skip <| thn_n <| W.seq <| W.block <| W.seq <| W.seq <| W.region rfl <| qm rfl rfl rfl <| qm rfl rfl rfl ?_
    first | refine oq (yix rfl rfl rfl) rfl wn rfl rfl ?_ | refine oq (yixI rfl rfl rfl) rfl wn rfl rfl ?_
    refine oq (y_fieldAddr rfl rfl) rfl wn rfl rfl ?_
    refine oq (yld rfl rfl) rfl wn rfl rfl ?_
    refine qm rfl rfl rfl ?_
    refine oq (y_neq rfl rfl rfl) rfl wn rfl rfl ?_
    refine qm rfl rfl rfl ?_
    refine Ops.ask (fun a6_8 => ?_) (fun a6_8 => ?_)
    · refine Ops.no ?_
      refine Ops.no ?_
      refine Ops.no ?_
      refine Ops.no ?_
      refine Ops.no ?_
      refine Ops.no ?_
      refine Ops.no ?_
      refine oq (y_pickT rfl rfl rfl) rfl wn rfl rfl ?_
      refine Ops.nil <| thn_n ?_
      refine W.condT ?_
      refine W.exit <| thn_x <| blk_x <| thn_n <| W.region rfl <| qm rfl rfl rfl ?_
      first | refine oq (yadd rfl rfl rfl) rfl wn rfl rfl ?_ | refine oq (y_addw rfl rfl rfl) rfl wn rfl rfl ?_
      refine qs rfl rfl rfl <| Ops.nil <| thn_n ?_
      refine ⟨rfl, k + 1, by omega, by omega, ⟨rfl, rfl, rfl, rfl, rfl, rfl, rfl, rfl, trivial⟩, ?_⟩
      rw [hs1, hs2]
      first
      | (exfalso; omega)
      | (rw [if_neg (by omega), if_neg (by omega), Int.add_zero, Int.add_zero]; exact .refl)
      | (rw [if_neg (by omega), if_pos (by omega), Int.add_zero]; exact .refl)
      | (rw [if_pos (by omega), if_pos (by omega)]; exact .refl)
    · refine oq (y_move rfl rfl) rfl (want_some rfl rfl rfl) rfl rfl ?_
      refine oq (y_move rfl rfl) rfl (want_some rfl rfl rfl) rfl rfl ?_
      refine oq (y_move rfl rfl) rfl (want_some rfl rfl rfl) rfl rfl ?_
      first | refine oq (yix rfl rfl rfl) rfl (want_some rfl rfl rfl) rfl rfl ?_ | refine oq (yixI rfl rfl rfl) rfl (want_some rfl rfl rfl) rfl rfl ?_
      refine oq (y_fieldAddr rfl rfl) rfl (want_some rfl rfl rfl) rfl rfl ?_
      refine oq (yld rfl rfl) rfl (want_some rfl rfl rfl) rfl rfl ?_
      refine oq (y_lss rfl rfl rfl) rfl (want_some rfl rfl rfl) rfl rfl ?_
      refine oq (y_pickF rfl rfl rfl) rfl wn rfl rfl ?_
      refine Ops.nil <| thn_n ?_
      refine W.condp rfl (fun c39 => ?_) (fun c39 => ?_)
      · refine W.exit <| thn_x <| blk_x <| thn_n <| W.region rfl <| qm rfl rfl rfl ?_
        first | refine oq (yadd rfl rfl rfl) rfl wn rfl rfl ?_ | refine oq (y_addw rfl rfl rfl) rfl wn rfl rfl ?_
        refine qs rfl rfl rfl <| Ops.nil <| thn_n ?_
        refine ⟨rfl, k + 1, by omega, by omega, ⟨rfl, rfl, rfl, rfl, rfl, rfl, rfl, rfl, trivial⟩, ?_⟩
        rw [hs1, hs2]
        first
        | (exfalso; omega)
        | (rw [if_neg (by omega), if_neg (by omega), Int.add_zero, Int.add_zero]; exact .refl)
        | (rw [if_neg (by omega), if_pos (by omega), Int.add_zero]; exact .refl)
        | (rw [if_pos (by omega), if_pos (by omega)]; exact .refl)
      · refine W.skip <| thn_n <| W.seq <| W.seq ?_
        refine W.drawP4 (n := 10) rfl ?_
        refine aq (i := 0) (y_move rfl rfl) rfl an rfl rfl ?_
        refine aq (i := 1) (y_move rfl rfl) rfl an rfl rfl ?_
        refine aq (i := 2) (y_move rfl rfl) rfl an rfl rfl ?_
        first | refine aq (i := 3) (yix rfl rfl rfl) rfl an rfl rfl ?_ | refine aq (i := 3) (yixI rfl rfl rfl) rfl an rfl rfl ?_
        refine aq (i := 4) (y_fieldAddr rfl rfl) rfl an rfl rfl ?_
        refine aq (i := 5) (yld rfl rfl) rfl an rfl rfl ?_
        refine aq (i := 6) (y_fieldAddr rfl rfl) rfl an rfl rfl ?_
        refine aq (i := 7) (yld rfl rfl) rfl an rfl rfl ?_
        first | refine aq (i := 8) (yadd rfl rfl rfl) rfl an rfl rfl ?_ | refine aq (i := 8) (y_addw rfl rfl rfl) rfl an rfl rfl ?_
        refine aq (i := 9) (y_lss rfl rfl rfl) rfl an rfl rfl ?_
        refine az ?_
        refine thn_n ?_
        refine W.condp rfl (fun c49 => ?_) (fun c49 => ?_)
        · refine W.drawP4 (n := 11) rfl ?_
          refine aq (i := 0) (y_fieldAddr rfl rfl) rfl an rfl rfl ?_
          refine aq (i := 1) (yld rfl rfl) rfl an rfl rfl ?_
          refine aq (i := 2) (y_fieldAddr rfl rfl) rfl an rfl rfl ?_
          refine aq (i := 3) (yld rfl rfl) rfl an rfl rfl ?_
          refine aq (i := 4) (y_move rfl rfl) rfl an rfl rfl ?_
          first | refine aq (i := 5) (yix rfl rfl rfl) rfl an rfl rfl ?_ | refine aq (i := 5) (yixI rfl rfl rfl) rfl an rfl rfl ?_
          refine aq (i := 6) (y_fieldAddr rfl rfl) rfl an rfl rfl ?_
          refine aq (i := 7) (yld rfl rfl) rfl an rfl rfl ?_
          first | refine aq (i := 8) (yadd rfl rfl rfl) rfl an rfl rfl ?_ | refine aq (i := 8) (y_addw rfl rfl rfl) rfl an rfl rfl ?_
          refine aq (i := 9) (y_fieldAddr rfl rfl) rfl an rfl rfl ?_
          refine ae (i := 10) rfl an rfl rfl (eS rfl rfl rfl ?_)
          refine ⟨.inl (by kernel_rfl), ?_⟩
          refine az ?_
          refine thn_n <| W.seq ?_
          refine W.drawP4 (n := 10) rfl ?_
          refine aq (i := 0) (y_move rfl rfl) rfl an rfl rfl ?_
          refine aq (i := 1) (y_move rfl rfl) rfl an rfl rfl ?_
          refine aq (i := 2) (y_move rfl rfl) rfl an rfl rfl ?_
          first | refine aq (i := 3) (yix rfl rfl rfl) rfl an rfl rfl ?_ | refine aq (i := 3) (yixI rfl rfl rfl) rfl an rfl rfl ?_
          refine aq (i := 4) (y_fieldAddr rfl rfl) rfl an rfl rfl ?_
          refine aq (i := 5) (yld rfl rfl) rfl an rfl rfl ?_
          refine aq (i := 6) (y_fieldAddr rfl rfl) rfl an rfl rfl ?_
          refine aq (i := 7) (yld rfl rfl) rfl an rfl rfl ?_
          first | refine aq (i := 8) (yadd rfl rfl rfl) rfl an rfl rfl ?_ | refine aq (i := 8) (y_addw rfl rfl rfl) rfl an rfl rfl ?_
          refine aq (i := 9) (y_lss rfl rfl rfl) rfl an rfl rfl ?_
          refine az ?_
          refine thn_n ?_
          refine W.condp rfl (fun c69 => ?_) (fun c69 => ?_)
          · refine W.drawP4 (n := 11) rfl ?_
            refine aq (i := 0) (y_fieldAddr rfl rfl) rfl an rfl rfl ?_
            refine aq (i := 1) (yld rfl rfl) rfl an rfl rfl ?_
            refine aq (i := 2) (y_fieldAddr rfl rfl) rfl an rfl rfl ?_
            refine aq (i := 3) (yld rfl rfl) rfl an rfl rfl ?_
            refine aq (i := 4) (y_move rfl rfl) rfl an rfl rfl ?_
            first | refine aq (i := 5) (yix rfl rfl rfl) rfl an rfl rfl ?_ | refine aq (i := 5) (yixI rfl rfl rfl) rfl an rfl rfl ?_
            refine aq (i := 6) (y_fieldAddr rfl rfl) rfl an rfl rfl ?_
            refine aq (i := 7) (yld rfl rfl) rfl an rfl rfl ?_
            first | refine aq (i := 8) (yadd rfl rfl rfl) rfl an rfl rfl ?_ | refine aq (i := 8) (y_addw rfl rfl rfl) rfl an rfl rfl ?_
            refine aq (i := 9) (y_fieldAddr rfl rfl) rfl an rfl rfl ?_
            refine ae (i := 10) rfl an rfl rfl (eS rfl rfl rfl ?_)
            refine ⟨.inl (by kernel_rfl), ?_⟩
            refine az ?_
            refine blk_n <| thn_n <| W.region rfl <| qm rfl rfl rfl ?_
            first | refine oq (yadd rfl rfl rfl) rfl wn rfl rfl ?_ | refine oq (y_addw rfl rfl rfl) rfl wn rfl rfl ?_
            refine qs rfl rfl rfl <| Ops.nil <| thn_n ?_
            refine ⟨rfl, k + 1, by omega, by omega, ⟨rfl, rfl, rfl, rfl, rfl, rfl, rfl, rfl, trivial⟩, ?_⟩
            rw [hs1, hs2]
            first
            | (exfalso; omega)
            | (rw [if_neg (by omega), if_neg (by omega), Int.add_zero, Int.add_zero]; exact .refl)
            | (rw [if_neg (by omega), if_pos (by omega), Int.add_zero]; exact .refl)
            | (rw [if_pos (by omega), if_pos (by omega)]; exact .refl)
          · refine W.skip <| blk_n <| thn_n <| W.region rfl <| qm rfl rfl rfl ?_
            first | refine oq (yadd rfl rfl rfl) rfl wn rfl rfl ?_ | refine oq (y_addw rfl rfl rfl) rfl wn rfl rfl ?_
            refine qs rfl rfl rfl <| Ops.nil <| thn_n ?_
            refine ⟨rfl, k + 1, by omega, by omega, ⟨rfl, rfl, rfl, rfl, rfl, rfl, rfl, rfl, trivial⟩, ?_⟩
            rw [hs1, hs2]
            first
            | (exfalso; omega)
            | (rw [if_neg (by omega), if_neg (by omega), Int.add_zero, Int.add_zero]; exact .refl)
            | (rw [if_neg (by omega), if_pos (by omega), Int.add_zero]; exact .refl)
            | (rw [if_pos (by omega), if_pos (by omega)]; exact .refl)
        · refine W.skip <| thn_n <| W.seq ?_
          refine W.drawP4 (n := 10) rfl ?_
          refine aq (i := 0) (y_move rfl rfl) rfl an rfl rfl ?_
          refine aq (i := 1) (y_move rfl rfl) rfl an rfl rfl ?_
          refine aq (i := 2) (y_move rfl rfl) rfl an rfl rfl ?_
          first | refine aq (i := 3) (yix rfl rfl rfl) rfl an rfl rfl ?_ | refine aq (i := 3) (yixI rfl rfl rfl) rfl an rfl rfl ?_
          refine aq (i := 4) (y_fieldAddr rfl rfl) rfl an rfl rfl ?_
          refine aq (i := 5) (yld rfl rfl) rfl an rfl rfl ?_
          refine aq (i := 6) (y_fieldAddr rfl rfl) rfl an rfl rfl ?_
          refine aq (i := 7) (yld rfl rfl) rfl an rfl rfl ?_
          first | refine aq (i := 8) (yadd rfl rfl rfl) rfl an rfl rfl ?_ | refine aq (i := 8) (y_addw rfl rfl rfl) rfl an rfl rfl ?_
          refine aq (i := 9) (y_lss rfl rfl rfl) rfl an rfl rfl ?_
          refine az ?_
          refine thn_n ?_
          refine W.condp rfl (fun c69 => ?_) (fun c69 => ?_)
          · refine W.drawP4 (n := 11) rfl ?_
            refine aq (i := 0) (y_fieldAddr rfl rfl) rfl an rfl rfl ?_
            refine aq (i := 1) (yld rfl rfl) rfl an rfl rfl ?_
            refine aq (i := 2) (y_fieldAddr rfl rfl) rfl an rfl rfl ?_
            refine aq (i := 3) (yld rfl rfl) rfl an rfl rfl ?_
            refine aq (i := 4) (y_move rfl rfl) rfl an rfl rfl ?_
            first | refine aq (i := 5) (yix rfl rfl rfl) rfl an rfl rfl ?_ | refine aq (i := 5) (yixI rfl rfl rfl) rfl an rfl rfl ?_
            refine aq (i := 6) (y_fieldAddr rfl rfl) rfl an rfl rfl ?_
            refine aq (i := 7) (yld rfl rfl) rfl an rfl rfl ?_
            first | refine aq (i := 8) (yadd rfl rfl rfl) rfl an rfl rfl ?_ | refine aq (i := 8) (y_addw rfl rfl rfl) rfl an rfl rfl ?_
            refine aq (i := 9) (y_fieldAddr rfl rfl) rfl an rfl rfl ?_
            refine ae (i := 10) rfl an rfl rfl (eS rfl rfl rfl ?_)
            refine ⟨.inl (by kernel_rfl), ?_⟩
            refine az ?_
            refine blk_n <| thn_n <| W.region rfl <| qm rfl rfl rfl ?_
            first | refine oq (yadd rfl rfl rfl) rfl wn rfl rfl ?_ | refine oq (y_addw rfl rfl rfl) rfl wn rfl rfl ?_
            refine qs rfl rfl rfl <| Ops.nil <| thn_n ?_
            refine ⟨rfl, k + 1, by omega, by omega, ⟨rfl, rfl, rfl, rfl, rfl, rfl, rfl, rfl, trivial⟩, ?_⟩
            rw [hs1, hs2]
            first
            | (exfalso; omega)
            | (rw [if_neg (by omega), if_neg (by omega), Int.add_zero, Int.add_zero]; exact .refl)
            | (rw [if_neg (by omega), if_pos (by omega), Int.add_zero]; exact .refl)
            | (rw [if_pos (by omega), if_pos (by omega)]; exact .refl)
          · refine W.skip <| blk_n <| thn_n <| W.region rfl <| qm rfl rfl rfl ?_
            first | refine oq (yadd rfl rfl rfl) rfl wn rfl rfl ?_ | refine oq (y_addw rfl rfl rfl) rfl wn rfl rfl ?_
            refine qs rfl rfl rfl <| Ops.nil <| thn_n ?_
            refine ⟨rfl, k + 1, by omega, by omega, ⟨rfl, rfl, rfl, rfl, rfl, rfl, rfl, rfl, trivial⟩, ?_⟩
            rw [hs1, hs2]
            first
            | (exfalso; omega)
            | (rw [if_neg (by omega), if_neg (by omega), Int.add_zero, Int.add_zero]; exact .refl)
            | (rw [if_neg (by omega), if_pos (by omega), Int.add_zero]; exact .refl)
            | (rw [if_pos (by omega), if_pos (by omega)]; exact .refl)
  · have hke : k = l.length := by omega
    subst hke
    refine W.exit <| thn_x <| thn_x <| blk_x <| thn_n <| W.seq <| W.region rfl ?_
    first | refine oq (yldW rfl rfl) rfl wn rfl rfl ?_ | refine oq (yldA rfl rfl) rfl wn rfl rfl ?_
    first | refine Ops.stoW ?_ | refine Ops.stoA ?_
    refine Ops.nil <| thn_n <| W.ret ?_
    exact lvc (hv := rAgg rNil) ⟨rfl, by repeat (first | exact Shut.nil | refine Shut.cons rfl ?_)⟩

end Go.Mus
