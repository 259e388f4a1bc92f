/- When a floor is empty, when cones are done, days of doubt. Conditions: none; over the given program. (And 2 texts more.) -/
import Derived.Test.YtabnpjbnoedfgaaDoorFloorAllQ2
import Derived.Test.YtabnpjbnoedfgaaDoorFloorAllQ1
set_option linter.unusedVariables false
set_option linter.unusedSimpArgs false
set_option linter.unusedSectionVars false

/- When a floor is empty, when cones are done, days of doubt. Conditions: none; over the given program. -/
namespace Go.Mus
set_option maxRecDepth 100000
set_option maxHeartbeats 4000000
theorem Empty_fn (main : Side) (h : Hp) (fs : List Fl) (ss : List St) (l : List Be) (f d : Int) (vf vs vl : Value) (hf : Sl h Fl.row vf fs) (hs : Sl h St.row vs ss) (hl : Sl h Be.row vl l) : Pu prog main n_floor_Empty #[.agg #[vf, vs], vl, I f, I d] h (.tuple #[I (emptyV fs ss l f d).1, I (emptyV fs ss l f d).2]) := by
  obtain ⟨a, cap, rfl⟩ := hf.isSl
  obtain ⟨a', cap', rfl⟩ := hs.isSl
  obtain ⟨a2, cap2, rfl⟩ := hl.isSl
  obtain ⟨s, e, hV⟩ : ∃ s e, standsV fs ss l f d = (s, e) := ⟨_, _, rfl⟩
  refine Fnc.of_body at_floor_Empty rfl (by show 4 ≤ 32; decide) [(0, .agg #[.slice a fs.length cap, .slice a' ss.length cap']), (1, .slice a2 l.length cap2), (2, I f), (3, I d)] ⟨rfl, rfl, rfl, rfl, trivial⟩ ?_
  refine W.seq <| W.region rfl ?_
  refine Ops.box (fun β4 => ?_)
  refine qs rfl rfl rfl <| qs rfl rfl rfl <| Ops.nil <| thn_n <| W.seq <| W.region rfl ?_
  first | refine oq (yldW rfl rfl) rfl wn rfl rfl ?_ | refine oq (yldA rfl rfl) rfl wn rfl rfl ?_
  refine qm rfl rfl rfl <| qm rfl rfl rfl <| qm rfl rfl rfl ?_
  refine cp (u := .tuple #[.agg #[I s.lo, I s.hi], I e]) (fun h' hE hL => ?_) ?_
  · have := Stands_fn main h' fs ss l f d _ _ _ (hf.ext hE) (hs.ext hE) (hl.ext hE)
    rw [hV] at this
    exact this
  refine qm rfl rfl rfl <| oq (y_extract rfl rfl rfl) rfl wn rfl rfl <| oq (y_extract rfl rfl rfl) rfl wn rfl rfl ?_
  refine Ops.new (fun β10 => ?_)
  first | refine Ops.stoW ?_ | refine Ops.stoA ?_
  refine qs rfl rfl rfl <| Ops.nil <| thn_n <| W.seq <| W.block <| W.seq <| W.region rfl <| qm rfl rfl rfl ?_
  refine oq (y_neq rfl rfl rfl) rfl wn rfl rfl ?_
  refine qs rfl rfl rfl <| Ops.nil <| thn_n ?_
  refine W.condp rfl (fun c20 => ?_) (fun c20 => ?_)
  · refine W.seq <| W.region rfl <| qm rfl rfl rfl <| qs rfl rfl rfl <| qs rfl rfl rfl <| Ops.nil <| thn_n <| W.ret <| blk_r <| thn_r ?_
    refine lvp ?_
    simp only [emptyV, hV]; rw [if_pos c20]; rfl
  · refine W.seq <| W.region rfl ?_
    first | refine oq (yldW rfl rfl) rfl wn rfl rfl ?_ | refine oq (yldA rfl rfl) rfl wn rfl rfl ?_
    refine oq (y_build (parts := []) (cs := #[I 0, I 0]) rfl rfl rfl) rfl wn rfl rfl ?_
    refine oq (Yv.eq (u := .bool (decide (s.lo = 0 ∧ s.hi = 0))) (y_eqA [s.lo, s.hi] [0, 0] rfl rfl rfl rfl rfl rfl rfl) (by simp)) rfl wn rfl rfl ?_
    refine qs rfl rfl rfl <| Ops.nil <| thn_n ?_
    refine W.condp rfl (fun c24 => ?_) (fun c24 => ?_)
    · refine W.seq <| W.region rfl <| qs rfl rfl rfl <| qs rfl rfl rfl <| Ops.nil <| thn_n <| W.ret <| blk_r <| thn_r ?_
      refine lvp ?_
      simp only [emptyV, hV]; rw [if_neg c20, emptyS, if_pos c24]; rfl
    · refine W.seq <| W.region rfl ?_
      refine oq (y_fieldAddr rfl rfl) rfl wn rfl rfl ?_
      refine oq (yld rfl rfl) rfl wn rfl rfl ?_
      refine oq (y_gtr rfl rfl rfl) rfl wn rfl rfl ?_
      refine qs rfl rfl rfl <| Ops.nil <| thn_n ?_
      refine W.condp rfl (fun c28 => ?_) (fun c28 => ?_)
      · refine W.seq <| W.region rfl <| qs rfl rfl rfl <| qs rfl rfl rfl <| Ops.nil <| thn_n <| W.ret <| blk_r <| thn_r ?_
        refine lvp ?_
        simp only [emptyV, hV]; rw [if_neg c20, emptyS, if_neg c24, if_pos c28]; rfl
      · refine W.skip <| blk_n <| thn_n <| W.seq <| W.region rfl <| qs rfl rfl rfl <| qs rfl rfl rfl <| Ops.nil <| thn_n <| W.ret ?_
        refine lvp ?_
        simp only [emptyV, hV]; rw [if_neg c20, emptyS, if_neg c24, if_neg c28]; rfl

theorem Ready_fn (main : Side) (h : Hp) (fs : List Fl) (ss : List St) (l : List Be) (i : Int) (vf vs vl : Value) (hf : Sl h Fl.row vf fs) (hs : Sl h St.row vs ss) (hl : Sl h Be.row vl l) : Pu prog main n_floor_Ready #[.agg #[vf, vs], vl, I i] h (.tuple #[(readyV fs ss l i).1.val, I (readyV fs ss l i).2]) := by
  obtain ⟨a, cap, rfl⟩ := hf.isSl
  obtain ⟨a', cap', rfl⟩ := hs.isSl
  obtain ⟨a2, cap2, rfl⟩ := hl.isSl
  obtain ⟨va, vb, pp, hsh, h1a, h1b, hpp, hok⟩ := askV_shape (.slice a fs.length cap) (.slice a' ss.length cap') fs ss l [] rfl rfl
  have hsz : (flat Be.row pp).toArray.size = 8 := by simp [flat_len, hpp]
  have hon : ones (flat Be.row pp).toArray.toList = true := plan_ones
  have hon2 : ones (#[va, vb] : Array Value).toList = true := by simp [ones, h1a, h1b]
  refine Fnc.of_body at_floor_Ready rfl (by show 3 ≤ 57; decide) [(0, .agg #[.slice a fs.length cap, .slice a' ss.length cap']), (1, .slice a2 l.length cap2), (2, I i)] ⟨rfl, rfl, rfl, trivial⟩ ?_
  refine W.seq <| W.region rfl ?_
  refine Ops.box (fun β3 => ?_)
  refine Ops.new (fun β6 => ?_)
  refine qs rfl rfl rfl <| Ops.nil <| thn_n <| W.seq <| W.region rfl ?_
  first | refine oq (yldW rfl rfl) rfl wn rfl rfl ?_ | refine oq (yldA rfl rfl) rfl wn rfl rfl ?_
  refine qm rfl rfl rfl ?_
  refine cp (u := .tuple #[.agg #[va, vb], planV pp, I (askE fs ss l [])]) (fun h' hE hL => by rw [← hsh]; exact asked_fn _ h' fs ss l [] _ _ _ (.slice none 0 0) (hf.ext hE) (hs.ext hE) (hl.ext hE) .nil (by simp)) ?_
  refine qm rfl rfl rfl <| oq (y_extract rfl rfl rfl) rfl wn rfl rfl <| oq (y_extract rfl rfl rfl) rfl wn rfl rfl <| oq (y_extract rfl rfl rfl) rfl wn rfl rfl ?_
  refine Ops.new (fun β8 => ?_)
  refine Ops.new (fun β9 => ?_)
  first | refine Ops.stoW ?_ | refine Ops.stoA ?_
  first | refine Ops.stoW ?_ | refine Ops.stoA ?_
  refine qs rfl rfl rfl <| Ops.nil <| thn_n <| W.seq <| W.seq <| W.region rfl <| qm rfl rfl rfl ?_
  refine oq (y_neq rfl rfl rfl) rfl wn rfl rfl ?_
  refine Ops.nil <| thn_n ?_
  refine W.condp rfl (fun c21 => ?_) (fun c21 => ?_)
  · refine W.seq <| W.region rfl ?_
    refine oq (y_build (parts := []) (cs := #[I 0, I 0]) rfl rfl rfl) rfl wn rfl rfl ?_
    refine qm rfl rfl rfl ?_
    first | refine Ops.stoW ?_ | refine Ops.stoA ?_
    refine qs rfl rfl rfl <| Ops.nil <| thn_n <| W.ret <| thn_r ?_
    refine lvc (hv := rAgg (rTmp rNil)) ⟨?_, by repeat (first | exact Shut.nil | refine Shut.cons rfl ?_)⟩
    simp only [readyV]; rw [if_pos c21]; rfl
  · have h0 : askE fs ss l [] = 0 := by simpa using c21
    obtain ⟨rfl, rfl, rfl⟩ := hok h0
    obtain ⟨hck, -⟩ := askE0 h0
    obtain ⟨hall, hp, hll⟩ := plan_ck hck
    have hns := hall.ns
    refine W.skip <| thn_n <| W.seq <| W.seq <| W.region rfl <| qm rfl rfl rfl ?_
    refine oq (y_fieldAddr rfl rfl) rfl wn rfl rfl ?_
    refine oq (yld rfl rfl) rfl wn rfl rfl ?_
    refine oq (y_len rfl rfl) rfl wn rfl rfl ?_
    first | refine oq (ysub rfl rfl rfl) rfl wn rfl rfl ?_ | refine oq (y_subw rfl rfl rfl) rfl wn rfl rfl ?_
    refine cp (fun h' hE hL => outside_fn _ h' _ _ _) ?_
    refine Ops.nil <| thn_n ?_
    refine W.condp rfl (fun c29 => ?_) (fun c29 => ?_)
    · refine W.seq <| W.region rfl ?_
      refine oq (y_build (parts := []) (cs := #[I 0, I 0]) rfl rfl rfl) rfl wn rfl rfl ?_
      first | refine Ops.stoW ?_ | refine Ops.stoA ?_
      refine qs rfl rfl rfl <| Ops.nil <| thn_n <| W.ret <| thn_r ?_
      refine lvc (hv := rAgg (rTmp rNil)) ⟨?_, by repeat (first | exact Shut.nil | refine Shut.cons rfl ?_)⟩
      simp only [readyV]; rw [if_neg c21, if_pos c29]; rfl
    · have hi : 0 ≤ i ∧ i < ss.length := by simp only [outs, not_or] at c29; omega
      obtain ⟨k, rfl⟩ : ∃ k : Nat, i = k := ⟨i.toNat, by omega⟩
      obtain ⟨hbk, hb1, hb2, hb3, hb4⟩ := beAt_some hp.ok (show k < 4 by omega)
      have hex : (flat Be.row (padB l)).toArray.extract (0 + k * 2) (0 + k * 2 + 2) = #[I (beAt (padB l) k).fl, I (beAt (padB l) k).day] := by
        have hP : Part (flat Be.row (padB l)).toArray 0 (flat Be.row (padB l)) := Part.all _
        have := (hP.rowE hbk).1
        simpa [Be.row] using this
      have hsz8 : 0 + k * 2 + 2 ≤ (flat Be.row (padB l)).toArray.size := by omega
      have hb5 := hp.fl _ (List.mem_of_getElem? hbk)
      rw [be_pad] at hex hb1 hb2 hb3 hb4 hb5
      refine W.skip <| thn_n <| W.seq <| W.region rfl <| qm rfl rfl rfl ?_
      first | refine oq (yixA rfl rfl rfl) rfl wn rfl rfl ?_ | refine oq (yixAI rfl rfl rfl) rfl wn rfl rfl ?_
      refine oq (yldA (vs := #[I (beAt l k).fl, I (beAt l k).day]) rfl rfl (hn := hsz8) (hv := hex)) rfl wn rfl rfl ?_
      refine Ops.new (fun β11 => ?_)
      first | refine Ops.stoW ?_ | refine Ops.stoA ?_
      refine Ops.nil <| thn_n <| W.seq <| W.seq <| W.region rfl ?_
      refine oq (y_fieldAddr rfl rfl) rfl wn rfl rfl ?_
      refine oq (yld rfl rfl) rfl wn rfl rfl ?_
      refine oq (y_lss rfl rfl rfl) rfl wn rfl rfl ?_
      refine Ops.nil <| thn_n ?_
      refine W.condp rfl (fun c36 => ?_) (fun c36 => ?_)
      · refine W.seq <| W.region rfl ?_
        refine oq (y_build (parts := []) (cs := #[I 0, I 0]) rfl rfl rfl) rfl wn rfl rfl ?_
        first | refine Ops.stoW ?_ | refine Ops.stoA ?_
        refine qs rfl rfl rfl <| Ops.nil <| thn_n <| W.ret <| thn_r ?_
        refine lvc (hv := rAgg (rTmp rNil)) ⟨?_, by repeat (first | exact Shut.nil | refine Shut.cons rfl ?_)⟩
        simp only [readyV, Int.toNat_natCast]; rw [if_neg c21, if_neg c29, if_pos c36]; rfl
      · have hx0 := flAt_some (fs := fs) (f := (beAt l k).fl) (by omega) hb5
        have hfo := fl_ok hall (f := (beAt l k).fl) (by omega) hb5
        generalize hb : beAt l k = b at *
        obtain ⟨⟨pl, lo, hi', co⟩, hfa⟩ : ∃ x, flAt fs b.fl = x := ⟨_, rfl⟩
        rw [hfa] at hx0 hfo
        obtain ⟨bf, off, c, E, fz, rfl, hbk', hx1, hy1, hz1⟩ := hf.at hx0
        have hx2 := ext2 hx1
        clear hx1 hz1
        refine W.skip <| thn_n <| W.seq <| W.region rfl ?_
        refine oq (y_fieldAddr rfl rfl) rfl wn rfl rfl ?_
        refine oq (y_fieldAddr rfl rfl) rfl wn rfl rfl ?_
        refine oq (yld rfl rfl) rfl wn rfl rfl ?_
        refine oq (y_fieldAddr rfl rfl) rfl wn rfl rfl ?_
        refine oq (yld rfl rfl) rfl wn rfl rfl ?_
        first | refine oq (yix rfl rfl rfl) rfl wn rfl rfl ?_ | refine oq (yixI rfl rfl rfl) rfl wn rfl rfl ?_
        refine oq (y_fieldAddr rfl rfl) rfl wn rfl rfl ?_
        first | refine oq (yldW rfl rfl) rfl wn rfl rfl ?_ | refine oq (yldA rfl rfl) rfl wn rfl rfl ?_
        refine Ops.new (fun β12 => ?_)
        first | refine Ops.stoW ?_ | refine Ops.stoA ?_
        refine Ops.nil <| thn_n <| W.seq <| W.region rfl ?_
        refine oq (y_fieldAddr rfl rfl) rfl wn rfl rfl ?_
        refine oq (yld rfl rfl) rfl wn rfl rfl ?_
        refine oq (y_fieldAddr rfl rfl) rfl wn rfl rfl ?_
        refine oq (yld rfl rfl) rfl wn rfl rfl ?_
        first | refine oq (yadd rfl rfl rfl) rfl wn rfl rfl ?_ | refine oq (y_addw rfl rfl rfl) rfl wn rfl rfl ?_
        refine oq (y_fieldAddr rfl rfl) rfl wn rfl rfl ?_
        refine oq (yld rfl rfl) rfl wn rfl rfl ?_
        refine oq (y_fieldAddr rfl rfl) rfl wn rfl rfl ?_
        refine oq (yld rfl rfl) rfl wn rfl rfl ?_
        first | refine oq (yadd rfl rfl rfl) rfl wn rfl rfl ?_ | refine oq (y_addw rfl rfl rfl) rfl wn rfl rfl ?_
        refine oq (y_build rfl rfl rfl) rfl wn rfl rfl ?_
        first | refine Ops.stoW ?_ | refine Ops.stoA ?_
        refine qs rfl rfl rfl <| Ops.nil <| thn_n <| W.ret ?_
        refine lvc (hv := rAgg (rTmp rNil)) ⟨?_, by repeat (first | exact Shut.nil | refine Shut.cons rfl ?_)⟩
        simp only [readyV, Int.toNat_natCast]; rw [if_neg c21, if_neg c29, hb, if_neg c36, hfa]; rfl

/-! Days, beside each other -/
theorem eqv_days : EqV prog t_days 44 3 := EqV.array (n := 22) (w := 2) (K := 2) eqv_span.at
instance : EV prog t_days 44 := ⟨eqv_days.le (by decide)⟩
instance : NS prog t_days := ⟨by kernel_rfl, by kernel_rfl⟩
def spI (D : List Sp) : List Int := D.flatMap fun s => [s.lo, s.hi]
theorem spI_flat {D : List Sp} : (spI D).map nI = flat Sp.row D := by
  induction D with
  | nil => rfl
  | cons s D ih => show nI s.lo :: nI s.hi :: (spI D).map nI = _; rw [ih]; rfl
theorem spI_len {D : List Sp} : (spI D).length = D.length * 2 := by
  induction D with
  | nil => rfl
  | cons s D ih => show (spI D).length + 1 + 1 = _; rw [ih, List.length_cons]; omega
theorem spI_inj : ∀ {D D' : List Sp}, D.length = D'.length → spI D = spI D' → D = D'
  | [], [], _, _ => rfl
  | [], _ :: _, h, _ => by simp at h
  | _ :: _, [], h, _ => by simp at h
  | ⟨a, b⟩ :: D, ⟨a', b'⟩ :: D', h, he => by
    have he' : a :: b :: spI D = a' :: b' :: spI D' := he
    simp only [List.cons.injEq] at he'
    obtain ⟨rfl, rfl, h3⟩ := he'
    rw [spI_inj (by simpa using h) h3]

theorem Doubt_fn (main : Side) (h : Hp) (fs : List Fl) (ss : List St) (l : List Be) (vf vs vl : Value) (hf : Sl h Fl.row vf fs) (hs : Sl h St.row vs ss) (hl : Sl h Be.row vl l) : Fnc prog main n_floor_Doubt #[.agg #[vf, vs], vl] h [] (fun v A => ∃ u N us C, v = .tuple #[u, I (doubtV fs ss l).2] ∧ Os t_sl_int rowS u us N ∧ Oss t_int rowI us (doubtV fs ss l).1 C ∧ Sb (N ++ C) A) := by
  obtain ⟨a, cap, rfl⟩ := hf.isSl
  obtain ⟨a', cap', rfl⟩ := hs.isSl
  obtain ⟨a2, cap2, rfl⟩ := hl.isSl
  obtain ⟨va, vb, pp, hsh, h1a, h1b, hpp, hok⟩ := askV_shape (.slice a fs.length cap) (.slice a' ss.length cap') fs ss l [] rfl rfl
  have hsz : (flat Be.row pp).toArray.size = 8 := by simp [flat_len, hpp]
  have hon : ones (flat Be.row pp).toArray.toList = true := plan_ones
  have hon2 : ones (#[va, vb] : Array Value).toList = true := by simp [ones, h1a, h1b]
  refine Fnc.of_body at_floor_Doubt rfl (by show 2 ≤ 57; decide) [(0, .agg #[.slice a fs.length cap, .slice a' ss.length cap']), (1, .slice a2 l.length cap2)] ⟨rfl, rfl, trivial⟩ ?_
  refine W.seq <| W.region rfl ?_
  refine Ops.box (fun β2 => ?_)
  refine qs rfl rfl rfl <| qs rfl rfl rfl <| Ops.nil <| thn_n <| W.seq <| W.region rfl ?_
  first | refine oq (yldW rfl rfl) rfl wn rfl rfl ?_ | refine oq (yldA rfl rfl) rfl wn rfl rfl ?_
  refine qm rfl rfl rfl ?_
  refine cp (u := .tuple #[.agg #[va, vb], planV pp, I (askE fs ss l [])]) (fun h' hE hL => by rw [← hsh]; exact asked_fn _ h' fs ss l [] _ _ _ (.slice none 0 0) (hf.ext hE) (hs.ext hE) (hl.ext hE) .nil (by simp)) ?_
  refine qm rfl rfl rfl <| oq (y_extract rfl rfl rfl) rfl wn rfl rfl <| oq (y_extract rfl rfl rfl) rfl wn rfl rfl <| oq (y_extract rfl rfl rfl) rfl wn rfl rfl ?_
  refine Ops.new (fun β6 => ?_)
  refine Ops.new (fun β7 => ?_)
  first | refine Ops.stoW ?_ | refine Ops.stoA ?_
  first | refine Ops.stoW ?_ | refine Ops.stoA ?_
  refine qs rfl rfl rfl <| Ops.nil <| thn_n <| W.seq <| W.seq <| W.region rfl <| qm rfl rfl rfl ?_
  refine oq (y_neq rfl rfl rfl) rfl wn rfl rfl ?_
  refine Ops.nil <| thn_n ?_
  refine W.condp rfl (fun c22 => ?_) (fun c22 => ?_)
  · refine W.seq <| W.region rfl <| qm rfl rfl rfl <| qs rfl rfl rfl <| qs rfl rfl rfl <| Ops.nil <| thn_n <| W.ret <| thn_r ?_
    refine lvt (vs := [_, _]) ⟨.slice none 0 0, [], [], [], ?_, .nil .nil, ?_, ?_⟩
    · simp only [doubtV]; rw [if_pos c22]; rfl
    · simp only [doubtV]; rw [if_pos c22]; exact .nil
    · repeat (first | exact Sb.refl | refine Sb.skip rfl ?_)
  · have h0 : askE fs ss l [] = 0 := by simpa using c22
    obtain ⟨rfl, rfl, rfl⟩ := hok h0
    obtain ⟨hck, -⟩ := askE0 h0
    obtain ⟨hall, hp, hll⟩ := plan_ck hck
    have hnf := hall.nf
    have hdv : doubtV fs ss l = (dbF fs ss (padB l) fs.length, 0) := by simp only [doubtV]; rw [if_neg c22]
    rw [hdv]
    refine W.skip <| thn_n <| W.seq <| W.region rfl <| qs rfl rfl rfl <| Ops.nil <| thn_n <| W.seq <| W.seq <| W.region rfl ?_
    refine oq (y_fieldAddr rfl rfl) rfl wn rfl rfl ?_
    refine oq (y_fieldAddr rfl rfl) rfl wn rfl rfl ?_
    refine oq (yld rfl rfl) rfl wn rfl rfl ?_
    refine oq (y_len rfl rfl) rfl wn rfl rfl ?_
    refine qm rfl rfl rfl <| Ops.nil <| thn_n <| W.block ?_
    refine W.loop (σ := Nat × List Sv × Option Addr × Nat × Frag × Frag) (fun q => q.1 ≤ fs.length ∧ Os t_sl_int rowS (.slice q.2.2.1 q.2.1.length q.2.2.2.1) q.2.1 q.2.2.2.2.1 ∧ Oss t_int rowI q.2.1 (dbF fs ss (padB l) q.1) q.2.2.2.2.2) (fun q => [(28, I q.1), (27, I fs.length), (9, .slice q.2.2.1 q.2.1.length q.2.2.2.1), (7, .pointer (some ⟨β7, 0, none⟩)), (6, .pointer (some ⟨β6, 0, none⟩))]) (fun q => (β7, .cells (flat Be.row (padB l)).toArray t_plan (0, 0)) :: (β6, .cells #[.slice a fs.length cap, .slice a' ss.length cap'] t_hall (0, 0)) :: (q.2.2.2.2.1 ++ q.2.2.2.2.2)) (fun q => fs.length - q.1) (0, [], none, 0, [], []) ⟨Nat.zero_le _, .nil .nil, .nil⟩ ⟨rfl, rfl, rfl, rfl, rfl, trivial⟩ (.cons (.cons (.skip rfl .refl))) ?_
    rintro ⟨k, us, na, nc, N, C⟩ ⟨hk, hN, hC⟩
    dsimp only at *
    refine W.seq <| W.region rfl ?_
    refine oq (y_lss rfl rfl rfl) rfl wn rfl rfl ?_
    refine Ops.nil <| thn_n <| W.seq ?_
    refine W.condp rfl (fun c29 => ?_) (fun c29 => ?_)
    · have hk1 : k < fs.length := by omega
      obtain ⟨D, hD⟩ : ∃ D, standsD fs ss (padB l) k = D := ⟨_, rfl⟩
      have hDl : D.length = 22 := by rw [← hD]; exact standsD_len
      have hDs := days_sz hDl
      have hon3 : ones (flat Sp.row D).toArray.toList = true := by simpa using flat_ones _
      have hul := hC.len
      have hdl := dbF_len (fs := fs) (ss := ss) (p := padB l) k
      have hdF : dbF fs ss (padB l) (k + 1) = dbF fs ss (padB l) k ++ dbK k D 22 := by rw [dbF, hD]
      refine W.skip <| thn_n <| W.seq <| W.block <| W.seq <| W.region rfl <| qm rfl rfl rfl <| qs rfl rfl rfl <| Ops.nil <| thn_n ?_
      refine W.seq <| W.region rfl ?_
      first | refine oq (yldW rfl rfl) rfl wn rfl rfl ?_ | refine oq (yldA rfl rfl) rfl wn rfl rfl ?_
      first | refine oq (yldW rfl rfl) rfl wn rfl rfl ?_ | refine oq (yldA rfl rfl) rfl wn rfl rfl ?_
      refine qm rfl rfl rfl ?_
      refine cp (u := daysV D) (fun h' hE hL => by rw [← hD]; exact stands_fn _ h' fs ss (padB l) k _ _ (hf.ext hE) (hs.ext hE) hall hp (by omega) (by omega)) ?_
      refine Ops.new (fun β11 => ?_)
      first | refine Ops.stoW ?_ | refine Ops.stoA ?_
      refine Ops.nil <| thn_n <| W.seq <| W.seq <| W.region rfl ?_
      first | refine oq (yldW rfl rfl) rfl wn rfl rfl ?_ | refine oq (yldA rfl rfl) rfl wn rfl rfl ?_
      refine oq (y_build0 rfl) rfl wn rfl rfl ?_
      refine oq (Yv.eq (u := .bool (decide (spI D = spI days0))) (y_eqA (w := 44) (spI D) (spI days0) rfl rfl rfl (by rw [spI_flat]) (by rw [spI_flat]) (by rw [spI_len, hDl]) rfl) rfl) rfl wn rfl rfl ?_
      refine Ops.nil <| thn_n ?_
      refine W.condp rfl (fun c37 => ?_) (fun c37 => ?_)
      · have hz : dbK k D 22 = [] := by rw [spI_inj (by rw [hDl]; rfl) c37]; exact dbK_zero 22
        refine W.exit <| thn_x <| blk_x <| thn_n <| W.region rfl ?_
        first | refine oq (yadd rfl rfl rfl) rfl wn rfl rfl ?_ | refine oq (y_addw rfl rfl rfl) rfl wn rfl rfl ?_
        refine qm rfl rfl rfl <| Ops.nil <| thn_n ?_
        exact ⟨rfl, (k + 1, us, na, nc, N, C), ⟨by simp only; omega, hN, by simp only; rw [hdF, hz, List.append_nil]; exact hC⟩, by simp only; omega, ⟨rfl, rfl, rfl, rfl, rfl, trivial⟩, .skip rfl .refl⟩
      · refine W.skip <| thn_n <| W.seq <| W.region rfl ?_
        first | refine oq (yldW rfl rfl) rfl wn rfl rfl ?_ | refine oq (yldA rfl rfl) rfl wn rfl rfl ?_
        refine qm rfl rfl rfl <| Ops.nil <| thn_n <| W.block ?_
        refine W.loop (σ := Nat × List Sv × Option Addr × Nat × Frag × Frag) (fun q => q.1 ≤ 22 ∧ Os t_sl_int rowS (.slice q.2.2.1 q.2.1.length q.2.2.2.1) q.2.1 q.2.2.2.2.1 ∧ Oss t_int rowI q.2.1 (dbF fs ss (padB l) k ++ dbK k D q.1) q.2.2.2.2.2) (fun q => [(39, I q.1), (38, daysV D), (10, I k), (28, I k), (27, I fs.length), (9, .slice q.2.2.1 q.2.1.length q.2.2.2.1), (7, .pointer (some ⟨β7, 0, none⟩)), (6, .pointer (some ⟨β6, 0, none⟩))]) (fun q => (β7, .cells (flat Be.row (padB l)).toArray t_plan (0, 0)) :: (β6, .cells #[.slice a fs.length cap, .slice a' ss.length cap'] t_hall (0, 0)) :: (q.2.2.2.2.1 ++ q.2.2.2.2.2)) (fun q => 22 - q.1) (0, us, na, nc, N, C) ⟨Nat.zero_le _, hN, by simp only [dbK, List.append_nil]; exact hC⟩ ⟨rfl, rfl, rfl, rfl, rfl, rfl, rfl, rfl, trivial⟩ (.skip rfl .refl) ?_
        rintro ⟨j, us, na, nc, N, C⟩ ⟨hj, hN, hC⟩
        dsimp only at *
        refine W.seq <| W.region rfl ?_
        refine oq (y_lss rfl rfl rfl) rfl wn rfl rfl ?_
        refine Ops.nil <| thn_n <| W.seq ?_
        refine W.condp rfl (fun c40 => ?_) (fun c40 => ?_)
        · obtain ⟨s, hsk, hdr⟩ := has (show j < D.length by omega)
          have hex : (flat Sp.row D).toArray.extract ((j : Int).toNat * 2) ((j : Int).toNat * 2 + 2) = #[I s.lo, I s.hi] := days_ex hsk
          have hgD : D.getD j ⟨0, 0⟩ = s := by simp [List.getD, hsk]
          have hkl := dbK_len (f := k) (D := D) j
          have hul2 := hC.len
          rw [List.length_append] at hul2
          refine W.skip <| thn_n <| W.seq <| W.block <| W.seq <| W.region rfl <| qm rfl rfl rfl ?_
          first | refine oq (y_index rfl rfl rfl (by omega) (by omega) (by first | assumption | rfl)) rfl wn rfl rfl ?_ | refine oq (y_indexA rfl rfl rfl (by omega) (by omega) (by first | assumption | rfl)) rfl wn rfl rfl ?_
          refine Ops.new (fun β13 => ?_)
          refine qs rfl rfl rfl ?_
          first | refine Ops.stoW ?_ | refine Ops.stoA ?_
          refine Ops.nil <| thn_n <| W.seq <| W.region rfl ?_
          refine oq (y_fieldAddr rfl rfl) rfl wn rfl rfl ?_
          refine oq (yld rfl rfl) rfl wn rfl rfl ?_
          refine oq (y_fieldAddr rfl rfl) rfl wn rfl rfl ?_
          refine oq (yld rfl rfl) rfl wn rfl rfl ?_
          refine oq (y_neq rfl rfl rfl) rfl wn rfl rfl ?_
          refine Ops.nil <| thn_n ?_
          refine W.condp rfl (fun c47 => ?_) (fun c47 => ?_)
          · refine W.region rfl <| qm rfl rfl rfl <| qm rfl rfl rfl <| qm rfl rfl rfl ?_
            refine Ops.bsl (cs := #[I k, I j]) (fun β51 => ?_) rfl
            refine Ops.bsl (cs := #[.slice (some ⟨β51, 0, none⟩) 2 2]) (fun β52 => ?_) rfl
            have hOn : Os t_int rowI (.slice (some ⟨β51, 0, none⟩) 2 2) [(k : Int), (j : Int)] [(β51, .cells #[I k, I j] t_int (0, 0))] := .inr ⟨β51, _, 2, [], rfl, rfl, rfl, Nat.le_refl _, Part.all _, .nil⟩
            refine oe rfl wn rfl rfl (e_append (row := rowS) (l' := [(⟨some ⟨β51, 0, none⟩, 2, 2⟩ : Sv)]) rfl rfl rfl hN (.tail (.tail (.tail (.tail (.tail .head))))) (fun h2 _ hl => Sl.mk (hl β52 _ (.head _)) rfl (Part.all (rowS (⟨some ⟨β51, 0, none⟩, 2, 2⟩ : Sv)))) (by simp; omega) (by decide) rfl (fun v3 N3 hN3 => ?_))
            obtain ⟨na3, nc3, rfl⟩ := hN3.isSl
            refine qs rfl rfl rfl <| Ops.nil <| blk_n <| thn_n <| W.region rfl ?_
            first | refine oq (yadd rfl rfl rfl) rfl wn rfl rfl ?_ | refine oq (y_addw rfl rfl rfl) rfl wn rfl rfl ?_
            refine qm rfl rfl rfl <| Ops.nil <| thn_n ?_
            refine ⟨rfl, (j + 1, us ++ [⟨some ⟨β51, 0, none⟩, 2, 2⟩], na3, nc3, N3, C ++ [(β51, .cells #[I k, I j] t_int (0, 0))]), ⟨by simp only; omega, hN3, ?_⟩, by simp only; omega, ⟨rfl, rfl, rfl, rfl, rfl, rfl, rfl, rfl, trivial⟩, ?_⟩
            · have := hC.snoc (s := ⟨some ⟨β51, 0, none⟩, 2, 2⟩) hOn
              simp only [dbK]
              rw [hgD, if_pos c47, ← List.append_assoc]
              exact this
            · dsimp only
              show Sb _ ((β52, .cells #[.slice (some ⟨β51, 0, none⟩) 2 2] t_sl_int (0, 0)) :: (β51, .cells #[I k, I j] t_int (0, 0)) :: (β13, .cells #[I s.lo, I s.hi] t_Span (0, 0)) :: _)
              refine ⟨[(β52, .cells #[.slice (some ⟨β51, 0, none⟩) 2 2] t_sl_int (0, 0)), (β13, .cells #[I s.lo, I s.hi] t_Span (0, 0))], perm_cnt fun y => ?_, .cons rfl (.cons rfl .nil)⟩
              simp only [List.count_append, List.count_cons, List.count_nil]; omega
          · refine W.skip <| blk_n <| thn_n <| W.region rfl ?_
            first | refine oq (yadd rfl rfl rfl) rfl wn rfl rfl ?_ | refine oq (y_addw rfl rfl rfl) rfl wn rfl rfl ?_
            refine qm rfl rfl rfl <| Ops.nil <| thn_n ?_
            refine ⟨rfl, (j + 1, us, na, nc, N, C), ⟨by simp only; omega, hN, ?_⟩, by simp only; omega, ⟨rfl, rfl, rfl, rfl, rfl, rfl, rfl, rfl, trivial⟩, .skip rfl .refl⟩
            simp only [dbK]
            rw [hgD, if_neg c47]
            exact hC
        · refine W.exit <| thn_x <| thn_x <| blk_x <| blk_n <| thn_n <| W.region rfl ?_
          first | refine oq (yadd rfl rfl rfl) rfl wn rfl rfl ?_ | refine oq (y_addw rfl rfl rfl) rfl wn rfl rfl ?_
          refine qm rfl rfl rfl <| Ops.nil <| thn_n ?_
          have hje : j = 22 := by omega
          subst hje
          exact ⟨rfl, (k + 1, us, na, nc, N, C), ⟨by simp only; omega, hN, by simp only; rw [hdF]; exact hC⟩, by simp only; omega, ⟨rfl, rfl, rfl, rfl, rfl, trivial⟩, .refl⟩
    · have hke : k = fs.length := by omega
      subst hke
      refine W.exit <| thn_x <| thn_x <| blk_x <| thn_n <| W.seq <| W.region rfl <| qm rfl rfl rfl <| qs rfl rfl rfl <| qs rfl rfl rfl ?_
      refine Ops.nil <| thn_n <| W.ret ?_
      exact lvt (vs := [_, _]) ⟨_, N, us, C, rfl, hN, hC, .skip rfl (.skip rfl .refl)⟩
end Go.Mus

/- All heats gone through. Conditions: none; over the given program. -/
namespace Go.Mus
set_option maxRecDepth 100000
set_option maxHeartbeats 40000000
theorem EqInts_fn (main : Side) (h : Hp) (l l' : List Int) (v v' : Value) (hl : Sl h rowI v l) (hl' : Sl h rowI v' l') (hn : l.length ≤ 100000) : Pu prog main n_kit_EqInts #[v, v'] h (.bool (decide (l = l'))) := by
  obtain ⟨a, cap, rfl⟩ := hl.isSl
  obtain ⟨a', cap', rfl⟩ := hl'.isSl
  refine Fnc.of_body at_kit_EqInts rfl (by show 2 ≤ 32; decide) [(0, .slice a l.length cap), (1, .slice a' l'.length cap')] ⟨rfl, rfl, trivial⟩ ?_
  refine W.seq <| W.region rfl <| qs rfl rfl rfl <| Ops.nil <| thn_n <| W.seq <| W.seq <| W.region rfl <| qs rfl rfl rfl <| Ops.nil ?_
  refine thn_n <| W.block ?_
  refine W.loop (σ := Nat) (fun k => k ≤ l.length ∧ k ≤ l'.length ∧ l.take k = l'.take k) (fun k => [(5, I k), (0, .slice a l.length cap), (1, .slice a' l'.length cap')]) (fun _ => []) (fun k => l.length - k) 0 ⟨Nat.zero_le _, Nat.zero_le _, rfl⟩ ⟨rfl, rfl, rfl, trivial⟩ sbA ?_
  rintro k ⟨hk, hk', he⟩
  refine W.seq <| W.seq <| W.region rfl <| qm rfl rfl rfl <| qm rfl rfl rfl ?_
  refine oq (y_len rfl rfl) rfl wn rfl rfl ?_
  refine oq (y_lss rfl rfl rfl) rfl wn rfl rfl ?_
  refine qm rfl rfl rfl ?_
  refine Ops.ask (fun a2_5 => ?_) (fun a2_5 => ?_)
  · refine oq (y_move rfl rfl) rfl (want_some rfl rfl rfl) rfl rfl ?_
    refine oq (y_move rfl rfl) rfl (want_some rfl rfl rfl) rfl rfl ?_
    refine oq (y_len rfl rfl) rfl (want_some rfl rfl rfl) rfl rfl ?_
    refine oq (y_lss rfl rfl rfl) rfl (want_some rfl rfl rfl) rfl rfl ?_
    refine oq (y_pickT rfl rfl rfl) rfl wn rfl rfl ?_
    refine Ops.nil <| thn_n ?_
    refine W.condp rfl (fun c15 => ?_) (fun c15 => ?_)
    · obtain ⟨p, hp, -⟩ := has (show k < l.length by omega)
      obtain ⟨q, hq, -⟩ := has (show k < l'.length by omega)
      obtain ⟨b, off, c, E, fz, rfl, hb, -, hy1, hz1⟩ := hl.at hp
      have hx2 : c[off + k * 1 + 0]? = some (I p) := hz1 0 (by decide)
      clear hz1
      obtain ⟨b', off', c', E', fz', rfl, hb', -, hy2, hz1⟩ := hl'.at hq
      have hx3 : c'[off' + k * 1 + 0]? = some (I q) := hz1 0 (by decide)
      clear hz1
      refine W.skip <| thn_n <| W.seq <| W.block <| W.seq ?_
      refine W.drawF (n := 9) rfl ?_
      refine aq (i := 0) (y_move rfl rfl) rfl an rfl rfl ?_
      refine aq (i := 1) (y_move rfl rfl) rfl an rfl rfl ?_
      first | refine aq (i := 2) (yix rfl rfl rfl) rfl an rfl rfl ?_ | refine aq (i := 2) (yixI rfl rfl rfl) rfl an rfl rfl ?_
      refine aq (i := 3) (yld rfl rfl) rfl an rfl rfl ?_
      refine aq (i := 4) (y_move rfl rfl) rfl an rfl rfl ?_
      refine aq (i := 5) (y_move rfl rfl) rfl an rfl rfl ?_
      first | refine aq (i := 6) (yix rfl rfl rfl) rfl an rfl rfl ?_ | refine aq (i := 6) (yixI rfl rfl rfl) rfl an rfl rfl ?_
      refine aq (i := 7) (yld rfl rfl) rfl an rfl rfl ?_
      refine aq (i := 8) (y_neq rfl rfl rfl) rfl an rfl rfl ?_
      refine az ?_
      refine thn_n ?_
      refine W.condp rfl (fun c26 => ?_) (fun c26 => ?_)
      · refine W.seq <| W.region rfl <| qs rfl rfl rfl <| Ops.nil <| thn_n <| W.ret <| blk_r <| thn_r <| thn_r <| blk_r ?_
        refine thn_r ?_
        refine lvp ?_
        refine congrArg Value.bool (decide_eq_false fun e => ?_).symm
        subst e
        rw [hp] at hq
        cases hq
        exact c26 rfl
      · refine W.skip <| blk_n <| thn_n <| W.region rfl <| qm rfl rfl rfl ?_
        first | refine oq (yadd rfl rfl rfl) rfl wn rfl rfl ?_ | refine oq (y_addw rfl rfl rfl) rfl wn rfl rfl ?_
        refine qs rfl rfl rfl <| Ops.nil <| thn_n ?_
        have hpq : p = q := Decidable.byContradiction c26
        subst hpq
        exact ⟨rfl, k + 1, ⟨by omega, by omega, by rw [take_next hp, take_next hq, he]⟩, by omega, ⟨rfl, rfl, rfl, trivial⟩, sbA⟩
    · refine W.exit <| thn_x <| thn_x <| blk_x <| thn_n <| W.seq <| W.region rfl <| qm rfl rfl rfl ?_
      refine oq (y_len rfl rfl) rfl wn rfl rfl ?_
      refine qm rfl rfl rfl ?_
      refine oq (y_len rfl rfl) rfl wn rfl rfl ?_
      refine oq (y_eql rfl rfl rfl) rfl wn rfl rfl ?_
      refine qs rfl rfl rfl <| Ops.nil <| thn_n <| W.ret ?_
      refine lvp ?_
      refine congrArg Value.bool (decide_eq_decide.2 ⟨fun e => ?_, fun e => ?_⟩)
      · have e' : l.length = l'.length := by omega
        have hkl : k = l.length := by omega
        rw [← List.take_length (l := l), ← List.take_length (l := l'), ← e', ← hkl, he]
      · rw [e]
  · refine Ops.no ?_
    refine Ops.no ?_
    refine Ops.no ?_
    refine Ops.no ?_
    refine oq (y_pickF rfl rfl rfl) rfl wn rfl rfl ?_
    refine Ops.nil <| thn_n ?_
    refine W.condF ?_
    refine W.exit <| thn_x <| thn_x <| blk_x <| thn_n <| W.seq <| W.region rfl <| qm rfl rfl rfl ?_
    refine oq (y_len rfl rfl) rfl wn rfl rfl ?_
    refine qm rfl rfl rfl ?_
    refine oq (y_len rfl rfl) rfl wn rfl rfl ?_
    refine oq (y_eql rfl rfl rfl) rfl wn rfl rfl ?_
    refine qs rfl rfl rfl <| Ops.nil <| thn_n <| W.ret ?_
    refine lvp ?_
    refine congrArg Value.bool (decide_eq_decide.2 ⟨fun e => ?_, fun e => ?_⟩)
    · have e' : l.length = l'.length := by omega
      have hkl : k = l.length := by omega
      rw [← List.take_length (l := l), ← List.take_length (l := l'), ← e', ← hkl, he]
    · rw [e]

theorem heats_pos {fs : List Fl} {ss : List St} {l : List Be} (h : ckPlan fs ss l = 0) : 0 < (heatsF fs l).length := by
  obtain ⟨hall, hp, hn⟩ := plan_ck h
  exact List.length_pos_of_mem (mem_heats.2 (isHeat_map hall hp hn (g := fun b => (spanOf fs b).1) fun b hb => ⟨Int.le_refl _, span_ok hall hp hn hb⟩))
theorem ready_val {fs : List Fl} {ss : List St} {l : List Be} (h : ckPlan fs ss l = 0) {k : Nat} (hk : k < l.length) : readyV fs ss l k = if (beAt l k).fl < 0 then (⟨0, 0⟩, 8) else (⟨(beAt l k).day + (flAt fs (beAt l k).fl).lo, (beAt l k).day + (flAt fs (beAt l k).fl).hi⟩, 0) := by
  obtain ⟨-, -, hn⟩ := plan_ck h
  rw [readyV, if_neg (by rw [ask_nil h]; decide), if_neg (by unfold outs; omega), Int.toNat_natCast]

theorem FloorAll_top (main : Side) (hS : ∀ S, main.ok S → ∃ Fin, S = Mn prog Fin) (hmb : main.b = true) (h : Hp) (nums : List Int) (lv : Value) (Eg : TypeId) (zg : Nat × Nat) (hl : Sl h rowI lv nums) (hg : h 0 = some (.cells #[rtV t_error] Eg zg)) (z0 : h.z 0) : TopV prog main n_law_FloorAll #[lv] h (.bool true) := by
  refine TopV.of_body at_law_FloorAll rfl (by show 1 ≤ 207; decide) [(0, lv)] ⟨rfl, trivial⟩ ?_
  refine W.seq <| W.region rfl <| qs rfl rfl rfl <| Ops.nil <| thn_n <| W.seq <| W.region rfl <| qm rfl rfl rfl ?_
  refine c0 (fun h' hE hL => NewHat_fn _ h' nums lv (hl.ext hE)) (fun v A' hv => ?_)
  obtain ⟨bh, s0, rfl, rfl⟩ := hv
  refine cg (A := [(bh, _)]) .head (fun h' hE hL => tiny_fn _ h' nums lv bh s0 (hl.ext hE)) (fun v A' hv => ?_)
  obtain ⟨vf, vs, vl, fs, ss, l, Sf, Ss, Sq, rfl, ⟨hOf, hOs, hOl⟩, ⟨hck, hcp, hn4, hw⟩, hsb⟩ := hv
  refine Ops.sb (F' := Sq ++ (Sf ++ Ss)) (hsb.trans (Sb.right .refl .nil)) ?_
  obtain ⟨a, cap, rfl⟩ := hOf.isSl
  obtain ⟨a', cap', rfl⟩ := hOs.isSl
  obtain ⟨al, lc, rfl⟩ := hOl.isSl
  obtain ⟨hall, hp, hn⟩ := plan_ck hcp
  have hnf := hall.nf
  have hlen : l.length ≤ 4 := by have := ckPlan0 hcp; omega
  have hdv : doubtV fs ss l = (dbF fs ss (padB l) fs.length, 0) := by rw [doubtV, if_neg (by rw [ask_nil hcp]; decide)]
  refine qm rfl rfl rfl <| oq (y_extract rfl rfl rfl) rfl wn rfl rfl <| oq (y_extract rfl rfl rfl) rfl wn rfl rfl ?_
  refine Ops.new (fun β3 => ?_)
  first | refine Ops.stoW ?_ | refine Ops.stoA ?_
  refine qs rfl rfl rfl <| Ops.nil <| thn_n ?_
  refine freezeAt hOl (.tail .head) (fun hz hEz hsll hzl => ?_)
  refine freezeAt hOf (.tail .head) (fun hx hEx hslf hzf => ?_)
  refine freezeAt hOs (.tail .all) (fun hy hEy hsls hzs => ?_)
  have hE0 := (hEz.trans hEx).trans hEy
  replace hsll := hsll.ext (hEx.trans hEy)
  replace hslf := hslf.ext hEy
  refine W.seq <| W.region rfl ?_
  first | refine oq (yldW rfl rfl) rfl wn rfl rfl ?_ | refine oq (yldA rfl rfl) rfl wn rfl rfl ?_
  refine qm rfl rfl rfl ?_
  refine c0 (fun h' hE hL => heats_fn _ h' fs ss l _ _ _ (hslf.ext hE) (hsll.ext hE) hcp) (fun v A' hv => ?_)
  obtain ⟨O, us, B, hO, hB, hHl, hsb2⟩ := hv
  obtain ⟨ua, uc, rfl⟩ := hO.isSl
  refine Ops.sb (F' := (β3, .cells #[.slice a fs.length cap, .slice a' ss.length cap'] t_Plant (0, 0)) :: (O ++ B)) (Sb.trans (.of_perm (List.perm_append_comm (l₁ := [_]))) (hsb2.app .refl)) ?_
  refine qs rfl rfl rfl <| Ops.nil <| thn_n <| W.seq <| W.region rfl ?_
  first | refine oq (yldW rfl rfl) rfl wn rfl rfl ?_ | refine oq (yldA rfl rfl) rfl wn rfl rfl ?_
  refine qm rfl rfl rfl ?_
  refine c0 (fun h' hE hL => Doubt_fn _ h' fs ss l _ _ _ (hslf.ext hE) (hsls.ext hE) (hsll.ext hE)) (fun v A' hv => ?_)
  rw [hdv] at hv
  obtain ⟨u, N, us2, C, rfl, hN, hC, hsb3⟩ := hv
  obtain ⟨da, dc, rfl⟩ := hN.isSl
  refine Ops.sb (hsb3.app .refl) ?_
  refine qm rfl rfl rfl <| oq (y_extract rfl rfl rfl) rfl wn rfl rfl <| oq (y_extract rfl rfl rfl) rfl wn rfl rfl <| qs rfl rfl rfl <| qs rfl rfl rfl <| Ops.nil <| thn_n <| W.seq <| W.seq <| W.region rfl ?_
  refine qm rfl rfl rfl ?_
  refine oq ((y_neq rfl rfl rfl).eq (u := .bool false) rfl) rfl wn rfl rfl ?_
  refine Ops.nil <| thn_n ?_
  refine W.condF ?_
  refine W.skip <| thn_n <| W.seq <| W.region rfl <| qs rfl rfl rfl <| Ops.nil <| thn_n <| W.seq ?_
  have hul := hB.len
  have hdl : us2.length = (dbF fs ss (padB l) fs.length).length := hC.len
  have hd44 := dbF_len (fs := fs) (ss := ss) (p := padB l) fs.length
  refine W.sb (F' := O ++ (B ++ (N ++ (C ++ [(β3, .cells #[.slice a fs.length cap, .slice a' ss.length cap'] t_Plant (0, 0))])))) (.of_perm (perm_cnt fun y => by simp only [List.count_append, List.count_cons, List.count_nil]; omega)) ?_
  refine freezeOs hO (fun g1 hG1 hslO hzO => ?_)
  refine freezeOss hB (fun g2 hG2 hslB => ?_)
  refine freezeOs hN (fun g3 hG3 hslN hzN => ?_)
  refine freezeOss hC (fun g4 hG4 hslC => ?_)
  have hG34 := hG3.trans hG4
  have hGG := (hG1.trans hG2).trans hG34
  refine W.seq <| W.region rfl <| qs rfl rfl rfl <| Ops.nil <| thn_n <| W.block ?_
  refine W.loop (σ := Nat) (fun k => k ≤ fs.length) (fun k => [(9, I k), (8, I (dbF fs ss (padB l) k).length), (6, .slice da us2.length dc), (5, .slice ua us.length uc), (4, .slice al l.length lc), (3, .pointer (some ⟨β3, 0, none⟩))]) (fun _ => [(β3, .cells #[.slice a fs.length cap, .slice a' ss.length cap'] t_Plant (0, 0))]) (fun k => fs.length - k) 0 (Nat.zero_le _) ⟨rfl, rfl, rfl, rfl, rfl, rfl, trivial⟩ .refl ?_
  rintro k hk
  refine W.seq <| W.seq <| W.region rfl <| qm rfl rfl rfl ?_
  refine oq (y_fieldAddr rfl rfl) rfl wn rfl rfl ?_
  refine oq (yld rfl rfl) rfl wn rfl rfl ?_
  refine oq (y_len rfl rfl) rfl wn rfl rfl ?_
  refine oq (y_lss rfl rfl rfl) rfl wn rfl rfl ?_
  refine Ops.nil <| thn_n ?_
  refine W.condp rfl (fun c45 => ?_) (fun c45 => ?_)
  · have hk1 : k < fs.length := by omega
    obtain ⟨D, hD⟩ : ∃ D, standsD fs ss (padB l) k = D := ⟨_, rfl⟩
    have hDl : D.length = 22 := by rw [← hD]; exact standsD_len
    have hdF : (dbF fs ss (padB l) (k + 1)).length = (dbF fs ss (padB l) k).length + (dbK k D 22).length := by rw [dbF, hD, List.length_append]
    refine W.skip <| thn_n <| W.seq <| W.block <| W.seq <| W.region rfl <| qs rfl rfl rfl <| Ops.nil <| thn_n <| W.block ?_
    refine W.loop (σ := Nat) (fun j => j ≤ 22) (fun j => [(10, I j), (9, I k), (8, I (((dbF fs ss (padB l) k).length + (dbK k D j).length : Nat) : Int)), (6, .slice da us2.length dc), (5, .slice ua us.length uc), (4, .slice al l.length lc), (3, .pointer (some ⟨β3, 0, none⟩))]) (fun _ => [(β3, .cells #[.slice a fs.length cap, .slice a' ss.length cap'] t_Plant (0, 0))]) (fun j => 22 - j) 0 (Nat.zero_le _) ⟨rfl, rfl, lk rfl (show I _ = I _ by simp [dbK]), rfl, rfl, rfl, rfl, trivial⟩ .refl ?_
    rintro j hj
    refine W.seq <| W.seq <| W.region rfl <| qm rfl rfl rfl ?_
    refine oq (y_leq rfl rfl rfl) rfl wn rfl rfl ?_
    refine Ops.nil <| thn_n ?_
    refine W.condp rfl (fun c49 => ?_) (fun c49 => ?_)
    · have hj1 : j < 22 := by omega
      have hsv := stands_val hcp hk1 hj1
      have hmm := all_stands hall hp hn (f := (k : Int)) (d := (j : Int)) (by omega)
      have hgD : D.getD j ⟨0, 0⟩ = ⟨loAt fs ss (padB l) k j, hiAt fs ss (padB l) k j⟩ := by rw [← hD]; exact stands_get hcp hk1 hj1
      have hat := db_at (fs := fs) (ss := ss) (p := padB l) hk1 hj1
      rw [hD, hgD] at hat
      have hdJ : dbK k D (j + 1) = if loAt fs ss (padB l) k j ≠ hiAt fs ss (padB l) k j then dbK k D j ++ [[(k : Int), (j : Int)]] else dbK k D j := by rw [dbK, hgD]
      generalize loAt fs ss (padB l) k j = lo at *
      generalize hiAt fs ss (padB l) k j = hi at *
      refine W.skip <| thn_n <| W.seq <| W.block <| W.seq <| W.region rfl ?_
      refine oq (y_build (parts := []) (cs := #[I 0, I 0]) rfl rfl rfl) rfl wn rfl rfl ?_
      refine Ops.new (fun β11 => ?_)
      first | refine Ops.stoW ?_ | refine Ops.stoA ?_
      refine qs rfl rfl rfl <| Ops.nil <| thn_n <| W.seq <| W.seq <| W.region rfl <| qs rfl rfl rfl <| Ops.nil <| thn_n <| W.block ?_
      refine W.loop (σ := Nat × Int × Int) (fun q => q.1 ≤ us.length ∧ MmS (hcone ss l (heatsF fs l) k j) q.1 q.2.1 q.2.2) (fun q => [(13, I q.1), (12, I (cntZ (hcone ss l (heatsF fs l) k j) q.1)), (11, .pointer (some ⟨β11, 0, none⟩)), (10, I j), (9, I k), (8, I (((dbF fs ss (padB l) k).length + (dbK k D j).length : Nat) : Int)), (6, .slice da us2.length dc), (5, .slice ua us.length uc), (4, .slice al l.length lc), (3, .pointer (some ⟨β3, 0, none⟩))]) (fun q => [(β11, .cells #[I q.2.1, I q.2.2] t_Span (0, 0)), (β3, .cells #[.slice a fs.length cap, .slice a' ss.length cap'] t_Plant (0, 0))]) (fun q => us.length - q.1) (0, 0, 0) ⟨Nat.zero_le _, .inl ⟨rfl, rfl, rfl⟩⟩ ⟨rfl, rfl, rfl, rfl, rfl, rfl, rfl, rfl, rfl, rfl, trivial⟩ .refl ?_
      rintro ⟨i, lo', hi'⟩ ⟨hi0, hM⟩
      dsimp only at *
      refine W.seq <| W.seq <| W.region rfl <| qm rfl rfl rfl <| qm rfl rfl rfl ?_
      refine oq (y_len rfl rfl) rfl wn rfl rfl ?_
      refine oq (y_lss rfl rfl rfl) rfl wn rfl rfl ?_
      refine Ops.nil <| thn_n ?_
      refine W.condp rfl (fun c56 => ?_) (fun c56 => ?_)
      · have hi1 : i < us.length := by omega
        obtain ⟨g, hgk, -⟩ := has (show i < (heatsF fs l).length by omega)
        obtain ⟨s, hs0, -⟩ := has hi1
        have hht := mem_heats.1 (List.mem_of_getElem? hgk)
        obtain ⟨hslg, -⟩ := hslB i s g hs0 hgk
        have hslO2 := hslO.ext (hG2.trans hG34)
        obtain ⟨bo, offo, co, Eo, fzo, rfl, hbo, -, hyo, hzo⟩ := hslO2.at hs0
        have hcell : co[offo + i * 1 + 0]? = some (.slice s.a s.n s.cap) := hzo 0 (by decide)
        clear hzo
        have hgi : hcone ss l (heatsF fs l) k j i = conesF ss l g k j := by simp [hcone, List.getD, hgk]
        have hcz : cntZ (hcone ss l (heatsF fs l) k j) (i + 1) = if conesF ss l g k j = 0 then cntZ (hcone ss l (heatsF fs l) k j) i + 1 else cntZ (hcone ss l (heatsF fs l) k j) i := by rw [cntZ, hgi]
        have hczl := cntZ_le (g := hcone ss l (heatsF fs l) k j) i
        have hcb := heG_co (ss := ss) (l := l) (ht := g) (fs := fs) hall (f := (k : Int)) (d := (j : Int)) l.length
        have hcb2 : 0 ≤ conesF ss l g k j ∧ conesF ss l g k j ≤ 24 := by unfold conesF; omega
        clear hcb
        refine W.skip <| thn_n <| W.seq <| W.block <| W.seq ?_
        refine W.drawF (n := 10) rfl ?_
        first | refine aq (i := 0) (yldW rfl rfl) rfl an rfl rfl ?_ | refine aq (i := 0) (yldA rfl rfl) rfl an rfl rfl ?_
        refine aq (i := 1) (y_move rfl rfl) rfl an rfl rfl ?_
        refine aq (i := 2) (y_move rfl rfl) rfl an rfl rfl ?_
        refine aq (i := 3) (y_move rfl rfl) rfl an rfl rfl ?_
        first | refine aq (i := 4) (yix rfl rfl rfl) rfl an rfl rfl ?_ | refine aq (i := 4) (yixI rfl rfl rfl) rfl an rfl rfl ?_
        refine aq (i := 5) (yld rfl rfl) rfl an rfl rfl ?_
        refine aq (i := 6) (y_move rfl rfl) rfl an rfl rfl ?_
        refine aq (i := 7) (y_move rfl rfl) rfl an rfl rfl ?_
        refine acp (i := 8) (vs := [.agg #[.slice a fs.length cap, .slice a' ss.length cap'], .slice al l.length lc, s.val, I k, I j]) (fun h' hE hL => cones_fn _ h' fs ss l g k j _ _ _ s.val (hsls.ext (hGG.trans hE)) (hsll.ext (hGG.trans hE)) (hslg.ext (hG34.trans hE)) hcp hht) ?_
        refine aq (i := 9) (y_assign rfl rfl) rfl an rfl rfl ?_
        refine az ?_
        refine thn_n <| W.seq <| W.seq <| W.region rfl <| qm rfl rfl rfl ?_
        refine oq (y_eql rfl rfl rfl) rfl wn rfl rfl ?_
        refine Ops.nil <| thn_n ?_
        refine W.condp rfl (fun c69 => ?_) (fun c69 => ?_)
        · have hi00 : i = 0 := by omega
          have hM2 : MmS (hcone ss l (heatsF fs l) k j) (i + 1) (min (conesF ss l g k j) (conesF ss l g k j)) (max (conesF ss l g k j) (conesF ss l g k j)) := by
            subst hi00
            have := hM
            rcases this with ⟨-, rfl, rfl⟩ | ⟨h0, -⟩
            · have := hM.first; rwa [hgi] at this
            · omega
          refine W.region rfl <| qm rfl rfl rfl <| qm rfl rfl rfl ?_
          refine oq (y_build (parts := [⟨_, _⟩, ⟨_, _⟩]) (cs := #[I (conesF ss l g k j), I (conesF ss l g k j)]) rfl rfl rfl) rfl wn rfl rfl ?_
          first | refine Ops.stoW ?_ | refine Ops.stoA ?_
          refine Ops.nil <| thn_n <| W.seq <| W.region rfl ?_
          refine oq (y_fieldAddr rfl rfl) rfl wn rfl rfl ?_
          refine oq (yld rfl rfl) rfl wn rfl rfl ?_
          refine qm rfl rfl rfl ?_
          refine oq (y_min rfl rfl rfl) rfl wn rfl rfl ?_
          refine oq (y_fieldAddr rfl rfl) rfl wn rfl rfl ?_
          refine oq (yld rfl rfl) rfl wn rfl rfl ?_
          refine qm rfl rfl rfl ?_
          refine oq (y_max rfl rfl rfl) rfl wn rfl rfl ?_
          refine oq (y_build rfl rfl rfl) rfl wn rfl rfl ?_
          first | refine Ops.stoW ?_ | refine Ops.stoA ?_
          refine Ops.nil <| thn_n <| W.seq <| W.region rfl <| qm rfl rfl rfl ?_
          refine oq (y_eql rfl rfl rfl) rfl wn rfl rfl ?_
          refine Ops.nil <| thn_n ?_
          refine W.condp rfl (fun c83 => ?_) (fun c83 => ?_)
          · refine W.region rfl <| qm rfl rfl rfl ?_
            first | refine oq (yadd rfl rfl rfl) rfl wn rfl rfl ?_ | refine oq (y_addw rfl rfl rfl) rfl wn rfl rfl ?_
            refine qs rfl rfl rfl <| Ops.nil <| blk_n <| thn_n <| W.region rfl <| qm rfl rfl rfl ?_
            first | refine oq (yadd rfl rfl rfl) rfl wn rfl rfl ?_ | refine oq (y_addw rfl rfl rfl) rfl wn rfl rfl ?_
            refine qs rfl rfl rfl <| Ops.nil <| thn_n ?_
            exact ⟨rfl, (i + 1, _, _), ⟨by simp only; omega, hM2⟩, by simp only; omega, ⟨rfl, lk rfl (show I _ = I _ by rw [hcz, if_pos c83]), rfl, rfl, rfl, rfl, rfl, rfl, rfl, rfl, trivial⟩, .refl⟩
          · refine W.skip <| blk_n <| thn_n <| W.region rfl <| qm rfl rfl rfl ?_
            first | refine oq (yadd rfl rfl rfl) rfl wn rfl rfl ?_ | refine oq (y_addw rfl rfl rfl) rfl wn rfl rfl ?_
            refine qs rfl rfl rfl <| Ops.nil <| thn_n ?_
            exact ⟨rfl, (i + 1, _, _), ⟨by simp only; omega, hM2⟩, by simp only; omega, ⟨rfl, lk rfl (show I _ = I _ by rw [hcz, if_neg c83]), rfl, rfl, rfl, rfl, rfl, rfl, rfl, rfl, trivial⟩, .refl⟩
        · have hM2 : MmS (hcone ss l (heatsF fs l) k j) (i + 1) (min lo' (conesF ss l g k j)) (max hi' (conesF ss l g k j)) := by
            have := hM.next (by omega)
            rwa [hgi] at this
          refine W.skip <| thn_n <| W.seq <| W.region rfl ?_
          refine oq (y_fieldAddr rfl rfl) rfl wn rfl rfl ?_
          refine oq (yld rfl rfl) rfl wn rfl rfl ?_
          refine qm rfl rfl rfl ?_
          refine oq (y_min rfl rfl rfl) rfl wn rfl rfl ?_
          refine oq (y_fieldAddr rfl rfl) rfl wn rfl rfl ?_
          refine oq (yld rfl rfl) rfl wn rfl rfl ?_
          refine qm rfl rfl rfl ?_
          refine oq (y_max rfl rfl rfl) rfl wn rfl rfl ?_
          refine oq (y_build rfl rfl rfl) rfl wn rfl rfl ?_
          first | refine Ops.stoW ?_ | refine Ops.stoA ?_
          refine Ops.nil <| thn_n <| W.seq <| W.region rfl <| qm rfl rfl rfl ?_
          refine oq (y_eql rfl rfl rfl) rfl wn rfl rfl ?_
          refine Ops.nil <| thn_n ?_
          refine W.condp rfl (fun c83 => ?_) (fun c83 => ?_)
          · refine W.region rfl <| qm rfl rfl rfl ?_
            first | refine oq (yadd rfl rfl rfl) rfl wn rfl rfl ?_ | refine oq (y_addw rfl rfl rfl) rfl wn rfl rfl ?_
            refine qs rfl rfl rfl <| Ops.nil <| blk_n <| thn_n <| W.region rfl <| qm rfl rfl rfl ?_
            first | refine oq (yadd rfl rfl rfl) rfl wn rfl rfl ?_ | refine oq (y_addw rfl rfl rfl) rfl wn rfl rfl ?_
            refine qs rfl rfl rfl <| Ops.nil <| thn_n ?_
            exact ⟨rfl, (i + 1, _, _), ⟨by simp only; omega, hM2⟩, by simp only; omega, ⟨rfl, lk rfl (show I _ = I _ by rw [hcz, if_pos c83]), rfl, rfl, rfl, rfl, rfl, rfl, rfl, rfl, trivial⟩, .refl⟩
          · refine W.skip <| blk_n <| thn_n <| W.region rfl <| qm rfl rfl rfl ?_
            first | refine oq (yadd rfl rfl rfl) rfl wn rfl rfl ?_ | refine oq (y_addw rfl rfl rfl) rfl wn rfl rfl ?_
            refine qs rfl rfl rfl <| Ops.nil <| thn_n ?_
            exact ⟨rfl, (i + 1, _, _), ⟨by simp only; omega, hM2⟩, by simp only; omega, ⟨rfl, lk rfl (show I _ = I _ by rw [hcz, if_neg c83]), rfl, rfl, rfl, rfl, rfl, rfl, rfl, rfl, trivial⟩, .refl⟩
      · have hie : i = us.length := by omega
        subst hie
        rw [hul] at hM
        obtain ⟨rfl, rfl⟩ := hM.eq hmm
        have hem := all_empty hmm (heats_pos hcp) (fun i _ => (heG_co (ss := ss) (l := l) (ht := (heatsF fs l).getD i []) (fs := fs) hall (f := (k : Int)) (d := (j : Int)) l.length).1)
        rw [← hul] at hem
        have hev : emptyV fs ss l k j = (emptyS ⟨lo', hi'⟩, 0) := by rw [emptyV, hsv]; rfl
        refine W.exit <| thn_x <| thn_x <| blk_x <| thn_n <| W.seq <| W.region rfl <| qs rfl rfl rfl <| Ops.nil <| thn_n ?_
        refine W.seq <| W.seq <| W.region rfl <| qm rfl rfl rfl ?_
        refine oq (y_eql rfl rfl rfl) rfl wn rfl rfl ?_
        refine Ops.nil <| thn_n ?_
        refine W.condp rfl (fun c87 => ?_) (fun c87 => ?_)
        · have he : emptyS ⟨lo', hi'⟩ = 2 := by rw [hem, if_pos c87]
          refine W.region rfl <| qs rfl rfl rfl <| Ops.nil <| thn_n <| W.seq <| W.region rfl ?_
          first | refine oq (yldW rfl rfl) rfl wn rfl rfl ?_ | refine oq (yldA rfl rfl) rfl wn rfl rfl ?_
          refine qm rfl rfl rfl <| qm rfl rfl rfl <| qm rfl rfl rfl ?_
          refine cp (u := .tuple #[.agg #[I lo', I hi'], I 0]) (fun h' hE hL => ?_) ?_
          · have := Stands_fn main h' fs ss l k j _ _ _ (hslf.ext (hGG.trans hE)) (hsls.ext (hGG.trans hE)) (hsll.ext (hGG.trans hE))
            rw [hsv] at this
            exact this
          refine qm rfl rfl rfl <| oq (y_extract rfl rfl rfl) rfl wn rfl rfl <| oq (y_extract rfl rfl rfl) rfl wn rfl rfl ?_
          refine Ops.new (fun β16 => ?_)
          first | refine Ops.stoW ?_ | refine Ops.stoA ?_
          refine qs rfl rfl rfl <| Ops.nil <| thn_n <| W.seq <| W.region rfl ?_
          first | refine oq (yldW rfl rfl) rfl wn rfl rfl ?_ | refine oq (yldA rfl rfl) rfl wn rfl rfl ?_
          refine qm rfl rfl rfl <| qm rfl rfl rfl <| qm rfl rfl rfl ?_
          refine cp (u := .tuple #[I (emptyS ⟨lo', hi'⟩), I 0]) (fun h' hE hL => ?_) ?_
          · have := Empty_fn main h' fs ss l k j _ _ _ (hslf.ext (hGG.trans hE)) (hsls.ext (hGG.trans hE)) (hsll.ext (hGG.trans hE))
            rw [hev] at this
            exact this
          refine qm rfl rfl rfl <| oq (y_extract rfl rfl rfl) rfl wn rfl rfl <| oq (y_extract rfl rfl rfl) rfl wn rfl rfl <| qs rfl rfl rfl <| qs rfl rfl rfl <| Ops.nil <| thn_n <| W.seq <| W.seq <| W.region rfl ?_
          refine qm rfl rfl rfl ?_
          refine oq ((y_neq rfl rfl rfl).eq (u := .bool false) rfl) rfl wn rfl rfl ?_
          refine qm rfl rfl rfl ?_
          refine oq (y_move rfl rfl) rfl (want_some rfl rfl rfl) rfl rfl ?_
          refine oq ((y_neq rfl rfl rfl).eq (u := .bool false) rfl) rfl (want_some rfl rfl rfl) rfl rfl ?_
          refine oq (y_pickF rfl rfl rfl) rfl wn rfl rfl ?_
          refine qm rfl rfl rfl ?_
          refine oq (yldW rfl rfl) rfl (want_some rfl rfl rfl) rfl rfl ?_
          refine oq (yldW rfl rfl) rfl (want_some rfl rfl rfl) rfl rfl ?_
          refine oq (Yv.eq (u := .bool false) (y_neA [lo', hi'] [lo', hi'] rfl rfl rfl rfl rfl rfl rfl) (by simp)) rfl (want_some rfl rfl rfl) rfl rfl ?_
          refine oq (y_pickF rfl rfl rfl) rfl wn rfl rfl ?_
          refine qm rfl rfl rfl ?_
          refine oq (y_move rfl rfl) rfl (want_some rfl rfl rfl) rfl rfl ?_
          refine oq (y_move rfl rfl) rfl (want_some rfl rfl rfl) rfl rfl ?_
          refine oq ((y_neq rfl rfl rfl).eq (u := .bool false) (by simp [he])) rfl (want_some rfl rfl rfl) rfl rfl ?_
          refine oq (y_pickF rfl rfl rfl) rfl wn rfl rfl ?_
          refine Ops.nil <| thn_n ?_
          refine W.condF ?_
          refine W.skip <| thn_n <| W.seq <| W.region rfl ?_
          refine oq (y_fieldAddr rfl rfl) rfl wn rfl rfl ?_
          refine oq (yld rfl rfl) rfl wn rfl rfl ?_
          refine oq (y_fieldAddr rfl rfl) rfl wn rfl rfl ?_
          refine oq (yld rfl rfl) rfl wn rfl rfl ?_
          refine oq (y_neq rfl rfl rfl) rfl wn rfl rfl ?_
          refine Ops.nil <| thn_n ?_
          refine W.condp rfl (fun c128 => ?_) (fun c128 => ?_)
          · have hat1 := hat c128
            have hatl := lt_of_get hat1
            obtain ⟨s2, hs2, -⟩ := has (show (dbF fs ss (padB l) k).length + (dbK k D j).length < us2.length by omega)
            obtain ⟨hsl2, -⟩ := hslC _ s2 _ hs2 hat1
            have hslN2 := hslN.ext hG4
            rw [if_pos c128] at hdJ
            have hdJl : (dbK k D (j + 1)).length = (dbK k D j).length + 1 := by rw [hdJ, List.length_append]; rfl
            obtain ⟨bn, offn, cn, En, fzn, rfl, hbn, -, hyn, hzn⟩ := hslN2.at hs2
            have hcelln : cn[offn + ((dbF fs ss (padB l) k).length + (dbK k D j).length) * 1 + 0]? = some (.slice s2.a s2.n s2.cap) := hzn 0 (by decide)
            clear hzn
            refine W.seq <| W.seq <| W.region rfl <| qm rfl rfl rfl <| qm rfl rfl rfl ?_
            refine oq (y_len rfl rfl) rfl wn rfl rfl ?_
            refine oq ((y_geq rfl rfl rfl).eq (u := .bool false) (congrArg Value.bool (decide_eq_false (by omega)))) rfl wn rfl rfl ?_
            refine qm rfl rfl rfl ?_
            refine oq (y_move rfl rfl) rfl (want_some rfl rfl rfl) rfl rfl ?_
            refine oq (y_move rfl rfl) rfl (want_some rfl rfl rfl) rfl rfl ?_
            first | refine oq (yix rfl rfl rfl) rfl (want_some rfl rfl rfl) rfl rfl ?_ | refine oq (yixI rfl rfl rfl) rfl (want_some rfl rfl rfl) rfl rfl ?_
            refine oq (yld rfl rfl) rfl (want_some rfl rfl rfl) rfl rfl ?_
            refine oq (y_move rfl rfl) rfl (want_some rfl rfl rfl) rfl rfl ?_
            refine oq (y_move rfl rfl) rfl (want_some rfl rfl rfl) rfl rfl ?_
            refine Ops.bsl (cs := #[I k, I j]) (fun β140 => ?_) rfl
            refine cp (u := .bool true) (fun h' hE hL => ?_) ?_ (hw := want_some rfl rfl rfl)
            · have := EqInts_fn main h' [(k : Int), (j : Int)] [(k : Int), (j : Int)] s2.val (.slice (some ⟨β140, 0, none⟩) 2 2) (hsl2.ext hE) (Sl.mk (hL β140 _ (.head _)) rfl (Part.all _)) (by simp)
              rw [decide_eq_true rfl] at this
              exact this
            refine oq (y_not rfl rfl) rfl (want_some rfl rfl rfl) rfl rfl ?_
            refine oq (y_pickF rfl rfl rfl) rfl wn rfl rfl ?_
            refine Ops.nil <| thn_n ?_
            refine W.condF ?_
            refine W.skip <| thn_n <| W.region rfl <| qm rfl rfl rfl ?_
            first | refine oq (yadd rfl rfl rfl) rfl wn rfl rfl ?_ | refine oq (y_addw rfl rfl rfl) rfl wn rfl rfl ?_
            refine qs rfl rfl rfl <| Ops.nil <| blk_n <| thn_n <| W.region rfl <| qm rfl rfl rfl ?_
            first | refine oq (yadd rfl rfl rfl) rfl wn rfl rfl ?_ | refine oq (y_addw rfl rfl rfl) rfl wn rfl rfl ?_
            refine qs rfl rfl rfl <| Ops.nil <| thn_n ?_
            exact ⟨rfl, j + 1, by omega, by omega, ⟨rfl, rfl, lk rfl (show I _ = I _ by congr 1; omega), rfl, rfl, rfl, rfl, trivial⟩, by repeat (first | exact Sb.refl | refine Sb.skip rfl ?_)⟩
          · rw [if_neg c128] at hdJ
            refine W.skip <| blk_n <| thn_n <| W.region rfl <| qm rfl rfl rfl ?_
            first | refine oq (yadd rfl rfl rfl) rfl wn rfl rfl ?_ | refine oq (y_addw rfl rfl rfl) rfl wn rfl rfl ?_
            refine qs rfl rfl rfl <| Ops.nil <| thn_n ?_
            exact ⟨rfl, j + 1, by omega, by omega, ⟨rfl, rfl, lk rfl (show I _ = I _ by rw [hdJ]), rfl, rfl, rfl, rfl, trivial⟩, by repeat (first | exact Sb.refl | refine Sb.skip rfl ?_)⟩
        · refine W.seq <| W.region rfl <| qm rfl rfl rfl <| qm rfl rfl rfl ?_
          refine oq (y_len rfl rfl) rfl wn rfl rfl ?_
          refine oq (y_eql rfl rfl rfl) rfl wn rfl rfl ?_
          refine Ops.nil <| thn_n ?_
          refine W.condp rfl (fun c91 => ?_) (fun c91 => ?_)
          · have he : emptyS ⟨lo', hi'⟩ = 1 := by rw [hem, if_neg c87, if_pos c91]
            refine W.region rfl <| qs rfl rfl rfl <| Ops.nil <| thn_n <| W.seq <| W.region rfl ?_
            first | refine oq (yldW rfl rfl) rfl wn rfl rfl ?_ | refine oq (yldA rfl rfl) rfl wn rfl rfl ?_
            refine qm rfl rfl rfl <| qm rfl rfl rfl <| qm rfl rfl rfl ?_
            refine cp (u := .tuple #[.agg #[I lo', I hi'], I 0]) (fun h' hE hL => ?_) ?_
            · have := Stands_fn main h' fs ss l k j _ _ _ (hslf.ext (hGG.trans hE)) (hsls.ext (hGG.trans hE)) (hsll.ext (hGG.trans hE))
              rw [hsv] at this
              exact this
            refine qm rfl rfl rfl <| oq (y_extract rfl rfl rfl) rfl wn rfl rfl <| oq (y_extract rfl rfl rfl) rfl wn rfl rfl ?_
            refine Ops.new (fun β16 => ?_)
            first | refine Ops.stoW ?_ | refine Ops.stoA ?_
            refine qs rfl rfl rfl <| Ops.nil <| thn_n <| W.seq <| W.region rfl ?_
            first | refine oq (yldW rfl rfl) rfl wn rfl rfl ?_ | refine oq (yldA rfl rfl) rfl wn rfl rfl ?_
            refine qm rfl rfl rfl <| qm rfl rfl rfl <| qm rfl rfl rfl ?_
            refine cp (u := .tuple #[I (emptyS ⟨lo', hi'⟩), I 0]) (fun h' hE hL => ?_) ?_
            · have := Empty_fn main h' fs ss l k j _ _ _ (hslf.ext (hGG.trans hE)) (hsls.ext (hGG.trans hE)) (hsll.ext (hGG.trans hE))
              rw [hev] at this
              exact this
            refine qm rfl rfl rfl <| oq (y_extract rfl rfl rfl) rfl wn rfl rfl <| oq (y_extract rfl rfl rfl) rfl wn rfl rfl <| qs rfl rfl rfl <| qs rfl rfl rfl <| Ops.nil <| thn_n <| W.seq <| W.seq <| W.region rfl ?_
            refine qm rfl rfl rfl ?_
            refine oq ((y_neq rfl rfl rfl).eq (u := .bool false) rfl) rfl wn rfl rfl ?_
            refine qm rfl rfl rfl ?_
            refine oq (y_move rfl rfl) rfl (want_some rfl rfl rfl) rfl rfl ?_
            refine oq ((y_neq rfl rfl rfl).eq (u := .bool false) rfl) rfl (want_some rfl rfl rfl) rfl rfl ?_
            refine oq (y_pickF rfl rfl rfl) rfl wn rfl rfl ?_
            refine qm rfl rfl rfl ?_
            refine oq (yldW rfl rfl) rfl (want_some rfl rfl rfl) rfl rfl ?_
            refine oq (yldW rfl rfl) rfl (want_some rfl rfl rfl) rfl rfl ?_
            refine oq (Yv.eq (u := .bool false) (y_neA [lo', hi'] [lo', hi'] rfl rfl rfl rfl rfl rfl rfl) (by simp)) rfl (want_some rfl rfl rfl) rfl rfl ?_
            refine oq (y_pickF rfl rfl rfl) rfl wn rfl rfl ?_
            refine qm rfl rfl rfl ?_
            refine oq (y_move rfl rfl) rfl (want_some rfl rfl rfl) rfl rfl ?_
            refine oq (y_move rfl rfl) rfl (want_some rfl rfl rfl) rfl rfl ?_
            refine oq ((y_neq rfl rfl rfl).eq (u := .bool false) (by simp [he])) rfl (want_some rfl rfl rfl) rfl rfl ?_
            refine oq (y_pickF rfl rfl rfl) rfl wn rfl rfl ?_
            refine Ops.nil <| thn_n ?_
            refine W.condF ?_
            refine W.skip <| thn_n <| W.seq <| W.region rfl ?_
            refine oq (y_fieldAddr rfl rfl) rfl wn rfl rfl ?_
            refine oq (yld rfl rfl) rfl wn rfl rfl ?_
            refine oq (y_fieldAddr rfl rfl) rfl wn rfl rfl ?_
            refine oq (yld rfl rfl) rfl wn rfl rfl ?_
            refine oq (y_neq rfl rfl rfl) rfl wn rfl rfl ?_
            refine Ops.nil <| thn_n ?_
            refine W.condp rfl (fun c128 => ?_) (fun c128 => ?_)
            · have hat1 := hat c128
              have hatl := lt_of_get hat1
              obtain ⟨s2, hs2, -⟩ := has (show (dbF fs ss (padB l) k).length + (dbK k D j).length < us2.length by omega)
              obtain ⟨hsl2, -⟩ := hslC _ s2 _ hs2 hat1
              have hslN2 := hslN.ext hG4
              rw [if_pos c128] at hdJ
              have hdJl : (dbK k D (j + 1)).length = (dbK k D j).length + 1 := by rw [hdJ, List.length_append]; rfl
              obtain ⟨bn, offn, cn, En, fzn, rfl, hbn, -, hyn, hzn⟩ := hslN2.at hs2
              have hcelln : cn[offn + ((dbF fs ss (padB l) k).length + (dbK k D j).length) * 1 + 0]? = some (.slice s2.a s2.n s2.cap) := hzn 0 (by decide)
              clear hzn
              refine W.seq <| W.seq <| W.region rfl <| qm rfl rfl rfl <| qm rfl rfl rfl ?_
              refine oq (y_len rfl rfl) rfl wn rfl rfl ?_
              refine oq ((y_geq rfl rfl rfl).eq (u := .bool false) (congrArg Value.bool (decide_eq_false (by omega)))) rfl wn rfl rfl ?_
              refine qm rfl rfl rfl ?_
              refine oq (y_move rfl rfl) rfl (want_some rfl rfl rfl) rfl rfl ?_
              refine oq (y_move rfl rfl) rfl (want_some rfl rfl rfl) rfl rfl ?_
              first | refine oq (yix rfl rfl rfl) rfl (want_some rfl rfl rfl) rfl rfl ?_ | refine oq (yixI rfl rfl rfl) rfl (want_some rfl rfl rfl) rfl rfl ?_
              refine oq (yld rfl rfl) rfl (want_some rfl rfl rfl) rfl rfl ?_
              refine oq (y_move rfl rfl) rfl (want_some rfl rfl rfl) rfl rfl ?_
              refine oq (y_move rfl rfl) rfl (want_some rfl rfl rfl) rfl rfl ?_
              refine Ops.bsl (cs := #[I k, I j]) (fun β140 => ?_) rfl
              refine cp (u := .bool true) (fun h' hE hL => ?_) ?_ (hw := want_some rfl rfl rfl)
              · have := EqInts_fn main h' [(k : Int), (j : Int)] [(k : Int), (j : Int)] s2.val (.slice (some ⟨β140, 0, none⟩) 2 2) (hsl2.ext hE) (Sl.mk (hL β140 _ (.head _)) rfl (Part.all _)) (by simp)
                rw [decide_eq_true rfl] at this
                exact this
              refine oq (y_not rfl rfl) rfl (want_some rfl rfl rfl) rfl rfl ?_
              refine oq (y_pickF rfl rfl rfl) rfl wn rfl rfl ?_
              refine Ops.nil <| thn_n ?_
              refine W.condF ?_
              refine W.skip <| thn_n <| W.region rfl <| qm rfl rfl rfl ?_
              first | refine oq (yadd rfl rfl rfl) rfl wn rfl rfl ?_ | refine oq (y_addw rfl rfl rfl) rfl wn rfl rfl ?_
              refine qs rfl rfl rfl <| Ops.nil <| blk_n <| thn_n <| W.region rfl <| qm rfl rfl rfl ?_
              first | refine oq (yadd rfl rfl rfl) rfl wn rfl rfl ?_ | refine oq (y_addw rfl rfl rfl) rfl wn rfl rfl ?_
              refine qs rfl rfl rfl <| Ops.nil <| thn_n ?_
              exact ⟨rfl, j + 1, by omega, by omega, ⟨rfl, rfl, lk rfl (show I _ = I _ by congr 1; omega), rfl, rfl, rfl, rfl, trivial⟩, by repeat (first | exact Sb.refl | refine Sb.skip rfl ?_)⟩
            · rw [if_neg c128] at hdJ
              refine W.skip <| blk_n <| thn_n <| W.region rfl <| qm rfl rfl rfl ?_
              first | refine oq (yadd rfl rfl rfl) rfl wn rfl rfl ?_ | refine oq (y_addw rfl rfl rfl) rfl wn rfl rfl ?_
              refine qs rfl rfl rfl <| Ops.nil <| thn_n ?_
              exact ⟨rfl, j + 1, by omega, by omega, ⟨rfl, rfl, lk rfl (show I _ = I _ by rw [hdJ]), rfl, rfl, rfl, rfl, trivial⟩, by repeat (first | exact Sb.refl | refine Sb.skip rfl ?_)⟩
          · have he : emptyS ⟨lo', hi'⟩ = 3 := by rw [hem, if_neg c87, if_neg c91]
            refine W.skip <| thn_n <| W.seq <| W.region rfl ?_
            first | refine oq (yldW rfl rfl) rfl wn rfl rfl ?_ | refine oq (yldA rfl rfl) rfl wn rfl rfl ?_
            refine qm rfl rfl rfl <| qm rfl rfl rfl <| qm rfl rfl rfl ?_
            refine cp (u := .tuple #[.agg #[I lo', I hi'], I 0]) (fun h' hE hL => ?_) ?_
            · have := Stands_fn main h' fs ss l k j _ _ _ (hslf.ext (hGG.trans hE)) (hsls.ext (hGG.trans hE)) (hsll.ext (hGG.trans hE))
              rw [hsv] at this
              exact this
            refine qm rfl rfl rfl <| oq (y_extract rfl rfl rfl) rfl wn rfl rfl <| oq (y_extract rfl rfl rfl) rfl wn rfl rfl ?_
            refine Ops.new (fun β16 => ?_)
            first | refine Ops.stoW ?_ | refine Ops.stoA ?_
            refine qs rfl rfl rfl <| Ops.nil <| thn_n <| W.seq <| W.region rfl ?_
            first | refine oq (yldW rfl rfl) rfl wn rfl rfl ?_ | refine oq (yldA rfl rfl) rfl wn rfl rfl ?_
            refine qm rfl rfl rfl <| qm rfl rfl rfl <| qm rfl rfl rfl ?_
            refine cp (u := .tuple #[I (emptyS ⟨lo', hi'⟩), I 0]) (fun h' hE hL => ?_) ?_
            · have := Empty_fn main h' fs ss l k j _ _ _ (hslf.ext (hGG.trans hE)) (hsls.ext (hGG.trans hE)) (hsll.ext (hGG.trans hE))
              rw [hev] at this
              exact this
            refine qm rfl rfl rfl <| oq (y_extract rfl rfl rfl) rfl wn rfl rfl <| oq (y_extract rfl rfl rfl) rfl wn rfl rfl <| qs rfl rfl rfl <| qs rfl rfl rfl <| Ops.nil <| thn_n <| W.seq <| W.seq <| W.region rfl ?_
            refine qm rfl rfl rfl ?_
            refine oq ((y_neq rfl rfl rfl).eq (u := .bool false) rfl) rfl wn rfl rfl ?_
            refine qm rfl rfl rfl ?_
            refine oq (y_move rfl rfl) rfl (want_some rfl rfl rfl) rfl rfl ?_
            refine oq ((y_neq rfl rfl rfl).eq (u := .bool false) rfl) rfl (want_some rfl rfl rfl) rfl rfl ?_
            refine oq (y_pickF rfl rfl rfl) rfl wn rfl rfl ?_
            refine qm rfl rfl rfl ?_
            refine oq (yldW rfl rfl) rfl (want_some rfl rfl rfl) rfl rfl ?_
            refine oq (yldW rfl rfl) rfl (want_some rfl rfl rfl) rfl rfl ?_
            refine oq (Yv.eq (u := .bool false) (y_neA [lo', hi'] [lo', hi'] rfl rfl rfl rfl rfl rfl rfl) (by simp)) rfl (want_some rfl rfl rfl) rfl rfl ?_
            refine oq (y_pickF rfl rfl rfl) rfl wn rfl rfl ?_
            refine qm rfl rfl rfl ?_
            refine oq (y_move rfl rfl) rfl (want_some rfl rfl rfl) rfl rfl ?_
            refine oq (y_move rfl rfl) rfl (want_some rfl rfl rfl) rfl rfl ?_
            refine oq ((y_neq rfl rfl rfl).eq (u := .bool false) (by simp [he])) rfl (want_some rfl rfl rfl) rfl rfl ?_
            refine oq (y_pickF rfl rfl rfl) rfl wn rfl rfl ?_
            refine Ops.nil <| thn_n ?_
            refine W.condF ?_
            refine W.skip <| thn_n <| W.seq <| W.region rfl ?_
            refine oq (y_fieldAddr rfl rfl) rfl wn rfl rfl ?_
            refine oq (yld rfl rfl) rfl wn rfl rfl ?_
            refine oq (y_fieldAddr rfl rfl) rfl wn rfl rfl ?_
            refine oq (yld rfl rfl) rfl wn rfl rfl ?_
            refine oq (y_neq rfl rfl rfl) rfl wn rfl rfl ?_
            refine Ops.nil <| thn_n ?_
            refine W.condp rfl (fun c128 => ?_) (fun c128 => ?_)
            · have hat1 := hat c128
              have hatl := lt_of_get hat1
              obtain ⟨s2, hs2, -⟩ := has (show (dbF fs ss (padB l) k).length + (dbK k D j).length < us2.length by omega)
              obtain ⟨hsl2, -⟩ := hslC _ s2 _ hs2 hat1
              have hslN2 := hslN.ext hG4
              rw [if_pos c128] at hdJ
              have hdJl : (dbK k D (j + 1)).length = (dbK k D j).length + 1 := by rw [hdJ, List.length_append]; rfl
              obtain ⟨bn, offn, cn, En, fzn, rfl, hbn, -, hyn, hzn⟩ := hslN2.at hs2
              have hcelln : cn[offn + ((dbF fs ss (padB l) k).length + (dbK k D j).length) * 1 + 0]? = some (.slice s2.a s2.n s2.cap) := hzn 0 (by decide)
              clear hzn
              refine W.seq <| W.seq <| W.region rfl <| qm rfl rfl rfl <| qm rfl rfl rfl ?_
              refine oq (y_len rfl rfl) rfl wn rfl rfl ?_
              refine oq ((y_geq rfl rfl rfl).eq (u := .bool false) (congrArg Value.bool (decide_eq_false (by omega)))) rfl wn rfl rfl ?_
              refine qm rfl rfl rfl ?_
              refine oq (y_move rfl rfl) rfl (want_some rfl rfl rfl) rfl rfl ?_
              refine oq (y_move rfl rfl) rfl (want_some rfl rfl rfl) rfl rfl ?_
              first | refine oq (yix rfl rfl rfl) rfl (want_some rfl rfl rfl) rfl rfl ?_ | refine oq (yixI rfl rfl rfl) rfl (want_some rfl rfl rfl) rfl rfl ?_
              refine oq (yld rfl rfl) rfl (want_some rfl rfl rfl) rfl rfl ?_
              refine oq (y_move rfl rfl) rfl (want_some rfl rfl rfl) rfl rfl ?_
              refine oq (y_move rfl rfl) rfl (want_some rfl rfl rfl) rfl rfl ?_
              refine Ops.bsl (cs := #[I k, I j]) (fun β140 => ?_) rfl
              refine cp (u := .bool true) (fun h' hE hL => ?_) ?_ (hw := want_some rfl rfl rfl)
              · have := EqInts_fn main h' [(k : Int), (j : Int)] [(k : Int), (j : Int)] s2.val (.slice (some ⟨β140, 0, none⟩) 2 2) (hsl2.ext hE) (Sl.mk (hL β140 _ (.head _)) rfl (Part.all _)) (by simp)
                rw [decide_eq_true rfl] at this
                exact this
              refine oq (y_not rfl rfl) rfl (want_some rfl rfl rfl) rfl rfl ?_
              refine oq (y_pickF rfl rfl rfl) rfl wn rfl rfl ?_
              refine Ops.nil <| thn_n ?_
              refine W.condF ?_
              refine W.skip <| thn_n <| W.region rfl <| qm rfl rfl rfl ?_
              first | refine oq (yadd rfl rfl rfl) rfl wn rfl rfl ?_ | refine oq (y_addw rfl rfl rfl) rfl wn rfl rfl ?_
              refine qs rfl rfl rfl <| Ops.nil <| blk_n <| thn_n <| W.region rfl <| qm rfl rfl rfl ?_
              first | refine oq (yadd rfl rfl rfl) rfl wn rfl rfl ?_ | refine oq (y_addw rfl rfl rfl) rfl wn rfl rfl ?_
              refine qs rfl rfl rfl <| Ops.nil <| thn_n ?_
              exact ⟨rfl, j + 1, by omega, by omega, ⟨rfl, rfl, lk rfl (show I _ = I _ by congr 1; omega), rfl, rfl, rfl, rfl, trivial⟩, by repeat (first | exact Sb.refl | refine Sb.skip rfl ?_)⟩
            · rw [if_neg c128] at hdJ
              refine W.skip <| blk_n <| thn_n <| W.region rfl <| qm rfl rfl rfl ?_
              first | refine oq (yadd rfl rfl rfl) rfl wn rfl rfl ?_ | refine oq (y_addw rfl rfl rfl) rfl wn rfl rfl ?_
              refine qs rfl rfl rfl <| Ops.nil <| thn_n ?_
              exact ⟨rfl, j + 1, by omega, by omega, ⟨rfl, rfl, lk rfl (show I _ = I _ by rw [hdJ]), rfl, rfl, rfl, rfl, trivial⟩, by repeat (first | exact Sb.refl | refine Sb.skip rfl ?_)⟩
    · have hje : j = 22 := by omega
      subst hje
      refine W.exit <| thn_x <| thn_x <| blk_x <| blk_n <| thn_n <| W.region rfl <| qm rfl rfl rfl ?_
      first | refine oq (yadd rfl rfl rfl) rfl wn rfl rfl ?_ | refine oq (y_addw rfl rfl rfl) rfl wn rfl rfl ?_
      refine qs rfl rfl rfl <| Ops.nil <| thn_n ?_
      exact ⟨rfl, k + 1, by omega, by omega, ⟨rfl, lk rfl (show I _ = I _ by congr 1; omega), rfl, rfl, rfl, rfl, trivial⟩, .refl⟩
  · have hke : k = fs.length := by omega
    subst hke
    refine W.exit <| thn_x <| thn_x <| blk_x <| thn_n <| W.seq <| W.seq <| W.region rfl <| qs rfl rfl rfl <| Ops.nil ?_
    refine thn_n <| W.block ?_
    refine W.loop (σ := Nat) (fun k => k ≤ l.length) (fun k => [(20, I k), (8, I (dbF fs ss (padB l) fs.length).length), (6, .slice da us2.length dc), (4, .slice al l.length lc), (3, .pointer (some ⟨β3, 0, none⟩))]) (fun _ => [(β3, .cells #[.slice a fs.length cap, .slice a' ss.length cap'] t_Plant (0, 0))]) (fun k => l.length - k) 0 (Nat.zero_le _) ⟨rfl, rfl, rfl, rfl, rfl, trivial⟩ .refl ?_
    rintro k hk
    refine W.seq <| W.seq <| W.region rfl <| qm rfl rfl rfl <| qm rfl rfl rfl ?_
    refine oq (y_len rfl rfl) rfl wn rfl rfl ?_
    refine oq (y_lss rfl rfl rfl) rfl wn rfl rfl ?_
    refine Ops.nil <| thn_n ?_
    refine W.condp rfl (fun c149 => ?_) (fun c149 => ?_)
    · have hk1 : k < l.length := by omega
      have hb0 := be_some hall hp hn hk1
      have hrv := ready_val hcp hk1
      have hpo := hp.ok.ok _ (List.mem_append_left _ (List.mem_of_getElem? hb0))
      have hflt := fl_lt hall hp hn hk1
      obtain ⟨r, e, hre⟩ : ∃ r e, readyV fs ss l k = (r, e) := ⟨_, _, rfl⟩
      obtain ⟨bl, offl, cl, El, fzl, rfl, hbl, -, hyl, hzl⟩ := hsll.at hb0
      have hfl0 : cl[offl + k * 2 + 0]? = some (I (beAt l k).fl) := hzl 0 (by decide)
      have hfl1 : cl[offl + k * 2 + 1]? = some (I (beAt l k).day) := hzl 1 (by decide)
      clear hzl
      generalize hb : beAt l k = b at *
      refine W.skip <| thn_n <| W.seq <| W.block <| W.seq <| W.region rfl ?_
      first | refine oq (yldW rfl rfl) rfl wn rfl rfl ?_ | refine oq (yldA rfl rfl) rfl wn rfl rfl ?_
      refine qm rfl rfl rfl <| qm rfl rfl rfl ?_
      refine cp (u := .tuple #[.agg #[I r.lo, I r.hi], I e]) (fun h' hE hL => ?_) ?_
      · have := Ready_fn main h' fs ss l k _ _ _ (hslf.ext hE) (hsls.ext hE) (hsll.ext hE)
        rw [hre] at this
        exact this
      refine qm rfl rfl rfl <| oq (y_extract rfl rfl rfl) rfl wn rfl rfl <| oq (y_extract rfl rfl rfl) rfl wn rfl rfl ?_
      refine Ops.new (fun β21 => ?_)
      first | refine Ops.stoW ?_ | refine Ops.stoA ?_
      refine qs rfl rfl rfl <| Ops.nil <| thn_n <| W.seq <| W.seq <| W.region rfl <| qm rfl rfl rfl <| qm rfl rfl rfl ?_
      first | refine oq (yix rfl rfl rfl) rfl wn rfl rfl ?_ | refine oq (yixI rfl rfl rfl) rfl wn rfl rfl ?_
      refine oq (y_fieldAddr rfl rfl) rfl wn rfl rfl ?_
      refine oq (yld rfl rfl) rfl wn rfl rfl ?_
      refine oq (y_lss rfl rfl rfl) rfl wn rfl rfl ?_
      refine Ops.nil <| thn_n ?_
      refine W.condp rfl (fun c164 => ?_) (fun c164 => ?_)
      · rw [hrv, if_pos c164] at hre
        obtain ⟨rfl, rfl⟩ := Prod.mk.inj hre
        refine W.seq <| W.seq <| W.region rfl <| qm rfl rfl rfl ?_
        refine oq ((y_neq rfl rfl rfl).eq (u := .bool false) rfl) rfl wn rfl rfl ?_
        refine Ops.nil <| thn_n ?_
        refine W.condF ?_
        refine W.skip <| thn_n <| W.exit <| thn_x <| blk_x <| thn_n <| W.region rfl <| qm rfl rfl rfl ?_
        first | refine oq (yadd rfl rfl rfl) rfl wn rfl rfl ?_ | refine oq (y_addw rfl rfl rfl) rfl wn rfl rfl ?_
        refine qs rfl rfl rfl <| Ops.nil <| thn_n ?_
        exact ⟨rfl, k + 1, by omega, by omega, ⟨rfl, rfl, rfl, rfl, rfl, trivial⟩, by repeat (first | exact Sb.refl | refine Sb.skip rfl ?_)⟩
      · rw [hrv, if_neg c164] at hre
        have hx0 := flAt_some (fs := fs) (f := b.fl) (by omega) hflt
        have hfo := fl_ok hall (f := b.fl) (by omega) hflt
        obtain ⟨⟨pl, lo, hi', co⟩, hfa⟩ : ∃ x, flAt fs b.fl = x := ⟨_, rfl⟩
        rw [hfa] at hx0 hfo hre
        obtain ⟨rfl, rfl⟩ := Prod.mk.inj hre
        obtain ⟨bf, off, c, E, fz, rfl, hbk', hx1, hy1, hz1⟩ := hslf.at hx0
        have hx2 := ext2 hx1
        clear hx1 hz1
        refine W.skip <| thn_n <| W.seq ?_
        refine W.drawF (n := 12) rfl ?_
        refine aq (i := 0) (y_fieldAddr rfl rfl) rfl an rfl rfl ?_
        refine aq (i := 1) (yld rfl rfl) rfl an rfl rfl ?_
        refine aq (i := 2) (y_move rfl rfl) rfl an rfl rfl ?_
        refine aq (i := 3) (y_move rfl rfl) rfl an rfl rfl ?_
        first | refine aq (i := 4) (yix rfl rfl rfl) rfl an rfl rfl ?_ | refine aq (i := 4) (yixI rfl rfl rfl) rfl an rfl rfl ?_
        refine aq (i := 5) (y_fieldAddr rfl rfl) rfl an rfl rfl ?_
        refine aq (i := 6) (yld rfl rfl) rfl an rfl rfl ?_
        first | refine aq (i := 7) (yix rfl rfl rfl) rfl an rfl rfl ?_ | refine aq (i := 7) (yixI rfl rfl rfl) rfl an rfl rfl ?_
        refine aq (i := 8) (y_fieldAddr rfl rfl) rfl an rfl rfl ?_
        first | refine aq (i := 9) (yldW rfl rfl) rfl an rfl rfl ?_ | refine aq (i := 9) (yldA rfl rfl) rfl an rfl rfl ?_
        refine ae (i := 10) rfl an rfl rfl (eN rfl (fun β23 => ?_))
        refine ⟨.inr (by first | exact Keeps.refl | exact Keeps.nil | ((repeat (first | exact fun _ h => h | apply Keeps.cons | apply Keeps.app)) <;> fail) | (repeat (first | exact Keeps.nil | refine Keeps.one (by repeat (first | exact List.Mem.head _ | apply List.Mem.tail)) ?_))), ?_⟩
        first | refine ae (i := 11) rfl an rfl rfl (eSW rfl rfl rfl ?_) | refine ae (i := 11) rfl an rfl rfl (eSA rfl rfl rfl ?_)
        refine ⟨.inl (by kernel_rfl), ?_⟩
        refine az ?_
        refine thn_n <| W.seq ?_
        refine W.drawF (n := 23) rfl ?_
        refine aq (i := 0) (y_move rfl rfl) rfl an rfl rfl ?_
        refine aq (i := 1) ((y_neq rfl rfl rfl).eq (u := .bool false) rfl) rfl an rfl rfl ?_
        refine aq (i := 2) (y_move rfl rfl) rfl an rfl rfl ?_
        first | refine aq (i := 3) (yldW rfl rfl) rfl (wantε_some rfl rfl rfl rfl) rfl rfl ?_ | refine aq (i := 3) (yldA rfl rfl) rfl (wantε_some rfl rfl rfl rfl) rfl rfl ?_
        refine aq (i := 4) (y_move rfl rfl) rfl (wantε_some rfl rfl rfl rfl) rfl rfl ?_
        refine aq (i := 5) (y_move rfl rfl) rfl (wantε_some rfl rfl rfl rfl) rfl rfl ?_
        first | refine aq (i := 6) (yix rfl rfl rfl) rfl (wantε_some rfl rfl rfl rfl) rfl rfl ?_ | refine aq (i := 6) (yixI rfl rfl rfl) rfl (wantε_some rfl rfl rfl rfl) rfl rfl ?_
        refine aq (i := 7) (y_fieldAddr rfl rfl) rfl (wantε_some rfl rfl rfl rfl) rfl rfl ?_
        refine aq (i := 8) (yld rfl rfl) rfl (wantε_some rfl rfl rfl rfl) rfl rfl ?_
        refine aq (i := 9) (y_fieldAddr rfl rfl) rfl (wantε_some rfl rfl rfl rfl) rfl rfl ?_
        refine aq (i := 10) (yld rfl rfl) rfl (wantε_some rfl rfl rfl rfl) rfl rfl ?_
        first | refine aq (i := 11) (yadd rfl rfl rfl) rfl (wantε_some rfl rfl rfl rfl) rfl rfl ?_ | refine aq (i := 11) (y_addw rfl rfl rfl) rfl (wantε_some rfl rfl rfl rfl) rfl rfl ?_
        refine aq (i := 12) (y_move rfl rfl) rfl (wantε_some rfl rfl rfl rfl) rfl rfl ?_
        refine aq (i := 13) (y_move rfl rfl) rfl (wantε_some rfl rfl rfl rfl) rfl rfl ?_
        first | refine aq (i := 14) (yix rfl rfl rfl) rfl (wantε_some rfl rfl rfl rfl) rfl rfl ?_ | refine aq (i := 14) (yixI rfl rfl rfl) rfl (wantε_some rfl rfl rfl rfl) rfl rfl ?_
        refine aq (i := 15) (y_fieldAddr rfl rfl) rfl (wantε_some rfl rfl rfl rfl) rfl rfl ?_
        refine aq (i := 16) (yld rfl rfl) rfl (wantε_some rfl rfl rfl rfl) rfl rfl ?_
        refine aq (i := 17) (y_fieldAddr rfl rfl) rfl (wantε_some rfl rfl rfl rfl) rfl rfl ?_
        refine aq (i := 18) (yld rfl rfl) rfl (wantε_some rfl rfl rfl rfl) rfl rfl ?_
        first | refine aq (i := 19) (yadd rfl rfl rfl) rfl (wantε_some rfl rfl rfl rfl) rfl rfl ?_ | refine aq (i := 19) (y_addw rfl rfl rfl) rfl (wantε_some rfl rfl rfl rfl) rfl rfl ?_
        refine aq (i := 20) (y_build (parts := [⟨_, _⟩, ⟨_, _⟩]) (cs := #[I (b.day + lo), I (b.day + hi')]) rfl rfl rfl) rfl (wantε_some rfl rfl rfl rfl) rfl rfl ?_
        refine aq (i := 21) (Yv.eq (u := .bool false) (y_neA [b.day + lo, b.day + hi'] [b.day + lo, b.day + hi'] rfl rfl rfl rfl rfl rfl rfl) (by simp)) rfl (wantε_some rfl rfl rfl rfl) rfl rfl ?_
        refine aq (i := 22) (y_pickF rfl rfl rfl) rfl an rfl rfl ?_
        refine az ?_
        refine thn_n ?_
        refine W.condF ?_
        refine W.skip <| blk_n <| thn_n <| W.region rfl <| qm rfl rfl rfl ?_
        first | refine oq (yadd rfl rfl rfl) rfl wn rfl rfl ?_ | refine oq (y_addw rfl rfl rfl) rfl wn rfl rfl ?_
        refine qs rfl rfl rfl <| Ops.nil <| thn_n ?_
        exact ⟨rfl, k + 1, by omega, by omega, ⟨rfl, rfl, rfl, rfl, rfl, trivial⟩, by repeat (first | exact Sb.refl | refine Sb.skip rfl ?_)⟩
    · refine W.exit <| thn_x <| thn_x <| blk_x <| thn_n <| W.seq <| W.region rfl <| qm rfl rfl rfl <| qm rfl rfl rfl ?_
      refine oq (y_len rfl rfl) rfl wn rfl rfl ?_
      refine oq ((y_eql rfl rfl rfl).eq (u := .bool true) (congrArg Value.bool (decide_eq_true (by omega)))) rfl wn rfl rfl ?_
      refine qm rfl rfl rfl ?_
      refine cp (fun h' hE hL => exs_fn _ hS hmb h' Eg zg ((hE0.trans hE).1 _ _ hg) ((hE0.trans hE).2 _ z0)) ?_ (hw := want_some rfl rfl rfl)
      refine oq (y_pickT rfl rfl rfl) rfl wn rfl rfl ?_
      refine qs rfl rfl rfl <| Ops.nil <| thn_n <| W.ret ?_
      exact lvq rfl
end Go.Mus

/- FloorAll's card. Conditions: as the card says; over the given program. -/
namespace Go.Proofs.YtabnpjbnoedfgaaDoor
open Go Go.Mus
set_option maxRecDepth 100000
set_option maxHeartbeats 4000000
theorem floorAll_row : Rows.FloorAllSaid :=
  OpenClaim.holds_of_wide_leaving n_law_FloorAll F_law_FloorAll rfl rfl rfl rfl rfl rfl rfl ⟨rfl, rfl, rfl, rfl, rfl⟩ rfl rfl rfl rfl rfl (by kernel_rfl) at_law_FloorAll (by kernel_rfl)
    (of_decide_eq_true (by kernel_rfl)) (by unfold Func.isWrapper; first | (rw [if_pos (by decide +kernel)]; kernel_rfl) | (rw [if_neg (by decide +kernel)]; exact ⟨rfl, rfl⟩))
    (fun os started H enc _ => lift1 (s := Rows.floorAllSpec) os started H enc at_law_FloorAll (by kernel_rfl) (by kernel_rfl) (by kernel_rfl) (by kernel_rfl) (by kernel_rfl) rfl (fun _ => rfl)
      (ChangeSpec.witness_at (enc := enc) (C := Tryd.checked) (os := os) (X := fun w _ => laidMetH prog laid0 w) false (laidWorld os) #[.slice none 0 0] 8 rfl (by kernel_rfl) (by kernel_rfl) (by kernel_rfl) (by kernel_rfl) (by kernel_rfl) (laidWorld_met os _))
      (fun main hS hmb h nums lv Eg zg hl hg z0 => FloorAll_top main hS hmb h nums lv Eg zg hl hg z0))

theorem FloorAll_card : Rows.FloorAllCardSaid :=
  tied_goes .later [] [.handle] true (true, "2e2133920f864db8286a366f85eb0bf56b29bab96a3561a4e902e110205c3504") true
    floorAll_row (fun _ h => by cases h) (by kernel_rfl) (fun _ h => by cases h) floorAll_row_tie rfl ⟨rfl, rfl⟩ (by kernel_rfl) rfl
    (fun f fn hf hfn => by
      obtain rfl : f = n_law_FloorAll := (Option.some.inj ((show prog.funcNamed Rows.floorAllRow.func = some n_law_FloorAll by kernel_rfl).symm.trans hf)).symm
      obtain rfl : fn = F_law_FloorAll := (Option.some.inj (at_law_FloorAll.symm.trans hfn)).symm
      exact ⟨by kernel_rfl, fun j t ht => by
        rw [show (F_law_FloorAll).params = #[t_sl_int] by kernel_rfl] at ht
        have h3 : t = t_sl_int := by
          rcases j with _ | j
          · simpa using ht.symm
          · simp at ht
        subst h3
        exact (show prog.wantsStandIn t_sl_int = false by kernel_rfl)⟩)
    (by kernel_rfl)
#print axioms FloorAll_card
end Go.Proofs.YtabnpjbnoedfgaaDoor
