/- More places and the like. Conditions: none; over the given program. (And 1 texts more.) -/
import Derived.Test.YtabnpjbnoedfgaaDoorFloorMoreQ1
import Derived.Test.YtabnpjbnoedfgaaDoorFloorMoreQ2
import Derived.Test.YtabnpjbnoedfgaaDoorP13
set_option linter.unusedVariables false
set_option linter.unusedSimpArgs false

/- More places and the like. Conditions: none; over the given program. -/
namespace Go.Mus
set_option maxRecDepth 100000
set_option maxHeartbeats 40000000

def DupP (fs : List Fl) (ss : List St) (v : Value) (A : Frag) : Prop := ∃ vf' vs' Sf Ss, v = .agg #[vf', vs'] ∧ (Os t_Floor Fl.row vf' fs Sf ∧ Os t_Strike St.row vs' ss Ss) ∧ Sb (Sf ++ Ss) A
theorem Part.setD {c : Array Value} {l : List Fl} {j : Nat} {x : Fl} {u v : Int} (h : Part c 0 (flat Fl.row l)) (hj : l[j]? = some x) : Part (putAll c (0 + j * 4 + 1) [I u, I v]) 0 (flat Fl.row (l.set j ⟨x.pl, u, v, x.co⟩)) := by
  have h1 := h.setR (⟨x.pl, u, x.hi, x.co⟩ : Fl) 1 (I u) (by decide) hj rfl
  have e1 : (l.set j (⟨x.pl, u, x.hi, x.co⟩ : Fl))[j]? = some ⟨x.pl, u, x.hi, x.co⟩ := List.getElem?_set_self (lt_of_get hj)
  have h2 := h1.setR (⟨x.pl, u, v, x.co⟩ : Fl) 2 (I v) (by decide) e1 rfl
  rw [List.set_set] at h2
  simpa [putAll, Nat.add_assoc] using h2
theorem FloorMore_top (main : Side) (hS : ∀ S, main.ok S → ∃ Fin, S = Mn prog Fin) (hmb : main.b = true) (h : Hp) (nums : List Int) (lv : Value) (Eg : TypeId) (zg : Nat × Nat) (hl : Sl h rowI lv nums) (hg : h 0 = some (.cells #[rtV t_error] Eg zg)) (z0 : h.z 0) : TopV prog main n_law_FloorMore #[lv] h (.bool true) := by
  refine TopV.of_body at_law_FloorMore rfl (by show 1 ≤ 182; decide) [(0, lv)] ⟨rfl, trivial⟩ ?_
  refine W.seq ?_
  refine W.region rfl ?_
  refine oq (y_assign rfl rfl) rfl wn rfl rfl ?_
  refine Ops.nil ?_
  refine thn_n ?_
  refine W.seq ?_
  refine W.region rfl ?_
  refine oq (y_move rfl rfl) rfl wn rfl rfl ?_
  refine c0 (fun h' hE hL => NewHat_fn _ h' nums lv (hl.ext hE)) (fun v A' hv => ?_)
  obtain ⟨bh, s0, rfl, rfl⟩ := hv
  refine oq (y_assign rfl rfl) rfl wn rfl rfl ?_
  refine Ops.nil ?_
  refine thn_n ?_
  refine W.seq ?_
  refine W.region rfl ?_
  refine oq (y_move rfl rfl) rfl wn rfl rfl ?_
  refine cg (A := [(bh, _)]) .head (fun h' hE hL => PlantOf_fn _ h' nums lv bh s0 3 2 (hl.ext hE) (by decide) (by decide)) (fun v A' hv => ?_)
  obtain ⟨vf, vs, fs, ss, Sf, Ss, k1, s1, rfl, ⟨hOf, hOs⟩, ⟨hck, hn4, hw⟩, hk100, hsb⟩ := hv
  refine Ops.sb (F' := (bh, hatO lv k1 s1) :: (Sf ++ Ss)) (hsb.trans (Sb.right .refl .nil)) ?_
  obtain ⟨a, cap, rfl⟩ := hOf.isSl
  obtain ⟨a', cap', rfl⟩ := hOs.isSl
  have hnf := (hall_ck hck).nf
  refine Ops.new (fun β4 => ?_)
  first | refine Ops.stoW ?_ | refine Ops.stoA ?_
  refine Ops.nil ?_
  refine thn_n ?_
  refine W.sb (F' := Sf ++ (Ss ++ [(β4, .cells #[.slice a fs.length cap, .slice a' ss.length cap'] t_Plant (0, 0)), (bh, hatO lv k1 s1)])) (.of_perm (by rw [← List.append_assoc]; exact List.perm_append_comm (l₂ := [_, _]))) ?_
  refine freezeOs hOf (fun hx hEx hslf hzf => ?_)
  refine freezeOs hOs (fun hy hEy hsls hzs => ?_)
  have hE0 := hEx.trans hEy
  refine W.seq ?_
  refine W.region rfl ?_
  refine oq (y_move rfl rfl) rfl wn rfl rfl ?_
  refine oq (y_fieldAddr rfl rfl) rfl wn rfl rfl ?_
  refine oq (yld rfl rfl) rfl wn rfl rfl ?_
  refine oq (y_len rfl rfl) rfl wn rfl rfl ?_
  first | refine oq (ysub rfl rfl rfl) rfl wn rfl rfl ?_ | refine oq (y_subw rfl rfl rfl) rfl wn rfl rfl ?_
  refine cg (A := [(bh, _)]) (.tail .head) (fun h' hE hL => To_fn _ h' nums lv bh k1 s1 ((fs.length : Int) - 1) (hl.ext (hE0.trans hE)) (by omega) (by omega)) (fun v A' hv => ?_)
  obtain ⟨r, s2, rfl, ⟨hr0, hr1⟩, hsb2⟩ := hv
  obtain ⟨f, rfl⟩ : ∃ f : Nat, r = f := ⟨r.toNat, by omega⟩
  have hfl : f < fs.length := by omega
  refine Ops.sb (F' := [(β4, .cells #[.slice a fs.length cap, .slice a' ss.length cap'] t_Plant (0, 0)), (bh, hatO lv (k1 + 1) s2)]) (.cons (hsb2.app .refl)) ?_
  refine oq (y_assign rfl rfl) rfl wn rfl rfl ?_
  refine Ops.nil ?_
  refine thn_n ?_
  refine W.seq ?_
  --thn
  refine W.drawP1 (n := 16) rfl ?_
  refine aq (i := 0) (yldW rfl rfl) rfl an rfl rfl ?_
  refine aq (i := 2) (yldW rfl rfl) rfl an rfl rfl ?_
  refine aq (i := 4) (yldW rfl rfl) rfl an rfl rfl ?_
  refine aq (i := 6) (yldW rfl rfl) rfl an rfl rfl ?_
  have hDup : ∀ h', Ext hy h' → Fnc prog main n_kit_DupPlant #[.agg #[.slice a fs.length cap, .slice a' ss.length cap']] h' [] (DupP fs ss) := fun h' hE => DupPlant_fn _ h' fs ss _ _ (hslf.ext (hEy.trans hE)) (hsls.ext hE) (by omega)
  refine Any.bag (fuel := 4) (m := 8) (B := [(1, 33, DupP fs ss), (3, 35, DupP fs ss), (5, 37, DupP fs ss), (7, 39, DupP fs ss), (8, 6, NewP t_Plant _), (9, 7, NewP t_Plant _), (10, 8, NewP t_Plant _), (11, 9, NewP t_Plant _)]) (by
    intro s hs
    simp only [List.mem_cons, List.not_mem_nil, or_false] at hs
    rcases hs with rfl | rfl | rfl | rfl | rfl | rfl | rfl | rfl
    · exact Adds.call (args := [_]) (fun h' hE => hDup h' hE)
    · exact Adds.call (args := [_]) (fun h' hE => hDup h' hE)
    · exact Adds.call (args := [_]) (fun h' hE => hDup h' hE)
    · exact Adds.call (args := [_]) (fun h' hE => hDup h' hE)
    · exact Adds.new
    · exact Adds.new
    · exact Adds.new
    · exact Adds.new) ?_ (Keeps.one (.head _) .nil) rfl (by
    intro s hs
    simp only [List.mem_cons, List.not_mem_nil, or_false] at hs
    rcases hs with rfl | rfl | rfl | rfl | rfl | rfl | rfl | rfl <;> rfl) (by kernel_rfl) (show [1, 3, 5, 7, 8, 9, 10, 11].Nodup by decide) (show [33, 35, 37, 39, 6, 7, 8, 9].Nodup by decide)
  simp only [bagA]
  rintro v1 A1 ⟨vf1, vs1, Sf1, Ss1, rfl, ⟨hOf1, hOs1⟩, hb1⟩ v2 A2 ⟨vf2, vs2, Sf2, Ss2, rfl, ⟨hOf2, hOs2⟩, hb2⟩ v3 A3 ⟨vf3, vs3, Sf3, Ss3, rfl, ⟨hOf3, hOs3⟩, hb3⟩ v4 A4 ⟨vf4, vs4, Sf4, Ss4, rfl, ⟨hOf4, hOs4⟩, hb4⟩ v5 A5 ⟨β6, rfl, rfl⟩ v6 A6 ⟨β7, rfl, rfl⟩ v7 A7 ⟨β8, rfl, rfl⟩ v8 A8 ⟨β9, rfl, rfl⟩
  obtain ⟨a1, cap1, rfl⟩ := hOf1.isSl
  obtain ⟨c1, dap1, rfl⟩ := hOs1.isSl
  obtain ⟨a2, cap2, rfl⟩ := hOf2.isSl
  obtain ⟨c2, dap2, rfl⟩ := hOs2.isSl
  obtain ⟨a3, cap3, rfl⟩ := hOf3.isSl
  obtain ⟨c3, dap3, rfl⟩ := hOs3.isSl
  obtain ⟨a4, cap4, rfl⟩ := hOf4.isSl
  obtain ⟨c4, dap4, rfl⟩ := hOs4.isSl
  generalize hz : (.cells #[.slice none 0 0, .slice none 0 0] t_Plant (0, 0) : Obj) = z
  generalize hb : (.cells #[.slice a fs.length cap, .slice a' ss.length cap'] t_Plant (0, 0) : Obj) = p
  refine Any.sb (F' := (β4, p) :: (β6, z) :: (β7, z) :: (β8, z) :: (β9, z) :: (bh, hatO lv (k1 + 1) s2) :: (Ss1 ++ (Ss2 ++ (Sf3 ++ (Ss4 ++ (Sf1 ++ (Sf2 ++ (Sf4 ++ Ss3)))))))) (.trans (.of_perm (perm_cnt fun y => ?_)) (.cons (.cons (.cons (.cons (hb4.app (hb3.app (hb2.app (hb1.app .refl))))))))) ?_
  · simp only [List.count_append, List.count_cons, List.count_nil]; omega
  subst hz hb
  refine ae (i := 12) rfl an rfl rfl (eSW rfl rfl rfl ?_)
  refine ⟨.inr (Keeps.one (.head _) .nil), ?_⟩
  refine ae (i := 13) rfl an rfl rfl (eSW rfl rfl rfl ?_)
  refine ⟨.inr (Keeps.one (.head _) .nil), ?_⟩
  refine ae (i := 14) rfl an rfl rfl (eSW rfl rfl rfl ?_)
  refine ⟨.inr (Keeps.one (.head _) .nil), ?_⟩
  refine ae (i := 15) rfl an rfl rfl (eSW rfl rfl rfl ?_)
  refine ⟨.inl (by kernel_rfl), ?_⟩
  refine az ?_
  refine freezeAt hOs1 (.tail (.tail (.tail (.tail (.tail (.tail .head)))))) (fun g1 hG1 hsls1 hzs1 => ?_)
  refine freezeAt hOs2 (.tail (.tail (.tail (.tail (.tail (.tail (.app .head))))))) (fun g2 hG2 hsls2 hzs2 => ?_)
  refine freezeAt hOf3 (.tail (.tail (.tail (.tail (.tail (.tail (.app (.app .head)))))))) (fun g3 hG3 hslf3 hzf3 => ?_)
  refine freezeAt hOs4 (.tail (.tail (.tail (.tail (.tail (.tail (.app (.app (.app .head))))))))) (fun g4 hG4 hsls4 hzs4 => ?_)
  have q3 := hG4
  have q2 := hG3.trans q3
  have q1 := hG2.trans q2
  have q0 := hEy.trans (hG1.trans q1)
  have qa := hEx.trans q0
  replace hslf := hslf.ext q0
  replace hzf := hzf.ext q0
  replace hsls := hsls.ext (hG1.trans q1)
  replace hzs := hzs.ext (hG1.trans q1)
  replace hsls1 := hsls1.ext q1
  replace hzs1 := hzs1.ext q1
  replace hsls2 := hsls2.ext q2
  replace hzs2 := hzs2.ext q2
  replace hslf3 := hslf3.ext q3
  replace hzf3 := hzf3.ext q3
  obtain ⟨x, hx0, -⟩ := has hfl
  have hxo := ckFloor_at hck hx0
  obtain ⟨bf, off, c, E, fz, rfl, hb, -, hy1, hz1⟩ := hslf.at hx0
  have hd0 : c[off + f * 4 + 0]? = some (I x.pl) := hz1 0 (by decide)
  have hd1 : c[off + f * 4 + 1]? = some (I x.lo) := hz1 1 (by decide)
  have hd2 : c[off + f * 4 + 2]? = some (I x.hi) := hz1 2 (by decide)
  have hd3 : c[off + f * 4 + 3]? = some (I x.co) := hz1 3 (by decide)
  clear hz1
  obtain ⟨b1, z1, J1, rfl, rfl, -, hs1, hn1, hP1, hJ1⟩ := hOf1.open (by omega)
  obtain ⟨b2, z2, J2, rfl, rfl, -, hs2, hn2, hP2, hJ2⟩ := hOf2.open (by omega)
  obtain ⟨b4, z4, J4, rfl, rfl, -, hs4, hn4', hP4, hJ4⟩ := hOf4.open (by omega)
  have hw1 := (hP1.rowE hx0).2
  have hw2 := (hP2.rowE hx0).2
  have hw4 := (hP4.rowE hx0).2
  obtain ⟨u1, hu1⟩ : ∃ u, u = min 9 (x.pl + 1) := ⟨_, rfl⟩
  have hR1 : Part (z1.setIfInBounds (0 + f * 4 + 0) (I u1)) 0 (flat Fl.row (fs.set f ⟨u1, x.lo, x.hi, x.co⟩)) := by rw [Nat.zero_add]; exact hP1.setR ⟨u1, x.lo, x.hi, x.co⟩ 0 (I u1) (by decide) hx0 rfl
  obtain ⟨hk1, hle1⟩ := more_floor (g := ⟨u1, x.lo, x.hi, x.co⟩) hck hx0 (by simp only; omega) (by simp only; omega) (Int.le_refl _) (Int.le_refl _)
  refine W.seq ?_
  refine W.drawP6 (n := 14) rfl ?_
  refine aq (i := 0) (y_fieldAddr rfl rfl) rfl an rfl rfl ?_
  refine aq (i := 1) (yld rfl rfl) rfl an rfl rfl ?_
  refine aq (i := 2) (y_move rfl rfl) rfl an rfl rfl ?_
  refine aq (i := 3) (y_fieldAddr rfl rfl) rfl an rfl rfl ?_
  refine aq (i := 4) (yld rfl rfl) rfl an rfl rfl ?_
  refine aq (i := 5) (y_move rfl rfl) rfl an rfl rfl ?_
  first | refine aq (i := 6) (yix rfl rfl rfl) rfl an rfl rfl ?_ | refine aq (i := 6) (yixI rfl rfl rfl) rfl an rfl rfl ?_
  refine aq (i := 7) (y_fieldAddr rfl rfl) rfl an rfl rfl ?_
  refine aq (i := 8) (yld rfl rfl) rfl an rfl rfl ?_
  refine aq (i := 9) (yadd rfl rfl rfl) rfl an rfl rfl ?_
  refine aq (i := 10) (Yv.eq (u := I u1) (y_min rfl rfl rfl) (congrArg I hu1.symm)) rfl an rfl rfl ?_
  first | refine aq (i := 11) (yix rfl rfl rfl) rfl an rfl rfl ?_ | refine aq (i := 11) (yixI rfl rfl rfl) rfl an rfl rfl ?_
  refine aq (i := 12) (y_fieldAddr rfl rfl) rfl an rfl rfl ?_
  refine ae (i := 13) rfl an rfl rfl (eS rfl rfl rfl ?_)
  refine ⟨.inl (by kernel_rfl), ?_⟩
  refine az ?_
  refine thn_n ?_
  have hO1' : Os t_Floor Fl.row (.slice (some ⟨b1, 0, none⟩) fs.length cap1) (fs.set f ⟨u1, x.lo, x.hi, x.co⟩) ((b1, .cells (z1.setIfInBounds (0 + f * 4 + 0) (I u1)) t_Floor (0, 0)) :: J1) := .inr ⟨b1, _, cap1, J1, by rw [List.length_set], rfl, by rw [Array.size_setIfInBounds]; exact hs1, by rw [List.length_set]; exact hn1, hR1, hJ1⟩
  refine freezeAt hO1' (.tail (.tail (.tail (.tail (.tail (.tail .head)))))) (fun g5 hG5 hslf1 hzf1 => ?_)
  have hb' := hG5.1 _ _ hb
  refine W.seq ?_
  refine W.drawP5 (n := 14) rfl ?_
  refine aq (i := 0) (y_fieldAddr rfl rfl) rfl an rfl rfl ?_
  refine aq (i := 1) (yld rfl rfl) rfl an rfl rfl ?_
  refine aq (i := 2) (y_move rfl rfl) rfl an rfl rfl ?_
  refine aq (i := 3) (y_move rfl rfl) rfl an rfl rfl ?_
  refine aq (i := 4) (y_fieldAddr rfl rfl) rfl an rfl rfl ?_
  refine aq (i := 5) (yld rfl rfl) rfl an rfl rfl ?_
  refine aq (i := 6) (y_move rfl rfl) rfl an rfl rfl ?_
  first | refine aq (i := 7) (yix rfl rfl rfl) rfl an rfl rfl ?_ | refine aq (i := 7) (yixI rfl rfl rfl) rfl an rfl rfl ?_
  refine aq (i := 8) (y_fieldAddr rfl rfl) rfl an rfl rfl ?_
  refine aq (i := 9) (yld rfl rfl) rfl an rfl rfl ?_
  refine ae (i := 10) rfl an rfl rfl (e_call (A := [(bh, _)]) (args := [_, _, _]) rfl rfl (.tail (.tail (.tail (.tail (.tail .head))))) (fun h' hE hL => From_fn _ h' nums lv bh (k1 + 1) s2 x.co 9 (hl.ext ((qa.trans hG5).trans hE)) (by omega) (by omega)) (fun v A' hv => ?_))
  refine ⟨.inr (by repeat (first | exact Keeps.nil | refine Keeps.one (by repeat (first | exact List.Mem.head _ | apply List.Mem.tail)) ?_)), ?_⟩
  obtain ⟨r6, s3, rfl, hr6, hsb6⟩ := hv
  refine Any.sb (.cons (.cons (.cons (.cons (.cons hsb6.app1))))) ?_
  have hR2 : Part (z2.setIfInBounds (0 + f * 4 + 3) (I r6)) 0 (flat Fl.row (fs.set f ⟨x.pl, x.lo, x.hi, r6⟩)) := by rw [Nat.zero_add]; exact hP2.setR ⟨x.pl, x.lo, x.hi, r6⟩ 3 (I r6) (by decide) hx0 rfl
  obtain ⟨hk2, hle2⟩ := more_floor (g := ⟨x.pl, x.lo, x.hi, r6⟩) hck hx0 (by simp only; omega) (Int.le_refl _) (Int.le_refl _) (by simp only; omega)
  first | refine aq (i := 11) (yix rfl rfl rfl) rfl an rfl rfl ?_ | refine aq (i := 11) (yixI rfl rfl rfl) rfl an rfl rfl ?_
  refine aq (i := 12) (y_fieldAddr rfl rfl) rfl an rfl rfl ?_
  refine ae (i := 13) rfl an rfl rfl (eS rfl rfl rfl ?_)
  refine ⟨.inl (by kernel_rfl), ?_⟩
  refine az ?_
  refine thn_n ?_
  have hO2' : Os t_Floor Fl.row (.slice (some ⟨b2, 0, none⟩) fs.length cap2) (fs.set f ⟨x.pl, x.lo, x.hi, r6⟩) ((b2, .cells (z2.setIfInBounds (0 + f * 4 + 3) (I r6)) t_Floor (0, 0)) :: J2) := .inr ⟨b2, _, cap2, J2, by rw [List.length_set], rfl, by rw [Array.size_setIfInBounds]; exact hs2, by rw [List.length_set]; exact hn2, hR2, hJ2⟩
  refine freezeAt hO2' (.tail (.tail (.tail (.tail (.tail (.tail .head)))))) (fun g6 hG6 hslf2 hzf2 => ?_)
  have hb'' := hG6.1 _ _ hb'
  refine W.seq ?_
  refine W.drawP5 (n := 17) rfl ?_
  refine aq (i := 0) (y_move rfl rfl) rfl an rfl rfl ?_
  refine aq (i := 1) (y_fieldAddr rfl rfl) rfl an rfl rfl ?_
  refine aq (i := 2) (yld rfl rfl) rfl an rfl rfl ?_
  refine aq (i := 3) (y_move rfl rfl) rfl an rfl rfl ?_
  first | refine aq (i := 4) (yix rfl rfl rfl) rfl an rfl rfl ?_ | refine aq (i := 4) (yixI rfl rfl rfl) rfl an rfl rfl ?_
  refine aq (i := 5) (y_fieldAddr rfl rfl) rfl an rfl rfl ?_
  refine aq (i := 6) (y_fieldAddr rfl rfl) rfl an rfl rfl ?_
  refine aq (i := 7) (yld rfl rfl) rfl an rfl rfl ?_
  refine aq (i := 8) (y_fieldAddr rfl rfl) rfl an rfl rfl ?_
  refine aq (i := 9) (yld rfl rfl) rfl an rfl rfl ?_
  refine aq (i := 10) (y_move rfl rfl) rfl an rfl rfl ?_
  first | refine aq (i := 11) (yix rfl rfl rfl) rfl an rfl rfl ?_ | refine aq (i := 11) (yixI rfl rfl rfl) rfl an rfl rfl ?_
  refine aq (i := 12) (y_fieldAddr rfl rfl) rfl an rfl rfl ?_
  refine aq (i := 13) (y_fieldAddr rfl rfl) rfl an rfl rfl ?_
  refine aq (i := 14) (yld rfl rfl) rfl an rfl rfl ?_
  refine ae (i := 15) rfl an rfl rfl (e_call (A := [(bh, _)]) (args := [_, _, _]) rfl rfl (.tail (.tail (.tail (.tail (.tail .head))))) (fun h' hE hL => From_fn _ h' nums lv bh (k1 + 1 + 1) s3 x.lo x.hi (hl.ext (((qa.trans hG5).trans hG6).trans hE)) (by omega) (by omega)) (fun v A' hv => ?_))
  refine ⟨.inr (by repeat (first | exact Keeps.nil | refine Keeps.one (by repeat (first | exact List.Mem.head _ | apply List.Mem.tail)) ?_)), ?_⟩
  obtain ⟨r7, s4, rfl, hr7, hsb7⟩ := hv
  refine Any.sb (.cons (.cons (.cons (.cons (.cons hsb7.app1))))) ?_
  refine aq (i := 16) (y_assign rfl rfl) rfl an rfl rfl ?_
  refine az ?_
  refine thn_n ?_
  refine W.seq ?_
  refine W.drawP5 (n := 18) rfl ?_
  refine aq (i := 0) (y_fieldAddr rfl rfl) rfl an rfl rfl ?_
  refine aq (i := 1) (yld rfl rfl) rfl an rfl rfl ?_
  refine aq (i := 2) (y_move rfl rfl) rfl an rfl rfl ?_
  refine aq (i := 3) (y_move rfl rfl) rfl an rfl rfl ?_
  refine aq (i := 4) (y_move rfl rfl) rfl an rfl rfl ?_
  refine aq (i := 5) (y_move rfl rfl) rfl an rfl rfl ?_
  refine aq (i := 6) (y_fieldAddr rfl rfl) rfl an rfl rfl ?_
  refine aq (i := 7) (yld rfl rfl) rfl an rfl rfl ?_
  refine aq (i := 8) (y_move rfl rfl) rfl an rfl rfl ?_
  first | refine aq (i := 9) (yix rfl rfl rfl) rfl an rfl rfl ?_ | refine aq (i := 9) (yixI rfl rfl rfl) rfl an rfl rfl ?_
  refine aq (i := 10) (y_fieldAddr rfl rfl) rfl an rfl rfl ?_
  refine aq (i := 11) (y_fieldAddr rfl rfl) rfl an rfl rfl ?_
  refine aq (i := 12) (yld rfl rfl) rfl an rfl rfl ?_
  refine ae (i := 13) rfl an rfl rfl (e_call (A := [(bh, _)]) (args := [_, _, _]) rfl rfl (.tail (.tail (.tail (.tail (.tail .head))))) (fun h' hE hL => From_fn _ h' nums lv bh (k1 + 1 + 1 + 1) s4 r7 x.hi (hl.ext (((qa.trans hG5).trans hG6).trans hE)) (by omega) (by omega)) (fun v A' hv => ?_))
  refine ⟨.inr (by repeat (first | exact Keeps.nil | refine Keeps.one (by repeat (first | exact List.Mem.head _ | apply List.Mem.tail)) ?_)), ?_⟩
  obtain ⟨r8, s5, rfl, hr8, hsb8⟩ := hv
  refine Any.sb (.cons (.cons (.cons (.cons (.cons hsb8.app1))))) ?_
  have hR4 : Part (putAll z4 (0 + f * 4 + 1) [I r7, I r8]) 0 (flat Fl.row (fs.set f ⟨x.pl, r7, r8, x.co⟩)) := hP4.setD hx0
  obtain ⟨hk4, hle4⟩ := more_floor (g := ⟨x.pl, r7, r8, x.co⟩) hck hx0 (by simp only; omega) (Int.le_refl _) (by simp only; omega) (by simp only; omega)
  refine aq (i := 14) (y_build (cs := #[I r7, I r8]) rfl rfl rfl) rfl an rfl rfl ?_
  first | refine aq (i := 15) (yix rfl rfl rfl) rfl an rfl rfl ?_ | refine aq (i := 15) (yixI rfl rfl rfl) rfl an rfl rfl ?_
  refine aq (i := 16) (y_fieldAddr rfl rfl) rfl an rfl rfl ?_
  first | refine ae (i := 17) rfl an rfl rfl (eSW rfl rfl rfl ?_) | refine ae (i := 17) rfl an rfl rfl (eSA rfl rfl rfl ?_)
  refine ⟨.inl (by kernel_rfl), ?_⟩
  refine az ?_
  refine thn_n ?_
  have hO4' : Os t_Floor Fl.row (.slice (some ⟨b4, 0, none⟩) fs.length cap4) (fs.set f ⟨x.pl, r7, r8, x.co⟩) ((b4, .cells (putAll z4 (0 + f * 4 + 1) [I r7, I r8]) t_Floor (0, 0)) :: J4) := .inr ⟨b4, _, cap4, J4, by rw [List.length_set], rfl, by rw [putAll_size]; exact hs4, by rw [List.length_set]; exact hn4', hR4, hJ4⟩
  refine freezeAt hO4' (.tail (.tail (.tail (.tail (.tail (.tail .head)))))) (fun g7 hG7 hslf4 hzf4 => ?_)
  have p7 := (hG5.trans hG6).trans hG7
  refine W.seq ?_
  refine W.region rfl ?_
  first | refine oq (yldW rfl rfl) rfl wn rfl rfl ?_ | refine oq (yldA rfl rfl) rfl wn rfl rfl ?_
  refine c0 (fun h' hE hL => DupPlant_fn _ h' fs ss _ _ (hslf.ext (p7.trans hE)) (hsls.ext (p7.trans hE)) (by omega)) (fun v A' hv => ?_)
  obtain ⟨vf5, vs5, Sf5, Ss5, rfl, ⟨hOf5, hOs5⟩, hb5⟩ := hv
  obtain ⟨a5, cap5, rfl⟩ := hOf5.isSl
  obtain ⟨c5, dap5, rfl⟩ := hOs5.isSl
  generalize hm1 : (.cells #[.slice (some ⟨bf, off, none⟩) fs.length cap, .slice a' ss.length cap'] t_Plant (0, 0) : Obj) = m1
  generalize hm2 : (.cells #[.slice (some ⟨b1, 0, none⟩) fs.length cap1, .slice c1 ss.length dap1] t_Plant (0, 0) : Obj) = m2
  generalize hm3 : (.cells #[.slice (some ⟨b2, 0, none⟩) fs.length cap2, .slice c2 ss.length dap2] t_Plant (0, 0) : Obj) = m3
  generalize hm4 : (.cells #[.slice a3 fs.length cap3, .slice c3 ss.length dap3] t_Plant (0, 0) : Obj) = m4
  generalize hm5 : (.cells #[.slice (some ⟨b4, 0, none⟩) fs.length cap4, .slice c4 ss.length dap4] t_Plant (0, 0) : Obj) = m5
  refine Ops.sb (F' := (β4, m1) :: (β6, m2) :: (β7, m3) :: (β8, m4) :: (β9, m5) :: (bh, hatO lv (k1 + 1 + 1 + 1 + 1) s5) :: (Sf5 ++ (Ss5 ++ Ss3))) (.trans (.of_perm (perm_cnt fun y => ?_)) (hb5.app .refl)) ?_
  · simp only [List.count_append, List.count_cons, List.count_nil]; omega
  subst hm1 hm2 hm3 hm4 hm5
  refine Ops.new (fun β11 => ?_)
  first | refine Ops.stoW ?_ | refine Ops.stoA ?_
  refine Ops.nil ?_
  refine thn_n ?_
  refine W.seq ?_
  refine W.seq ?_
  refine W.region rfl ?_
  refine oq (y_fieldAddr rfl rfl) rfl wn rfl rfl ?_
  refine oq (yld rfl rfl) rfl wn rfl rfl ?_
  refine oq (y_len rfl rfl) rfl wn rfl rfl ?_
  refine oq (y_assign rfl rfl) rfl wn rfl rfl ?_
  refine Ops.nil ?_
  refine thn_n ?_
  refine W.seq ?_
  refine W.region rfl ?_
  refine oq (y_move rfl rfl) rfl wn rfl rfl ?_
  refine oq (y_gtr rfl rfl rfl) rfl wn rfl rfl ?_
  refine Ops.nil ?_
  refine thn_n ?_
  refine W.condp rfl (fun c105 => ?_) (fun c105 => ?_)
  · have hpos : 0 < ss.length := by omega
    refine W.seq ?_
    refine W.region rfl ?_
    refine oq (y_move rfl rfl) rfl wn rfl rfl ?_
    refine oq (y_move rfl rfl) rfl wn rfl rfl ?_
    first | refine oq (ysub rfl rfl rfl) rfl wn rfl rfl ?_ | refine oq (y_subw rfl rfl rfl) rfl wn rfl rfl ?_
    refine cg (A := [(bh, _)]) (.tail (.tail (.tail (.tail (.tail (.tail .head)))))) (fun h' hE hL => To_fn _ h' nums lv bh (k1 + 1 + 1 + 1 + 1) s5 ((ss.length : Int) - 1) (hl.ext ((qa.trans p7).trans hE)) (by omega) (by omega)) (fun v A' hv => ?_)
    obtain ⟨r, s6, rfl, ⟨hr0, hr1⟩, hsb9⟩ := hv
    obtain ⟨s, rfl⟩ : ∃ s : Nat, r = s := ⟨r.toNat, by omega⟩
    have hsl : s < ss.length := by omega
    refine Ops.sb (.cons (.cons (.cons (.cons (.cons (.cons hsb9.app1)))))) ?_
    refine oq (y_assign rfl rfl) rfl wn rfl rfl ?_
    refine Ops.nil ?_
    refine thn_n ?_
    obtain ⟨t, ht0, -⟩ := has hsl
    have hto := strike_ok hck ht0
    obtain ⟨bf2, off2, cc, E2, fz2, rfl, hb2, -, hy2, hz2⟩ := hsls.at ht0
    have hb2' := p7.1 _ _ hb2
    have he2 : cc[off2 + s * 3 + 2]? = some (I t.wa) := hz2 2 (by decide)
    clear hz2
    obtain ⟨b3, z3, J3, rfl, rfl, -, hs3, hn3, hP3, hJ3⟩ := hOs3.open hpos
    obtain ⟨b5, z5, J5, rfl, hA5, -, -, hn5, -, -⟩ := hOs5.open hpos
    have hw3 := (hP3.rowE ht0).2
    obtain ⟨u3, hu3⟩ : ∃ u, u = min 3 (t.wa + 1) := ⟨_, rfl⟩
    have hR3 : Part (z3.setIfInBounds (0 + s * 3 + 2) (I u3)) 0 (flat St.row (ss.set s ⟨t.day, t.co, u3⟩)) := by rw [Nat.zero_add]; exact hP3.setR ⟨t.day, t.co, u3⟩ 2 (I u3) (by decide) ht0 rfl
    obtain ⟨hk3, hle3⟩ := more_wait (w := u3) hck ht0 (by omega) (by omega)
    obtain ⟨hk5, hle5⟩ := less_best hck hsl
    refine W.seq ?_
    refine W.drawP6 (n := 14) rfl ?_
    refine aq (i := 0) (y_fieldAddr rfl rfl) rfl an rfl rfl ?_
    refine aq (i := 1) (yld rfl rfl) rfl an rfl rfl ?_
    refine aq (i := 2) (y_move rfl rfl) rfl an rfl rfl ?_
    refine aq (i := 3) (y_fieldAddr rfl rfl) rfl an rfl rfl ?_
    refine aq (i := 4) (yld rfl rfl) rfl an rfl rfl ?_
    refine aq (i := 5) (y_move rfl rfl) rfl an rfl rfl ?_
    first | refine aq (i := 6) (yix rfl rfl rfl) rfl an rfl rfl ?_ | refine aq (i := 6) (yixI rfl rfl rfl) rfl an rfl rfl ?_
    refine aq (i := 7) (y_fieldAddr rfl rfl) rfl an rfl rfl ?_
    refine aq (i := 8) (yld rfl rfl) rfl an rfl rfl ?_
    refine aq (i := 9) (yadd rfl rfl rfl) rfl an rfl rfl ?_
    refine aq (i := 10) (Yv.eq (u := I u3) (y_min rfl rfl rfl) (congrArg I hu3.symm)) rfl an rfl rfl ?_
    first | refine aq (i := 11) (yix rfl rfl rfl) rfl an rfl rfl ?_ | refine aq (i := 11) (yixI rfl rfl rfl) rfl an rfl rfl ?_
    refine aq (i := 12) (y_fieldAddr rfl rfl) rfl an rfl rfl ?_
    refine ae (i := 13) rfl an rfl rfl (eS rfl rfl rfl ?_)
    refine ⟨.inl (by kernel_rfl), ?_⟩
    refine az ?_
    refine thn_n ?_
    refine W.drawP6 (n := 12) rfl ?_
    refine aq (i := 0) (y_fieldAddr rfl rfl) rfl an rfl rfl ?_
    refine aq (i := 1) (yld rfl rfl) rfl an rfl rfl ?_
    refine aq (i := 2) (y_move rfl rfl) rfl an rfl rfl ?_
    refine aq (i := 3) (y_sliceHi (m := s) rfl rfl rfl (.inl rfl)) rfl an rfl rfl ?_
    refine aq (i := 4) (y_fieldAddr rfl rfl) rfl an rfl rfl ?_
    refine aq (i := 5) (yld rfl rfl) rfl an rfl rfl ?_
    refine aq (i := 6) (y_move rfl rfl) rfl an rfl rfl ?_
    refine aq (i := 7) (Yv.eq (u := I ((s + 1 : Nat) : Int)) (yadd rfl rfl rfl) (show I _ = I _ by congr 1)) rfl an rfl rfl ?_
    refine aq (i := 8) (y_sliceLo (m := s + 1) rfl rfl rfl) rfl an rfl rfl ?_
    refine ae (i := 9) rfl an rfl rfl (e_appendOver (l := ss) rfl rfl rfl hOs5 hsl (.tail (.tail (.tail (.tail (.tail (.tail (.tail (.app .head)))))))) (fun A5 hO5 => ?_))
    refine ⟨.inr (by repeat (first | exact Keeps.nil | refine Keeps.one (by repeat (first | exact List.Mem.head _ | apply List.Mem.tail)) ?_)), ?_⟩
    refine aq (i := 10) (y_fieldAddr rfl rfl) rfl an rfl rfl ?_
    refine ae (i := 11) rfl an rfl rfl (eS rfl rfl rfl ?_)
    refine ⟨.inl (by kernel_rfl), ?_⟩
    refine az ?_
    refine thn_n ?_
    try
      have hO3 : Os t_Strike St.row (.slice (some ⟨b3, 0, none⟩) ss.length dap3) (ss.set s ⟨t.day, t.co, u3⟩) ((b3, .cells (z3.setIfInBounds (0 + s * 3 + 2) (I u3)) t_Strike (0, 0)) :: J3) := .inr ⟨b3, _, dap3, J3, by rw [List.length_set], rfl, by rw [Array.size_setIfInBounds]; exact hs3, by rw [List.length_set]; exact hn3, hR3, hJ3⟩
      obtain ⟨c3, hc3⟩ : ∃ c, c = some (⟨b3, 0, none⟩ : Addr) := ⟨_, rfl⟩
      rw [← hc3]
      rw [← hc3] at hO3
    refine freezeAt hOf5 (.tail (.tail (.tail (.tail (.tail (.tail (.tail .head))))))) (fun g8 (hG8 : Ext g7 g8) hslf5 hzf5 => ?_)
    have p8 := p7.trans hG8
    refine freezeAt hO5 (.tail (.tail (.tail (.tail (.tail (.tail (.tail .head))))))) (fun g9 (hG9 : Ext g8 g9) hsls5 hzs5 => ?_)
    refine freezeAt hO3 (.tail (.tail (.tail (.tail (.tail (.tail (.tail .all))))))) (fun g10 (hG10 : Ext g9 g10) hsls3 hzs3 => ?_)
    have p10 := (p8.trans hG9).trans hG10
    have x9 := hG9.trans hG10
    have x8 := hG8.trans x9
    have x7 := hG7.trans x8
    have x6 := hG6.trans x7
    replace hslf := hslf.ext p10
    replace hzf := hzf.ext p10
    replace hsls := hsls.ext p10
    replace hzs := hzs.ext p10
    replace hsls1 := hsls1.ext p10
    replace hzs1 := hzs1.ext p10
    replace hsls2 := hsls2.ext p10
    replace hzs2 := hzs2.ext p10
    replace hsls4 := hsls4.ext p10
    replace hzs4 := hzs4.ext p10
    replace hslf3 := hslf3.ext p10
    replace hzf3 := hzf3.ext p10
    replace hslf1 := hslf1.ext x6
    replace hzf1 := hzf1.ext x6
    replace hslf2 := hslf2.ext x7
    replace hzf2 := hzf2.ext x7
    replace hslf4 := hslf4.ext x8
    replace hzf4 := hzf4.ext x8
    replace hslf5 := hslf5.ext x9
    replace hzf5 := hzf5.ext x9
    replace hsls5 := hsls5.ext hG10
    replace hzs5 := hzs5.ext hG10
    refine W.seq ?_
    skip
    refine W.region rfl ?_
    first | refine oq (yldW rfl rfl) rfl wn rfl rfl ?_ | refine oq (yldA rfl rfl) rfl wn rfl rfl ?_
    refine cp (fun h' hE hL => lawloaves_fn main hS hmb h' fs ss _ _ Eg zg (hslf.ext hE) (hsls.ext hE) (hzf.ext hE) (hzs.ext hE) hck (((qa.trans p10).trans hE).1 _ _ hg) (((qa.trans p10).trans hE).2 _ z0)) ?_
    refine oq (y_move rfl rfl) rfl wn rfl rfl ?_
    refine oq (y_extract rfl rfl rfl) rfl wn rfl rfl ?_
    refine oq (y_extract rfl rfl rfl) rfl wn rfl rfl ?_
    refine oq (y_assign rfl rfl) rfl wn rfl rfl ?_
    refine oq (y_assign rfl rfl) rfl wn rfl rfl ?_
    refine Ops.nil ?_
    refine thn_n ?_
    refine W.seq ?_
    refine W.region rfl ?_
    first | refine oq (yldW rfl rfl) rfl wn rfl rfl ?_ | refine oq (yldA rfl rfl) rfl wn rfl rfl ?_
    first | refine oq (yldW rfl rfl) rfl wn rfl rfl ?_ | refine oq (yldA rfl rfl) rfl wn rfl rfl ?_
    first | refine oq (yldW rfl rfl) rfl wn rfl rfl ?_ | refine oq (yldA rfl rfl) rfl wn rfl rfl ?_
    first | refine oq (yldW rfl rfl) rfl wn rfl rfl ?_ | refine oq (yldA rfl rfl) rfl wn rfl rfl ?_
    refine Ops.bsl (cs := #[.slice (some ⟨b1, 0, none⟩) fs.length cap1, .slice c1 ss.length dap1, .slice (some ⟨b2, 0, none⟩) fs.length cap2, .slice c2 ss.length dap2, .slice a3 fs.length cap3, .slice c3 ss.length dap3, .slice (some ⟨b4, 0, none⟩) fs.length cap4, .slice c4 ss.length dap4]) (fun β143 => ?_) rfl (hf := by kernel_rfl)
    refine oq (y_assign rfl rfl) rfl wn rfl rfl ?_
    refine Ops.nil ?_
    refine thn_n ?_
    refine W.seq ?_
    refine W.seq ?_
    refine W.region rfl ?_
    refine oq (y_assign rfl rfl) rfl wn rfl rfl ?_
    refine Ops.nil ?_
    refine thn_n ?_
    refine W.block ?_
    have hget : ∀ k, k < 4 → ∃ ve vt fs' ss', (#[.slice (some ⟨b1, 0, none⟩) fs.length cap1, .slice c1 ss.length dap1, .slice (some ⟨b2, 0, none⟩) fs.length cap2, .slice c2 ss.length dap2, .slice a3 fs.length cap3, .slice c3 ss.length dap3, .slice (some ⟨b4, 0, none⟩) fs.length cap4, .slice c4 ss.length dap4] : Array Value).extract (0 + k * 2) (0 + k * 2 + 2) = #[ve, vt] ∧ Sl g10 Fl.row ve fs' ∧ Sl g10 St.row vt ss' ∧ Zs g10 ve ∧ Zs g10 vt ∧ ckPlant fs' ss' = 0 ∧ (bestF fs ss).1 ≤ (bestF fs' ss').1 := by
      intro k hk
      rcases (by omega : k = 0 ∨ k = 1 ∨ k = 2 ∨ k = 3) with rfl | rfl | rfl | rfl
      · exact ⟨_, _, _, _, rfl, hslf1, hsls1, hzf1, hzs1, hk1, hle1⟩
      · exact ⟨_, _, _, _, rfl, hslf2, hsls2, hzf2, hzs2, hk2, hle2⟩
      · exact ⟨_, _, _, _, rfl, hslf3, hsls3, hzf3, hzs3, hk3, hle3⟩
      · exact ⟨_, _, _, _, rfl, hslf4, hsls4, hzf4, hzs4, hk4, hle4⟩
    refine W.loop (σ := Nat) (fun k => k ≤ 4) (fun k => [(17, I k), (16, .slice (some ⟨β143, 0, none⟩) 4 4), (15, .bool true), (14, I (bestF fs ss).1), (11, .pointer (some ⟨β11, 0, none⟩))]) (fun _ => _) (fun k => 4 - k) 0 (Nat.zero_le _) ⟨rfl, rfl, rfl, rfl, rfl, trivial⟩ .refl ?_
    rintro k hk
    refine W.seq ?_
    refine W.seq ?_
    refine W.region rfl ?_
    refine oq (y_move rfl rfl) rfl wn rfl rfl ?_
    refine oq (y_move rfl rfl) rfl wn rfl rfl ?_
    refine oq (y_len rfl rfl) rfl wn rfl rfl ?_
    refine oq (y_lss rfl rfl rfl) rfl wn rfl rfl ?_
    refine Ops.nil ?_
    refine thn_n ?_
    refine W.condp rfl (fun c147 => ?_) (fun c147 => ?_)
    · have hk4' : k < 4 := by omega
      obtain ⟨ve, vt, fs', ss', hld, hA1, hA2, hA3, hA4, hA6, hA7⟩ := hget k hk4'
      refine W.skip ?_
      refine thn_n ?_
      refine W.seq ?_
      refine W.block ?_
      refine W.seq ?_
      refine W.region rfl ?_
      refine oq (y_move rfl rfl) rfl wn rfl rfl ?_
      refine oq (y_move rfl rfl) rfl wn rfl rfl ?_
      first | refine oq (yix rfl rfl rfl) rfl wn rfl rfl ?_ | refine oq (yixI rfl rfl rfl) rfl wn rfl rfl ?_
      refine oq (yldA (vs := #[ve, vt]) rfl rfl (hn := (by omega : 0 + k * 2 + 2 ≤ 8)) (hv := hld)) rfl wn rfl rfl ?_
      refine cp (fun h' hE hL => lawloaves_fn main hS hmb h' fs' ss' _ _ Eg zg (hA1.ext hE) (hA2.ext hE) (hA3.ext hE) (hA4.ext hE) hA6 (((qa.trans p10).trans hE).1 _ _ hg) (((qa.trans p10).trans hE).2 _ z0)) ?_
      refine oq (y_move rfl rfl) rfl wn rfl rfl ?_
      refine oq (y_extract rfl rfl rfl) rfl wn rfl rfl ?_
      refine oq (y_extract rfl rfl rfl) rfl wn rfl rfl ?_
      refine oq (y_assign rfl rfl) rfl wn rfl rfl ?_
      refine oq (y_assign rfl rfl) rfl wn rfl rfl ?_
      refine Ops.nil ?_
      refine thn_n ?_
      refine W.seq ?_
      refine W.region rfl ?_
      refine oq (y_move rfl rfl) rfl wn rfl rfl ?_
      --abs F
      refine oq ((y_not rfl rfl).eq (u := .bool false) rfl) rfl wn rfl rfl ?_
      refine oq (y_move rfl rfl) rfl wn rfl rfl ?_
      refine oq (y_move rfl rfl) rfl (want_some rfl rfl rfl) rfl rfl ?_
      refine oq (y_move rfl rfl) rfl (want_some rfl rfl rfl) rfl rfl ?_
      --abs F
      refine oq ((y_lss rfl rfl rfl).eq (u := .bool false) (congrArg Value.bool (decide_eq_false (by omega)))) rfl (want_some rfl rfl rfl) rfl rfl ?_
      refine oq (y_pickF rfl rfl rfl) rfl wn rfl rfl ?_
      refine Ops.nil ?_
      refine thn_n ?_
      refine W.condF ?_
      refine W.skip ?_
      refine blk_n ?_
      refine thn_n ?_
      refine W.region rfl ?_
      refine oq (y_move rfl rfl) rfl wn rfl rfl ?_
      first | refine oq (yadd rfl rfl rfl) rfl wn rfl rfl ?_ | refine oq (y_addw rfl rfl rfl) rfl wn rfl rfl ?_
      refine oq (y_assign rfl rfl) rfl wn rfl rfl ?_
      refine Ops.nil ?_
      refine thn_n ?_
      exact ⟨rfl, k + 1, by omega, by omega, ⟨rfl, rfl, rfl, rfl, rfl, trivial⟩, .refl⟩
    · refine W.exit ?_
      refine thn_x ?_
      refine thn_x ?_
      refine blk_x ?_
      refine thn_n ?_
      refine W.seq ?_
      refine W.region rfl ?_
      first | refine oq (yldW rfl rfl) rfl wn rfl rfl ?_ | refine oq (yldA rfl rfl) rfl wn rfl rfl ?_
      refine cp (fun h' hE hL => lawloaves_fn main hS hmb h' fs _ _ _ Eg zg (hslf5.ext hE) (hsls5.ext hE) (hzf5.ext hE) (hzs5.ext hE) hk5 (((qa.trans p10).trans hE).1 _ _ hg) (((qa.trans p10).trans hE).2 _ z0)) ?_
      refine oq (y_move rfl rfl) rfl wn rfl rfl ?_
      refine oq (y_extract rfl rfl rfl) rfl wn rfl rfl ?_
      refine oq (y_extract rfl rfl rfl) rfl wn rfl rfl ?_
      refine oq (y_assign rfl rfl) rfl wn rfl rfl ?_
      refine oq (y_assign rfl rfl) rfl wn rfl rfl ?_
      refine Ops.nil ?_
      refine thn_n ?_
      refine W.seq ?_
      refine W.region rfl ?_
      --abs T
      refine oq ((y_move rfl rfl).eq (u := .bool true) rfl) rfl wn rfl rfl ?_
      refine oq (y_move rfl rfl) rfl wn rfl rfl ?_
      --abs T
      refine oq ((y_move rfl rfl).eq (u := .bool true) rfl) rfl (want_some rfl rfl rfl) rfl rfl ?_
      refine oq (y_pickT rfl rfl rfl) rfl wn rfl rfl ?_
      refine oq (y_move rfl rfl) rfl wn rfl rfl ?_
      refine oq (y_move rfl rfl) rfl (want_some rfl rfl rfl) rfl rfl ?_
      refine oq (y_move rfl rfl) rfl (want_some rfl rfl rfl) rfl rfl ?_
      --abs T
      refine oq ((y_leq rfl rfl rfl).eq (u := .bool true) (congrArg Value.bool (decide_eq_true hle5))) rfl (want_some rfl rfl rfl) rfl rfl ?_
      refine oq (y_pickT rfl rfl rfl) rfl wn rfl rfl ?_
      refine oq (y_move rfl rfl) rfl wn rfl rfl ?_
      --abs T
      refine cp (fun h' hE hL => exs_fn _ hS hmb h' Eg zg (((qa.trans p10).trans hE).1 _ _ hg) (((qa.trans p10).trans hE).2 _ z0)) ?_ (hw := want_some rfl rfl rfl)
      refine oq (y_pickT rfl rfl rfl) rfl wn rfl rfl ?_
      refine oq (y_assign rfl rfl) rfl wn rfl rfl ?_
      refine Ops.nil ?_
      refine thn_n ?_
      refine W.ret ?_
      exact lvq rfl
  · have hO3 := hOs3
    have hO5 := hOs5
    have hk3 := hck
    have hle3 := Int.le_refl (bestF fs ss).1
    have hk5 := hck
    have hle5 := Int.le_refl (bestF fs ss).1
    refine W.skip ?_
    refine thn_n ?_
    try
      have hO3 : Os t_Strike St.row (.slice (some ⟨b3, 0, none⟩) ss.length dap3) (ss.set s ⟨t.day, t.co, u3⟩) ((b3, .cells (z3.setIfInBounds (0 + s * 3 + 2) (I u3)) t_Strike (0, 0)) :: J3) := .inr ⟨b3, _, dap3, J3, by rw [List.length_set], rfl, by rw [Array.size_setIfInBounds]; exact hs3, by rw [List.length_set]; exact hn3, hR3, hJ3⟩
      obtain ⟨c3, hc3⟩ : ∃ c, c = some (⟨b3, 0, none⟩ : Addr) := ⟨_, rfl⟩
      rw [← hc3]
      rw [← hc3] at hO3
    refine freezeAt hOf5 (.tail (.tail (.tail (.tail (.tail (.tail (.tail .head))))))) (fun g8 (hG8 : Ext g7 g8) hslf5 hzf5 => ?_)
    have p8 := p7.trans hG8
    refine freezeAt hO5 (.tail (.tail (.tail (.tail (.tail (.tail (.tail .head))))))) (fun g9 (hG9 : Ext g8 g9) hsls5 hzs5 => ?_)
    refine freezeAt hO3 (.tail (.tail (.tail (.tail (.tail (.tail (.tail .all))))))) (fun g10 (hG10 : Ext g9 g10) hsls3 hzs3 => ?_)
    have p10 := (p8.trans hG9).trans hG10
    have x9 := hG9.trans hG10
    have x8 := hG8.trans x9
    have x7 := hG7.trans x8
    have x6 := hG6.trans x7
    replace hslf := hslf.ext p10
    replace hzf := hzf.ext p10
    replace hsls := hsls.ext p10
    replace hzs := hzs.ext p10
    replace hsls1 := hsls1.ext p10
    replace hzs1 := hzs1.ext p10
    replace hsls2 := hsls2.ext p10
    replace hzs2 := hzs2.ext p10
    replace hsls4 := hsls4.ext p10
    replace hzs4 := hzs4.ext p10
    replace hslf3 := hslf3.ext p10
    replace hzf3 := hzf3.ext p10
    replace hslf1 := hslf1.ext x6
    replace hzf1 := hzf1.ext x6
    replace hslf2 := hslf2.ext x7
    replace hzf2 := hzf2.ext x7
    replace hslf4 := hslf4.ext x8
    replace hzf4 := hzf4.ext x8
    replace hslf5 := hslf5.ext x9
    replace hzf5 := hzf5.ext x9
    replace hsls5 := hsls5.ext hG10
    replace hzs5 := hzs5.ext hG10
    refine W.seq ?_
    skip
    refine W.region rfl ?_
    first | refine oq (yldW rfl rfl) rfl wn rfl rfl ?_ | refine oq (yldA rfl rfl) rfl wn rfl rfl ?_
    refine cp (fun h' hE hL => lawloaves_fn main hS hmb h' fs ss _ _ Eg zg (hslf.ext hE) (hsls.ext hE) (hzf.ext hE) (hzs.ext hE) hck (((qa.trans p10).trans hE).1 _ _ hg) (((qa.trans p10).trans hE).2 _ z0)) ?_
    refine oq (y_move rfl rfl) rfl wn rfl rfl ?_
    refine oq (y_extract rfl rfl rfl) rfl wn rfl rfl ?_
    refine oq (y_extract rfl rfl rfl) rfl wn rfl rfl ?_
    refine oq (y_assign rfl rfl) rfl wn rfl rfl ?_
    refine oq (y_assign rfl rfl) rfl wn rfl rfl ?_
    refine Ops.nil ?_
    refine thn_n ?_
    refine W.seq ?_
    refine W.region rfl ?_
    first | refine oq (yldW rfl rfl) rfl wn rfl rfl ?_ | refine oq (yldA rfl rfl) rfl wn rfl rfl ?_
    first | refine oq (yldW rfl rfl) rfl wn rfl rfl ?_ | refine oq (yldA rfl rfl) rfl wn rfl rfl ?_
    first | refine oq (yldW rfl rfl) rfl wn rfl rfl ?_ | refine oq (yldA rfl rfl) rfl wn rfl rfl ?_
    first | refine oq (yldW rfl rfl) rfl wn rfl rfl ?_ | refine oq (yldA rfl rfl) rfl wn rfl rfl ?_
    refine Ops.bsl (cs := #[.slice (some ⟨b1, 0, none⟩) fs.length cap1, .slice c1 ss.length dap1, .slice (some ⟨b2, 0, none⟩) fs.length cap2, .slice c2 ss.length dap2, .slice a3 fs.length cap3, .slice c3 ss.length dap3, .slice (some ⟨b4, 0, none⟩) fs.length cap4, .slice c4 ss.length dap4]) (fun β143 => ?_) rfl (hf := by kernel_rfl)
    refine oq (y_assign rfl rfl) rfl wn rfl rfl ?_
    refine Ops.nil ?_
    refine thn_n ?_
    refine W.seq ?_
    refine W.seq ?_
    refine W.region rfl ?_
    refine oq (y_assign rfl rfl) rfl wn rfl rfl ?_
    refine Ops.nil ?_
    refine thn_n ?_
    refine W.block ?_
    have hget : ∀ k, k < 4 → ∃ ve vt fs' ss', (#[.slice (some ⟨b1, 0, none⟩) fs.length cap1, .slice c1 ss.length dap1, .slice (some ⟨b2, 0, none⟩) fs.length cap2, .slice c2 ss.length dap2, .slice a3 fs.length cap3, .slice c3 ss.length dap3, .slice (some ⟨b4, 0, none⟩) fs.length cap4, .slice c4 ss.length dap4] : Array Value).extract (0 + k * 2) (0 + k * 2 + 2) = #[ve, vt] ∧ Sl g10 Fl.row ve fs' ∧ Sl g10 St.row vt ss' ∧ Zs g10 ve ∧ Zs g10 vt ∧ ckPlant fs' ss' = 0 ∧ (bestF fs ss).1 ≤ (bestF fs' ss').1 := by
      intro k hk
      rcases (by omega : k = 0 ∨ k = 1 ∨ k = 2 ∨ k = 3) with rfl | rfl | rfl | rfl
      · exact ⟨_, _, _, _, rfl, hslf1, hsls1, hzf1, hzs1, hk1, hle1⟩
      · exact ⟨_, _, _, _, rfl, hslf2, hsls2, hzf2, hzs2, hk2, hle2⟩
      · exact ⟨_, _, _, _, rfl, hslf3, hsls3, hzf3, hzs3, hk3, hle3⟩
      · exact ⟨_, _, _, _, rfl, hslf4, hsls4, hzf4, hzs4, hk4, hle4⟩
    refine W.loop (σ := Nat) (fun k => k ≤ 4) (fun k => [(17, I k), (16, .slice (some ⟨β143, 0, none⟩) 4 4), (15, .bool true), (14, I (bestF fs ss).1), (11, .pointer (some ⟨β11, 0, none⟩))]) (fun _ => _) (fun k => 4 - k) 0 (Nat.zero_le _) ⟨rfl, rfl, rfl, rfl, rfl, trivial⟩ .refl ?_
    rintro k hk
    refine W.seq ?_
    refine W.seq ?_
    refine W.region rfl ?_
    refine oq (y_move rfl rfl) rfl wn rfl rfl ?_
    refine oq (y_move rfl rfl) rfl wn rfl rfl ?_
    refine oq (y_len rfl rfl) rfl wn rfl rfl ?_
    refine oq (y_lss rfl rfl rfl) rfl wn rfl rfl ?_
    refine Ops.nil ?_
    refine thn_n ?_
    refine W.condp rfl (fun c147 => ?_) (fun c147 => ?_)
    · have hk4' : k < 4 := by omega
      obtain ⟨ve, vt, fs', ss', hld, hA1, hA2, hA3, hA4, hA6, hA7⟩ := hget k hk4'
      refine W.skip ?_
      refine thn_n ?_
      refine W.seq ?_
      refine W.block ?_
      refine W.seq ?_
      refine W.region rfl ?_
      refine oq (y_move rfl rfl) rfl wn rfl rfl ?_
      refine oq (y_move rfl rfl) rfl wn rfl rfl ?_
      first | refine oq (yix rfl rfl rfl) rfl wn rfl rfl ?_ | refine oq (yixI rfl rfl rfl) rfl wn rfl rfl ?_
      refine oq (yldA (vs := #[ve, vt]) rfl rfl (hn := (by omega : 0 + k * 2 + 2 ≤ 8)) (hv := hld)) rfl wn rfl rfl ?_
      refine cp (fun h' hE hL => lawloaves_fn main hS hmb h' fs' ss' _ _ Eg zg (hA1.ext hE) (hA2.ext hE) (hA3.ext hE) (hA4.ext hE) hA6 (((qa.trans p10).trans hE).1 _ _ hg) (((qa.trans p10).trans hE).2 _ z0)) ?_
      refine oq (y_move rfl rfl) rfl wn rfl rfl ?_
      refine oq (y_extract rfl rfl rfl) rfl wn rfl rfl ?_
      refine oq (y_extract rfl rfl rfl) rfl wn rfl rfl ?_
      refine oq (y_assign rfl rfl) rfl wn rfl rfl ?_
      refine oq (y_assign rfl rfl) rfl wn rfl rfl ?_
      refine Ops.nil ?_
      refine thn_n ?_
      refine W.seq ?_
      refine W.region rfl ?_
      refine oq (y_move rfl rfl) rfl wn rfl rfl ?_
      --abs F
      refine oq ((y_not rfl rfl).eq (u := .bool false) rfl) rfl wn rfl rfl ?_
      refine oq (y_move rfl rfl) rfl wn rfl rfl ?_
      refine oq (y_move rfl rfl) rfl (want_some rfl rfl rfl) rfl rfl ?_
      refine oq (y_move rfl rfl) rfl (want_some rfl rfl rfl) rfl rfl ?_
      --abs F
      refine oq ((y_lss rfl rfl rfl).eq (u := .bool false) (congrArg Value.bool (decide_eq_false (by omega)))) rfl (want_some rfl rfl rfl) rfl rfl ?_
      refine oq (y_pickF rfl rfl rfl) rfl wn rfl rfl ?_
      refine Ops.nil ?_
      refine thn_n ?_
      refine W.condF ?_
      refine W.skip ?_
      refine blk_n ?_
      refine thn_n ?_
      refine W.region rfl ?_
      refine oq (y_move rfl rfl) rfl wn rfl rfl ?_
      first | refine oq (yadd rfl rfl rfl) rfl wn rfl rfl ?_ | refine oq (y_addw rfl rfl rfl) rfl wn rfl rfl ?_
      refine oq (y_assign rfl rfl) rfl wn rfl rfl ?_
      refine Ops.nil ?_
      refine thn_n ?_
      exact ⟨rfl, k + 1, by omega, by omega, ⟨rfl, rfl, rfl, rfl, rfl, trivial⟩, .refl⟩
    · refine W.exit ?_
      refine thn_x ?_
      refine thn_x ?_
      refine blk_x ?_
      refine thn_n ?_
      refine W.seq ?_
      refine W.region rfl ?_
      first | refine oq (yldW rfl rfl) rfl wn rfl rfl ?_ | refine oq (yldA rfl rfl) rfl wn rfl rfl ?_
      refine cp (fun h' hE hL => lawloaves_fn main hS hmb h' fs _ _ _ Eg zg (hslf5.ext hE) (hsls5.ext hE) (hzf5.ext hE) (hzs5.ext hE) hk5 (((qa.trans p10).trans hE).1 _ _ hg) (((qa.trans p10).trans hE).2 _ z0)) ?_
      refine oq (y_move rfl rfl) rfl wn rfl rfl ?_
      refine oq (y_extract rfl rfl rfl) rfl wn rfl rfl ?_
      refine oq (y_extract rfl rfl rfl) rfl wn rfl rfl ?_
      refine oq (y_assign rfl rfl) rfl wn rfl rfl ?_
      refine oq (y_assign rfl rfl) rfl wn rfl rfl ?_
      refine Ops.nil ?_
      refine thn_n ?_
      refine W.seq ?_
      refine W.region rfl ?_
      --abs T
      refine oq ((y_move rfl rfl).eq (u := .bool true) rfl) rfl wn rfl rfl ?_
      refine oq (y_move rfl rfl) rfl wn rfl rfl ?_
      --abs T
      refine oq ((y_move rfl rfl).eq (u := .bool true) rfl) rfl (want_some rfl rfl rfl) rfl rfl ?_
      refine oq (y_pickT rfl rfl rfl) rfl wn rfl rfl ?_
      refine oq (y_move rfl rfl) rfl wn rfl rfl ?_
      refine oq (y_move rfl rfl) rfl (want_some rfl rfl rfl) rfl rfl ?_
      refine oq (y_move rfl rfl) rfl (want_some rfl rfl rfl) rfl rfl ?_
      --abs T
      refine oq ((y_leq rfl rfl rfl).eq (u := .bool true) (congrArg Value.bool (decide_eq_true hle5))) rfl (want_some rfl rfl rfl) rfl rfl ?_
      refine oq (y_pickT rfl rfl rfl) rfl wn rfl rfl ?_
      refine oq (y_move rfl rfl) rfl wn rfl rfl ?_
      --abs T
      refine cp (fun h' hE hL => exs_fn _ hS hmb h' Eg zg (((qa.trans p10).trans hE).1 _ _ hg) (((qa.trans p10).trans hE).2 _ z0)) ?_ (hw := want_some rfl rfl rfl)
      refine oq (y_pickT rfl rfl rfl) rfl wn rfl rfl ?_
      refine oq (y_assign rfl rfl) rfl wn rfl rfl ?_
      refine Ops.nil ?_
      refine thn_n ?_
      refine W.ret ?_
      exact lvq rfl
end Go.Mus

/- FloorMore's card. Conditions: as the card says; over the given program. -/
namespace Go.Proofs.YtabnpjbnoedfgaaDoor
open Go Go.Mus
set_option maxRecDepth 100000
set_option maxHeartbeats 4000000

theorem floorMore_row : Rows.FloorMoreSaid :=
  OpenClaim.holds_of_wide_leaving n_law_FloorMore F_law_FloorMore rfl rfl rfl rfl rfl rfl rfl ⟨rfl, rfl, rfl, rfl, rfl⟩ rfl rfl rfl rfl rfl (by kernel_rfl) at_law_FloorMore (by kernel_rfl)
    (of_decide_eq_true (by kernel_rfl)) (by unfold Func.isWrapper; first | (rw [if_pos (by decide +kernel)]; kernel_rfl) | (rw [if_neg (by decide +kernel)]; exact ⟨rfl, rfl⟩))
    (fun os started H enc _ => lift1 (s := Rows.floorMoreSpec) os started H enc at_law_FloorMore (by kernel_rfl) (by kernel_rfl) (by kernel_rfl) (by kernel_rfl) (by kernel_rfl) rfl (fun _ => rfl)
      (ChangeSpec.witness_at (enc := enc) (C := Tryd.checked) (os := os) (X := fun w _ => laidMetH prog laid0 w) false (laidWorld os) #[.slice none 0 0] 8 rfl (by kernel_rfl) (by kernel_rfl) (by kernel_rfl) (by kernel_rfl) (by kernel_rfl) (laidWorld_met os _))
      (fun main hS hmb h nums lv Eg zg hl hg z0 => FloorMore_top main hS hmb h nums lv Eg zg hl hg z0))

theorem FloorMore_card : Rows.FloorMoreCardSaid :=
  tied_goes .later [] [.handle] true (true, "2e2133920f864db8286a366f85eb0bf56b29bab96a3561a4e902e110205c3504") true
    floorMore_row (fun _ h => by cases h) (by kernel_rfl) (fun _ h => by cases h) floorMore_row_tie rfl ⟨rfl, rfl⟩ (by kernel_rfl) rfl
    (fun f fn hf hfn => by
      obtain rfl : f = n_law_FloorMore := (Option.some.inj ((show prog.funcNamed Rows.floorMoreRow.func = some n_law_FloorMore by kernel_rfl).symm.trans hf)).symm
      obtain rfl : fn = F_law_FloorMore := (Option.some.inj (at_law_FloorMore.symm.trans hfn)).symm
      exact ⟨by kernel_rfl, fun j t ht => by
        rw [show (F_law_FloorMore).params = #[t_sl_int] by kernel_rfl] at ht
        have h3 : t = t_sl_int := by
          rcases j with _ | j
          · simpa using ht.symm
          · simp at ht
        subst h3
        exact (show prog.wantsStandIn t_sl_int = false by kernel_rfl)⟩)
    (by kernel_rfl)
#print axioms FloorMore_card
end Go.Proofs.YtabnpjbnoedfgaaDoor
