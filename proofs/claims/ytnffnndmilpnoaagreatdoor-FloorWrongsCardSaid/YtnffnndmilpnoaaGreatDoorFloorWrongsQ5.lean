/- What is wrong, when cones are done, days of doubt. Conditions: none; over the given program. (And 1 texts more.) -/
import Derived.Test.YtnffnndmilpnoaaGreatDoorFloorWrongsQ4
import Derived.Test.YtnffnndmilpnoaaGreatDoorFloorWrongsQ3
import Derived.Test.YtnffnndmilpnoaaGreatDoorFloorWrongsQ2
set_option linter.unusedVariables false
set_option linter.unusedSimpArgs false
set_option linter.unusedSectionVars false

/- What is wrong, when cones are done, days of doubt. Conditions: none; over the given program. -/
namespace Go.Mus
set_option maxRecDepth 100000
set_option maxHeartbeats 40000000
def DupP (fs : List Fl) (ss : List St) (v : Value) (A : Frag) : Prop := ∃ vf' vs' Sf Ss, v = .agg #[vf', vs'] ∧ (Os t_Floor Fl.row vf' fs Sf ∧ Os t_Strike St.row vs' ss Ss) ∧ Sb (Sf ++ Ss) A
def DupB (l : List Be) (v : Value) (A : Frag) : Prop := ∃ S, Os t_Berth Be.row v l S ∧ Sb S A
theorem dbK_two {f : Nat} {D : List Sp} : ∀ k, ∀ g ∈ dbK f D k, g.length = 2
  | 0, g, h => by simp [dbK] at h
  | k + 1, g, h => by
    rw [dbK] at h
    split at h
    · rcases List.mem_append.1 h with h | h
      · exact dbK_two k g h
      · have : g = [(f : Int), (k : Int)] := by simpa using h
        subst this; rfl
    · exact dbK_two k g h
theorem dbF_two {fs : List Fl} {ss : List St} {p : List Be} : ∀ k, ∀ g ∈ dbF fs ss p k, g.length = 2
  | 0, g, h => by simp [dbF] at h
  | k + 1, g, h => by
    rw [dbF] at h
    rcases List.mem_append.1 h with h | h
    · exact dbF_two k g h
    · exact dbK_two 22 g h
theorem doubt_small {fs : List Fl} {ss : List St} {l : List Be} : (doubtV fs ss l).1.length ≤ 100 ∧ ∀ g ∈ (doubtV fs ss l).1, g.length = 2 := by
  rw [doubtV]
  split
  · exact ⟨by simp, fun g h => by simp at h⟩
  · rename_i h
    have h0 : ckPlan fs ss l = 0 := by
      refine Decidable.byContradiction fun hx => h ?_
      unfold askE; rw [if_pos hx]; exact hx
    obtain ⟨hall, -, -⟩ := plan_ck h0
    have := hall.nf
    have := dbF_len (fs := fs) (ss := ss) (p := padB l) fs.length
    exact ⟨by simp only; omega, fun g hg => dbF_two _ g hg⟩

theorem FloorWrongs_top (main : Side) (hS : ∀ S, main.ok S → ∃ Fin, S = Mn prog Fin) (hmb : main.b = true) (h : Hp) (fs : List Fl) (ss : List St) (f : Fl) (st : St) (l : List Be) (number : Int) (nums : List Int) (vf vs vl lv : Value) (Eg : TypeId) (zg : Nat × Nat) (hf : Sl h Fl.row vf fs) (hs : Sl h St.row vs ss) (hl : Sl h Be.row vl l) (hnl : Sl h rowI lv nums) (hg : h 0 = some (.cells #[rtV t_error] Eg zg)) (z0 : h.z 0) : TopV prog main n_law_FloorWrongs #[.agg #[vf, vs], f.val, st.val, vl, I number, lv] h (.bool true) := by
  obtain ⟨a, cap, rfl⟩ := hf.isSl
  obtain ⟨a', cap', rfl⟩ := hs.isSl
  obtain ⟨al, lc, rfl⟩ := hl.isSl
  refine TopV.of_body at_law_FloorWrongs rfl (by show 6 ≤ 197; decide) [(0, .agg #[.slice a fs.length cap, .slice a' ss.length cap']), (1, f.val), (2, st.val), (3, .slice al l.length lc), (4, I number), (5, lv)] ⟨rfl, rfl, rfl, rfl, rfl, rfl, trivial⟩ ?_
  refine W.seq <| W.region rfl ?_
  refine Ops.box (cs := #[.slice a fs.length cap, .slice a' ss.length cap']) (fun β6 => ?_) rfl rfl rfl
  refine Ops.box (cs := #[I f.pl, I f.lo, I f.hi, I f.co]) (fun β7 => ?_) rfl rfl rfl
  refine Ops.box (cs := #[I st.day, I st.co, I st.wa]) (fun β8 => ?_) rfl rfl rfl
  refine qs rfl rfl rfl <| Ops.nil <| thn_n <| W.seq <| W.seq <| W.region rfl ?_
  first | refine oq (yldW rfl rfl) rfl wn rfl rfl ?_ | refine oq (yldA rfl rfl) rfl wn rfl rfl ?_
  refine cp (fun h' hE hL => vast_fn _ h' fs ss _ _ (hf.ext hE) (hs.ext hE)) ?_
  refine qm rfl rfl rfl ?_
  refine Ops.askB (fun a1_3 => ?_) (fun a1_3 => ?_)
  · refine Ops.no ?_
    refine Ops.no ?_
    refine Ops.no ?_
    refine oq (y_pickT rfl rfl rfl) rfl wn rfl rfl ?_
    refine Ops.nil <| thn_n ?_
    refine W.condT ?_
    refine W.seq <| W.region rfl ?_
    refine cp (fun h' hE hL => exs_fn _ hS hmb h' Eg zg (hE.1 _ _ hg) (hE.2 _ z0)) ?_
    refine qs rfl rfl rfl <| Ops.nil <| thn_n <| W.ret <| thn_r ?_
    exact lvq rfl
  · refine oq (y_move rfl rfl) rfl (want_some rfl rfl rfl) rfl rfl ?_
    refine oq (y_len rfl rfl) rfl (want_some rfl rfl rfl) rfl rfl ?_
    refine oq (y_gtr rfl rfl rfl) rfl (want_some rfl rfl rfl) rfl rfl ?_
    refine oq (y_pickF rfl rfl rfl) rfl wn rfl rfl ?_
    refine Ops.nil <| thn_n ?_
    refine W.condp rfl (fun c41 => ?_) (fun c41 => ?_)
    · refine W.seq <| W.region rfl ?_
      refine cp (fun h' hE hL => exs_fn _ hS hmb h' Eg zg (hE.1 _ _ hg) (hE.2 _ z0)) ?_
      refine qs rfl rfl rfl <| Ops.nil <| thn_n <| W.ret <| thn_r ?_
      exact lvq rfl
    · have hfs : fs.length ≤ 20 ∧ ss.length ≤ 20 := by simp at a1_3; omega
      have hln : l.length ≤ 20 := by omega
      refine W.skip <| thn_n <| W.seq <| W.region rfl <| qm rfl rfl rfl ?_
      refine c0 (fun h' hE hL => NewHat_fn _ h' nums lv (hnl.ext hE)) (fun v A' hv => ?_)
      obtain ⟨bh, s0, rfl, rfl⟩ := hv
      refine qs rfl rfl rfl <| Ops.nil <| thn_n <| W.seq <| W.region rfl ?_
      first | refine oq (yldW rfl rfl) rfl wn rfl rfl ?_ | refine oq (yldA rfl rfl) rfl wn rfl rfl ?_
      first | refine oq (yldW rfl rfl) rfl wn rfl rfl ?_ | refine oq (yldA rfl rfl) rfl wn rfl rfl ?_
      first | refine oq (yldW rfl rfl) rfl wn rfl rfl ?_ | refine oq (yldA rfl rfl) rfl wn rfl rfl ?_
      refine qm rfl rfl rfl ?_
      refine cg (A := [(bh, _)]) .head (fun h' hE hL => several_fn _ h' nums lv bh s0 fs ss f st _ _ (hnl.ext hE) (hf.ext hE) (hs.ext hE)) (fun v A' hv => ?_)
      obtain ⟨βp, p0, p1, p2, fs1, ss1, fs2, ss2, Sf1, Ss1, Sf2, Ss2, k1, s1, rfl, ⟨hp0f, hp0s⟩, ⟨hOf1, hOs1⟩, ⟨hOf2, hOs2⟩, ⟨hck1, hn3, hl2f, hl2s⟩, hk1, hsb⟩ := hv
      have hnf1 := (hall_ck hck1).nf
      refine Ops.sb (hsb.trans (Sb.right .refl (.cons rfl (.cons rfl (.cons rfl .nil))))) ?_
      refine qs rfl rfl rfl <| Ops.nil <| thn_n <| W.seq <| W.region rfl <| qm rfl rfl rfl <| qm rfl rfl rfl ?_
      first | refine oq (yix rfl rfl rfl) rfl wn rfl rfl ?_ | refine oq (yixI rfl rfl rfl) rfl wn rfl rfl ?_
      refine oq (yldA (vs := #[p1.f.val, p1.s.val]) rfl rfl (.inr (fun _ e => by subst e; exact .head _)) (by show 0 + 1 * 2 + 2 ≤ 6; decide) rfl) rfl wn rfl rfl ?_
      refine cg (A := [(bh, _)]) (.tail .head) (fun h' hE hL => BerthsOf_fn _ h' nums lv bh k1 s1 fs1 ss1 p1.f.val p1.s.val (hnl.ext hE) (hOf1.sl fun b o hb => hL b o (.tail _ (List.mem_append_right [] (List.mem_append_left _ hb)))) (hOs1.sl fun b o hb => hL b o (.tail _ (List.mem_append_right [] (List.mem_append_right _ (List.mem_append_left _ hb))))) hck1 (by omega)) (fun v A' hv => ?_)
      obtain ⟨lo, So, k2, s2, hOo, hcpo, hk2, hsb2⟩ := hv
      obtain ⟨so, rfl⟩ := Sv.eta hOo
      have hlo : lo.length ≤ 20 := by have := ckPlan0 hcpo; omega
      refine Ops.sb (.cons (hsb2.app .refl)) ?_
      refine qs rfl rfl rfl <| Ops.nil <| thn_n <| W.seq <| W.region rfl <| qm rfl rfl rfl <| qm rfl rfl rfl <| qm rfl rfl rfl ?_
      refine Ops.bsl (cs := (flat rowS [⟨al, l.length, lc⟩, so, so]).toArray) (fun β58 => ?_) rfl (hf := by kernel_rfl)
      refine qm rfl rfl rfl <| qm rfl rfl rfl ?_
      refine cg (A := [(bh, _)]) (.tail (.tail .head)) (fun h' hE hL => To_fn _ h' nums lv bh k2 s2 2 (hnl.ext hE) (by omega) (by decide)) (fun v A' hv => ?_)
      obtain ⟨r1, s3, rfl, -, hb3⟩ := hv
      refine Ops.sb (.cons (.cons (Sb.app1 hb3))) ?_
      refine qm rfl rfl rfl ?_
      refine Ops.bsl (cs := (flat rowI [number, r1, number]).toArray) (fun β63 => ?_) rfl (hf := by kernel_rfl)
      refine qs rfl rfl rfl <| qs rfl rfl rfl <| Ops.nil <| thn_n <| W.seq ?_
      refine freezeAt hOo (.tail (.tail (.tail (.tail .head)))) (fun g1 hE1 hslo _ => ?_)
      refine freezeAt hOf1 (.tail (.tail (.tail (.tail .head)))) (fun g2 hE2 hslf1 _ => ?_)
      refine freezeAt hOs1 (.tail (.tail (.tail (.tail .head)))) (fun g3 hE3 hsls1 _ => ?_)
      refine freezeAt hOf2 (.tail (.tail (.tail (.tail .head)))) (fun g4 hE4 hslf2 _ => ?_)
      refine freezeAt hOs2 (.tail (.tail (.tail (.tail .all)))) (fun g5 hE5 hsls2 _ => ?_)
      refine freezeK (b := β63) Kn.nil rfl .head (fun g7 hK => ?_)
      refine freezeK (b := β58) hK rfl .head (fun g8 hK => ?_)
      refine freezeK (b := βp) hK rfl .head (fun g9 hK => ?_)
      show W ⟨prog, main, n_law_FloorWrongs, F_law_FloorWrongs.ntmps, none, g9⟩ _ _ _ _ _
      have e5 := hK.ext
      have e4 := hE5.trans e5
      have e3 := hE4.trans e4
      have e2 := hE3.trans e3
      have e1 := hE2.trans e2
      have e0 := hE1.trans e1
      have hg9 := e0.1 _ _ hg
      have z9 := e0.2 _ z0
      have hps := (hK.sl (l := [p0, p1, p2]) (row := Pl.row) (n := 3) (cap := 3) 0 rfl rfl).1
      have hpl := (hK.sl (l := [(⟨al, l.length, lc⟩ : Sv), so, so]) (row := rowS) (n := 3) (cap := 3) 1 rfl rfl).1
      have hns := (hK.sl (l := [number, r1, number]) (row := rowI) (n := 3) (cap := 3) 2 rfl rfl).1
      have each : ∀ (i : Nat) (p : Pl), [p0, p1, p2][i]? = some p → ∃ fs ss, Sl g9 Fl.row p.f.val fs ∧ Sl g9 St.row p.s.val ss ∧ fs.length ≤ 20 ∧ ss.length ≤ 20 := by
        intro i p hp
        rcases i with _ | _ | _ | i
        · cases hp; rw [← hp0f, ← hp0s]; exact ⟨fs, ss, hf.ext e0, hs.ext e0, hfs.1, hfs.2⟩
        · cases hp; exact ⟨fs1, ss1, hslf1.ext e2, hsls1.ext e3, by omega, by omega⟩
        · cases hp; exact ⟨fs2, ss2, hslf2.ext e4, hsls2.ext e5, by omega, by omega⟩
        · simp at hp
      have eachP : ∀ (i : Nat) (s : Sv), [(⟨al, l.length, lc⟩ : Sv), so, so][i]? = some s → ∃ l, Sl g9 Be.row s.val l ∧ l.length ≤ 20 := by
        intro i s hp
        rcases i with _ | _ | _ | i
        · cases hp; exact ⟨l, hl.ext e0, hln⟩
        · cases hp; exact ⟨lo, hslo.ext e1, hlo⟩
        · cases hp; exact ⟨lo, hslo.ext e1, hlo⟩
        · simp at hp
      clear hK
      generalize hPL : [p0, p1, p2] = PL at hps each
      generalize hNL : [(⟨al, l.length, lc⟩ : Sv), so, so] = NL at hpl eachP
      generalize hML : [number, r1, number] = ML at hns
      have hPLn : PL.length = 3 := by rw [← hPL]; rfl
      have hNLn : NL.length = 3 := by rw [← hNL]; rfl
      have hMLn : ML.length = 3 := by rw [← hML]; rfl
      refine W.seq <| W.region rfl <| qs rfl rfl rfl <| Ops.nil <| thn_n <| W.block ?_
      refine W.loop (σ := Nat) (fun i => i ≤ 3) (fun i => [(18, I i), (17, .slice (some ⟨β63, 0, none⟩) 3 3), (16, .slice (some ⟨β58, 0, none⟩) 3 3), (14, .slice (some ⟨βp, 0, none⟩) 3 3)]) (fun _ => []) (fun i => 3 - i) 0 (Nat.zero_le _) ⟨rfl, rfl, rfl, rfl, trivial⟩ (by repeat (first | exact Sb.refl | refine Sb.skip rfl ?_)) ?_
      rintro i hi
      refine W.seq <| W.seq <| W.region rfl <| qm rfl rfl rfl <| qm rfl rfl rfl ?_
      refine oq (y_len rfl rfl) rfl wn rfl rfl ?_
      refine oq (y_lss rfl rfl rfl) rfl wn rfl rfl ?_
      refine Ops.nil <| thn_n ?_
      refine W.condp rfl (fun c67 => ?_) (fun c67 => ?_)
      · have hi1 : i < 3 := by omega
        obtain ⟨p, hp, -⟩ := has (show i < PL.length by omega)
        obtain ⟨sp, hsp, -⟩ := has (show i < NL.length by omega)
        obtain ⟨n, hn, -⟩ := has (show i < ML.length by omega)
        obtain ⟨xfs, xss, hxf, hxs, hxn⟩ := each i p hp
        obtain ⟨xl, hxl, hxln⟩ := eachP i sp hsp
        obtain ⟨b, off, c, E, fz, hae, hb, hx, hyp, -⟩ := hps.at hp
        cases hae
        have hx1 : c.extract (0 + i * 2) (0 + i * 2 + 2) = #[.slice p.f.a p.f.n p.f.cap, .slice p.s.a p.s.n p.s.cap] := hx
        obtain ⟨b, off, c2, E2, fz2, hae, hb2, -, hyl, hz2⟩ := hpl.at hsp
        cases hae
        have hx2 : c2[0 + i * 1 + 0]? = some (.slice sp.a sp.n sp.cap) := hz2 0 (by decide)
        obtain ⟨b, off, c3, E3, fz3, hae, hb3, -, hyn, hz3⟩ := hns.at hn
        cases hae
        have hx3 : c3[0 + i * 1 + 0]? = some (I n) := hz3 0 (by decide)
        clear hx hz2 hz3
        refine W.skip <| thn_n <| W.seq <| W.block <| W.seq ?_
        refine W.drawL [] (n := 13) rfl ?_
        refine aq (i := 0) (y_move rfl rfl) rfl an rfl rfl ?_
        refine aq (i := 1) (y_move rfl rfl) rfl an rfl rfl ?_
        refine aq (i := 2) (yix rfl rfl rfl) rfl an rfl rfl ?_
        refine aq (i := 3) (yldA rfl rfl) rfl an rfl rfl ?_
        refine aq (i := 5) (y_move rfl rfl) rfl an rfl rfl ?_
        refine aq (i := 6) (y_move rfl rfl) rfl an rfl rfl ?_
        refine aq (i := 7) (yix rfl rfl rfl) rfl an rfl rfl ?_
        refine aq (i := 8) (yld rfl rfl) rfl an rfl rfl ?_
        refine Any.bag (fuel := 2) (m := 3) (B := [(4, 74, DupP xfs xss), (9, 79, DupB xl), (10, 19, NewP t_Plant _)]) (by
          intro s hs
          simp only [List.mem_cons, List.not_mem_nil, or_false] at hs
          rcases hs with rfl | rfl | rfl
          · exact Adds.call (args := [_]) (fun h' hE => DupPlant_fn _ h' xfs xss _ _ (hxf.ext hE) (hxs.ext hE) (by omega))
          · exact Adds.call (args := [_]) (fun h' hE => DupBerths_fn _ h' xl _ (hxl.ext hE) (by omega))
          · exact Adds.new) ?_ Keeps.nil rfl (by
          intro s hs
          simp only [List.mem_cons, List.not_mem_nil, or_false] at hs
          rcases hs with rfl | rfl | rfl <;> rfl) (by kernel_rfl) (show [4, 9, 10].Nodup by decide) (show [74, 79, 19].Nodup by decide)
        simp only [bagA]
        rintro v1 A1 ⟨yf, ys, Syf, Sys, rfl, ⟨hYf, hYs⟩, hbA⟩ v2 A2 ⟨Syl, hYl, hbB⟩ v3 A3 ⟨β19, rfl, rfl⟩
        obtain ⟨yfa, yfc, rfl⟩ := hYf.isSl
        obtain ⟨ysa, ysc, rfl⟩ := hYs.isSl
        obtain ⟨yla, ylc, rfl⟩ := hYl.isSl
        refine Any.sb (F' := (β19, _) :: (Syl ++ ((Syf ++ Sys) ++ []))) (.cons (hbB.app (hbA.app .refl))) ?_
        first | refine ae (i := 11) rfl an rfl rfl (eSW rfl rfl rfl ?_) | refine ae (i := 11) rfl an rfl rfl (eSA rfl rfl rfl ?_)
        refine ⟨.inr Keeps.nil, ?_⟩
        refine aq (i := 12) (y_assign rfl rfl) rfl an rfl rfl ?_
        refine az ?_
        refine thn_n ?_
        refine freezeAt hYl (.tail .head) (fun w1 hW1 hsyl _ => ?_)
        refine W.sb (F' := (β19, .cells #[.slice yfa xfs.length yfc, .slice ysa xss.length ysc] t_Plant (0, 0)) :: (Syf ++ Sys)) (by rw [List.append_nil]; exact .refl) ?_
        refine freezeAt hYf (.tail .head) (fun w2 hW2 hsyf _ => ?_)
        refine freezeAt hYs (.tail .all) (fun w3 hW3 hsys _ => ?_)
        refine freezeK (b := β19) Kn.nil rfl .head (fun w4 hK => ?_)
        show W ⟨prog, main, n_law_FloorWrongs, F_law_FloorWrongs.ntmps, none, w4⟩ _ _ _ _ _
        have f3 := hK.ext
        have f2 := hW3.trans f3
        have f1 := hW2.trans f2
        have f0 := hW1.trans f1
        have hb19 : w4 β19 = some (.cells #[.slice yfa xfs.length yfc, .slice ysa xss.length ysc] t_Plant (0, 0)) := (hK.all _ (.head _)).1
        clear hK
        replace hsyl := hsyl.ext f1
        replace hsyf := hsyf.ext f2
        replace hsys := hsys.ext f3
        replace hxf := hxf.ext f0
        replace hxs := hxs.ext f0
        replace hxl := hxl.ext f0
        replace hb := f0.1 _ _ hb
        replace hb2 := f0.1 _ _ hb2
        replace hb3 := f0.1 _ _ hb3
        refine W.seq ?_
        obtain ⟨w1v, w2v, w3v, hwv⟩ : ∃ a b c, wrongV xfs xss xl = (a, b, c) := ⟨_, _, _, rfl⟩
        obtain ⟨rv, ev, hrv⟩ : ∃ s e, readyV xfs xss xl n = (s, e) := ⟨_, _, rfl⟩
        obtain ⟨dv, de, hdv⟩ : ∃ s e, doubtV xfs xss xl = (s, e) := ⟨_, _, rfl⟩
        refine W.region rfl ?_
        first | refine oq (yldW rfl rfl) rfl wn rfl rfl ?_ | refine oq (yldA rfl rfl) rfl wn rfl rfl ?_
        refine qm rfl rfl rfl ?_
        refine cp (u := .tuple #[I w1v, I w2v, I w3v]) (fun h' hE hL => ?_) ?_
        · have := Wrong_fn main h' xfs xss xl _ _ _ Eg zg (hsyf.ext hE) (hsys.ext hE) (hsyl.ext hE) ((f0.trans hE).1 _ _ hg9)
          rw [hwv] at this
          exact this
        refine qm rfl rfl rfl <| oq (y_extract rfl rfl rfl) rfl wn rfl rfl <| oq (y_extract rfl rfl rfl) rfl wn rfl rfl <| oq (y_extract rfl rfl rfl) rfl wn rfl rfl <| qs rfl rfl rfl <| qs rfl rfl rfl <| qs rfl rfl rfl <| Ops.nil <| thn_n <| W.seq ?_
        refine W.drawL [] (n := 16) rfl ?_
        refine aq (i := 0) (y_move rfl rfl) rfl an rfl rfl ?_
        refine aq (i := 1) (y_move rfl rfl) rfl an rfl rfl ?_
        first | refine aq (i := 2) (yix rfl rfl rfl) rfl an rfl rfl ?_ | refine aq (i := 2) (yixI rfl rfl rfl) rfl an rfl rfl ?_
        first | refine aq (i := 3) (yldW rfl rfl) rfl an rfl rfl ?_ | refine aq (i := 3) (yldA rfl rfl) rfl an rfl rfl ?_
        refine aq (i := 4) (y_move rfl rfl) rfl an rfl rfl ?_
        refine aq (i := 5) (y_move rfl rfl) rfl an rfl rfl ?_
        first | refine aq (i := 6) (yix rfl rfl rfl) rfl an rfl rfl ?_ | refine aq (i := 6) (yixI rfl rfl rfl) rfl an rfl rfl ?_
        refine aq (i := 7) (yld rfl rfl) rfl an rfl rfl ?_
        refine acp (i := 8) (u := .tuple #[I w1v, I w2v, I w3v]) (vs := [.agg #[.slice p.f.a p.f.n p.f.cap, .slice p.s.a p.s.n p.s.cap], .slice sp.a sp.n sp.cap]) (fun h' hE hL => ?_) ?_
        · have := RWrong_fn main h' xfs xss xl _ _ _ (hxf.ext hE) (hxs.ext hE) (hxl.ext hE)
          rw [hwv] at this
          exact this
        refine aq (i := 9) (y_move rfl rfl) rfl an rfl rfl ?_
        refine aq (i := 10) (y_extract rfl rfl rfl) rfl an rfl rfl ?_
        refine aq (i := 11) (y_extract rfl rfl rfl) rfl an rfl rfl ?_
        refine aq (i := 12) (y_extract rfl rfl rfl) rfl an rfl rfl ?_
        refine aq (i := 13) (y_assign rfl rfl) rfl an rfl rfl ?_
        refine aq (i := 14) (y_assign rfl rfl) rfl an rfl rfl ?_
        refine aq (i := 15) (y_assign rfl rfl) rfl an rfl rfl ?_
        refine az ?_
        refine thn_n <| W.seq ?_
        refine W.mono (Q := (fun e ρ' ds' F' => e = .normal ∧ ds' = [] ∧ ∃ β, Sub [(27, .pointer (some ⟨β, 0, none⟩)), (28, I ev), (24, I w1v), (25, I w2v), (26, I w3v), (21, I w1v), (22, I w2v), (23, I w3v), (20, .slice yla xl.length ylc), (19, .pointer (some ⟨β19, 0, none⟩)), (18, I i), (17, .slice (some ⟨β63, 0, none⟩) 3 3), (16, .slice (some ⟨β58, 0, none⟩) 3 3), (14, .slice (some ⟨βp, 0, none⟩) 3 3)] ρ' ∧ Sb ((β, .cells #[I rv.lo, I rv.hi] t_Span (0, 0)) :: []) F')) ?_ ?_
        · refine W.drawL [] (n := 13) rfl ?_
          refine aq (i := 0) (yldW rfl rfl) rfl an rfl rfl ?_
          refine aq (i := 1) (y_move rfl rfl) rfl an rfl rfl ?_
          refine aq (i := 2) (y_move rfl rfl) rfl an rfl rfl ?_
          refine aq (i := 3) (y_move rfl rfl) rfl an rfl rfl ?_
          refine aq (i := 4) (yix rfl rfl rfl) rfl an rfl rfl ?_
          refine aq (i := 5) (yld rfl rfl) rfl an rfl rfl ?_
          have hst : ∀ h', Ext w4 h' → Pu prog main n_floor_Ready #[.agg #[.slice yfa xfs.length yfc, .slice ysa xss.length ysc], .slice yla xl.length ylc, I n] h' (.tuple #[.agg #[I rv.lo, I rv.hi], I ev]) := fun h' hE => by
            have := Ready_fn main h' xfs xss xl n _ _ _ (hsyf.ext hE) (hsys.ext hE) (hsyl.ext hE)
            rw [hrv] at this
            exact this
          refine Any.eff2 (i := 6) (j := 10) (by kernel_rfl) (nthO_get rfl) (nthO_get rfl) an an rfl rfl rfl rfl ?_ ?_
          · refine e_call0 (args := [_, _, _]) (vs := [.agg #[.slice yfa xfs.length yfc, .slice ysa xss.length ysc], .slice yla xl.length ylc, I n]) rfl rfl (fun h' hE hL => hst h' hE) (fun v A' hv => ?_)
            obtain ⟨rfl, hsh⟩ := hv
            refine ⟨.inr Keeps.nil, Any.sb (Sb.left .refl hsh) ?_⟩
            refine aq (i := 7) (y_move rfl rfl) rfl an rfl rfl ?_
            refine aq (i := 8) (y_extract rfl rfl rfl) rfl an rfl rfl ?_
            refine aq (i := 9) (y_extract rfl rfl rfl) rfl an rfl rfl ?_
            refine ae (i := 10) rfl an rfl rfl (e_alloc rfl fun β _ _ => ⟨.inr Keeps.nil, ?_⟩)
            first | refine ae (i := 11) rfl an rfl rfl (eSW rfl rfl rfl ?_) | refine ae (i := 11) rfl an rfl rfl (eSA rfl rfl rfl ?_)
            refine ⟨.inr Keeps.nil, ?_⟩
            refine aq (i := 12) (y_assign rfl rfl) rfl an rfl rfl ?_
            refine az ?_
            refine ⟨rfl, rfl, β, ⟨rfl, rfl, rfl, rfl, rfl, rfl, rfl, rfl, rfl, rfl, rfl, rfl, rfl, rfl, trivial⟩, by repeat (first | exact Sb.refl | refine Sb.cons ?_ | refine Sb.skip rfl ?_)⟩
          · refine e_alloc rfl fun β _ _ => ⟨.inr Keeps.nil, ?_⟩
            refine acp (i := 6) (vs := [.agg #[.slice yfa xfs.length yfc, .slice ysa xss.length ysc], .slice yla xl.length ylc, I n]) (fun h' hE hL => hst h' hE) ?_
            refine aq (i := 7) (y_move rfl rfl) rfl an rfl rfl ?_
            refine aq (i := 8) (y_extract rfl rfl rfl) rfl an rfl rfl ?_
            refine aq (i := 9) (y_extract rfl rfl rfl) rfl an rfl rfl ?_
            first | refine ae (i := 11) rfl an rfl rfl (eSW rfl rfl rfl ?_) | refine ae (i := 11) rfl an rfl rfl (eSA rfl rfl rfl ?_)
            refine ⟨.inr Keeps.nil, ?_⟩
            refine aq (i := 12) (y_assign rfl rfl) rfl an rfl rfl ?_
            refine az ?_
            refine ⟨rfl, rfl, β, ⟨rfl, rfl, rfl, rfl, rfl, rfl, rfl, rfl, rfl, rfl, rfl, rfl, rfl, rfl, trivial⟩, by repeat (first | exact Sb.refl | refine Sb.cons ?_ | refine Sb.skip rfl ?_)⟩
        rintro e ρ' ds' F' ⟨rfl, rfl, β27, hE27, hsb27⟩
        refine thn_n (W.env hE27 (W.sb hsb27 ?_))
        refine W.seq ?_
        refine W.mono (Q := (fun e ρ' ds' F' => e = .normal ∧ ds' = [] ∧ ∃ β, Sub [(29, .pointer (some ⟨β, 0, none⟩)), (30, I ev), (27, .pointer (some ⟨β27, 0, none⟩)), (28, I ev), (24, I w1v), (25, I w2v), (26, I w3v), (21, I w1v), (22, I w2v), (23, I w3v), (20, .slice yla xl.length ylc), (19, .pointer (some ⟨β19, 0, none⟩)), (18, I i), (17, .slice (some ⟨β63, 0, none⟩) 3 3), (16, .slice (some ⟨β58, 0, none⟩) 3 3), (14, .slice (some ⟨βp, 0, none⟩) 3 3)] ρ' ∧ Sb ((β, .cells #[I rv.lo, I rv.hi] t_Span (0, 0)) :: [(β27, .cells #[I rv.lo, I rv.hi] t_Span (0, 0))]) F')) ?_ ?_
        · refine W.drawL [] (n := 19) rfl ?_
          refine aq (i := 0) (y_move rfl rfl) rfl an rfl rfl ?_
          refine aq (i := 1) (y_move rfl rfl) rfl an rfl rfl ?_
          refine aq (i := 2) (yix rfl rfl rfl) rfl an rfl rfl ?_
          refine aq (i := 3) (yldA rfl rfl) rfl an rfl rfl ?_
          refine aq (i := 4) (y_move rfl rfl) rfl an rfl rfl ?_
          refine aq (i := 5) (y_move rfl rfl) rfl an rfl rfl ?_
          refine aq (i := 6) (yix rfl rfl rfl) rfl an rfl rfl ?_
          refine aq (i := 7) (yld rfl rfl) rfl an rfl rfl ?_
          refine aq (i := 8) (y_move rfl rfl) rfl an rfl rfl ?_
          refine aq (i := 9) (y_move rfl rfl) rfl an rfl rfl ?_
          refine aq (i := 10) (yix rfl rfl rfl) rfl an rfl rfl ?_
          refine aq (i := 11) (yld rfl rfl) rfl an rfl rfl ?_
          have hst : ∀ h', Ext w4 h' → Pu prog main n_ref_Ready #[.agg #[.slice p.f.a p.f.n p.f.cap, .slice p.s.a p.s.n p.s.cap], .slice sp.a sp.n sp.cap, I n] h' (.tuple #[.agg #[I rv.lo, I rv.hi], I ev]) := fun h' hE => by
            have := RReady_fn main h' xfs xss xl n _ _ _ (hxf.ext hE) (hxs.ext hE) (hxl.ext hE)
            rw [hrv] at this
            exact this
          refine Any.eff2 (i := 12) (j := 16) (by kernel_rfl) (nthO_get rfl) (nthO_get rfl) an an rfl rfl rfl rfl ?_ ?_
          · refine e_call0 (args := [_, _, _]) (vs := [.agg #[.slice p.f.a p.f.n p.f.cap, .slice p.s.a p.s.n p.s.cap], .slice sp.a sp.n sp.cap, I n]) rfl rfl (fun h' hE hL => hst h' hE) (fun v A' hv => ?_)
            obtain ⟨rfl, hsh⟩ := hv
            refine ⟨.inr Keeps.nil, Any.sb (Sb.left .refl hsh) ?_⟩
            refine aq (i := 13) (y_move rfl rfl) rfl an rfl rfl ?_
            refine aq (i := 14) (y_extract rfl rfl rfl) rfl an rfl rfl ?_
            refine aq (i := 15) (y_extract rfl rfl rfl) rfl an rfl rfl ?_
            refine ae (i := 16) rfl an rfl rfl (e_alloc rfl fun β _ _ => ⟨.inr Keeps.nil, ?_⟩)
            first | refine ae (i := 17) rfl an rfl rfl (eSW rfl rfl rfl ?_) | refine ae (i := 17) rfl an rfl rfl (eSA rfl rfl rfl ?_)
            refine ⟨.inr Keeps.nil, ?_⟩
            refine aq (i := 18) (y_assign rfl rfl) rfl an rfl rfl ?_
            refine az ?_
            refine ⟨rfl, rfl, β, ⟨rfl, rfl, rfl, rfl, rfl, rfl, rfl, rfl, rfl, rfl, rfl, rfl, rfl, rfl, rfl, rfl, trivial⟩, by repeat (first | exact Sb.refl | refine Sb.cons ?_ | refine Sb.skip rfl ?_)⟩
          · refine e_alloc rfl fun β _ _ => ⟨.inr Keeps.nil, ?_⟩
            refine acp (i := 12) (vs := [.agg #[.slice p.f.a p.f.n p.f.cap, .slice p.s.a p.s.n p.s.cap], .slice sp.a sp.n sp.cap, I n]) (fun h' hE hL => hst h' hE) ?_
            refine aq (i := 13) (y_move rfl rfl) rfl an rfl rfl ?_
            refine aq (i := 14) (y_extract rfl rfl rfl) rfl an rfl rfl ?_
            refine aq (i := 15) (y_extract rfl rfl rfl) rfl an rfl rfl ?_
            first | refine ae (i := 17) rfl an rfl rfl (eSW rfl rfl rfl ?_) | refine ae (i := 17) rfl an rfl rfl (eSA rfl rfl rfl ?_)
            refine ⟨.inr Keeps.nil, ?_⟩
            refine aq (i := 18) (y_assign rfl rfl) rfl an rfl rfl ?_
            refine az ?_
            refine ⟨rfl, rfl, β, ⟨rfl, rfl, rfl, rfl, rfl, rfl, rfl, rfl, rfl, rfl, rfl, rfl, rfl, rfl, rfl, rfl, trivial⟩, by repeat (first | exact Sb.refl | refine Sb.cons ?_ | refine Sb.skip rfl ?_)⟩
        rintro e ρ' ds' F' ⟨rfl, rfl, β29, hE29, hsb29⟩
        refine thn_n (W.env hE29 (W.sb hsb29 ?_))
        refine W.seq <| W.region rfl ?_
        first | refine oq (yldW rfl rfl) rfl wn rfl rfl ?_ | refine oq (yldA rfl rfl) rfl wn rfl rfl ?_
        refine qm rfl rfl rfl ?_
        refine c0 (fun h' hE hL => Doubt_fn main h' xfs xss xl _ _ _ (hsyf.ext hE) (hsys.ext hE) (hsyl.ext hE)) (fun v A' hv => ?_)
        rw [hdv] at hv
        obtain ⟨ud, N, us, C, rfl, hN, hC, hsbd⟩ := hv
        obtain ⟨uda, udc, rfl⟩ := hN.isSl
        refine Ops.sb (hsbd.app .refl) ?_
        refine qm rfl rfl rfl <| oq (y_extract rfl rfl rfl) rfl wn rfl rfl <| oq (y_extract rfl rfl rfl) rfl wn rfl rfl <| qs rfl rfl rfl <| qs rfl rfl rfl <| Ops.nil <| thn_n <| W.seq ?_
        refine W.drawL [] (n := 14) rfl ?_
        refine aq (i := 0) (y_move rfl rfl) rfl an rfl rfl ?_
        refine aq (i := 1) (y_move rfl rfl) rfl an rfl rfl ?_
        first | refine aq (i := 2) (yix rfl rfl rfl) rfl an rfl rfl ?_ | refine aq (i := 2) (yixI rfl rfl rfl) rfl an rfl rfl ?_
        first | refine aq (i := 3) (yldW rfl rfl) rfl an rfl rfl ?_ | refine aq (i := 3) (yldA rfl rfl) rfl an rfl rfl ?_
        refine aq (i := 4) (y_move rfl rfl) rfl an rfl rfl ?_
        refine aq (i := 5) (y_move rfl rfl) rfl an rfl rfl ?_
        first | refine aq (i := 6) (yix rfl rfl rfl) rfl an rfl rfl ?_ | refine aq (i := 6) (yixI rfl rfl rfl) rfl an rfl rfl ?_
        refine aq (i := 7) (yld rfl rfl) rfl an rfl rfl ?_
        refine ae (i := 8) rfl an rfl rfl (e_call0 (args := [_, _]) (vs := [.agg #[.slice p.f.a p.f.n p.f.cap, .slice p.s.a p.s.n p.s.cap], .slice sp.a sp.n sp.cap]) rfl rfl (fun h' hE hL => RDoubt_fn main h' xfs xss xl _ _ _ (hxf.ext hE) (hxs.ext hE) (hxl.ext hE)) (fun v A' hv => ?_))
        rw [hdv] at hv
        obtain ⟨ue, N2, us2, C2, rfl, hN2, hC2, hsbe⟩ := hv
        obtain ⟨uea, uec, rfl⟩ := hN2.isSl
        refine ⟨.inr Keeps.nil, Any.sb (hsbe.app .refl) ?_⟩
        refine aq (i := 9) (y_move rfl rfl) rfl an rfl rfl ?_
        refine aq (i := 10) (y_extract rfl rfl rfl) rfl an rfl rfl ?_
        refine aq (i := 11) (y_extract rfl rfl rfl) rfl an rfl rfl ?_
        refine aq (i := 12) (y_assign rfl rfl) rfl an rfl rfl ?_
        refine aq (i := 13) (y_assign rfl rfl) rfl an rfl rfl ?_
        refine az ?_
        refine thn_n ?_
        refine W.sb (F' := (β29, .cells #[I rv.lo, I rv.hi] t_Span (0, 0)) :: (β27, .cells #[I rv.lo, I rv.hi] t_Span (0, 0)) :: ((N2 ++ C2) ++ (N ++ C))) (.of_perm (perm_cnt fun y => by simp only [List.count_append, List.count_cons, List.count_nil]; omega)) ?_
        have hlenD := hC.len
        have hlenE := hC2.len
        have hdvs := doubt_small (fs := xfs) (ss := xss) (l := xl)
        rw [hdv] at hdvs
        have hdvl : dv.length ≤ 100000 := by have := hdvs.1; dsimp only at this; omega
        have hdvg : ∀ g ∈ dv, g.length ≤ 100000 := fun g hg => by have := hdvs.2 g hg; omega
        refine W.seq ?_
        refine W.drawP2 (n := 52) rfl ?_
        refine aq (i := 0) (y_move rfl rfl) rfl an rfl rfl ?_
        refine aq (i := 1) (y_move rfl rfl) rfl an rfl rfl ?_
        refine aq (i := 2) ((y_neq rfl rfl rfl).eq (u := .bool false) (by simp)) rfl an rfl rfl ?_
        refine aq (i := 3) (y_move rfl rfl) rfl an rfl rfl ?_
        refine aq (i := 4) (y_move rfl rfl) rfl (wantε_some rfl rfl rfl rfl) rfl rfl ?_
        refine aq (i := 5) (y_move rfl rfl) rfl (wantε_some rfl rfl rfl rfl) rfl rfl ?_
        refine aq (i := 6) ((y_neq rfl rfl rfl).eq (u := .bool false) (by simp)) rfl (wantε_some rfl rfl rfl rfl) rfl rfl ?_
        refine aq (i := 7) (y_pickF rfl rfl rfl) rfl an rfl rfl ?_
        refine aq (i := 8) (y_move rfl rfl) rfl an rfl rfl ?_
        refine aq (i := 9) (y_move rfl rfl) rfl (wantε_some rfl rfl rfl rfl) rfl rfl ?_
        refine aq (i := 10) (y_move rfl rfl) rfl (wantε_some rfl rfl rfl rfl) rfl rfl ?_
        refine aq (i := 11) ((y_neq rfl rfl rfl).eq (u := .bool false) (by simp)) rfl (wantε_some rfl rfl rfl rfl) rfl rfl ?_
        refine aq (i := 12) (y_pickF rfl rfl rfl) rfl an rfl rfl ?_
        refine aq (i := 13) (y_move rfl rfl) rfl an rfl rfl ?_
        first | refine aq (i := 14) (yldW rfl rfl) rfl (wantε_some rfl rfl rfl rfl) rfl rfl ?_ | refine aq (i := 14) (yldA rfl rfl) rfl (wantε_some rfl rfl rfl rfl) rfl rfl ?_
        first | refine aq (i := 15) (yldW rfl rfl) rfl (wantε_some rfl rfl rfl rfl) rfl rfl ?_ | refine aq (i := 15) (yldA rfl rfl) rfl (wantε_some rfl rfl rfl rfl) rfl rfl ?_
        refine aq (i := 16) (Yv.eq (u := .bool false) (y_neA [rv.lo, rv.hi] [rv.lo, rv.hi] rfl rfl rfl rfl rfl rfl rfl) (by simp)) rfl (wantε_some rfl rfl rfl rfl) rfl rfl ?_
        refine aq (i := 17) (y_pickF rfl rfl rfl) rfl an rfl rfl ?_
        refine aq (i := 18) (y_move rfl rfl) rfl an rfl rfl ?_
        refine aq (i := 19) (y_move rfl rfl) rfl (wantε_some rfl rfl rfl rfl) rfl rfl ?_
        refine aq (i := 20) (y_move rfl rfl) rfl (wantε_some rfl rfl rfl rfl) rfl rfl ?_
        refine aq (i := 21) ((y_neq rfl rfl rfl).eq (u := .bool false) (by simp)) rfl (wantε_some rfl rfl rfl rfl) rfl rfl ?_
        refine aq (i := 22) (y_pickF rfl rfl rfl) rfl an rfl rfl ?_
        refine aq (i := 23) (y_move rfl rfl) rfl an rfl rfl ?_
        refine aq (i := 24) (y_move rfl rfl) rfl (wantε_some rfl rfl rfl rfl) rfl rfl ?_
        refine aq (i := 25) (y_move rfl rfl) rfl (wantε_some rfl rfl rfl rfl) rfl rfl ?_
        refine aq (i := 26) ((y_neq rfl rfl rfl).eq (u := .bool false) (by simp)) rfl (wantε_some rfl rfl rfl rfl) rfl rfl ?_
        refine aq (i := 27) (y_pickF rfl rfl rfl) rfl an rfl rfl ?_
        refine aq (i := 28) (y_move rfl rfl) rfl an rfl rfl ?_
        refine aq (i := 29) (y_move rfl rfl) rfl (wantε_some rfl rfl rfl rfl) rfl rfl ?_
        refine aq (i := 30) (y_move rfl rfl) rfl (wantε_some rfl rfl rfl rfl) rfl rfl ?_
        refine acp (i := 31) (u := .bool true) (vs := [.slice uda us.length udc, .slice uea us2.length uec]) (fun h' hE hL => ?_) ?_ (hS := .inr (fun q hq => by
          rcases hq with _ | ⟨_, _ | ⟨_, hq⟩⟩
          · exact .head _
          · exact .tail _ (.head _)
          · cases hq))
        · have q1 : ∀ b o, (b, o) ∈ N ++ C → h' b = some o := fun b o q => hL _ _ (.tail _ (.tail _ (List.mem_append_right _ q)))
          have q2 : ∀ b o, (b, o) ∈ N2 ++ C2 → h' b = some o := fun b o q => hL _ _ (.tail _ (.tail _ (List.mem_append_left _ q)))
          have := EqLists_fn main h' us us2 dv dv _ _ (hN.sl fun b o hb => q1 b o (List.mem_append_left _ hb)) (hN2.sl fun b o hb => q2 b o (List.mem_append_left _ hb)) (fun k s g hs hg => hC.sl (fun b o hb => q1 b o (List.mem_append_right _ hb)) hs hg) (fun k s g hs hg => hC2.sl (fun b o hb => q2 b o (List.mem_append_right _ hb)) hs hg) hlenD hlenE (by rw [hlenD]; exact hdvl) hdvg
          rw [decide_eq_true rfl] at this
          exact this
        refine aq (i := 32) (y_not rfl rfl) rfl (wantε_some rfl rfl rfl rfl) rfl rfl ?_
        refine aq (i := 33) (y_pickF rfl rfl rfl) rfl an rfl rfl ?_
        refine aq (i := 34) (y_move rfl rfl) rfl an rfl rfl ?_
        first | refine aq (i := 35) (yldW rfl rfl) rfl (wantε_some rfl rfl rfl rfl) rfl rfl ?_ | refine aq (i := 35) (yldA rfl rfl) rfl (wantε_some rfl rfl rfl rfl) rfl rfl ?_
        refine aq (i := 36) (y_move rfl rfl) rfl (wantε_some rfl rfl rfl rfl) rfl rfl ?_
        refine aq (i := 37) (y_move rfl rfl) rfl (wantε_some rfl rfl rfl rfl) rfl rfl ?_
        first | refine aq (i := 38) (yix rfl rfl rfl) rfl (wantε_some rfl rfl rfl rfl) rfl rfl ?_ | refine aq (i := 38) (yixI rfl rfl rfl) rfl (wantε_some rfl rfl rfl rfl) rfl rfl ?_
        first | refine aq (i := 39) (yldW rfl rfl) rfl (wantε_some rfl rfl rfl rfl) rfl rfl ?_ | refine aq (i := 39) (yldA rfl rfl) rfl (wantε_some rfl rfl rfl rfl) rfl rfl ?_
        refine acp (i := 40) (u := .bool true) (vs := [.agg #[.slice yfa xfs.length yfc, .slice ysa xss.length ysc], .agg #[.slice p.f.a p.f.n p.f.cap, .slice p.s.a p.s.n p.s.cap]]) (fun h' hE hL => EqPlants_fn _ h' xfs xss _ _ _ _ (hsyf.ext hE) (hsys.ext hE) (hxf.ext hE) (hxs.ext hE) (by omega)) ?_ (hS := .inr (fun q hq => by
          rcases hq with _ | ⟨_, _ | ⟨_, hq⟩⟩
          · exact .head _
          · exact .tail _ (.head _)
          · cases hq))
        refine aq (i := 41) (y_not rfl rfl) rfl (wantε_some rfl rfl rfl rfl) rfl rfl ?_
        refine aq (i := 42) (y_pickF rfl rfl rfl) rfl an rfl rfl ?_
        refine aq (i := 43) (y_move rfl rfl) rfl an rfl rfl ?_
        refine aq (i := 44) (y_move rfl rfl) rfl (wantε_some rfl rfl rfl rfl) rfl rfl ?_
        refine aq (i := 45) (y_move rfl rfl) rfl (wantε_some rfl rfl rfl rfl) rfl rfl ?_
        refine aq (i := 46) (y_move rfl rfl) rfl (wantε_some rfl rfl rfl rfl) rfl rfl ?_
        first | refine aq (i := 47) (yix rfl rfl rfl) rfl (wantε_some rfl rfl rfl rfl) rfl rfl ?_ | refine aq (i := 47) (yixI rfl rfl rfl) rfl (wantε_some rfl rfl rfl rfl) rfl rfl ?_
        refine aq (i := 48) (yld rfl rfl) rfl (wantε_some rfl rfl rfl rfl) rfl rfl ?_
        refine acp (i := 49) (u := .bool true) (vs := [.slice yla xl.length ylc, .slice sp.a sp.n sp.cap]) (fun h' hE hL => ?_) ?_ (hS := .inr (fun q hq => by
          rcases hq with _ | ⟨_, _ | ⟨_, hq⟩⟩
          · exact .head _
          · exact .tail _ (.head _)
          · cases hq))
        · have := EqBerths_fn main h' xl xl _ _ (hsyl.ext hE) (hxl.ext hE) (by omega)
          rw [decide_eq_true rfl] at this
          exact this
        refine aq (i := 50) (y_not rfl rfl) rfl (wantε_some rfl rfl rfl rfl) rfl rfl ?_
        refine aq (i := 51) (y_pickF rfl rfl rfl) rfl an rfl rfl ?_
        refine az ?_
        refine thn_n ?_
        refine W.condF ?_
        refine W.skip <| blk_n <| thn_n <| W.region rfl <| qm rfl rfl rfl ?_
        first | refine oq (yadd rfl rfl rfl) rfl wn rfl rfl ?_ | refine oq (y_addw rfl rfl rfl) rfl wn rfl rfl ?_
        refine qs rfl rfl rfl <| Ops.nil <| thn_n ?_
        exact ⟨rfl, i + 1, by omega, by omega, ⟨rfl, rfl, rfl, rfl, trivial⟩, Sb.nil (.cons rfl (.cons rfl ((hN2.shut.app hC2.shut).app (hN.shut.app hC.shut))))⟩
      · refine W.exit <| thn_x <| thn_x <| blk_x <| thn_n <| W.seq <| W.region rfl ?_
        refine cp (fun h' hE hL => exs_fn _ hS hmb h' Eg zg (hE.1 _ _ hg) (hE.2 _ z0)) ?_
        refine qs rfl rfl rfl <| Ops.nil <| thn_n <| W.ret ?_
        exact lvq rfl
end Go.Mus

/- FloorWrongs's card. Conditions: as the card says; over the given program. -/
namespace Go.Proofs.YtnffnndmilpnoaaGreatDoor
open Go Go.Mus
set_option maxRecDepth 100000
set_option maxHeartbeats 4000000
theorem floorWrongs_args (main : Side) (hS : ∀ S, main.ok S → ∃ Fin, S = Mn prog Fin) (hmb : main.b = true) (h : Hp) : ∀ (args : List Value) (_ : ArgsOK h [t_Plant, t_Floor, t_Strike, t_sl_Berth, t_int, t_sl_int] args) (Eg : TypeId) (zg : Nat × Nat) (_ : h 0 = some (.cells #[rtV t_error] Eg zg)) (_ : h.z 0), TopV prog main n_law_FloorWrongs args.toArray h (.bool true)
  | [v0, v1, v2, v3, v4, v5], ⟨h0, h1, h2, h3, h4, h5, _⟩, Eg, zg, hg, z0 => by
    obtain ⟨vf0, vs0, fs0, ss0, rfl, hf0, hs0⟩ := h0.plant rfl
    obtain ⟨f1, rfl⟩ := h1.floor rfl
    obtain ⟨s2, rfl⟩ := h2.strike rfl
    obtain ⟨l3, hl3⟩ := h3.plan rfl
    obtain ⟨n4, rfl⟩ := h4.int rfl
    obtain ⟨x5, hx5⟩ := h5.ints rfl
    apply FloorWrongs_top main hS hmb h
    all_goals first | assumption | exact hg | exact z0
  | [], h, _, _, _, _ => h.elim
  | [v0], ⟨h0, h⟩, _, _, _, _ => h.elim
  | [v0, v1], ⟨h0, h1, h⟩, _, _, _, _ => h.elim
  | [v0, v1, v2], ⟨h0, h1, h2, h⟩, _, _, _, _ => h.elim
  | [v0, v1, v2, v3], ⟨h0, h1, h2, h3, h⟩, _, _, _, _ => h.elim
  | [v0, v1, v2, v3, v4], ⟨h0, h1, h2, h3, h4, h⟩, _, _, _, _ => h.elim
  | v0 :: v1 :: v2 :: v3 :: v4 :: v5 :: v6 :: r, ⟨h0, h1, h2, h3, h4, h5, h⟩, _, _, _, _ => h.elim
theorem floorWrongs_row : Rows.FloorWrongsSaid :=
  OpenClaim.holds_of_wide_leaving n_law_FloorWrongs F_law_FloorWrongs rfl rfl rfl rfl rfl rfl rfl ⟨rfl, rfl, rfl, rfl, rfl⟩ rfl rfl rfl rfl rfl (by kernel_rfl) at_law_FloorWrongs (by kernel_rfl)
    (of_decide_eq_true (by kernel_rfl)) (by unfold Func.isWrapper; first | (rw [if_pos (by decide +kernel)]; kernel_rfl) | (rw [if_neg (by decide +kernel)]; exact ⟨rfl, rfl⟩))
    (fun os started H enc _ => liftN (s := Rows.floorWrongsSpec) os started H enc at_law_FloorWrongs (by kernel_rfl) [t_Plant, t_Floor, t_Strike, t_sl_Berth, t_int, t_sl_int] (by kernel_rfl) (fun t ht => by
        have h0 : ([t_Plant, t_Floor, t_Strike, t_sl_Berth, t_int, t_sl_int] : List TypeId).all (fun t => prog.readableRec t && Nat.blt t prog.types.size) = true := by kernel_rfl
        have h1 := List.all_eq_true.1 h0 t ht
        rw [Bool.and_eq_true] at h1
        exact ⟨h1.1, Nat.le_of_ble_eq_true h1.2⟩) (by kernel_rfl) (by kernel_rfl) rfl (fun ds hd => by
        match ds, hd with
        | [d0, d1, d2, d3, d4, d5], _ => rfl)
      (ChangeSpec.witness_at (enc := enc) (C := Tryz.checked) (os := os) (X := fun w _ => laidMetH prog laid0 w) false (laidWorld os) #[.agg #[.slice none 0 0, .slice none 0 0], .agg #[I 0, I 0, I 0, I 0], .agg #[I 0, I 0, I 0], .slice none 0 0, I 0, .slice none 0 0] 8 rfl (by kernel_rfl) (by kernel_rfl) (by kernel_rfl) (by kernel_rfl) (by kernel_rfl) (laidWorld_met os _))
      (fun main hS hmb h args ha Eg zg hg z0 => floorWrongs_args main hS hmb h args ha Eg zg hg z0))

theorem FloorWrongs_card : Rows.FloorWrongsCardSaid :=
  tied_goes .later [] [.handle] true (true, "932c88532bdd9f747448356d9505525067ce9e853f4d287a395f8a57faaf4fbd") true
    floorWrongs_row (fun _ h => by cases h) (by kernel_rfl) (fun _ h => by cases h) floorWrongs_row_tie rfl ⟨rfl, rfl⟩ (by kernel_rfl) rfl
    (fun f fn hf hfn => by
      obtain rfl : f = n_law_FloorWrongs := (Option.some.inj ((show prog.funcNamed Rows.floorWrongsRow.func = some n_law_FloorWrongs by kernel_rfl).symm.trans hf)).symm
      obtain rfl : fn = F_law_FloorWrongs := (Option.some.inj (at_law_FloorWrongs.symm.trans hfn)).symm
      exact ⟨by kernel_rfl, fun j t ht => by
        rw [← Array.getElem?_toList, show (F_law_FloorWrongs).params.toList = [t_Plant, t_Floor, t_Strike, t_sl_Berth, t_int, t_sl_int] by kernel_rfl] at ht
        have h3 := List.mem_of_getElem? ht
        simp only [List.mem_cons, List.not_mem_nil, or_false] at h3
        rcases h3 with rfl | rfl | rfl | rfl | rfl | rfl <;> (show prog.wantsStandIn _ = false; kernel_rfl)⟩)
    (by kernel_rfl)
#print axioms FloorWrongs_card
end Go.Proofs.YtnffnndmilpnoaaGreatDoor
