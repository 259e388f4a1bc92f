/- All strikes a day later. Conditions: none; over the given program. (And 1 texts more.) -/
import Derived.Test.YtabnpjbnoedfgaaDoorFloorLaterQ2
import Derived.Test.YtabnpjbnoedfgaaDoorP13
set_option linter.unusedVariables false
set_option linter.unusedSimpArgs false

/- All strikes a day later. Conditions: none; over the given program. -/
namespace Go.Mus
set_option maxRecDepth 100000
set_option maxHeartbeats 4000000

/-- The first k changed. -/
def mapK {α : Type} (f : α → α) (l : List α) (k : Nat) : List α := (l.take k).map f ++ l.drop k
theorem mapK_0 {α : Type} {f : α → α} {l : List α} : mapK f l 0 = l := by simp [mapK]
theorem mapK_end {α : Type} {f : α → α} {l : List α} : mapK f l l.length = l.map f := by simp [mapK]
theorem mapK_len {α : Type} {f : α → α} {l : List α} {k : Nat} : (mapK f l k).length = l.length := by simp [mapK]; omega
theorem mapK_at {α : Type} {f : α → α} {l : List α} {k : Nat} {s : α} (h : l[k]? = some s) : (mapK f l k)[k]? = some s := by
  have hk := lt_of_get h
  have hl : ((l.take k).map f).length = k := by simp; omega
  rw [mapK, List.getElem?_append_right (by omega), hl, Nat.sub_self, List.getElem?_drop, Nat.add_zero, h]
theorem mapK_set {α : Type} {f : α → α} {l : List α} {k : Nat} {s : α} (h : l[k]? = some s) : (mapK f l k).set k (f s) = mapK f l (k + 1) := by
  have hk := lt_of_get h
  have hl : ((l.take k).map f).length = k := by simp; omega
  obtain ⟨p, hp, hd⟩ := has hk
  obtain rfl : p = s := by rw [h] at hp; exact (Option.some.inj hp).symm
  rw [mapK, mapK, hd, List.set_append_right _ _ (by omega), hl, Nat.sub_self, List.set_cons_zero, List.take_add_one, h]
  simp
theorem mapK_same {α : Type} {f : α → α} {l : List α} {k : Nat} {s : α} (h : l[k]? = some s) (hs : f s = s) : mapK f l (k + 1) = mapK f l k := by
  rw [← mapK_set h, hs]
  refine List.ext_getElem? fun i => ?_
  rw [List.getElem?_set]
  split
  · rename_i e; subst e
    rw [if_pos (lt_of_get (mapK_at (f := f) h)), mapK_at h]
  · rfl
theorem bestB_day {fs : List Fl} {ss : List St} (hck : ckPlant fs ss = 0) : (bestB fs ss).2.2 = 0 ∧ (bestB fs ss).2.1 = (bestF fs ss).1 ∧ (bestB fs ss).1.length ≤ 1000 ∧ ∀ b ∈ (bestB fs ss).1, 0 ≤ b.day ∧ b.day ≤ 1000 := by
  have hall := hall_ck hck
  have hns := hall.ns
  have e : bestB fs ss = (((bestF fs ss).2.headD []).take ss.length, (bestF fs ss).1, 0) := by simp only [bestB]; rw [if_neg (by simp [hck])]
  rw [e]
  refine ⟨rfl, rfl, by simp only [List.length_take]; omega, fun b hb => ?_⟩
  have hb' := List.mem_of_mem_take hb
  cases h : (bestF fs ss).2 with
  | nil => rw [h] at hb'; cases hb'
  | cons p r =>
    rw [h] at hb'
    have hp : p ∈ (bestF fs ss).2 := by rw [h]; exact List.mem_cons_self ..
    rw [(best_spec hall).2.2] at hp
    have hv := ((mem_allF hall).1 (List.mem_filter.1 hp).1).1
    have := (valid_plan hall hv).ok.ok b hb'
    omega
theorem wr_ok {fs : List Fl} {ss : List St} {l : List Be} (hck : ckPlant fs ss = 0) (h11 : ∀ s ∈ ss, s.day ≤ 11) (h : ckPlan fs ss l = 0) : ∃ g d k, wrongV fs ss l = (g, d, 0) ∧ wrongV fs (ss.map shS) (l.map shB) = (g, k, 0) ∧ (0 ≤ g ∧ k = d + 1 ∧ 0 ≤ d ∧ d ≤ 100 ∨ g < 0 ∧ k = -1) := by
  rcases sh_wrongV hck h11 h with ⟨a, b⟩ | ⟨f, d, h0, a, b⟩
  · exact ⟨_, _, _, a, b, .inr ⟨by decide, rfl⟩⟩
  · refine ⟨_, _, _, a, b, .inl ⟨h0, rfl, ?_⟩⟩
    obtain ⟨hall, hp, -⟩ := plan_ck h
    rw [wrongV, if_neg (by rw [ask_ok h rfl]; decide)] at a
    cases hi : inspF fs ss (padB l) with
    | none => rw [hi] at a; cases a; omega
    | some w =>
      obtain ⟨⟨c, n⟩, g⟩ := w
      rw [hi] at a
      cases a
      obtain ⟨y0, y1, hb, -⟩ := insp_some hall hp.ok hi
      have hfl := fl_ok hall y0 y1
      rcases hb with hb | hb
      · obtain ⟨x1, x2, -⟩ := hb
        omega
      · obtain ⟨x1, hx1, hx2, ⟨x2, hx3, hx4⟩, -⟩ := hb
        have := onDay_ge hp.ok hx1
        have := onDay_ge hp.ok hx3
        omega

theorem FloorLater_top (main : Side) (hS : ∀ S, main.ok S → ∃ Fin, S = Mn prog Fin) (hmb : main.b = true) (h : Hp) (nums : List Int) (lv : Value) (Eg : TypeId) (zg : Nat × Nat) (hl : Sl h rowI lv nums) (hg : h 0 = some (.cells #[rtV t_error] Eg zg)) (z0 : h.z 0) : TopV prog main n_law_FloorLater #[lv] h (.bool true) := by
  refine TopV.of_body at_law_FloorLater rfl (by show 1 ≤ 193; decide) [(0, lv)] ⟨rfl, trivial⟩ ?_
  refine W.seq ?_
  refine W.region rfl ?_
  refine oq (y_assign rfl rfl) rfl wn rfl rfl ?_
  refine Ops.nil ?_
  refine thn_n ?_
  refine W.seq ?_
  refine W.region rfl ?_
  refine oq (y_move rfl rfl) rfl wn rfl rfl ?_
  refine c0 (fun h' hE hL => NewHat_fn _ h' nums lv (hl.ext hE)) (fun v A' hv => ?_)
  obtain ⟨bh, s0, rfl, rfl⟩ := hv
  refine cg (A := [(bh, _)]) .head (fun h' hE hL => tiny_fn _ h' nums lv bh s0 (hl.ext hE)) (fun v A' hv => ?_)
  obtain ⟨vf, vs, vl, fs, ss, l, Sf, Ss, Sq, rfl, ⟨hOf, hOs, hOl⟩, ⟨hck, hcp, hn4, hw⟩, hsb⟩ := hv
  refine Ops.sb (F' := Sq ++ (Sf ++ Ss)) (hsb.trans (Sb.right .refl .nil)) ?_
  obtain ⟨a, cap, rfl⟩ := hOf.isSl
  obtain ⟨a', cap', rfl⟩ := hOs.isSl
  obtain ⟨al, lc, rfl⟩ := hOl.isSl
  have hnf := (hall_ck hck).nf
  have hlen : l.length ≤ 4 := by have := ckPlan0 hcp; omega
  refine oq (y_move rfl rfl) rfl wn rfl rfl ?_
  refine oq (y_extract rfl rfl rfl) rfl wn rfl rfl ?_
  refine oq (y_extract rfl rfl rfl) rfl wn rfl rfl ?_
  refine Ops.new (fun β3 => ?_)
  first | refine Ops.stoW ?_ | refine Ops.stoA ?_
  refine oq (y_assign rfl rfl) rfl wn rfl rfl ?_
  refine Ops.nil ?_
  refine thn_n ?_
  refine W.sb (F' := Sf ++ (Ss ++ ((β3, .cells #[.slice a fs.length cap, .slice a' ss.length cap'] t_Plant (0, 0)) :: Sq))) (.of_perm (by rw [← List.append_assoc]; exact List.perm_append_comm (l₂ := _ :: Sq))) ?_
  refine freezeOs hOf (fun hx hEx hslf hzf => ?_)
  refine freezeOs hOs (fun hy hEy hsls hzs => ?_)
  refine W.sb (F' := Sq ++ [(β3, .cells #[.slice a fs.length cap, .slice a' ss.length cap'] t_Plant (0, 0))]) (.of_perm (List.perm_append_singleton _ _)) ?_
  refine freezeOs hOl (fun hz hEz hsll hzl => ?_)
  refine W.seq ?_
  refine W.region rfl ?_
  first | refine oq (yldW rfl rfl) rfl wn rfl rfl ?_ | refine oq (yldA rfl rfl) rfl wn rfl rfl ?_
  refine c0 (fun h' hE hL => DupPlant_fn _ h' fs ss _ _ (hslf.ext ((hEy.trans hEz).trans hE)) (hsls.ext (hEz.trans hE)) (by omega)) (fun v A' hv => ?_)
  obtain ⟨vf2, vs2, Sf2, Ss2, rfl, ⟨hOf2, hOs2⟩, hsb3⟩ := hv
  refine Ops.sb (F' := (β3, .cells #[.slice a fs.length cap, .slice a' ss.length cap'] t_Plant (0, 0)) :: (Sf2 ++ Ss2)) (.trans (.of_perm (List.perm_append_singleton _ _).symm) (hsb3.app .refl)) ?_
  obtain ⟨a2, cap2, rfl⟩ := hOf2.isSl
  obtain ⟨a3, cap3, rfl⟩ := hOs2.isSl
  refine oq (y_move rfl rfl) rfl wn rfl rfl ?_
  refine c0 (fun h' hE hL => DupBerths_fn _ h' l _ (hsll.ext hE) (by omega)) (fun v A' hv => ?_)
  obtain ⟨Sy, hOy, hsb4⟩ := hv
  refine Ops.sb (F' := (β3, .cells #[.slice a fs.length cap, .slice a' ss.length cap'] t_Plant (0, 0)) :: (Sy ++ (Sf2 ++ Ss2))) (.trans (.of_perm (List.perm_middle (l₁ := Sy)).symm) (hsb4.app .refl)) ?_
  obtain ⟨ay, capy, rfl⟩ := hOy.isSl
  refine Ops.new (fun β5 => ?_)
  first | refine Ops.stoW ?_ | refine Ops.stoA ?_
  refine oq (y_assign rfl rfl) rfl wn rfl rfl ?_
  refine Ops.nil ?_
  refine thn_n ?_
  refine W.seq ?_
  refine W.seq ?_
  refine W.region rfl ?_
  refine oq (y_assign rfl rfl) rfl wn rfl rfl ?_
  refine Ops.nil ?_
  refine thn_n ?_
  refine W.block ?_
  have hO0 : Os t_Strike St.row (.slice a3 ss.length cap3) (mapK shS ss 0) Ss2 := by rw [mapK_0]; exact hOs2
  refine W.loop2 (fun (k : Nat) (S' : Frag) => k ≤ ss.length ∧ (∀ s ∈ ss.take k, s.day ≤ 11) ∧ Os t_Strike St.row (.slice a3 ss.length cap3) (mapK shS ss k) S') (fun k S' => [(7, I k), (6, .slice ay l.length capy), (5, .pointer (some ⟨β5, 0, none⟩)), (4, .slice al l.length lc), (3, .pointer (some ⟨β3, 0, none⟩))]) (fun k S' => (β5, .cells #[.slice a2 fs.length cap2, .slice a3 ss.length cap3] t_Plant (0, 0)) :: (β3, .cells #[.slice a fs.length cap, .slice a' ss.length cap'] t_Plant (0, 0)) :: (Sy ++ (Sf2 ++ S'))) (fun k _ => ss.length - k) 0 Ss2 ⟨Nat.zero_le _, by simp, hO0⟩ ⟨rfl, rfl, rfl, rfl, rfl, trivial⟩ .refl ?_
  rintro k S' ⟨hk, h11k, hO'⟩
  refine W.seq ?_
  refine W.seq ?_
  refine W.region rfl ?_
  refine oq (y_move rfl rfl) rfl wn rfl rfl ?_
  refine oq (y_fieldAddr rfl rfl) rfl wn rfl rfl ?_
  refine oq (yld rfl rfl) rfl wn rfl rfl ?_
  refine oq (y_len rfl rfl) rfl wn rfl rfl ?_
  refine oq (y_lss rfl rfl rfl) rfl wn rfl rfl ?_
  refine Ops.nil ?_
  refine thn_n ?_
  refine W.condp rfl (fun c40 => ?_) (fun c40 => ?_)
  · have hk1 : k < ss.length := by omega
    obtain ⟨s, hs0, -⟩ := has hk1
    have hso := strike_ok hck hs0
    obtain ⟨bf, off, c, E, fz, rfl, hb, -, hy1, hz1⟩ := hsls.at hs0
    have hb' := hEz.1 _ _ hb
    have hd2 : c[off + k * 3 + 0]? = some (I s.day) := hz1 0 (by decide)
    clear hz1
    have hml := mapK_len (f := shS) (l := ss) (k := k)
    have hx0 := mapK_at (f := shS) hs0
    rcases hO' with ⟨hnil, _, _⟩ | ⟨β, c2, cp, J, hv, rfl, hc1, hc2, hP, hJ⟩
    · rw [hnil] at hml; simp at hml; omega
    obtain ⟨rfl, rfl⟩ : a3 = some ⟨β, 0, none⟩ ∧ cap3 = cp := by injection hv with e1 e2 e3; exact ⟨e1, e3⟩
    have hP2 : Part (c2.setIfInBounds (0 + k * 3 + 0) (I (s.day + 1))) 0 (flat St.row ((mapK shS ss k).set k (shS s))) := by rw [Nat.zero_add]; exact hP.setR (shS s) 0 (I (s.day + 1)) (by decide) hx0 rfl
    have hsz := (hP.rowE hx0).2
    have hnew : (c2.setIfInBounds (0 + k * 3 + 0) (I (s.day + 1)))[0 + k * 3 + 0]? = some (I (s.day + 1)) := by
      rw [Array.getElem?_setIfInBounds, if_pos rfl, if_pos (by omega)]
    rw [mapK_set hs0] at hP2
    refine W.skip ?_
    refine thn_n ?_
    refine W.seq ?_
    refine W.block ?_
    refine W.seq ?_
    refine W.drawP2 (n := 13) rfl ?_
    refine aq (i := 0) (y_fieldAddr rfl rfl) rfl an rfl rfl ?_
    refine aq (i := 1) (yld rfl rfl) rfl an rfl rfl ?_
    refine aq (i := 2) (y_move rfl rfl) rfl an rfl rfl ?_
    refine aq (i := 3) (y_fieldAddr rfl rfl) rfl an rfl rfl ?_
    refine aq (i := 4) (yld rfl rfl) rfl an rfl rfl ?_
    refine aq (i := 5) (y_move rfl rfl) rfl an rfl rfl ?_
    first | refine aq (i := 6) (yix rfl rfl rfl) rfl an rfl rfl ?_ | refine aq (i := 6) (yixI rfl rfl rfl) rfl an rfl rfl ?_
    refine aq (i := 7) (y_fieldAddr rfl rfl) rfl an rfl rfl ?_
    refine aq (i := 8) (yld rfl rfl) rfl an rfl rfl ?_
    refine aq (i := 9) (yadd rfl rfl rfl) rfl an rfl rfl ?_
    first | refine aq (i := 10) (yix rfl rfl rfl) rfl an rfl rfl ?_ | refine aq (i := 10) (yixI rfl rfl rfl) rfl an rfl rfl ?_
    refine aq (i := 11) (y_fieldAddr rfl rfl) rfl an rfl rfl ?_
    refine ae (i := 12) rfl an rfl rfl (eS rfl rfl rfl ?_)
    refine ⟨.inl (by kernel_rfl), ?_⟩
    refine az ?_
    refine thn_n ?_
    refine W.seq ?_
    refine W.region rfl ?_
    refine oq (y_fieldAddr rfl rfl) rfl wn rfl rfl ?_
    refine oq (yld rfl rfl) rfl wn rfl rfl ?_
    refine oq (y_move rfl rfl) rfl wn rfl rfl ?_
    first | refine oq (yix rfl rfl rfl) rfl wn rfl rfl ?_ | refine oq (yixI rfl rfl rfl) rfl wn rfl rfl ?_
    refine oq (y_fieldAddr rfl rfl) rfl wn rfl rfl ?_
    refine oq (yld rfl rfl (.inr (fun _ e => by subst e; exact .tail _ (.tail _ (List.mem_append_right _ (List.mem_append_right _ (.head _)))))) hnew) rfl wn rfl rfl ?_
    refine oq (y_gtr rfl rfl rfl) rfl wn rfl rfl ?_
    refine Ops.nil ?_
    refine thn_n ?_
    refine W.condp rfl (fun c61 => ?_) (fun c61 => ?_)
    · refine W.seq ?_
      refine W.region rfl ?_
      refine cp (fun h' hE hL => exs_fn _ hS hmb h' Eg zg ((((hEx.trans hEy).trans hEz).trans hE).1 _ _ hg) ((((hEx.trans hEy).trans hEz).trans hE).2 _ z0)) ?_
      refine oq (y_assign rfl rfl) rfl wn rfl rfl ?_
      refine Ops.nil ?_
      refine thn_n ?_
      refine W.ret ?_
      refine blk_r ?_
      refine thn_r ?_
      refine thn_r ?_
      refine blk_r ?_
      refine thn_r ?_
      exact lvq (hs := .cons rfl (.cons rfl (hOy.shut.app (hOf2.shut.app (.cons rfl hJ))))) rfl
    · refine W.skip ?_
      refine blk_n ?_
      refine thn_n ?_
      refine W.region rfl ?_
      refine oq (y_move rfl rfl) rfl wn rfl rfl ?_
      first | refine oq (yadd rfl rfl rfl) rfl wn rfl rfl ?_ | refine oq (y_addw rfl rfl rfl) rfl wn rfl rfl ?_
      refine oq (y_assign rfl rfl) rfl wn rfl rfl ?_
      refine Ops.nil ?_
      refine thn_n ?_
      refine ⟨rfl, k + 1, (β, _) :: J, ⟨by omega, ?_, .inr ⟨β, _, cap3, J, by rw [mapK_len], rfl, by rw [Array.size_setIfInBounds]; exact hc1, by rw [mapK_len]; rw [mapK_len] at hc2; exact hc2, hP2, hJ⟩⟩, by omega, ⟨rfl, rfl, rfl, rfl, rfl, trivial⟩, .refl⟩
      intro t ht
      rw [List.take_add_one, hs0] at ht
      rcases List.mem_append.1 ht with ht | ht
      · exact h11k t ht
      · obtain rfl : t = s := by simpa using ht
        omega
  · have hkl : k = ss.length := by omega
    subst hkl
    rw [mapK_end] at hO'
    have h11 : ∀ s ∈ ss, s.day ≤ 11 := by rw [List.take_length] at h11k; exact h11k
    have hckr := sh_ck hck h11
    have hcpr := sh_ckPlan hck h11 hcp
    have hlr : (ss.map shS).length = ss.length := List.length_map ..
    obtain ⟨hb0, hb1, hb2, hb3⟩ := bestB_day hck
    obtain ⟨hb0r, hb1r, -, -⟩ := bestB_day hckr
    have htop := sh_top hck h11
    obtain ⟨g, d, kk, hw1, hw2, hgk⟩ := wr_ok hck h11 hcp
    refine W.exit ?_
    refine thn_x ?_
    refine thn_x ?_
    refine blk_x ?_
    refine thn_n ?_
    refine W.sb (F' := Sf2 ++ (S' ++ ((β5, .cells #[.slice a2 fs.length cap2, .slice a3 ss.length cap3] t_Plant (0, 0)) :: (β3, .cells #[.slice a fs.length cap, .slice a' ss.length cap'] t_Plant (0, 0)) :: Sy))) (.of_perm (by rw [← List.append_assoc]; exact List.perm_append_comm (l₂ := _ :: _ :: Sy))) ?_
    refine freezeOs hOf2 (fun hx2 hEx2 hslf2 hzf2 => ?_)
    refine freezeOs hO' (fun hy2 hEy2 hsls2 hzs2 => ?_)
    have hEall := (((hEx.trans hEy).trans hEz).trans hEx2).trans hEy2
    have hE3 := ((hEy.trans hEz).trans hEx2).trans hEy2
    have hE4 := (hEz.trans hEx2).trans hEy2
    have hE5 := hEx2.trans hEy2
    refine W.seq ?_
    refine W.region rfl ?_
    first | refine oq (yldW rfl rfl) rfl wn rfl rfl ?_ | refine oq (yldA rfl rfl) rfl wn rfl rfl ?_
    refine c0 (fun h' hE hL => Best_fn _ hS hmb h' fs ss _ _ Eg zg (hslf.ext (hE3.trans hE)) (hsls.ext (hE4.trans hE)) (hzf.ext (hE3.trans hE)) (hzs.ext (hE4.trans hE)) ((hEall.trans hE).1 _ _ hg) ((hEall.trans hE).2 _ z0)) (fun v A' hv => ?_)
    obtain ⟨u1, S1, rfl, hO1, hsb5⟩ := hv
    refine Ops.sb (F' := (β5, .cells #[.slice a2 fs.length cap2, .slice a3 ss.length cap3] t_Plant (0, 0)) :: (β3, .cells #[.slice a fs.length cap, .slice a' ss.length cap'] t_Plant (0, 0)) :: (Sy ++ S1)) (.trans (.of_perm (List.perm_append_comm (l₁ := _ :: _ :: Sy))) (hsb5.app .refl)) ?_
    refine oq (y_move rfl rfl) rfl wn rfl rfl ?_
    refine oq (y_extract rfl rfl rfl) rfl wn rfl rfl ?_
    refine oq (y_extract rfl rfl rfl) rfl wn rfl rfl ?_
    refine oq (y_extract rfl rfl rfl) rfl wn rfl rfl ?_
    refine oq (y_assign rfl rfl) rfl wn rfl rfl ?_
    refine oq (y_assign rfl rfl) rfl wn rfl rfl ?_
    refine oq (y_assign rfl rfl) rfl wn rfl rfl ?_
    refine Ops.nil ?_
    refine thn_n ?_
    refine W.seq ?_
    refine W.region rfl ?_
    first | refine oq (yldW rfl rfl) rfl wn rfl rfl ?_ | refine oq (yldA rfl rfl) rfl wn rfl rfl ?_
    refine c0 (fun h' hE hL => Best_fn _ hS hmb h' fs (ss.map shS) _ _ Eg zg (hslf2.ext (hEy2.trans hE)) (hsls2.ext hE) (hzf2.ext (hEy2.trans hE)) (hzs2.ext hE) ((hEall.trans hE).1 _ _ hg) ((hEall.trans hE).2 _ z0)) (fun v A' hv => ?_)
    obtain ⟨u2, S2, rfl, hO2, hsb6⟩ := hv
    refine Ops.sb (F' := (β5, .cells #[.slice a2 fs.length cap2, .slice a3 ss.length cap3] t_Plant (0, 0)) :: (β3, .cells #[.slice a fs.length cap, .slice a' ss.length cap'] t_Plant (0, 0)) :: ((Sy ++ S1) ++ S2)) (.trans (.of_perm (List.perm_append_comm (l₁ := _ :: _ :: (Sy ++ S1)))) (hsb6.app .refl)) ?_
    refine oq (y_move rfl rfl) rfl wn rfl rfl ?_
    refine oq (y_extract rfl rfl rfl) rfl wn rfl rfl ?_
    refine oq (y_extract rfl rfl rfl) rfl wn rfl rfl ?_
    refine oq (y_extract rfl rfl rfl) rfl wn rfl rfl ?_
    refine oq (y_assign rfl rfl) rfl wn rfl rfl ?_
    refine oq (y_assign rfl rfl) rfl wn rfl rfl ?_
    refine oq (y_assign rfl rfl) rfl wn rfl rfl ?_
    refine Ops.nil ?_
    refine thn_n ?_
    refine W.seq ?_
    refine W.seq ?_
    refine W.region rfl ?_
    refine oq (y_move rfl rfl) rfl wn rfl rfl ?_
    --abs F
    refine oq ((y_neq rfl rfl rfl).eq (u := .bool false) (congrArg Value.bool (decide_eq_false (fun hne => hne (by rw [hb0]))))) rfl wn rfl rfl ?_
    refine oq (y_move rfl rfl) rfl wn rfl rfl ?_
    refine oq (y_move rfl rfl) rfl (want_some rfl rfl rfl) rfl rfl ?_
    --abs F
    refine oq ((y_neq rfl rfl rfl).eq (u := .bool false) (congrArg Value.bool (decide_eq_false (fun hne => hne (by rw [hb0r]))))) rfl (want_some rfl rfl rfl) rfl rfl ?_
    refine oq (y_pickF rfl rfl rfl) rfl wn rfl rfl ?_
    refine oq (y_move rfl rfl) rfl wn rfl rfl ?_
    refine oq (y_move rfl rfl) rfl (want_some rfl rfl rfl) rfl rfl ?_
    refine oq (y_move rfl rfl) rfl (want_some rfl rfl rfl) rfl rfl ?_
    --abs F
    refine oq ((y_neq rfl rfl rfl).eq (u := .bool false) (congrArg Value.bool (decide_eq_false (fun hne => hne (by rw [hb1, hb1r, htop]))))) rfl (want_some rfl rfl rfl) rfl rfl ?_
    refine oq (y_pickF rfl rfl rfl) rfl wn rfl rfl ?_
    refine oq (y_move rfl rfl) rfl wn rfl rfl ?_
    refine oq (y_move rfl rfl) rfl (want_some rfl rfl rfl) rfl rfl ?_
    refine oq (y_move rfl rfl) rfl (want_some rfl rfl rfl) rfl rfl ?_
    --abs T
    refine cp (fun h' hE hL => later_fn _ h' (bestB fs ss).1 (bestB fs (ss.map shS)).1 u1 u2 (hO1.sl fun c o hb => hL c o (.tail _ (.tail _ (List.mem_append_left _ (List.mem_append_right _ hb))))) (hO2.sl fun c o hb => hL c o (.tail _ (.tail _ (List.mem_append_right _ hb)))) (sh_bestB hck h11) hb3 hb2) ?_ (hw := want_some rfl rfl rfl)
    --abs F
    refine oq ((y_not rfl rfl).eq (u := .bool false) rfl) rfl (want_some rfl rfl rfl) rfl rfl ?_
    refine oq (y_pickF rfl rfl rfl) rfl wn rfl rfl ?_
    refine Ops.nil ?_
    refine thn_n ?_
    refine W.condF ?_
    refine W.skip ?_
    refine thn_n ?_
    refine W.seq ?_
    refine W.seq ?_
    refine W.region rfl ?_
    refine oq (y_assign rfl rfl) rfl wn rfl rfl ?_
    refine Ops.nil ?_
    refine thn_n ?_
    refine W.block ?_
    have hO0 : Os t_Berth Be.row (.slice ay l.length capy) (mapK shB l 0) Sy := by rw [mapK_0]; exact hOy
    refine W.loop2 (fun (k : Nat) (S' : Frag) => k ≤ l.length ∧ Os t_Berth Be.row (.slice ay l.length capy) (mapK shB l k) S') (fun k S' => [(14, I k), (6, .slice ay l.length capy), (5, .pointer (some ⟨β5, 0, none⟩)), (4, .slice al l.length lc), (3, .pointer (some ⟨β3, 0, none⟩))]) (fun k S' => (β5, .cells #[.slice a2 fs.length cap2, .slice a3 ss.length cap3] t_Plant (0, 0)) :: (β3, .cells #[.slice a fs.length cap, .slice a' ss.length cap'] t_Plant (0, 0)) :: S') (fun k _ => l.length - k) 0 Sy ⟨Nat.zero_le _, hO0⟩ ⟨rfl, rfl, rfl, rfl, rfl, trivial⟩ (.cons (.cons (.trans (Sb.right .refl hO1.shut) (Sb.right .refl hO2.shut)))) ?_
    rintro k S' ⟨hk, hO'⟩
    refine W.seq ?_
    refine W.seq ?_
    refine W.region rfl ?_
    refine oq (y_move rfl rfl) rfl wn rfl rfl ?_
    refine oq (y_move rfl rfl) rfl wn rfl rfl ?_
    refine oq (y_len rfl rfl) rfl wn rfl rfl ?_
    refine oq (y_lss rfl rfl rfl) rfl wn rfl rfl ?_
    refine Ops.nil ?_
    refine thn_n ?_
    refine W.condp rfl (fun c95 => ?_) (fun c95 => ?_)
    · have hk1 : k < l.length := by omega
      obtain ⟨p, hp0, -⟩ := has hk1
      have hpd := (plan_ck hcp).2.1.ok.ok p (List.mem_append_left _ (List.mem_of_getElem? hp0))
      obtain ⟨bf, off, c, E, fz, rfl, hb, -, hy1, hz1⟩ := hsll.at hp0
      have hb' := hE5.1 _ _ hb
      have hd2 : c[off + k * 2 + 1]? = some (I p.day) := hz1 1 (by decide)
      clear hz1
      have hml := mapK_len (f := shB) (l := l) (k := k)
      have hx0 := mapK_at (f := shB) hp0
      rcases hO' with ⟨hnil, _, _⟩ | ⟨β, c2, cp, J, hv, rfl, hc1, hc2, hP, hJ⟩
      · rw [hnil] at hml; simp at hml; omega
      obtain ⟨rfl, rfl⟩ : ay = some ⟨β, 0, none⟩ ∧ capy = cp := by injection hv with e1 e2 e3; exact ⟨e1, e3⟩
      have hsz := (hP.rowE hx0).2
      have hf0 : c2[0 + k * 2 + 0]? = some (I p.fl) := hP.rowG hx0 0 (by decide)
      refine W.skip ?_
      refine thn_n ?_
      refine W.seq ?_
      refine W.block ?_
      refine W.seq ?_
      refine W.region rfl ?_
      refine oq (y_move rfl rfl) rfl wn rfl rfl ?_
      refine oq (y_move rfl rfl) rfl wn rfl rfl ?_
      first | refine oq (yix rfl rfl rfl) rfl wn rfl rfl ?_ | refine oq (yixI rfl rfl rfl) rfl wn rfl rfl ?_
      refine oq (y_fieldAddr rfl rfl) rfl wn rfl rfl ?_
      refine oq (yld rfl rfl) rfl wn rfl rfl ?_
      refine oq (y_geq rfl rfl rfl) rfl wn rfl rfl ?_
      refine Ops.nil ?_
      refine thn_n ?_
      refine W.condp rfl (fun c103 => ?_) (fun c103 => ?_)
      · have hsh : shB p = ⟨p.fl, p.day + 1⟩ := if_pos c103
        have hP2 : Part (c2.setIfInBounds (0 + k * 2 + 1) (I (p.day + 1))) 0 (flat Be.row ((mapK shB l k).set k (⟨p.fl, p.day + 1⟩ : Be))) := by rw [Nat.zero_add]; exact hP.setR (⟨p.fl, p.day + 1⟩ : Be) 1 (I (p.day + 1)) (by decide) hx0 rfl
        rw [← hsh, mapK_set hp0] at hP2
        refine W.region rfl ?_
        refine oq (y_move rfl rfl) rfl wn rfl rfl ?_
        refine oq (y_move rfl rfl) rfl wn rfl rfl ?_
        refine oq (y_move rfl rfl) rfl wn rfl rfl ?_
        refine oq (y_move rfl rfl) rfl wn rfl rfl ?_
        first | refine oq (yix rfl rfl rfl) rfl wn rfl rfl ?_ | refine oq (yixI rfl rfl rfl) rfl wn rfl rfl ?_
        refine oq (y_fieldAddr rfl rfl) rfl wn rfl rfl ?_
        refine oq (yld rfl rfl) rfl wn rfl rfl ?_
        refine oq (yadd rfl rfl rfl) rfl wn rfl rfl ?_
        first | refine oq (yix rfl rfl rfl) rfl wn rfl rfl ?_ | refine oq (yixI rfl rfl rfl) rfl wn rfl rfl ?_
        refine oq (y_fieldAddr rfl rfl) rfl wn rfl rfl ?_
        refine Ops.sto ?_
        refine Ops.nil ?_
        refine blk_n ?_
        refine thn_n ?_
        refine W.region rfl ?_
        refine oq (y_move rfl rfl) rfl wn rfl rfl ?_
        first | refine oq (yadd rfl rfl rfl) rfl wn rfl rfl ?_ | refine oq (y_addw rfl rfl rfl) rfl wn rfl rfl ?_
        refine oq (y_assign rfl rfl) rfl wn rfl rfl ?_
        refine Ops.nil ?_
        refine thn_n ?_
        exact ⟨rfl, k + 1, (β, _) :: J, ⟨by omega, .inr ⟨β, _, capy, J, by rw [mapK_len], rfl, by rw [Array.size_setIfInBounds]; exact hc1, by rw [mapK_len]; rw [mapK_len] at hc2; exact hc2, hP2, hJ⟩⟩, by omega, ⟨rfl, rfl, rfl, rfl, rfl, trivial⟩, .refl⟩
      · have hsh : shB p = p := if_neg c103
        refine W.skip ?_
        refine blk_n ?_
        refine thn_n ?_
        refine W.region rfl ?_
        refine oq (y_move rfl rfl) rfl wn rfl rfl ?_
        first | refine oq (yadd rfl rfl rfl) rfl wn rfl rfl ?_ | refine oq (y_addw rfl rfl rfl) rfl wn rfl rfl ?_
        refine oq (y_assign rfl rfl) rfl wn rfl rfl ?_
        refine Ops.nil ?_
        refine thn_n ?_
        exact ⟨rfl, k + 1, (β, _) :: J, ⟨by omega, .inr ⟨β, _, capy, J, by rw [mapK_len], rfl, hc1, by rw [mapK_len]; rw [mapK_len] at hc2; exact hc2, by rw [mapK_same hp0 hsh]; exact hP, hJ⟩⟩, by omega, ⟨rfl, rfl, rfl, rfl, rfl, trivial⟩, .refl⟩
    · have hkl : k = l.length := by omega
      subst hkl
      rw [mapK_end] at hO'
      refine W.exit ?_
      refine thn_x ?_
      refine thn_x ?_
      refine blk_x ?_
      refine thn_n ?_
      refine W.sb (F' := S' ++ [(β5, .cells #[.slice a2 fs.length cap2, .slice a3 ss.length cap3] t_Plant (0, 0)), (β3, .cells #[.slice a fs.length cap, .slice a' ss.length cap'] t_Plant (0, 0))]) (.of_perm (List.perm_append_comm (l₂ := [_, _]))) ?_
      refine freezeOs hO' (fun hw hEw hslw hzw => ?_)
      refine W.seq ?_
      refine W.region rfl ?_
      first | refine oq (yldW rfl rfl) rfl wn rfl rfl ?_ | refine oq (yldA rfl rfl) rfl wn rfl rfl ?_
      refine oq (y_move rfl rfl) rfl wn rfl rfl ?_
      refine cp (u := .tuple #[I g, I d, I 0]) (fun h' hE hL => ?_) ?_
      · have := Wrong_fn main h' fs ss l _ _ _ Eg zg (hslf.ext ((hE3.trans hEw).trans hE)) (hsls.ext ((hE4.trans hEw).trans hE)) (hsll.ext ((hE5.trans hEw).trans hE)) (((hEall.trans hEw).trans hE).1 _ _ hg)
        rw [hw1] at this
        exact this
      refine oq (y_move rfl rfl) rfl wn rfl rfl ?_
      refine oq (y_extract rfl rfl rfl) rfl wn rfl rfl ?_
      refine oq (y_extract rfl rfl rfl) rfl wn rfl rfl ?_
      refine oq (y_extract rfl rfl rfl) rfl wn rfl rfl ?_
      refine oq (y_assign rfl rfl) rfl wn rfl rfl ?_
      refine oq (y_assign rfl rfl) rfl wn rfl rfl ?_
      refine oq (y_assign rfl rfl) rfl wn rfl rfl ?_
      refine Ops.nil ?_
      refine thn_n ?_
      refine W.seq ?_
      refine W.region rfl ?_
      first | refine oq (yldW rfl rfl) rfl wn rfl rfl ?_ | refine oq (yldA rfl rfl) rfl wn rfl rfl ?_
      refine oq (y_move rfl rfl) rfl wn rfl rfl ?_
      refine cp (u := .tuple #[I g, I kk, I 0]) (fun h' hE hL => ?_) ?_
      · have := Wrong_fn main h' fs (ss.map shS) (l.map shB) _ _ _ Eg zg (hslf2.ext ((hEy2.trans hEw).trans hE)) (hsls2.ext (hEw.trans hE)) (hslw.ext hE) (((hEall.trans hEw).trans hE).1 _ _ hg)
        rw [hw2] at this
        exact this
      refine oq (y_move rfl rfl) rfl wn rfl rfl ?_
      refine oq (y_extract rfl rfl rfl) rfl wn rfl rfl ?_
      refine oq (y_extract rfl rfl rfl) rfl wn rfl rfl ?_
      refine oq (y_extract rfl rfl rfl) rfl wn rfl rfl ?_
      refine oq (y_assign rfl rfl) rfl wn rfl rfl ?_
      refine oq (y_assign rfl rfl) rfl wn rfl rfl ?_
      refine oq (y_assign rfl rfl) rfl wn rfl rfl ?_
      refine Ops.nil ?_
      refine thn_n ?_
      refine W.seq ?_
      refine W.seq ?_
      refine W.region rfl ?_
      refine oq (y_move rfl rfl) rfl wn rfl rfl ?_
      --abs F
      refine oq ((y_neq rfl rfl rfl).eq (u := .bool false) rfl) rfl wn rfl rfl ?_
      refine oq (y_move rfl rfl) rfl wn rfl rfl ?_
      refine oq (y_move rfl rfl) rfl (want_some rfl rfl rfl) rfl rfl ?_
      --abs F
      refine oq ((y_neq rfl rfl rfl).eq (u := .bool false) rfl) rfl (want_some rfl rfl rfl) rfl rfl ?_
      refine oq (y_pickF rfl rfl rfl) rfl wn rfl rfl ?_
      refine oq (y_move rfl rfl) rfl wn rfl rfl ?_
      refine oq (y_move rfl rfl) rfl (want_some rfl rfl rfl) rfl rfl ?_
      refine oq (y_move rfl rfl) rfl (want_some rfl rfl rfl) rfl rfl ?_
      --abs F
      refine oq ((y_neq rfl rfl rfl).eq (u := .bool false) (congrArg Value.bool (decide_eq_false (fun hne => hne rfl)))) rfl (want_some rfl rfl rfl) rfl rfl ?_
      refine oq (y_pickF rfl rfl rfl) rfl wn rfl rfl ?_
      refine oq (y_move rfl rfl) rfl wn rfl rfl ?_
      refine oq (y_move rfl rfl) rfl (want_some rfl rfl rfl) rfl rfl ?_
      rcases hgk with ⟨hg0, rfl, hd0, hd1⟩ | ⟨hg0, rfl⟩
      · --abs T
        refine oq ((y_geq rfl rfl rfl).eq (u := .bool true) (congrArg Value.bool (decide_eq_true (by omega)))) rfl (want_some rfl rfl rfl) rfl rfl ?_
        refine oq (y_move rfl rfl) rfl (want_some rfl rfl rfl) rfl rfl ?_
        refine oq (y_move rfl rfl) rfl (want_some rfl rfl rfl) rfl rfl ?_
        refine oq (y_move rfl rfl) rfl (want_some rfl rfl rfl) rfl rfl ?_
        refine oq (yadd rfl rfl rfl) rfl (want_some rfl rfl rfl) rfl rfl ?_
        --abs F
        refine oq ((y_neq rfl rfl rfl).eq (u := .bool false) (congrArg Value.bool (decide_eq_false (fun hne => hne rfl)))) rfl (want_some rfl rfl rfl) rfl rfl ?_
        refine oq (y_pickT rfl rfl rfl) rfl (want_some rfl rfl rfl) rfl rfl ?_
        refine oq (y_pickF rfl rfl rfl) rfl wn rfl rfl ?_
        refine oq (y_move rfl rfl) rfl wn rfl rfl ?_
        refine oq (y_move rfl rfl) rfl (want_some rfl rfl rfl) rfl rfl ?_
        --abs F
        refine oq ((y_lss rfl rfl rfl).eq (u := .bool false) (congrArg Value.bool (decide_eq_false (by omega)))) rfl (want_some rfl rfl rfl) rfl rfl ?_
        refine oq (y_move rfl rfl) rfl (want_some rfl rfl rfl) rfl rfl ?_
        refine Ops.no ?_
        refine Ops.no ?_
        refine oq (y_pickF rfl rfl rfl) rfl (want_some rfl rfl rfl) rfl rfl ?_
        refine oq (y_pickF rfl rfl rfl) rfl wn rfl rfl ?_
        refine Ops.nil ?_
        refine thn_n ?_
        refine W.condF ?_
        refine W.skip ?_
        refine thn_n ?_
        refine W.seq ?_
        refine W.seq ?_
        refine W.region rfl ?_
        refine oq (y_assign rfl rfl) rfl wn rfl rfl ?_
        refine Ops.nil ?_
        refine thn_n ?_
        refine W.block ?_
        refine W.loop (σ := Nat) (fun k => k ≤ 21) (fun k => [(21, I k), (6, .slice ay l.length capy), (5, .pointer (some ⟨β5, 0, none⟩)), (4, .slice al l.length lc), (3, .pointer (some ⟨β3, 0, none⟩))]) (fun _ => [(β5, .cells #[.slice a2 fs.length cap2, .slice a3 ss.length cap3] t_Plant (0, 0)), (β3, .cells #[.slice a fs.length cap, .slice a' ss.length cap'] t_Plant (0, 0))]) (fun k => 21 - k) 0 (Nat.zero_le _) ⟨rfl, rfl, rfl, rfl, rfl, trivial⟩ .refl ?_
        rintro k hk
        refine W.seq ?_
        refine W.seq ?_
        refine W.region rfl ?_
        refine oq (y_move rfl rfl) rfl wn rfl rfl ?_
        refine oq (y_lss rfl rfl rfl) rfl wn rfl rfl ?_
        refine Ops.nil ?_
        refine thn_n ?_
        refine W.condp rfl (fun c158 => ?_) (fun c158 => ?_)
        · have hk1 : k < 21 := by omega
          obtain ⟨hst1, hst2⟩ := sh_standsV (d := k) hck h11 hcp hk1
          refine W.skip ?_
          refine thn_n ?_
          refine W.seq ?_
          refine W.block ?_
          refine W.seq ?_
          refine W.region rfl ?_
          first | refine oq (yldW rfl rfl) rfl wn rfl rfl ?_ | refine oq (yldA rfl rfl) rfl wn rfl rfl ?_
          refine oq (y_move rfl rfl) rfl wn rfl rfl ?_
          refine oq (y_move rfl rfl) rfl wn rfl rfl ?_
          refine cp (u := .tuple #[.agg #[I (standsV fs ss l 0 k).1.lo, I (standsV fs ss l 0 k).1.hi], I 0]) (fun h' hE hL => ?_) ?_
          · have := Stands_fn main h' fs ss l 0 k _ _ _ (hslf.ext ((hE3.trans hEw).trans hE)) (hsls.ext ((hE4.trans hEw).trans hE)) (hsll.ext ((hE5.trans hEw).trans hE))
            rw [hst1] at this
            exact this
          refine oq (y_move rfl rfl) rfl wn rfl rfl ?_
          refine oq (y_extract rfl rfl rfl) rfl wn rfl rfl ?_
          refine oq (y_extract rfl rfl rfl) rfl wn rfl rfl ?_
          refine Ops.new (fun β22 => ?_)
          first | refine Ops.stoW ?_ | refine Ops.stoA ?_
          refine oq (y_assign rfl rfl) rfl wn rfl rfl ?_
          refine Ops.nil ?_
          refine thn_n ?_
          refine W.seq ?_
          refine W.region rfl ?_
          first | refine oq (yldW rfl rfl) rfl wn rfl rfl ?_ | refine oq (yldA rfl rfl) rfl wn rfl rfl ?_
          refine oq (y_move rfl rfl) rfl wn rfl rfl ?_
          refine oq (y_move rfl rfl) rfl wn rfl rfl ?_
          first | refine oq (yadd rfl rfl rfl) rfl wn rfl rfl ?_ | refine oq (y_addw rfl rfl rfl) rfl wn rfl rfl ?_
          refine cp (u := .tuple #[.agg #[I (standsV fs ss l 0 k).1.lo, I (standsV fs ss l 0 k).1.hi], I 0]) (fun h' hE hL => ?_) ?_
          · have := Stands_fn main h' fs (ss.map shS) (l.map shB) 0 (k + 1) _ _ _ (hslf2.ext ((hEy2.trans hEw).trans hE)) (hsls2.ext (hEw.trans hE)) (hslw.ext hE)
            rw [hst2, hst1] at this
            exact this
          refine oq (y_move rfl rfl) rfl wn rfl rfl ?_
          refine oq (y_extract rfl rfl rfl) rfl wn rfl rfl ?_
          refine oq (y_extract rfl rfl rfl) rfl wn rfl rfl ?_
          refine Ops.new (fun β24 => ?_)
          first | refine Ops.stoW ?_ | refine Ops.stoA ?_
          refine oq (y_assign rfl rfl) rfl wn rfl rfl ?_
          refine Ops.nil ?_
          refine thn_n ?_
          refine W.seq ?_
          refine W.region rfl ?_
          refine oq (y_move rfl rfl) rfl wn rfl rfl ?_
          --abs F
          refine oq ((y_neq rfl rfl rfl).eq (u := .bool false) rfl) rfl wn rfl rfl ?_
          refine oq (y_move rfl rfl) rfl wn rfl rfl ?_
          refine oq (y_move rfl rfl) rfl (want_some rfl rfl rfl) rfl rfl ?_
          --abs F
          refine oq ((y_neq rfl rfl rfl).eq (u := .bool false) rfl) rfl (want_some rfl rfl rfl) rfl rfl ?_
          refine oq (y_pickF rfl rfl rfl) rfl wn rfl rfl ?_
          refine oq (y_move rfl rfl) rfl wn rfl rfl ?_
          first | refine oq (yldW rfl rfl) rfl (want_some rfl rfl rfl) rfl rfl ?_ | refine oq (yldA rfl rfl) rfl (want_some rfl rfl rfl) rfl rfl ?_
          first | refine oq (yldW rfl rfl) rfl (want_some rfl rfl rfl) rfl rfl ?_ | refine oq (yldA rfl rfl) rfl (want_some rfl rfl rfl) rfl rfl ?_
          --abs F
          refine oq (Yv.eq (u := .bool false) (y_neA [(standsV fs ss l 0 k).1.lo, (standsV fs ss l 0 k).1.hi] [(standsV fs ss l 0 k).1.lo, (standsV fs ss l 0 k).1.hi] rfl rfl rfl rfl rfl rfl rfl) (congrArg Value.bool (by simp))) rfl (want_some rfl rfl rfl) rfl rfl ?_
          refine oq (y_pickF rfl rfl rfl) rfl wn rfl rfl ?_
          refine Ops.nil ?_
          refine thn_n ?_
          refine W.condF ?_
          refine W.skip ?_
          refine blk_n ?_
          refine thn_n ?_
          refine W.region rfl ?_
          refine oq (y_move rfl rfl) rfl wn rfl rfl ?_
          first | refine oq (yadd rfl rfl rfl) rfl wn rfl rfl ?_ | refine oq (y_addw rfl rfl rfl) rfl wn rfl rfl ?_
          refine oq (y_assign rfl rfl) rfl wn rfl rfl ?_
          refine Ops.nil ?_
          refine thn_n ?_
          exact ⟨rfl, k + 1, by omega, by omega, ⟨rfl, rfl, rfl, rfl, rfl, trivial⟩, .skip rfl (.skip rfl .refl)⟩
        · refine W.exit ?_
          refine thn_x ?_
          refine thn_x ?_
          refine blk_x ?_
          refine thn_n ?_
          refine W.seq ?_
          refine W.region rfl ?_
          first | refine oq (yldW rfl rfl) rfl wn rfl rfl ?_ | refine oq (yldA rfl rfl) rfl wn rfl rfl ?_
          first | refine oq (yldW rfl rfl) rfl wn rfl rfl ?_ | refine oq (yldA rfl rfl) rfl wn rfl rfl ?_
          --abs T
          refine cp (fun h' hE hL => same_fn main hS hmb h' fs fs ss (ss.map shS) _ _ _ _ Eg zg (hslf.ext ((hE3.trans hEw).trans hE)) (hsls.ext ((hE4.trans hEw).trans hE)) (hzf.ext ((hE3.trans hEw).trans hE)) (hzs.ext ((hE4.trans hEw).trans hE)) (hslf2.ext ((hEy2.trans hEw).trans hE)) (hsls2.ext (hEw.trans hE)) (hzf2.ext ((hEy2.trans hEw).trans hE)) (hzs2.ext (hEw.trans hE)) hck hckr hlr (sh_count hck h11) (sh_late hck h11) (fun i _ => sh_verd hck h11 i) (((hEall.trans hEw).trans hE).1 _ _ hg) (((hEall.trans hEw).trans hE).2 _ z0)) ?_
          refine oq (y_move rfl rfl) rfl wn rfl rfl ?_
          --abs T
          refine cp (fun h' hE hL => exs_fn _ hS hmb h' Eg zg (((hEall.trans hEw).trans hE).1 _ _ hg) (((hEall.trans hEw).trans hE).2 _ z0)) ?_ (hw := want_some rfl rfl rfl)
          refine oq (y_pickT rfl rfl rfl) rfl wn rfl rfl ?_
          refine oq (y_assign rfl rfl) rfl wn rfl rfl ?_
          refine Ops.nil ?_
          refine thn_n ?_
          refine W.ret ?_
          exact lvq rfl
      · --abs F
        refine oq ((y_geq rfl rfl rfl).eq (u := .bool false) (congrArg Value.bool (decide_eq_false (by omega)))) rfl (want_some rfl rfl rfl) rfl rfl ?_
        refine oq (y_move rfl rfl) rfl (want_some rfl rfl rfl) rfl rfl ?_
        refine Ops.no ?_
        refine Ops.no ?_
        refine Ops.no ?_
        refine Ops.no ?_
        refine oq (y_pickF rfl rfl rfl) rfl (want_some rfl rfl rfl) rfl rfl ?_
        refine oq (y_pickF rfl rfl rfl) rfl wn rfl rfl ?_
        refine oq (y_move rfl rfl) rfl wn rfl rfl ?_
        refine oq (y_move rfl rfl) rfl (want_some rfl rfl rfl) rfl rfl ?_
        --abs T
        refine oq ((y_lss rfl rfl rfl).eq (u := .bool true) (congrArg Value.bool (decide_eq_true (by omega)))) rfl (want_some rfl rfl rfl) rfl rfl ?_
        refine oq (y_move rfl rfl) rfl (want_some rfl rfl rfl) rfl rfl ?_
        refine oq (y_move rfl rfl) rfl (want_some rfl rfl rfl) rfl rfl ?_
        --abs F
        refine oq ((y_neq rfl rfl rfl).eq (u := .bool false) (congrArg Value.bool (decide_eq_false (fun hne => hne rfl)))) rfl (want_some rfl rfl rfl) rfl rfl ?_
        refine oq (y_pickT rfl rfl rfl) rfl (want_some rfl rfl rfl) rfl rfl ?_
        refine oq (y_pickF rfl rfl rfl) rfl wn rfl rfl ?_
        refine Ops.nil ?_
        refine thn_n ?_
        refine W.condF ?_
        refine W.skip ?_
        refine thn_n ?_
        refine W.seq ?_
        refine W.seq ?_
        refine W.region rfl ?_
        refine oq (y_assign rfl rfl) rfl wn rfl rfl ?_
        refine Ops.nil ?_
        refine thn_n ?_
        refine W.block ?_
        refine W.loop (σ := Nat) (fun k => k ≤ 21) (fun k => [(21, I k), (6, .slice ay l.length capy), (5, .pointer (some ⟨β5, 0, none⟩)), (4, .slice al l.length lc), (3, .pointer (some ⟨β3, 0, none⟩))]) (fun _ => [(β5, .cells #[.slice a2 fs.length cap2, .slice a3 ss.length cap3] t_Plant (0, 0)), (β3, .cells #[.slice a fs.length cap, .slice a' ss.length cap'] t_Plant (0, 0))]) (fun k => 21 - k) 0 (Nat.zero_le _) ⟨rfl, rfl, rfl, rfl, rfl, trivial⟩ .refl ?_
        rintro k hk
        refine W.seq ?_
        refine W.seq ?_
        refine W.region rfl ?_
        refine oq (y_move rfl rfl) rfl wn rfl rfl ?_
        refine oq (y_lss rfl rfl rfl) rfl wn rfl rfl ?_
        refine Ops.nil ?_
        refine thn_n ?_
        refine W.condp rfl (fun c158 => ?_) (fun c158 => ?_)
        · have hk1 : k < 21 := by omega
          obtain ⟨hst1, hst2⟩ := sh_standsV (d := k) hck h11 hcp hk1
          refine W.skip ?_
          refine thn_n ?_
          refine W.seq ?_
          refine W.block ?_
          refine W.seq ?_
          refine W.region rfl ?_
          first | refine oq (yldW rfl rfl) rfl wn rfl rfl ?_ | refine oq (yldA rfl rfl) rfl wn rfl rfl ?_
          refine oq (y_move rfl rfl) rfl wn rfl rfl ?_
          refine oq (y_move rfl rfl) rfl wn rfl rfl ?_
          refine cp (u := .tuple #[.agg #[I (standsV fs ss l 0 k).1.lo, I (standsV fs ss l 0 k).1.hi], I 0]) (fun h' hE hL => ?_) ?_
          · have := Stands_fn main h' fs ss l 0 k _ _ _ (hslf.ext ((hE3.trans hEw).trans hE)) (hsls.ext ((hE4.trans hEw).trans hE)) (hsll.ext ((hE5.trans hEw).trans hE))
            rw [hst1] at this
            exact this
          refine oq (y_move rfl rfl) rfl wn rfl rfl ?_
          refine oq (y_extract rfl rfl rfl) rfl wn rfl rfl ?_
          refine oq (y_extract rfl rfl rfl) rfl wn rfl rfl ?_
          refine Ops.new (fun β22 => ?_)
          first | refine Ops.stoW ?_ | refine Ops.stoA ?_
          refine oq (y_assign rfl rfl) rfl wn rfl rfl ?_
          refine Ops.nil ?_
          refine thn_n ?_
          refine W.seq ?_
          refine W.region rfl ?_
          first | refine oq (yldW rfl rfl) rfl wn rfl rfl ?_ | refine oq (yldA rfl rfl) rfl wn rfl rfl ?_
          refine oq (y_move rfl rfl) rfl wn rfl rfl ?_
          refine oq (y_move rfl rfl) rfl wn rfl rfl ?_
          first | refine oq (yadd rfl rfl rfl) rfl wn rfl rfl ?_ | refine oq (y_addw rfl rfl rfl) rfl wn rfl rfl ?_
          refine cp (u := .tuple #[.agg #[I (standsV fs ss l 0 k).1.lo, I (standsV fs ss l 0 k).1.hi], I 0]) (fun h' hE hL => ?_) ?_
          · have := Stands_fn main h' fs (ss.map shS) (l.map shB) 0 (k + 1) _ _ _ (hslf2.ext ((hEy2.trans hEw).trans hE)) (hsls2.ext (hEw.trans hE)) (hslw.ext hE)
            rw [hst2, hst1] at this
            exact this
          refine oq (y_move rfl rfl) rfl wn rfl rfl ?_
          refine oq (y_extract rfl rfl rfl) rfl wn rfl rfl ?_
          refine oq (y_extract rfl rfl rfl) rfl wn rfl rfl ?_
          refine Ops.new (fun β24 => ?_)
          first | refine Ops.stoW ?_ | refine Ops.stoA ?_
          refine oq (y_assign rfl rfl) rfl wn rfl rfl ?_
          refine Ops.nil ?_
          refine thn_n ?_
          refine W.seq ?_
          refine W.region rfl ?_
          refine oq (y_move rfl rfl) rfl wn rfl rfl ?_
          --abs F
          refine oq ((y_neq rfl rfl rfl).eq (u := .bool false) rfl) rfl wn rfl rfl ?_
          refine oq (y_move rfl rfl) rfl wn rfl rfl ?_
          refine oq (y_move rfl rfl) rfl (want_some rfl rfl rfl) rfl rfl ?_
          --abs F
          refine oq ((y_neq rfl rfl rfl).eq (u := .bool false) rfl) rfl (want_some rfl rfl rfl) rfl rfl ?_
          refine oq (y_pickF rfl rfl rfl) rfl wn rfl rfl ?_
          refine oq (y_move rfl rfl) rfl wn rfl rfl ?_
          first | refine oq (yldW rfl rfl) rfl (want_some rfl rfl rfl) rfl rfl ?_ | refine oq (yldA rfl rfl) rfl (want_some rfl rfl rfl) rfl rfl ?_
          first | refine oq (yldW rfl rfl) rfl (want_some rfl rfl rfl) rfl rfl ?_ | refine oq (yldA rfl rfl) rfl (want_some rfl rfl rfl) rfl rfl ?_
          --abs F
          refine oq (Yv.eq (u := .bool false) (y_neA [(standsV fs ss l 0 k).1.lo, (standsV fs ss l 0 k).1.hi] [(standsV fs ss l 0 k).1.lo, (standsV fs ss l 0 k).1.hi] rfl rfl rfl rfl rfl rfl rfl) (congrArg Value.bool (by simp))) rfl (want_some rfl rfl rfl) rfl rfl ?_
          refine oq (y_pickF rfl rfl rfl) rfl wn rfl rfl ?_
          refine Ops.nil ?_
          refine thn_n ?_
          refine W.condF ?_
          refine W.skip ?_
          refine blk_n ?_
          refine thn_n ?_
          refine W.region rfl ?_
          refine oq (y_move rfl rfl) rfl wn rfl rfl ?_
          first | refine oq (yadd rfl rfl rfl) rfl wn rfl rfl ?_ | refine oq (y_addw rfl rfl rfl) rfl wn rfl rfl ?_
          refine oq (y_assign rfl rfl) rfl wn rfl rfl ?_
          refine Ops.nil ?_
          refine thn_n ?_
          exact ⟨rfl, k + 1, by omega, by omega, ⟨rfl, rfl, rfl, rfl, rfl, trivial⟩, .skip rfl (.skip rfl .refl)⟩
        · refine W.exit ?_
          refine thn_x ?_
          refine thn_x ?_
          refine blk_x ?_
          refine thn_n ?_
          refine W.seq ?_
          refine W.region rfl ?_
          first | refine oq (yldW rfl rfl) rfl wn rfl rfl ?_ | refine oq (yldA rfl rfl) rfl wn rfl rfl ?_
          first | refine oq (yldW rfl rfl) rfl wn rfl rfl ?_ | refine oq (yldA rfl rfl) rfl wn rfl rfl ?_
          --abs T
          refine cp (fun h' hE hL => same_fn main hS hmb h' fs fs ss (ss.map shS) _ _ _ _ Eg zg (hslf.ext ((hE3.trans hEw).trans hE)) (hsls.ext ((hE4.trans hEw).trans hE)) (hzf.ext ((hE3.trans hEw).trans hE)) (hzs.ext ((hE4.trans hEw).trans hE)) (hslf2.ext ((hEy2.trans hEw).trans hE)) (hsls2.ext (hEw.trans hE)) (hzf2.ext ((hEy2.trans hEw).trans hE)) (hzs2.ext (hEw.trans hE)) hck hckr hlr (sh_count hck h11) (sh_late hck h11) (fun i _ => sh_verd hck h11 i) (((hEall.trans hEw).trans hE).1 _ _ hg) (((hEall.trans hEw).trans hE).2 _ z0)) ?_
          refine oq (y_move rfl rfl) rfl wn rfl rfl ?_
          --abs T
          refine cp (fun h' hE hL => exs_fn _ hS hmb h' Eg zg (((hEall.trans hEw).trans hE).1 _ _ hg) (((hEall.trans hEw).trans hE).2 _ z0)) ?_ (hw := want_some rfl rfl rfl)
          refine oq (y_pickT rfl rfl rfl) rfl wn rfl rfl ?_
          refine oq (y_assign rfl rfl) rfl wn rfl rfl ?_
          refine Ops.nil ?_
          refine thn_n ?_
          refine W.ret ?_
          exact lvq rfl
end Go.Mus

/- FloorLater's card. Conditions: as the card says; over the given program. -/
namespace Go.Proofs.YtabnpjbnoedfgaaDoor
open Go Go.Mus
set_option maxRecDepth 100000
set_option maxHeartbeats 4000000

theorem floorLater_row : Rows.FloorLaterSaid :=
  OpenClaim.holds_of_wide_leaving n_law_FloorLater F_law_FloorLater rfl rfl rfl rfl rfl rfl rfl ⟨rfl, rfl, rfl, rfl, rfl⟩ rfl rfl rfl rfl rfl (by kernel_rfl) at_law_FloorLater (by kernel_rfl)
    (of_decide_eq_true (by kernel_rfl)) (by unfold Func.isWrapper; first | (rw [if_pos (by decide +kernel)]; kernel_rfl) | (rw [if_neg (by decide +kernel)]; exact ⟨rfl, rfl⟩))
    (fun os started H enc _ => lift1 (s := Rows.floorLaterSpec) os started H enc at_law_FloorLater (by kernel_rfl) (by kernel_rfl) (by kernel_rfl) (by kernel_rfl) (by kernel_rfl) rfl (fun _ => rfl)
      (ChangeSpec.witness_at (enc := enc) (C := Tryd.checked) (os := os) (X := fun w _ => laidMetH prog laid0 w) false (laidWorld os) #[.slice none 0 0] 8 rfl (by kernel_rfl) (by kernel_rfl) (by kernel_rfl) (by kernel_rfl) (by kernel_rfl) (laidWorld_met os _))
      (fun main hS hmb h nums lv Eg zg hl hg z0 => FloorLater_top main hS hmb h nums lv Eg zg hl hg z0))

theorem FloorLater_card : Rows.FloorLaterCardSaid :=
  tied_goes .later [] [.handle] true (true, "2e2133920f864db8286a366f85eb0bf56b29bab96a3561a4e902e110205c3504") true
    floorLater_row (fun _ h => by cases h) (by kernel_rfl) (fun _ h => by cases h) floorLater_row_tie rfl ⟨rfl, rfl⟩ (by kernel_rfl) rfl
    (fun f fn hf hfn => by
      obtain rfl : f = n_law_FloorLater := (Option.some.inj ((show prog.funcNamed Rows.floorLaterRow.func = some n_law_FloorLater by kernel_rfl).symm.trans hf)).symm
      obtain rfl : fn = F_law_FloorLater := (Option.some.inj (at_law_FloorLater.symm.trans hfn)).symm
      exact ⟨by kernel_rfl, fun j t ht => by
        rw [show (F_law_FloorLater).params = #[t_sl_int] by kernel_rfl] at ht
        have h3 : t = t_sl_int := by
          rcases j with _ | j
          · simpa using ht.symm
          · simp at ht
        subst h3
        exact (show prog.wantsStandIn t_sl_int = false by kernel_rfl)⟩)
    (by kernel_rfl)
#print axioms FloorLater_card
end Go.Proofs.YtabnpjbnoedfgaaDoor
