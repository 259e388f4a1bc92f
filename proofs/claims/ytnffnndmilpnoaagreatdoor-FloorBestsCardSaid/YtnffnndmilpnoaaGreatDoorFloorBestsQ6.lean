/- The document's best plans. Conditions: none; over the given program. (And 3 texts more.) -/
import Derived.Test.YtnffnndmilpnoaaGreatDoorFloorBestsQ5
import Derived.Test.YtnffnndmilpnoaaGreatDoorFloorBestsQ2
import Derived.Test.YtnffnndmilpnoaaGreatDoorFloorBestsQ3
set_option linter.unusedVariables false
set_option linter.unusedSimpArgs false
set_option linter.unusedSectionVars false

/- The document's best plans. Conditions: none; over the given program. -/
namespace Go.Mus
set_option maxRecDepth 100000
set_option maxHeartbeats 40000000
def SelOf (us us' : List Sv) (ls ls' : List (List Be)) : Prop := us'.length = ls'.length ∧ ∀ (k : Nat) (s : Sv) (l : List Be), us'[k]? = some s → ls'[k]? = some l → ∃ j : Nat, us[j]? = some s ∧ ls[j]? = some l
theorem SelOf.nil {us : List Sv} {ls : List (List Be)} : SelOf us [] ls [] := ⟨rfl, fun k s l h => by simp at h⟩
theorem SelOf.snoc {us us' : List Sv} {ls ls' : List (List Be)} {j : Nat} {s : Sv} {l : List Be} (h : SelOf us us' ls ls') (hs : us[j]? = some s) (hl : ls[j]? = some l) : SelOf us (us' ++ [s]) ls (ls' ++ [l]) := by
 refine ⟨by simp [h.1], fun k s' l' h1 h2 => ?_⟩
 rcases Nat.lt_or_ge k us'.length with hk | hk
 ·rw [List.getElem?_append_left hk] at h1
  rw [List.getElem?_append_left (by have := h.1; omega)] at h2
  exact h.2 k s' l' h1 h2
 ·have hk2 := lt_of_get h1
  simp at hk2
  have e : k = us'.length := by omega
  subst e
  rw [List.getElem?_append_right (Nat.le_refl _), Nat.sub_self] at h1
  rw [List.getElem?_append_right (by have := h.1; omega), h.1, Nat.sub_self] at h2
  simp at h1 h2
  subst h1 h2
  exact ⟨j, hs, hl⟩
theorem plans_sub {fs : List Fl} {ss : List St} {u : Int} : ∀ m l g, g ∈ plansF fs ss u m l → g ∈ extF fs ss m l
 | 0, l, g, h => h
 | m + 1, l, g, h => by
  have e : berthsK fs ss freeM l.length = bnone :: floorsFrom (stAt ss l.length) 0 fs.length := by simp [berthsK, freeM]
  rw [extF, e, List.flatMap_cons]
  rw [plansF] at h
  rcases List.mem_append.1 h with h | h
  ·split at h
   ·exact List.mem_append_left _ (plans_sub m _ g h)
   ·cases h
  ·refine List.mem_append_right _ ?_
   split at h
   ·cases h
   ·obtain ⟨b, hb, hg⟩ := List.mem_flatMap.1 h
    split at hg
    ·cases hg
    ·exact List.mem_flatMap.2 ⟨b, hb, plans_sub m _ g hg⟩

theorem RBests_fn (main : Side) (h : Hp) (fs : List Fl) (ss : List St) (vf vs : Value) (hf : Sl h Fl.row vf fs) (hs : Sl h St.row vs ss) (hck : ckPlant fs ss = 0) : Fnc prog main n_ref_Bests #[.agg #[vf, vs]] h [] (fun v A => ∃ u O2 us' us B BL ls most, v = .tuple #[u, I most] ∧ Os t_sl_Berth rowS u us' O2 ∧ Oss t_Berth Be.row us ls B ∧ SelOf us us' ls BL ∧ BI ss ((listF fs ss ss.length).filter (isR fs ss)) BL most ∧ Sb (O2 ++ B) A) := by
 have hall := hall_ck hck
 have hns := hall.ns
 obtain ⟨a, cap, rfl⟩ := hf.isSl
 obtain ⟨a', cap', rfl⟩ := hs.isSl
 have hpn := pad_nil (ss := ss) hall.nf.1
 have hright := plans_right (u := -1) hall (by decide) ss.length [] (by simp) hpn
 rw [ext_nil] at hright
 have hlen := plansF_len (fs := fs) (ss := ss) (u := -1) hall ss.length [] (by simp)
 have hlen2 := Nat.le_trans hlen (pow13 hns)
 have hmem : ∀ g, g ∈ plansF fs ss (-1) ss.length [] → g ∈ listF fs ss ss.length := fun g hg => by rw [← ext_nil]; exact plans_sub _ _ g hg
 refine Fnc.of_body at_ref_Bests rfl (by show 1 ≤ 52; decide) [(0, .agg #[.slice a fs.length cap, .slice a' ss.length cap'])] ⟨rfl, trivial⟩ ?_
 refine W.seq <| W.region rfl ?_
 refine Ops.box (cs := #[.slice a fs.length cap, .slice a' ss.length cap']) (fun β1 => ?_) rfl rfl rfl
 refine qs rfl rfl rfl <| qs rfl rfl rfl <| Ops.nil <| thn_n <| W.seq <| W.region rfl ?_
 first | refine oq (yldW rfl rfl) rfl wn rfl rfl ?_ | refine oq (yldA rfl rfl) rfl wn rfl rfl ?_
 refine c0 (fun h' hE hL => Plans_fn main fs ss (-1) hall ss.length h' [] [] _ _ (.slice none 0 0) (hf.ext hE) (hs.ext hE) (.nil .nil) (by simp) hpn) (fun v A' hv => ?_)
 obtain ⟨O, us, B, hO, hB, hsb⟩ := hv
 obtain ⟨ua, uc, rfl⟩ := hO.isSl
 refine Ops.sb (F' := (β1, .cells #[.slice a fs.length cap, .slice a' ss.length cap'] t_Plant (0, 0)) :: (O ++ B)) (Sb.trans (.of_perm (List.perm_append_comm (l₁ := [_]))) (hsb.app .refl)) ?_
 refine qs rfl rfl rfl <| Ops.nil <| thn_n <| W.seq <| W.region rfl <| qs rfl rfl rfl <| Ops.nil <| thn_n <| W.seq <| W.region rfl ?_
 refine qs rfl rfl rfl <| Ops.nil <| thn_n <| W.seq ?_
 have hul := hB.len
 generalize hLL : plansF fs ss (-1) ss.length [] = LL at *
 refine W.freeze (b := β1) rfl (fun g1 hE1 hb1 _ => ?_)
 refine freezeOs hO (fun g2 hE2 hslO _ => ?_)
 have hE0 := hE1.trans hE2
 replace hb1 := hE2.1 _ _ hb1
 refine W.seq <| W.region rfl <| qs rfl rfl rfl <| Ops.nil <| thn_n <| W.block ?_
 refine W.loop (σ := Nat × Int × List (List Be) × List Sv × Option Addr × Nat × Frag) (fun q => q.1 ≤ us.length ∧ BI ss ((LL.take q.1).filter (isR fs ss)) q.2.2.1 q.2.1 ∧ SelOf us q.2.2.2.1 LL q.2.2.1 ∧ Os t_sl_Berth rowS (.slice q.2.2.2.2.1 q.2.2.2.1.length q.2.2.2.2.2.1) q.2.2.2.1 q.2.2.2.2.2.2) (fun q => [(7, I q.1), (6, .slice q.2.2.2.2.1 q.2.2.2.1.length q.2.2.2.2.2.1), (5, I q.2.1), (4, .slice ua us.length uc), (1, .pointer (some ⟨β1, 0, none⟩))]) (fun q => B ++ q.2.2.2.2.2.2) (fun q => us.length - q.1) (0, -1, [], [], none, 0, []) ⟨Nat.zero_le _, BI.nil, SelOf.nil, .nil .nil⟩ ⟨rfl, rfl, rfl, rfl, rfl, trivial⟩ (by rw [List.append_nil]; exact .refl) ?_
 rintro ⟨i, most, BL, us2, va, vc, O2⟩ ⟨hi, hBI, hSel, hN⟩
 dsimp only at *
 refine W.seq <| W.seq <| W.region rfl <| qm rfl rfl rfl <| qm rfl rfl rfl ?_
 refine oq (y_len rfl rfl) rfl wn rfl rfl ?_
 refine oq (y_lss rfl rfl rfl) rfl wn rfl rfl ?_
 refine Ops.nil <| thn_n ?_
 refine W.condp rfl (fun c16 => ?_) (fun c16 => ?_)
 ·have hi1 : i < us.length := by omega
  obtain ⟨g, hgk, -⟩ := has (show i < LL.length by omega)
  obtain ⟨s, hs0, -⟩ := has hi1
  obtain ⟨bo, offo, co, Eo, fzo, rfl, hbo, -, hyo, hzo⟩ := hslO.at hs0
  have hcell : co[offo + i * 1 + 0]? = some (.slice s.a s.n s.cap) := hzo 0 (by decide)
  clear hzo
  have hgm := hmem g (List.mem_of_getElem? hgk)
  have hgl := listF_len _ g hgm
  have hcp := list_ck hck hgm
  obtain ⟨wf, wd, hwr, hwi⟩ := wrong_ok hcp
  obtain ⟨wf2, wd2, hwr2, hmin⟩ := wrong_rb hcp
  rw [hwr] at hwr2
  obtain ⟨rfl, hwr3⟩ := Prod.mk.inj hwr2
  have htk := take_next hgk
  have hfk : (LL.take (i + 1)).filter (isR fs ss) = (LL.take i).filter (isR fs ss) ++ if isR fs ss g then [g] else [] := by
   rw [htk, List.filter_append, List.filter_cons]; rfl
  have hBl : BL.length ≤ 28561 := by
   rw [hBI.eq]
   have h1 := List.length_filter_le (fun l => decide (loaL ss l = most)) ((LL.take i).filter (isR fs ss))
   have h2 := List.length_filter_le (isR fs ss) (LL.take i)
   have h3 : (LL.take i).length ≤ LL.length := by rw [List.length_take]; omega
   omega
  have hu2l := hSel.1
  obtain ⟨kk, hkk⟩ : ∃ kk, loaL ss g = kk := ⟨_, rfl⟩
  have hk0 : 0 ≤ kk := by
   rw [← hkk, loaves_sum hall]
   exact (loavesK_eq hall _ (by omega)).2.1
  have hslg : ∀ h', Lent (B ++ O2) h' → Sl h' Be.row s.val g := fun h' hL => hB.sl (fun b o hb => hL b o (List.mem_append_left _ hb)) hs0 hgk
  refine W.skip <| thn_n <| W.seq <| W.block <| W.seq ?_
  refine W.drawL [] (n := 7) rfl ?_
  first | refine aq (i := 0) (yldW rfl rfl) rfl an rfl rfl ?_ | refine aq (i := 0) (yldA rfl rfl) rfl an rfl rfl ?_
  refine aq (i := 1) (y_move rfl rfl) rfl an rfl rfl ?_
  refine aq (i := 2) (y_move rfl rfl) rfl an rfl rfl ?_
  first | refine aq (i := 3) (yix rfl rfl rfl) rfl an rfl rfl ?_ | refine aq (i := 3) (yixI rfl rfl rfl) rfl an rfl rfl ?_
  refine aq (i := 4) (yld rfl rfl) rfl an rfl rfl ?_
  refine acp (i := 5) (u := I kk) (vs := [.agg #[.slice a fs.length cap, .slice a' ss.length cap'], s.val]) (fun h' hE hL => by rw [← hkk]; exact Loaves_fn _ h' fs ss g _ _ _ (hs.ext (hE0.trans hE)) (hslg h' hL) hall hgl) ?_ (hS := .inr Keeps.nil)
  refine aq (i := 6) (y_assign rfl rfl) rfl an rfl rfl ?_
  refine az ?_
  refine thn_n <| W.seq <| W.seq <| W.region rfl <| qm rfl rfl rfl <| qm rfl rfl rfl ?_
  refine oq (y_lss rfl rfl rfl) rfl wn rfl rfl ?_
  refine Ops.nil <| thn_n ?_
  refine W.condp rfl (fun c27 => ?_) (fun c27 => ?_)
  ·refine W.exit <| thn_x <| blk_x <| thn_n <| W.region rfl <| qm rfl rfl rfl ?_
   first | refine oq (yadd rfl rfl rfl) rfl wn rfl rfl ?_ | refine oq (y_addw rfl rfl rfl) rfl wn rfl rfl ?_
   refine qs rfl rfl rfl <| Ops.nil <| thn_n ?_
   have hB2 : BI ss ((LL.take (i + 1)).filter (isR fs ss)) BL most := by
    rw [hfk]
    split
    ·exact hBI.less (by omega) (by omega)
    ·rw [List.append_nil]; exact hBI
   exact ⟨rfl, (i + 1, most, BL, us2, va, vc, O2), ⟨by simp only; omega, hB2, hSel, hN⟩, by simp only; omega, ⟨rfl, rfl, rfl, rfl, rfl, trivial⟩, .refl⟩
  ·refine W.skip <| thn_n <| W.seq <| W.seq ?_
   refine W.drawL [] (n := 11) rfl ?_
   first | refine aq (i := 0) (yldW rfl rfl) rfl an rfl rfl ?_ | refine aq (i := 0) (yldA rfl rfl) rfl an rfl rfl ?_
   refine aq (i := 1) (y_move rfl rfl) rfl an rfl rfl ?_
   refine aq (i := 2) (y_move rfl rfl) rfl an rfl rfl ?_
   first | refine aq (i := 3) (yix rfl rfl rfl) rfl an rfl rfl ?_ | refine aq (i := 3) (yixI rfl rfl rfl) rfl an rfl rfl ?_
   refine aq (i := 4) (yld rfl rfl) rfl an rfl rfl ?_
   refine ae (i := 5) rfl an rfl rfl (e_call0 (args := [_, _]) (vs := [.agg #[.slice a fs.length cap, .slice a' ss.length cap'], s.val]) rfl rfl (fun h' hE hL => Rwrong_fn _ h' fs ss g _ _ _ (hf.ext (hE0.trans hE)) (hs.ext (hE0.trans hE)) (hslg h' hL) hcp) (fun v A' hv => ?_))
   obtain ⟨x1, x2, rfl, hM, hsh⟩ := hv
   obtain ⟨rfl, rfl⟩ := hM.eq hmin
   refine ⟨.inr Keeps.nil, Any.sb (Sb.left .refl hsh) ?_⟩
   refine aq (i := 6) (y_move rfl rfl) rfl an rfl rfl ?_
   refine aq (i := 7) (y_extract rfl rfl rfl) rfl an rfl rfl ?_
   refine aq (i := 8) (y_extract rfl rfl rfl) rfl an rfl rfl ?_
   refine aq (i := 9) (y_assign rfl rfl) rfl an rfl rfl ?_
   refine aq (i := 10) (y_assign rfl rfl) rfl an rfl rfl ?_
   refine az ?_
   refine thn_n <| W.seq <| W.region rfl <| qm rfl rfl rfl ?_
   refine oq (y_geq rfl rfl rfl) rfl wn rfl rfl ?_
   refine Ops.nil <| thn_n ?_
   refine W.condp rfl (fun c38 => ?_) (fun c38 => ?_)
   ·refine W.exit <| thn_x <| blk_x <| thn_n <| W.region rfl <| qm rfl rfl rfl ?_
    first | refine oq (yadd rfl rfl rfl) rfl wn rfl rfl ?_ | refine oq (y_addw rfl rfl rfl) rfl wn rfl rfl ?_
    refine qs rfl rfl rfl <| Ops.nil <| thn_n ?_
    have hR : isR fs ss g = false := by
     cases hx : isR fs ss g with
     | false => rfl
     | true => have := hwi.2 hx; omega
    rw [hR, if_neg (by decide), List.append_nil] at hfk
    exact ⟨rfl, (i + 1, most, BL, us2, va, vc, O2), ⟨by simp only; omega, by simp only; rw [hfk]; exact hBI, hSel, hN⟩, by simp only; omega, ⟨rfl, rfl, rfl, rfl, rfl, trivial⟩, .refl⟩
   ·have hR : isR fs ss g = true := hwi.1 (by omega)
    rw [hR, if_pos rfl] at hfk
    refine W.skip <| thn_n <| W.seq <| W.seq <| W.region rfl <| qm rfl rfl rfl <| qm rfl rfl rfl ?_
    refine oq (y_gtr rfl rfl rfl) rfl wn rfl rfl ?_
    refine Ops.nil <| thn_n ?_
    refine W.condp rfl (fun c41 => ?_) (fun c41 => ?_)
    ·have hBI2 : BI ss ((LL.take (i + 1)).filter (isR fs ss)) ([] ++ [g]) kk := by rw [hfk, ← hkk]; exact hBI.more (by omega)
     have hSel2 : SelOf us ([] ++ [s]) LL ([] ++ [g]) := SelOf.nil.snoc hs0 hgk
     refine W.sb (F' := B ++ []) (Sb.app .refl (Sb.nil hN.shut)) ?_
     have hN : Os t_sl_Berth rowS (.slice none 0 0) ([] : List Sv) [] := .nil .nil
     have hbd : ([] : List Sv).length ≤ 28561 := by simp
     refine W.region rfl <| qm rfl rfl rfl <| qs rfl rfl rfl <| qs rfl rfl rfl <| Ops.nil <| thn_n <| W.region rfl <| qm rfl rfl rfl <| qm rfl rfl rfl <| qm rfl rfl rfl ?_
     first | refine oq (yix rfl rfl rfl) rfl wn rfl rfl ?_ | refine oq (yixI rfl rfl rfl) rfl wn rfl rfl ?_
     refine oq (yld rfl rfl) rfl wn rfl rfl ?_
     refine Ops.bsl (cs := #[.slice s.a s.n s.cap]) (fun β48 => ?_) rfl
     refine oe rfl wn rfl rfl (e_append (row := rowS) (l' := [s]) rfl rfl rfl hN (.tail (.app .all)) (fun h2 _ hl => Sl.mk (hl β48 _ (.head _)) rfl (Part.all (rowS s))) (by simp only [List.length_nil, List.length_cons]; omega) (by decide) rfl (fun v3 N3 hN3 => ?_))
     obtain ⟨na3, nc3, rfl⟩ := hN3.isSl
     refine qs rfl rfl rfl <| Ops.nil <| blk_n <| thn_n <| W.region rfl <| qm rfl rfl rfl ?_
     first | refine oq (yadd rfl rfl rfl) rfl wn rfl rfl ?_ | refine oq (y_addw rfl rfl rfl) rfl wn rfl rfl ?_
     refine qs rfl rfl rfl <| Ops.nil <| thn_n ?_
     exact ⟨rfl, (i + 1, _, _, _, na3, nc3, N3), ⟨by simp only; omega, hBI2, hSel2, hN3⟩, by simp only; omega, ⟨rfl, rfl, rfl, rfl, rfl, trivial⟩, .skip rfl .refl⟩
    ·have hmk : most = kk := by omega
     subst hmk
     have hBI2 : BI ss ((LL.take (i + 1)).filter (isR fs ss)) (BL ++ [g]) most := by rw [hfk]; exact hBI.same hkk (by omega)
     have hSel2 : SelOf us (us2 ++ [s]) LL (BL ++ [g]) := hSel.snoc hs0 hgk
     have hbd : us2.length ≤ 28561 := by omega
     refine W.skip <| thn_n <| W.region rfl <| qm rfl rfl rfl <| qm rfl rfl rfl <| qm rfl rfl rfl ?_
     first | refine oq (yix rfl rfl rfl) rfl wn rfl rfl ?_ | refine oq (yixI rfl rfl rfl) rfl wn rfl rfl ?_
     refine oq (yld rfl rfl) rfl wn rfl rfl ?_
     refine Ops.bsl (cs := #[.slice s.a s.n s.cap]) (fun β48 => ?_) rfl
     refine oe rfl wn rfl rfl (e_append (row := rowS) (l' := [s]) rfl rfl rfl hN (.tail (.app .all)) (fun h2 _ hl => Sl.mk (hl β48 _ (.head _)) rfl (Part.all (rowS s))) (by simp only [List.length_nil, List.length_cons]; omega) (by decide) rfl (fun v3 N3 hN3 => ?_))
     obtain ⟨na3, nc3, rfl⟩ := hN3.isSl
     refine qs rfl rfl rfl <| Ops.nil <| blk_n <| thn_n <| W.region rfl <| qm rfl rfl rfl ?_
     first | refine oq (yadd rfl rfl rfl) rfl wn rfl rfl ?_ | refine oq (y_addw rfl rfl rfl) rfl wn rfl rfl ?_
     refine qs rfl rfl rfl <| Ops.nil <| thn_n ?_
     exact ⟨rfl, (i + 1, _, _, _, na3, nc3, N3), ⟨by simp only; omega, hBI2, hSel2, hN3⟩, by simp only; omega, ⟨rfl, rfl, rfl, rfl, rfl, trivial⟩, .skip rfl .refl⟩
 ·have hie : i = us.length := by omega
  subst hie
  rw [hul, List.take_length, hright] at hBI
  refine W.exit <| thn_x <| thn_x <| blk_x <| thn_n <| W.seq <| W.region rfl <| qm rfl rfl rfl <| qm rfl rfl rfl <| qs rfl rfl rfl ?_
  refine qs rfl rfl rfl <| Ops.nil <| thn_n <| W.ret ?_
  exact lvt (vs := [_, _]) ⟨_, O2, us2, us, B, BL, LL, most, rfl, hN, hB, hSel, hBI, .of_perm List.perm_append_comm⟩
end Go.Mus

/- The document's best plan, and how many are as good. Conditions: none; over the given program. -/
namespace Go.Mus
set_option maxRecDepth 100000
set_option maxHeartbeats 40000000
theorem Oss.num {α : Type} {row : α → List Value} {w : Nat} [Rw row w] {E : TypeId} {vs : List Sv} {ls : List (List α)} {A : Frag} (h : Oss E row vs ls A) : ∀ {k : Nat} {s : Sv} {l : List α}, vs[k]? = some s → ls[k]? = some l → s.n = l.length := by
 induction h with
 | nil => intro k s l hs; simp at hs
 | cons h1 _ ih =>
  intro k s l hs hl
  rcases k with _ | k
  ·simp at hs hl; subst hs hl
   obtain ⟨a, cap, e⟩ := h1.isSl
   injection e
  ·simp at hs hl
   exact ih hs hl
theorem best_sel {fs : List Fl} {ss : List St} {BL : List (List Be)} {most : Int} (hck : ckPlant fs ss = 0) (hBI : BI ss ((listF fs ss ss.length).filter (isR fs ss)) BL most) : ∃ l, BL[0]? = some l ∧ bestB fs ss = (l, most, 0) ∧ countB fs ss = ((BL.length : Int), 0) ∧ BL.length ≤ 28561 := by
 have hall := hall_ck hck
 obtain ⟨e1, e2, e3, e4⟩ := hBI.best hall
 have hlen : BL.length ≤ 28561 := by
  rw [hBI.eq]
  have h1 := List.length_filter_le (fun l => decide (loaL ss l = most)) ((listF fs ss ss.length).filter (isR fs ss))
  have h2 := List.length_filter_le (isR fs ss) (listF fs ss ss.length)
  have h3 := listF_le hall ss.length (Nat.le_refl _)
  have h4 := pow13 hall.ns
  omega
 cases BL with
 | nil => exact absurd rfl e3
 | cons l r =>
  have hl := listF_len _ l (e4 l (List.mem_cons_self ..))
  refine ⟨l, rfl, ?_, ?_, hlen⟩
  ·simp only [bestB]
   rw [if_neg (by simp [hck]), e2, e1, List.map_cons, List.headD_cons, padB]
   rw [List.take_left' hl]
  ·simp only [countB]
   rw [if_neg (by simp [hck]), e2, List.length_map]
theorem RBest_fn (main : Side) (h : Hp) (fs : List Fl) (ss : List St) (vf vs : Value) (hf : Sl h Fl.row vf fs) (hs : Sl h St.row vs ss) : Fnc prog main n_ref_Best #[.agg #[vf, vs]] h [] (fun v A => ∃ a cap F, v = .tuple #[.slice a (bestB fs ss).1.length cap, I (bestB fs ss).2.1, I (bestB fs ss).2.2] ∧ (∀ h', Lent F h' → Sl h' Be.row (.slice a (bestB fs ss).1.length cap) (bestB fs ss).1) ∧ Shut F ∧ Sb F A) := by
 obtain ⟨a, cap, rfl⟩ := hf.isSl
 obtain ⟨a', cap', rfl⟩ := hs.isSl
 refine Fnc.of_body at_ref_Best rfl (by show 1 ≤ 22; decide) [(0, .agg #[.slice a fs.length cap, .slice a' ss.length cap'])] ⟨rfl, trivial⟩ ?_
 refine W.seq <| W.region rfl ?_
 refine Ops.box (cs := #[.slice a fs.length cap, .slice a' ss.length cap']) (fun β1 => ?_) rfl rfl rfl
 refine qs rfl rfl rfl <| qs rfl rfl rfl <| qs rfl rfl rfl <| Ops.nil <| thn_n <| W.seq <| W.seq <| W.region rfl ?_
 first | refine oq (yldW rfl rfl) rfl wn rfl rfl ?_ | refine oq (yldA rfl rfl) rfl wn rfl rfl ?_
 refine cp (fun h' hE hL => RCheck_fn _ h' _ _ _ _ (hf.ext hE) (hs.ext hE)) ?_
 refine qs rfl rfl rfl <| Ops.nil <| thn_n <| W.seq <| W.region rfl <| qm rfl rfl rfl ?_
 refine oq (y_neq rfl rfl rfl) rfl wn rfl rfl ?_
 refine Ops.nil <| thn_n ?_
 refine W.condp rfl (fun c11 => ?_) (fun c11 => ?_)
 ·refine W.seq <| W.region rfl <| qm rfl rfl rfl <| qs rfl rfl rfl <| qs rfl rfl rfl <| qs rfl rfl rfl <| Ops.nil <| thn_n <| W.ret <| thn_r ?_
  have e : bestB fs ss = ([], 0, ckPlant fs ss) := by simp only [bestB]; rw [if_pos c11]
  refine lvt (vs := [_, _, _]) ⟨none, 0, [], ?_, ?_, .nil, .nil (.cons rfl .nil)⟩
  ·rw [e]; rfl
  ·rw [e]; exact fun h' _ => .nil
 ·have hck : ckPlant fs ss = 0 := by simpa using c11
  refine W.skip <| thn_n <| W.seq <| W.region rfl ?_
  first | refine oq (yldW rfl rfl) rfl wn rfl rfl ?_ | refine oq (yldA rfl rfl) rfl wn rfl rfl ?_
  refine c0 (fun h' hE hL => RBests_fn _ h' fs ss _ _ (hf.ext hE) (hs.ext hE) hck) (fun v A' hv => ?_)
  obtain ⟨u, O2, us2, us, B, BL, ls, most, rfl, hN, hB, hSel, hBI, hsb⟩ := hv
  obtain ⟨l, hl, hbB, hcB, hBn⟩ := best_sel hck hBI
  obtain ⟨s, hs0, -⟩ := has (l := us2) (i := 0) (by rw [hSel.1]; exact lt_of_get hl)
  have hpos := lt_of_get hs0
  obtain ⟨j, hj1, hj2⟩ := hSel.2 0 s l hs0 hl
  obtain ⟨ua, uc, rfl⟩ := hN.isSl
  obtain ⟨βo, co, Jo, rfl, rfl, -, hcz, hcl, hPo, hJo⟩ := hN.open hpos
  have hco : co[0]? = some (.slice s.a s.n s.cap) := by
   have e : co[0 + 0 * 1 + 0]? = (rowS s)[0]? := hPo.rowG hs0 0 (by decide)
   exact e
  refine Ops.sb (F' := (βo, .cells co t_sl_Berth (0, 0)) :: ((β1, .cells #[.slice a fs.length cap, .slice a' ss.length cap'] t_Plant (0, 0)) :: (Jo ++ B))) (Sb.trans (.of_perm (List.Perm.cons _ (List.perm_append_comm (l₁ := [_])))) (hsb.app .refl)) ?_
  refine qm rfl rfl rfl <| oq (y_extract rfl rfl rfl) rfl wn rfl rfl <| oq (y_extract rfl rfl rfl) rfl wn rfl rfl <| qs rfl rfl rfl <| qs rfl rfl rfl <| Ops.nil <| thn_n <| W.seq <| W.region rfl <| qm rfl rfl rfl ?_
  first | refine oq (yix rfl rfl rfl) rfl wn rfl rfl ?_ | refine oq (yixI rfl rfl rfl) rfl wn rfl rfl ?_
  refine oq (yld rfl rfl) rfl wn rfl rfl ?_
  refine qm rfl rfl rfl <| qs rfl rfl rfl <| qs rfl rfl rfl <| qs rfl rfl rfl <| Ops.nil <| thn_n <| W.ret ?_
  refine lvt (vs := [_, _, _]) ⟨s.a, s.cap, B, ?_, ?_, hB.shut, ?_⟩
  ·rw [hbB]
   have e : s.n = l.length := hB.num hj1 hj2
   rw [← e]; rfl
  ·rw [hbB]
   intro h' hL
   have := hB.sl hL hj1 hj2
   rwa [Sv.val, hB.num hj1 hj2] at this
  ·exact Sb.skip rfl (Sb.skip rfl (Sb.left Sb.refl hJo))
theorem RCount_fn (main : Side) (h : Hp) (fs : List Fl) (ss : List St) (vf vs : Value) (hf : Sl h Fl.row vf fs) (hs : Sl h St.row vs ss) : Pu prog main n_ref_Count #[.agg #[vf, vs]] h (.tuple #[I (countB fs ss).1, I (countB fs ss).2]) := by
 obtain ⟨a, cap, rfl⟩ := hf.isSl
 obtain ⟨a', cap', rfl⟩ := hs.isSl
 refine Fnc.of_body at_ref_Count rfl (by show 1 ≤ 19; decide) [(0, .agg #[.slice a fs.length cap, .slice a' ss.length cap'])] ⟨rfl, trivial⟩ ?_
 refine W.seq <| W.region rfl ?_
 refine Ops.box (cs := #[.slice a fs.length cap, .slice a' ss.length cap']) (fun β1 => ?_) rfl rfl rfl
 refine qs rfl rfl rfl <| qs rfl rfl rfl <| Ops.nil <| thn_n <| W.seq <| W.seq <| W.region rfl ?_
 first | refine oq (yldW rfl rfl) rfl wn rfl rfl ?_ | refine oq (yldA rfl rfl) rfl wn rfl rfl ?_
 refine cp (fun h' hE hL => RCheck_fn _ h' _ _ _ _ (hf.ext hE) (hs.ext hE)) ?_
 refine qs rfl rfl rfl <| Ops.nil <| thn_n <| W.seq <| W.region rfl <| qm rfl rfl rfl ?_
 refine oq (y_neq rfl rfl rfl) rfl wn rfl rfl ?_
 refine Ops.nil <| thn_n ?_
 refine W.condp rfl (fun c10 => ?_) (fun c10 => ?_)
 ·refine W.seq <| W.region rfl <| qm rfl rfl rfl <| qs rfl rfl rfl <| qs rfl rfl rfl <| Ops.nil <| thn_n <| W.ret <| thn_r ?_
  refine lvp (hs := .cons rfl .nil) ?_
  simp only [countB]; rw [if_pos c10]; rfl
 ·have hck : ckPlant fs ss = 0 := by simpa using c10
  refine W.skip <| thn_n <| W.seq <| W.region rfl ?_
  first | refine oq (yldW rfl rfl) rfl wn rfl rfl ?_ | refine oq (yldA rfl rfl) rfl wn rfl rfl ?_
  refine c0 (fun h' hE hL => RBests_fn _ h' fs ss _ _ (hf.ext hE) (hs.ext hE) hck) (fun v A' hv => ?_)
  obtain ⟨u, O2, us2, us, B, BL, ls, most, rfl, hN, hB, hSel, hBI, hsb⟩ := hv
  obtain ⟨l, hl, hbB, hcB, hBn⟩ := best_sel hck hBI
  obtain ⟨ua, uc, rfl⟩ := hN.isSl
  refine Ops.sb (F' := [(β1, .cells #[.slice a fs.length cap, .slice a' ss.length cap'] t_Plant (0, 0))]) (((Sb.nil (hN.shut.app hB.shut)).trans hsb).app .refl) ?_
  refine qm rfl rfl rfl <| oq (y_extract rfl rfl rfl) rfl wn rfl rfl <| oq (y_extract rfl rfl rfl) rfl wn rfl rfl <| qs rfl rfl rfl <| qs rfl rfl rfl <| Ops.nil <| thn_n <| W.seq <| W.region rfl <| qm rfl rfl rfl ?_
  refine oq (y_len rfl rfl) rfl wn rfl rfl ?_
  refine qs rfl rfl rfl <| qs rfl rfl rfl <| Ops.nil <| thn_n <| W.ret ?_
  refine lvp (hs := .cons rfl .nil) ?_
  rw [hcB, ← hSel.1]; rfl
end Go.Mus

/- The best plan, and how many are as good. Conditions: none; over the given program. -/
namespace Go.Mus
set_option maxRecDepth 100000
set_option maxHeartbeats 40000000
theorem bestB_len {fs : List Fl} {ss : List St} : (bestB fs ss).1.length ≤ ss.length := by
 by_cases h : ckPlant fs ss = 0
 ·rw [(bestB_ok h).2]; exact Nat.le_refl _
 ·simp only [bestB]; rw [if_pos h]; exact Nat.zero_le _
theorem FloorBests_top (main : Side) (hS : ∀ S, main.ok S → ∃ Fin, S = Mn prog Fin) (hmb : main.b = true) (h : Hp) (fs : List Fl) (ss : List St) (f : Fl) (st : St) (nums : List Int) (vf vs lv : Value) (Eg : TypeId) (zg : Nat × Nat) (hf : Sl h Fl.row vf fs) (hs : Sl h St.row vs ss) (hnl : Sl h rowI lv nums) (hg : h 0 = some (.cells #[rtV t_error] Eg zg)) (z0 : h.z 0) : TopV prog main n_law_FloorBests #[.agg #[vf, vs], f.val, st.val, lv] h (.bool true) := by
 obtain ⟨a, cap, rfl⟩ := hf.isSl
 obtain ⟨a', cap', rfl⟩ := hs.isSl
 refine TopV.of_body at_law_FloorBests rfl (by show 4 ≤ 104; decide) [(0, .agg #[.slice a fs.length cap, .slice a' ss.length cap']), (1, f.val), (2, st.val), (3, lv)] ⟨rfl, rfl, rfl, rfl, trivial⟩ ?_
 refine W.seq <| W.region rfl ?_
 refine Ops.box (cs := #[.slice a fs.length cap, .slice a' ss.length cap']) (fun β4 => ?_) rfl rfl rfl
 refine Ops.box (cs := #[I f.pl, I f.lo, I f.hi, I f.co]) (fun β5 => ?_) rfl rfl rfl
 refine Ops.box (cs := #[I st.day, I st.co, I st.wa]) (fun β6 => ?_) rfl rfl rfl
 refine qs rfl rfl rfl <| Ops.nil <| thn_n <| W.seq <| W.seq <| W.region rfl ?_
 first | refine oq (yldW rfl rfl) rfl wn rfl rfl ?_ | refine oq (yldA rfl rfl) rfl wn rfl rfl ?_
 refine cp (fun h' hE hL => vast_fn _ h' fs ss _ _ (hf.ext hE) (hs.ext hE)) ?_
 refine Ops.nil <| thn_n ?_
 refine W.cond rfl (fun c23 => ?_) (fun c23 => ?_)
 ·refine W.seq <| W.region rfl ?_
  refine cp (fun h' hE hL => exs_fn _ hS hmb h' Eg zg (hE.1 _ _ hg) (hE.2 _ z0)) ?_
  refine qs rfl rfl rfl <| Ops.nil <| thn_n <| W.ret <| thn_r ?_
  exact lvq rfl
 ·have hfs : fs.length ≤ 20 ∧ ss.length ≤ 20 := by simp at c23; omega
  refine W.skip <| thn_n <| W.seq ?_
  refine W.drawP3 (n := 7) rfl ?_
  first | refine aq (i := 0) (yldW rfl rfl) rfl an rfl rfl ?_ | refine aq (i := 0) (yldA rfl rfl) rfl an rfl rfl ?_
  first | refine aq (i := 1) (yldW rfl rfl) rfl an rfl rfl ?_ | refine aq (i := 1) (yldA rfl rfl) rfl an rfl rfl ?_
  first | refine aq (i := 2) (yldW rfl rfl) rfl an rfl rfl ?_ | refine aq (i := 2) (yldA rfl rfl) rfl an rfl rfl ?_
  refine aq (i := 3) (y_move rfl rfl) rfl an rfl rfl ?_
  refine ae (i := 4) rfl an rfl rfl (e_call0 (args := [_]) (vs := [lv]) rfl rfl (fun h' hE hL => NewHat_fn _ h' nums lv (hnl.ext hE)) (fun v A' hv => ?_))
  obtain ⟨bh, s0, rfl, rfl⟩ := hv
  refine ⟨.inr (Keeps.cons Keeps.refl), ?_⟩
  refine ae (i := 5) rfl an rfl rfl (e_call (args := [_, _, _, _]) (vs := [.agg #[.slice a fs.length cap, .slice a' ss.length cap'], f.val, st.val, .pointer (some ⟨bh, 0, none⟩)]) rfl rfl (A := [(bh, _)]) .head (fun h' hE hL => several_fn _ h' nums lv bh s0 fs ss f st _ _ (hnl.ext hE) (hf.ext hE) (hs.ext hE)) (fun v A' hv => ?_))
  obtain ⟨βp, p0, p1, p2, fs1, ss1, fs2, ss2, Sf1, Ss1, Sf2, Ss2, k1, s1, rfl, ⟨hp0f, hp0s⟩, ⟨hOf1, hOs1⟩, ⟨hOf2, hOs2⟩, ⟨hck1, hn3, hl2f, hl2s⟩, hk1, hsb⟩ := hv
  have hnf1 := (hall_ck hck1).nf
  refine ⟨.inr (Keeps.app Keeps.refl), ?_⟩
  refine aq (i := 6) (y_assign rfl rfl) rfl an rfl rfl ?_
  refine Any.sb (hsb.trans (Sb.right .refl (.cons rfl (.cons rfl (.cons rfl .nil))))) ?_
  refine az ?_
  refine thn_n ?_
  refine freezeAt hOf1 (.tail (.tail .head)) (fun g2 hE2 hslf1 _ => ?_)
  refine freezeAt hOs1 (.tail (.tail .head)) (fun g3 hE3 hsls1 _ => ?_)
  refine freezeAt hOf2 (.tail (.tail .head)) (fun g4 hE4 hslf2 _ => ?_)
  refine freezeAt hOs2 (.tail (.tail .all)) (fun g5 hE5 hsls2 _ => ?_)
  refine freezeK (b := βp) Kn.nil rfl .head (fun g9 hK => ?_)
  show W ⟨prog, main, n_law_FloorBests, F_law_FloorBests.ntmps, none, g9⟩ _ _ _ _ _
  have e5 := hK.ext
  have e4 := hE5.trans e5
  have e3 := hE4.trans e4
  have e2 := hE3.trans e3
  have e0 := hE2.trans e2
  have hg9 := e0.1 _ _ hg
  have z9 := e0.2 _ z0
  have hps := (hK.sl (l := [p0, p1, p2]) (row := Pl.row) (n := 3) (cap := 3) 0 rfl rfl).1
  have each : ∀ (i : Nat) (p : Pl), [p0, p1, p2][i]? = some p → ∃ fs ss, Sl g9 Fl.row p.f.val fs ∧ Sl g9 St.row p.s.val ss ∧ fs.length ≤ 20 ∧ ss.length ≤ 20 := by
   intro i p hp
   rcases i with _ | _ | _ | i
   ·cases hp; rw [← hp0f, ← hp0s]; exact ⟨fs, ss, hf.ext e0, hs.ext e0, hfs.1, hfs.2⟩
   ·cases hp; exact ⟨fs1, ss1, hslf1.ext e2, hsls1.ext e3, by omega, by omega⟩
   ·cases hp; exact ⟨fs2, ss2, hslf2.ext e4, hsls2.ext e5, by omega, by omega⟩
   ·simp at hp
  clear hK
  generalize hPL : [p0, p1, p2] = PL at hps each
  have hPLn : PL.length = 3 := by rw [← hPL]; rfl
  refine W.seq <| W.seq <| W.region rfl <| qs rfl rfl rfl <| Ops.nil <| thn_n <| W.block ?_
  refine W.loop (σ := Nat) (fun i => i ≤ 3) (fun i => [(10, I i), (9, .slice (some ⟨βp, 0, none⟩) 3 3)]) (fun _ => []) (fun i => 3 - i) 0 (Nat.zero_le _) ⟨rfl, rfl, trivial⟩ (by repeat (first | exact Sb.refl | refine Sb.skip rfl ?_)) ?_
  rintro i hi
  refine W.seq <| W.seq <| W.region rfl <| qm rfl rfl rfl <| qm rfl rfl rfl ?_
  refine oq (y_len rfl rfl) rfl wn rfl rfl ?_
  refine oq (y_lss rfl rfl rfl) rfl wn rfl rfl ?_
  refine Ops.nil <| thn_n ?_
  refine W.condp rfl (fun c34 => ?_) (fun c34 => ?_)
  ·have hi1 : i < 3 := by omega
   obtain ⟨p, hp, -⟩ := has (show i < PL.length by omega)
   obtain ⟨xfs, xss, hxf, hxs, hxn⟩ := each i p hp
   obtain ⟨b, off, c, E, fz, hae, hb, hx, hyp, -⟩ := hps.at hp
   cases hae
   have hx1 : c.extract (0 + i * 2) (0 + i * 2 + 2) = #[.slice p.f.a p.f.n p.f.cap, .slice p.s.a p.s.n p.s.cap] := hx
   clear hx
   refine W.skip <| thn_n <| W.seq <| W.block <| W.seq <| W.region rfl <| qm rfl rfl rfl <| qm rfl rfl rfl ?_
   first | refine oq (yix rfl rfl rfl) rfl wn rfl rfl ?_ | refine oq (yixI rfl rfl rfl) rfl wn rfl rfl ?_
   first | refine oq (yldW rfl rfl) rfl wn rfl rfl ?_ | refine oq (yldA rfl rfl) rfl wn rfl rfl ?_
   refine c0 (fun h' hE hL => DupPlant_fn _ h' xfs xss _ _ (hxf.ext hE) (hxs.ext hE) (by omega)) (fun v A' hv => ?_)
   obtain ⟨yf, ys, Syf, Sys, rfl, ⟨hYf, hYs⟩, hbA⟩ := hv
   obtain ⟨yfa, yfc, rfl⟩ := hYf.isSl
   obtain ⟨ysa, ysc, rfl⟩ := hYs.isSl
   refine Ops.sb (F' := Syf ++ Sys) (Sb.right hbA .nil) ?_
   refine Ops.new (fun β11 => ?_)
   first | refine Ops.stoW ?_ | refine Ops.stoA ?_
   refine Ops.nil <| thn_n ?_
   refine freezeAt hYf (.tail .head) (fun w2 hW2 hsyf zyf => ?_)
   refine freezeAt hYs (.tail .all) (fun w3 hW3 hsys zys => ?_)
   refine freezeK (b := β11) Kn.nil rfl .head (fun w4 hK => ?_)
   show W ⟨prog, main, n_law_FloorBests, F_law_FloorBests.ntmps, none, w4⟩ _ _ _ _ _
   have f3 := hK.ext
   have f2 := hW3.trans f3
   have f0 := hW2.trans f2
   have hb11 : w4 β11 = some (.cells #[.slice yfa xfs.length yfc, .slice ysa xss.length ysc] t_Plant (0, 0)) := (hK.all _ (.head _)).1
   clear hK
   replace hsyf := hsyf.ext f2
   replace hsys := hsys.ext f3
   replace zyf := zyf.ext f2
   replace zys := zys.ext f3
   replace hxf := hxf.ext f0
   replace hxs := hxs.ext f0
   replace hb := f0.1 _ _ hb
   have hgw := f0.1 _ _ hg9
   have hzw := f0.2 _ z9
   refine W.seq ?_
   obtain ⟨bl, b1, b2, hbv⟩ : ∃ a b c, bestB xfs xss = (a, b, c) := ⟨_, _, _, rfl⟩
   obtain ⟨k1, k2, hkv⟩ : ∃ a b, countB xfs xss = (a, b) := ⟨_, _, rfl⟩
   have hbl : bl.length ≤ 20 := by have := bestB_len (fs := xfs) (ss := xss); rw [hbv] at this; simp only at this; omega
   refine W.region rfl ?_
   first | refine oq (yldW rfl rfl) rfl wn rfl rfl ?_ | refine oq (yldA rfl rfl) rfl wn rfl rfl ?_
   refine c0 (fun h' hE hL => Best_fn _ hS hmb h' xfs xss _ _ Eg zg (hsyf.ext hE) (hsys.ext hE) (zyf.ext hE) (zys.ext hE) (hE.1 _ _ hgw) (hE.2 _ hzw)) (fun v A' hv => ?_)
   rw [hbv] at hv
   obtain ⟨u, S, rfl, hOb, hsbb⟩ := hv
   obtain ⟨ua, uc, rfl⟩ := hOb.isSl
   refine Ops.sb (F' := S) (Sb.right hsbb .nil) ?_
   refine qm rfl rfl rfl <| oq (y_extract rfl rfl rfl) rfl wn rfl rfl <| oq (y_extract rfl rfl rfl) rfl wn rfl rfl <| oq (y_extract rfl rfl rfl) rfl wn rfl rfl <| qs rfl rfl rfl <| qs rfl rfl rfl <| qs rfl rfl rfl <| Ops.nil <| thn_n <| W.seq ?_
   refine W.region rfl <| qm rfl rfl rfl <| qm rfl rfl rfl ?_
   first | refine oq (yix rfl rfl rfl) rfl wn rfl rfl ?_ | refine oq (yixI rfl rfl rfl) rfl wn rfl rfl ?_
   first | refine oq (yldW rfl rfl) rfl wn rfl rfl ?_ | refine oq (yldA rfl rfl) rfl wn rfl rfl ?_
   refine c0 (fun h' hE hL => RBest_fn _ h' xfs xss _ _ (hxf.ext hE) (hxs.ext hE)) (fun v A' hv => ?_)
   rw [hbv] at hv
   obtain ⟨ra, rc, F2, rfl, hF2, hF2s, hsb2⟩ := hv
   refine Ops.sb (F' := F2 ++ S) (hsb2.app .refl) ?_
   refine qm rfl rfl rfl <| oq (y_extract rfl rfl rfl) rfl wn rfl rfl <| oq (y_extract rfl rfl rfl) rfl wn rfl rfl <| oq (y_extract rfl rfl rfl) rfl wn rfl rfl <| qs rfl rfl rfl <| qs rfl rfl rfl <| qs rfl rfl rfl <| Ops.nil <| thn_n <| W.seq ?_
   refine W.region rfl ?_
   first | refine oq (yldW rfl rfl) rfl wn rfl rfl ?_ | refine oq (yldA rfl rfl) rfl wn rfl rfl ?_
   refine cp (u := .tuple #[I k1, I k2]) (fun h' hE hL => ?_) ?_
   ·have := Count_fn _ hS hmb h' xfs xss _ _ Eg zg (hsyf.ext hE) (hsys.ext hE) (zyf.ext hE) (zys.ext hE) (hE.1 _ _ hgw) (hE.2 _ hzw)
    rw [hkv] at this
    exact this
   refine qm rfl rfl rfl <| oq (y_extract rfl rfl rfl) rfl wn rfl rfl <| oq (y_extract rfl rfl rfl) rfl wn rfl rfl <| qs rfl rfl rfl <| qs rfl rfl rfl <| Ops.nil <| thn_n <| W.seq <| W.region rfl <| qm rfl rfl rfl ?_
   refine qm rfl rfl rfl ?_
   first | refine oq (yix rfl rfl rfl) rfl wn rfl rfl ?_ | refine oq (yixI rfl rfl rfl) rfl wn rfl rfl ?_
   first | refine oq (yldW rfl rfl) rfl wn rfl rfl ?_ | refine oq (yldA rfl rfl) rfl wn rfl rfl ?_
   refine cp (u := .tuple #[I k1, I k2]) (fun h' hE hL => ?_) ?_
   ·have := RCount_fn main h' xfs xss _ _ (hxf.ext hE) (hxs.ext hE)
    rw [hkv] at this
    exact this
   refine qm rfl rfl rfl <| oq (y_extract rfl rfl rfl) rfl wn rfl rfl <| oq (y_extract rfl rfl rfl) rfl wn rfl rfl <| qs rfl rfl rfl <| qs rfl rfl rfl <| Ops.nil <| thn_n <| W.seq ?_
   refine W.drawL [] (n := 33) rfl ?_
   refine aq (i := 0) (y_move rfl rfl) rfl an rfl rfl ?_
   refine aq (i := 1) (y_move rfl rfl) rfl an rfl rfl ?_
   refine aq (i := 2) ((y_neq rfl rfl rfl).eq (u := .bool false) (by simp)) rfl an rfl rfl ?_
   refine aq (i := 3) (y_move rfl rfl) rfl an rfl rfl ?_
   refine aq (i := 4) (y_move rfl rfl) rfl (wantε_some rfl rfl rfl rfl) rfl rfl ?_
   refine aq (i := 5) (y_move rfl rfl) rfl (wantε_some rfl rfl rfl rfl) rfl rfl ?_
   refine aq (i := 6) ((y_neq rfl rfl rfl).eq (u := .bool false) (by simp)) rfl (wantε_some rfl rfl rfl rfl) rfl rfl ?_
   refine aq (i := 7) (y_pickF rfl rfl rfl) rfl an rfl rfl ?_
   refine aq (i := 8) (y_move rfl rfl) rfl an rfl rfl ?_
   refine aq (i := 9) (y_move rfl rfl) rfl (wantε_some rfl rfl rfl rfl) rfl rfl ?_
   refine aq (i := 10) (y_move rfl rfl) rfl (wantε_some rfl rfl rfl rfl) rfl rfl ?_
   refine aq (i := 11) ((y_neq rfl rfl rfl).eq (u := .bool false) (by simp)) rfl (wantε_some rfl rfl rfl rfl) rfl rfl ?_
   refine aq (i := 12) (y_pickF rfl rfl rfl) rfl an rfl rfl ?_
   refine aq (i := 13) (y_move rfl rfl) rfl an rfl rfl ?_
   refine aq (i := 14) (y_move rfl rfl) rfl (wantε_some rfl rfl rfl rfl) rfl rfl ?_
   refine aq (i := 15) (y_move rfl rfl) rfl (wantε_some rfl rfl rfl rfl) rfl rfl ?_
   refine aq (i := 16) ((y_neq rfl rfl rfl).eq (u := .bool false) (by simp)) rfl (wantε_some rfl rfl rfl rfl) rfl rfl ?_
   refine aq (i := 17) (y_pickF rfl rfl rfl) rfl an rfl rfl ?_
   refine aq (i := 18) (y_move rfl rfl) rfl an rfl rfl ?_
   refine aq (i := 19) (y_move rfl rfl) rfl (wantε_some rfl rfl rfl rfl) rfl rfl ?_
   refine aq (i := 20) (y_move rfl rfl) rfl (wantε_some rfl rfl rfl rfl) rfl rfl ?_
   refine acp (i := 21) (u := .bool true) (vs := [.slice ua bl.length uc, .slice ra bl.length rc]) (fun h' hE hL => ?_) ?_ (hS := .inr Keeps.nil)
   ·have := EqBerths_fn main h' bl bl _ _ (hOb.sl fun b o hb => hL b o (List.mem_append_right _ hb)) (hF2 h' fun b o hb => hL b o (List.mem_append_left _ hb)) (by omega)
    rw [decide_eq_true rfl] at this
    exact this
   refine aq (i := 22) (y_not rfl rfl) rfl (wantε_some rfl rfl rfl rfl) rfl rfl ?_
   refine aq (i := 23) (y_pickF rfl rfl rfl) rfl an rfl rfl ?_
   refine aq (i := 24) (y_move rfl rfl) rfl an rfl rfl ?_
   first | refine aq (i := 25) (yldW rfl rfl) rfl (wantε_some rfl rfl rfl rfl) rfl rfl ?_ | refine aq (i := 25) (yldA rfl rfl) rfl (wantε_some rfl rfl rfl rfl) rfl rfl ?_
   refine aq (i := 26) (y_move rfl rfl) rfl (wantε_some rfl rfl rfl rfl) rfl rfl ?_
   refine aq (i := 27) (y_move rfl rfl) rfl (wantε_some rfl rfl rfl rfl) rfl rfl ?_
   first | refine aq (i := 28) (yix rfl rfl rfl) rfl (wantε_some rfl rfl rfl rfl) rfl rfl ?_ | refine aq (i := 28) (yixI rfl rfl rfl) rfl (wantε_some rfl rfl rfl rfl) rfl rfl ?_
   first | refine aq (i := 29) (yldW rfl rfl) rfl (wantε_some rfl rfl rfl rfl) rfl rfl ?_ | refine aq (i := 29) (yldA rfl rfl) rfl (wantε_some rfl rfl rfl rfl) rfl rfl ?_
   refine acp (i := 30) (u := .bool true) (vs := [.agg #[.slice yfa xfs.length yfc, .slice ysa xss.length ysc], .agg #[.slice p.f.a p.f.n p.f.cap, .slice p.s.a p.s.n p.s.cap]]) (fun h' hE hL => EqPlants_fn _ h' xfs xss _ _ _ _ (hsyf.ext hE) (hsys.ext hE) (hxf.ext hE) (hxs.ext hE) (by omega)) ?_ (hS := .inr Keeps.nil)
   refine aq (i := 31) (y_not rfl rfl) rfl (wantε_some rfl rfl rfl rfl) rfl rfl ?_
   refine aq (i := 32) (y_pickF rfl rfl rfl) rfl an rfl rfl ?_
   refine az ?_
   refine thn_n ?_
   refine W.condF ?_
   refine W.skip <| blk_n <| thn_n <| W.region rfl <| qm rfl rfl rfl ?_
   first | refine oq (yadd rfl rfl rfl) rfl wn rfl rfl ?_ | refine oq (y_addw rfl rfl rfl) rfl wn rfl rfl ?_
   refine qs rfl rfl rfl <| Ops.nil <| thn_n ?_
   exact ⟨rfl, i + 1, by omega, by omega, ⟨rfl, rfl, trivial⟩, Sb.nil (hF2s.app hOb.shut)⟩
  ·refine W.exit <| thn_x <| thn_x <| blk_x <| thn_n <| W.seq <| W.region rfl ?_
   refine cp (fun h' hE hL => exs_fn _ hS hmb h' Eg zg (hE.1 _ _ hg9) (hE.2 _ z9)) ?_
   refine qs rfl rfl rfl <| Ops.nil <| thn_n <| W.ret ?_
   exact lvq rfl
end Go.Mus

/- FloorBests's card. Conditions: as the card says; over the given program. -/
namespace Go.Proofs.YtnffnndmilpnoaaGreatDoor
open Go Go.Mus
set_option maxRecDepth 100000
set_option maxHeartbeats 4000000
theorem floorBests_args (main : Side) (hS : ∀ S, main.ok S → ∃ Fin, S = Mn prog Fin) (hmb : main.b = true) (h : Hp) : ∀ (args : List Value) (_ : ArgsOK h [t_Plant, t_Floor, t_Strike, t_sl_int] args) (Eg : TypeId) (zg : Nat × Nat) (_ : h 0 = some (.cells #[rtV t_error] Eg zg)) (_ : h.z 0), TopV prog main n_law_FloorBests args.toArray h (.bool true)
 | [v0, v1, v2, v3], ⟨h0, h1, h2, h3, _⟩, Eg, zg, hg, z0 => by
  obtain ⟨vf0, vs0, fs0, ss0, rfl, hf0, hs0⟩ := h0.plant rfl
  obtain ⟨f1, rfl⟩ := h1.floor rfl
  obtain ⟨s2, rfl⟩ := h2.strike rfl
  obtain ⟨x3, hx3⟩ := h3.ints rfl
  apply FloorBests_top main hS hmb h
  all_goals first | assumption | exact hg | exact z0
 | [], h, _, _, _, _ => h.elim
 | [v0], ⟨h0, h⟩, _, _, _, _ => h.elim
 | [v0, v1], ⟨h0, h1, h⟩, _, _, _, _ => h.elim
 | [v0, v1, v2], ⟨h0, h1, h2, h⟩, _, _, _, _ => h.elim
 | v0 :: v1 :: v2 :: v3 :: v4 :: r, ⟨h0, h1, h2, h3, h⟩, _, _, _, _ => h.elim
theorem floorBests_row : Rows.FloorBestsSaid :=
 OpenClaim.holds_of_wide_leaving n_law_FloorBests F_law_FloorBests rfl rfl rfl rfl rfl rfl rfl ⟨rfl, rfl, rfl, rfl, rfl⟩ rfl rfl rfl rfl rfl (by kernel_rfl) at_law_FloorBests (by kernel_rfl)
  (of_decide_eq_true (by kernel_rfl)) (by unfold Func.isWrapper; first | (rw [if_pos (by decide +kernel)]; kernel_rfl) | (rw [if_neg (by decide +kernel)]; exact ⟨rfl, rfl⟩))
  (fun os started H enc _ => liftN (s := Rows.floorBestsSpec) os started H enc at_law_FloorBests (by kernel_rfl) [t_Plant, t_Floor, t_Strike, t_sl_int] (by kernel_rfl) (fun t ht => by
    have h0 : ([t_Plant, t_Floor, t_Strike, t_sl_int] : List TypeId).all (fun t => prog.readableRec t && Nat.blt t prog.types.size) = true := by kernel_rfl
    have h1 := List.all_eq_true.1 h0 t ht
    rw [Bool.and_eq_true] at h1
    exact ⟨h1.1, Nat.le_of_ble_eq_true h1.2⟩) (by kernel_rfl) (by kernel_rfl) rfl (fun ds hd => by
    match ds, hd with
    | [d0, d1, d2, d3], _ => rfl)
   (ChangeSpec.witness_at (enc := enc) (C := Tryz.checked) (os := os) (X := fun w _ => laidMetH prog laid0 w) false (laidWorld os) #[.agg #[.slice none 0 0, .slice none 0 0], .agg #[I 0, I 0, I 0, I 0], .agg #[I 0, I 0, I 0], .slice none 0 0] 8 rfl (by kernel_rfl) (by kernel_rfl) (by kernel_rfl) (by kernel_rfl) (by kernel_rfl) (laidWorld_met os _))
   (fun main hS hmb h args ha Eg zg hg z0 => floorBests_args main hS hmb h args ha Eg zg hg z0))

theorem FloorBests_card : Rows.FloorBestsCardSaid :=
 tied_goes .later [] [.handle] true (true, "932c88532bdd9f747448356d9505525067ce9e853f4d287a395f8a57faaf4fbd") true
  floorBests_row (fun _ h => by cases h) (by kernel_rfl) (fun _ h => by cases h) floorBests_row_tie rfl ⟨rfl, rfl⟩ (by kernel_rfl) rfl
  (fun f fn hf hfn => by
   obtain rfl : f = n_law_FloorBests := (Option.some.inj ((show prog.funcNamed Rows.floorBestsRow.func = some n_law_FloorBests by kernel_rfl).symm.trans hf)).symm
   obtain rfl : fn = F_law_FloorBests := (Option.some.inj (at_law_FloorBests.symm.trans hfn)).symm
   exact ⟨by kernel_rfl, fun j t ht => by
    rw [← Array.getElem?_toList, show (F_law_FloorBests).params.toList = [t_Plant, t_Floor, t_Strike, t_sl_int] by kernel_rfl] at ht
    have h3 := List.mem_of_getElem? ht
    simp only [List.mem_cons, List.not_mem_nil, or_false] at h3
    rcases h3 with rfl | rfl | rfl | rfl <;> (show prog.wantsStandIn _ = false; kernel_rfl)⟩)
  (by kernel_rfl)
#print axioms FloorBests_card
end Go.Proofs.YtnffnndmilpnoaaGreatDoor
