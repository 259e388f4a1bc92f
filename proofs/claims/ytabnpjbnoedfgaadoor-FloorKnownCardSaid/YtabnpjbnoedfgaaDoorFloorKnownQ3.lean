/- The chapter's examples. Conditions: none; over the given program. (And 2 texts more.) -/
import Derived.Test.YtabnpjbnoedfgaaDoorFloorKnownQ2
import Derived.Test.YtabnpjbnoedfgaaDoorFloorKnownQ1
set_option linter.unusedVariables false
set_option linter.unusedSimpArgs false
set_option linter.unusedSectionVars false

/- The chapter's examples. Conditions: none; over the given program. -/
namespace Go.Mus
set_option maxRecDepth 100000
set_option maxHeartbeats 40000000
/-- Blocks that are never written again. -/
structure Kn (h0 h : Hp) (L : Frag) : Prop where
  ext : Ext h0 h
  all : ∀ p ∈ L, h p.1 = some p.2 ∧ h.z p.1
theorem Kn.nil {h : Hp} : Kn h h [] := ⟨⟨fun _ _ q => q, fun _ q => q⟩, fun p hp => by cases hp⟩
theorem freezeK {x : Cx} {c : Code} {Q : Post} {ρ : Env} {ds : List Deferred} {F : Frag} {U : Frag → Frag} {b : Nat} {o : Obj} {h0 : Hp} {L : Frag} (hK : Kn h0 x.h L) (ho : opn o = false) (hg : Seg [(b, o)] F U) (H : ∀ h', Kn h0 h' ((b, o) :: L) → W { x with h := h' } c Q ρ ds (U [])) : W x c Q ρ ds F :=
  W.perm hg.perm.1 (W.freeze ho fun h' hE hb hz => H h' ⟨hK.ext.trans hE, fun p hp => by
    rcases List.mem_cons.1 hp with rfl | hp
    · exact ⟨hb, hz⟩
    · exact ⟨hE.1 _ _ (hK.all p hp).1, hE.2 _ (hK.all p hp).2⟩⟩)
theorem Kn.sl {h0 h : Hp} {L : Frag} {α : Type} {row : α → List Value} {w : Nat} [Rw row w] {b n cap : Nat} {E : TypeId} {z : Nat × Nat} {l : List α} (hK : Kn h0 h L) (i : Nat) (hi : L[i]? = some (b, .cells (flat row l).toArray E z)) (hn : n = l.length) : Sl h row (.slice (some ⟨b, 0, none⟩) n cap) l ∧ Zs h (.slice (some ⟨b, 0, none⟩) n cap) :=
  ⟨exSl (hK.all _ (List.mem_of_getElem? hi)).1 hn, exZ (hK.all _ (List.mem_of_getElem? hi)).2⟩

theorem EqLists_fn (main : Side) (h : Hp) (us us' : List Sv) (l l' : List (List Int)) (v v' : Value) (hu : Sl h rowS v us) (hu' : Sl h rowS v' us') (he : ∀ (k : Nat) (s : Sv) (g : List Int), us[k]? = some s → l[k]? = some g → Sl h rowI s.val g) (he' : ∀ (k : Nat) (s : Sv) (g : List Int), us'[k]? = some s → l'[k]? = some g → Sl h rowI s.val g) (hl : us.length = l.length) (hl' : us'.length = l'.length) (hn : us.length ≤ 100000) (hn2 : ∀ g ∈ l, g.length ≤ 100000) : Pu prog main n_kit_EqLists #[v, v'] h (.bool (decide (l = l'))) := by
  obtain ⟨a, cap, rfl⟩ := hu.isSl
  obtain ⟨a', cap', rfl⟩ := hu'.isSl
  refine Fnc.of_body at_kit_EqLists rfl (by show 2 ≤ 33; decide) [(0, .slice a us.length cap), (1, .slice a' us'.length cap')] ⟨rfl, rfl, trivial⟩ ?_
  refine W.seq <| W.region rfl <| qs rfl rfl rfl <| Ops.nil <| thn_n <| W.seq <| W.seq <| W.region rfl <| qs rfl rfl rfl <| Ops.nil ?_
  refine thn_n <| W.block ?_
  refine W.loop (σ := Nat) (fun k => k ≤ us.length ∧ k ≤ us'.length ∧ l.take k = l'.take k) (fun k => [(5, I k), (0, .slice a us.length cap), (1, .slice a' us'.length cap')]) (fun _ => []) (fun k => us.length - k) 0 ⟨Nat.zero_le _, Nat.zero_le _, rfl⟩ ⟨rfl, rfl, rfl, trivial⟩ sbA ?_
  rintro k ⟨hk, hk', het⟩
  refine W.seq <| W.seq <| W.region rfl <| qm rfl rfl rfl <| qm rfl rfl rfl ?_
  refine oq (y_len rfl rfl) rfl wn rfl rfl ?_
  refine oq (y_lss rfl rfl rfl) rfl wn rfl rfl ?_
  refine qm rfl rfl rfl ?_
  refine Ops.ask (fun a2_5 => ?_) (fun a2_5 => ?_)
  · refine oq (y_move rfl rfl) rfl (want_some rfl rfl rfl) rfl rfl ?_
    refine oq (y_move rfl rfl) rfl (want_some rfl rfl rfl) rfl rfl ?_
    refine oq (y_len rfl rfl) rfl (want_some rfl rfl rfl) rfl rfl ?_
    refine oq (y_lss rfl rfl rfl) rfl (want_some rfl rfl rfl) rfl rfl ?_
    refine oq (y_pickT rfl rfl rfl) rfl wn rfl rfl ?_
    refine Ops.nil <| thn_n ?_
    refine W.condp rfl (fun c15 => ?_) (fun c15 => ?_)
    · obtain ⟨s, hs, -⟩ := has (show k < us.length by omega)
      obtain ⟨s', hs', -⟩ := has (show k < us'.length by omega)
      obtain ⟨g, hg, -⟩ := has (show k < l.length by omega)
      obtain ⟨g', hg', -⟩ := has (show k < l'.length by omega)
      have hsg := he k s g hs hg
      have hsg' := he' k s' g' hs' hg'
      have hgl := hn2 g (List.mem_of_getElem? hg)
      obtain ⟨b, off, c, E, fz, rfl, hb, -, hy1, hz1⟩ := hu.at hs
      have hx2 : c[off + k * 1 + 0]? = some (.slice s.a s.n s.cap) := hz1 0 (by decide)
      clear hz1
      obtain ⟨b', off', c', E', fz', rfl, hb', -, hy2, hz1⟩ := hu'.at hs'
      have hx3 : c'[off' + k * 1 + 0]? = some (.slice s'.a s'.n s'.cap) := hz1 0 (by decide)
      clear hz1
      refine W.skip <| thn_n <| W.seq <| W.block <| W.seq ?_
      refine W.drawF (n := 10) rfl ?_
      refine aq (i := 0) (y_move rfl rfl) rfl an rfl rfl ?_
      refine aq (i := 1) (y_move rfl rfl) rfl an rfl rfl ?_
      first | refine aq (i := 2) (yix rfl rfl rfl) rfl an rfl rfl ?_ | refine aq (i := 2) (yixI rfl rfl rfl) rfl an rfl rfl ?_
      refine aq (i := 3) (yld rfl rfl) rfl an rfl rfl ?_
      refine aq (i := 4) (y_move rfl rfl) rfl an rfl rfl ?_
      refine aq (i := 5) (y_move rfl rfl) rfl an rfl rfl ?_
      first | refine aq (i := 6) (yix rfl rfl rfl) rfl an rfl rfl ?_ | refine aq (i := 6) (yixI rfl rfl rfl) rfl an rfl rfl ?_
      refine aq (i := 7) (yld rfl rfl) rfl an rfl rfl ?_
      refine acp (i := 8) (u := .bool (decide (g = g'))) (vs := [s.val, s'.val]) (fun h' hE hL => EqInts_fn _ h' g g' s.val s'.val (hsg.ext hE) (hsg'.ext hE) hgl) ?_
      refine aq (i := 9) (y_not rfl rfl) rfl an rfl rfl ?_
      refine az ?_
      refine thn_n ?_
      refine W.cond rfl (fun c27 => ?_) (fun c27 => ?_)
      · refine W.seq <| W.region rfl <| qs rfl rfl rfl <| Ops.nil <| thn_n <| W.ret <| blk_r <| thn_r <| thn_r <| blk_r ?_
        refine thn_r ?_
        refine lvp ?_
        refine congrArg Value.bool (decide_eq_false fun e => ?_).symm
        subst e
        rw [hg] at hg'
        cases hg'
        simp at c27
      · refine W.skip <| blk_n <| thn_n <| W.region rfl <| qm rfl rfl rfl ?_
        first | refine oq (yadd rfl rfl rfl) rfl wn rfl rfl ?_ | refine oq (y_addw rfl rfl rfl) rfl wn rfl rfl ?_
        refine qs rfl rfl rfl <| Ops.nil <| thn_n ?_
        have hpq : g = g' := by simpa using c27
        subst hpq
        exact ⟨rfl, k + 1, ⟨by omega, by omega, by rw [take_next hg, take_next hg', het]⟩, by omega, ⟨rfl, rfl, rfl, trivial⟩, sbA⟩
    · refine W.exit <| thn_x <| thn_x <| blk_x <| thn_n <| W.seq <| W.region rfl <| qm rfl rfl rfl ?_
      refine oq (y_len rfl rfl) rfl wn rfl rfl ?_
      refine qm rfl rfl rfl ?_
      refine oq (y_len rfl rfl) rfl wn rfl rfl ?_
      refine oq (y_eql rfl rfl rfl) rfl wn rfl rfl ?_
      refine qs rfl rfl rfl <| Ops.nil <| thn_n <| W.ret ?_
      refine lvp ?_
      refine congrArg Value.bool (decide_eq_decide.2 ⟨fun e => ?_, fun e => ?_⟩)
      · have e' : l.length = l'.length := by omega
        have hkl : k = l.length := by omega
        rw [← List.take_length (l := l), ← List.take_length (l := l'), ← e', ← hkl, het]
      · rw [hl, hl', e]
  · refine Ops.no ?_
    refine Ops.no ?_
    refine Ops.no ?_
    refine Ops.no ?_
    refine oq (y_pickF rfl rfl rfl) rfl wn rfl rfl ?_
    refine Ops.nil <| thn_n ?_
    refine W.condF ?_
    refine W.exit <| thn_x <| thn_x <| blk_x <| thn_n <| W.seq <| W.region rfl <| qm rfl rfl rfl ?_
    refine oq (y_len rfl rfl) rfl wn rfl rfl ?_
    refine qm rfl rfl rfl ?_
    refine oq (y_len rfl rfl) rfl wn rfl rfl ?_
    refine oq (y_eql rfl rfl rfl) rfl wn rfl rfl ?_
    refine qs rfl rfl rfl <| Ops.nil <| thn_n <| W.ret ?_
    refine lvp ?_
    refine congrArg Value.bool (decide_eq_decide.2 ⟨fun e => ?_, fun e => ?_⟩)
    · have e' : l.length = l'.length := by omega
      have hkl : k = l.length := by omega
      rw [← List.take_length (l := l), ← List.take_length (l := l'), ← e', ← hkl, het]
    · rw [hl, hl', e]

theorem FloorKnown_top (main : Side) (hS : ∀ S, main.ok S → ∃ Fin, S = Mn prog Fin) (hmb : main.b = true) (h : Hp) (Eg : TypeId) (zg : Nat × Nat) (hg : h 0 = some (.cells #[rtV t_error] Eg zg)) (z0 : h.z 0) : TopV prog main n_law_FloorKnown #[] h (.bool true) := by
  refine TopV.of_body at_law_FloorKnown rfl (by show 0 ≤ 485; decide) [] trivial ?_
  refine W.seq <| W.region rfl <| qs rfl rfl rfl <| Ops.nil <| thn_n <| W.seq <| W.region rfl ?_
  refine c0 (fun h' hE hL => plant_fn _ h' _ _) (fun v A' hv => ?_)
  obtain ⟨s1, s2, rfl, hsb⟩ := hv
  refine Ops.sb (hsb.app .refl) ?_
  refine c0 (fun h' hE hL => plant_fn _ h' _ _) (fun v A' hv => ?_)
  obtain ⟨t1, t2, rfl, hsb⟩ := hv
  refine Ops.sb (hsb.app .refl) ?_
  refine c0 (fun h' hE hL => plant_fn _ h' _ _) (fun v A' hv => ?_)
  obtain ⟨w1, w2, rfl, hsb⟩ := hv
  refine Ops.sb (hsb.app .refl) ?_
  refine Ops.new (fun β1 => ?_)
  refine Ops.new (fun β2 => ?_)
  refine Ops.new (fun β3 => ?_)
  first | refine Ops.stoW ?_ | refine Ops.stoA ?_
  first | refine Ops.stoW ?_ | refine Ops.stoA ?_
  first | refine Ops.stoW ?_ | refine Ops.stoA ?_
  refine Ops.nil <| thn_n <| W.seq <| W.region rfl ?_
  refine c0 (fun h' hE hL => plant_fn _ h' _ _) (fun v A' hv => ?_)
  obtain ⟨x1, x2, rfl, hsb⟩ := hv
  refine Ops.sb (hsb.app .refl) ?_
  refine c0 (fun h' hE hL => plant_fn _ h' _ _) (fun v A' hv => ?_)
  obtain ⟨f1, f2, rfl, hsb⟩ := hv
  refine Ops.sb (hsb.app .refl) ?_
  refine c0 (fun h' hE hL => plant_fn _ h' _ _) (fun v A' hv => ?_)
  obtain ⟨u1, u2, rfl, hsb⟩ := hv
  refine Ops.sb (hsb.app .refl) ?_
  refine c0 (fun h' hE hL => plant_fn _ h' _ _) (fun v A' hv => ?_)
  obtain ⟨l1, l2, rfl, hsb⟩ := hv
  refine Ops.sb (hsb.app .refl) ?_
  refine Ops.new (fun β4 => ?_)
  refine Ops.new (fun β5 => ?_)
  refine Ops.new (fun β6 => ?_)
  refine Ops.new (fun β7 => ?_)
  first | refine Ops.stoW ?_ | refine Ops.stoA ?_
  first | refine Ops.stoW ?_ | refine Ops.stoA ?_
  first | refine Ops.stoW ?_ | refine Ops.stoA ?_
  first | refine Ops.stoW ?_ | refine Ops.stoA ?_
  refine Ops.nil <| thn_n ?_
  refine freezeK (b := β3) Kn.nil rfl (Seg.tail (Seg.tail (Seg.tail (Seg.tail (Seg.tail (Seg.tail (Seg.tail (Seg.tail (Seg.tail (Seg.tail (Seg.tail (Seg.tail .head)))))))))))) (fun g0 hK => ?_)
  refine freezeK (b := β2) hK rfl (Seg.tail (Seg.tail (Seg.tail (Seg.tail (Seg.tail (Seg.tail (Seg.tail (Seg.tail (Seg.tail (Seg.tail (Seg.tail (Seg.tail .head)))))))))))) (fun g1 hK => ?_)
  refine freezeK (b := β1) hK rfl (Seg.tail (Seg.tail (Seg.tail (Seg.tail (Seg.tail (Seg.tail (Seg.tail (Seg.tail (Seg.tail (Seg.tail (Seg.tail (Seg.tail .head)))))))))))) (fun g2 hK => ?_)
  refine freezeK (b := w1) hK rfl (Seg.tail (Seg.tail (Seg.tail (Seg.tail (Seg.tail (Seg.tail (Seg.tail (Seg.tail (Seg.tail (Seg.tail (Seg.tail (Seg.tail .head)))))))))))) (fun g3 hK => ?_)
  refine freezeK (b := w2) hK rfl (Seg.tail (Seg.tail (Seg.tail (Seg.tail (Seg.tail (Seg.tail (Seg.tail (Seg.tail (Seg.tail (Seg.tail (Seg.tail (Seg.tail .head)))))))))))) (fun g4 hK => ?_)
  refine freezeK (b := t1) hK rfl (Seg.tail (Seg.tail (Seg.tail (Seg.tail (Seg.tail (Seg.tail (Seg.tail (Seg.tail (Seg.tail (Seg.tail (Seg.tail (Seg.tail .head)))))))))))) (fun g5 hK => ?_)
  refine freezeK (b := t2) hK rfl (Seg.tail (Seg.tail (Seg.tail (Seg.tail (Seg.tail (Seg.tail (Seg.tail (Seg.tail (Seg.tail (Seg.tail (Seg.tail (Seg.tail .head)))))))))))) (fun g6 hK => ?_)
  refine freezeK (b := s1) hK rfl (Seg.tail (Seg.tail (Seg.tail (Seg.tail (Seg.tail (Seg.tail (Seg.tail (Seg.tail (Seg.tail (Seg.tail (Seg.tail (Seg.tail .head)))))))))))) (fun g7 hK => ?_)
  refine freezeK (b := s2) hK rfl (Seg.tail (Seg.tail (Seg.tail (Seg.tail (Seg.tail (Seg.tail (Seg.tail (Seg.tail (Seg.tail (Seg.tail (Seg.tail (Seg.tail .head)))))))))))) (fun g8 hK => ?_)
  have hE0 := hK.ext
  have hg0 := hE0.1 _ _ hg
  have hz0 := hE0.2 _ z0
  obtain ⟨hsf, zsf⟩ := hK.sl (l := exF 1) (row := Fl.row) (n := 2) (cap := 2) 1 rfl rfl
  obtain ⟨hss, zss⟩ := hK.sl (l := exS 6) (row := St.row) (n := 4) (cap := 4) 0 rfl rfl
  obtain ⟨htf, ztf⟩ := hK.sl (l := exF 1) (row := Fl.row) (n := 2) (cap := 2) 3 rfl rfl
  obtain ⟨hts, zts⟩ := hK.sl (l := exS 4) (row := St.row) (n := 4) (cap := 4) 2 rfl rfl
  obtain ⟨hwf, zwf⟩ := hK.sl (l := exF 0) (row := Fl.row) (n := 2) (cap := 2) 5 rfl rfl
  obtain ⟨hws, zws⟩ := hK.sl (l := exS 6) (row := St.row) (n := 4) (cap := 4) 4 rfl rfl
  have hb1 := (hK.all _ (List.mem_of_getElem? (i := 6) rfl)).1
  have hb2 := (hK.all _ (List.mem_of_getElem? (i := 7) rfl)).1
  have hb3 := (hK.all _ (List.mem_of_getElem? (i := 8) rfl)).1
  clear hK
  refine W.seq ?_
  refine W.drawP3 (n := 18) rfl ?_
  refine aq (i := 0) (y_fieldAddr rfl rfl) rfl an rfl rfl ?_
  refine aq (i := 1) (yld rfl rfl) rfl an rfl rfl ?_
  refine aq (i := 2) (y_fieldAddr rfl rfl) rfl an rfl rfl ?_
  refine aq (i := 3) (yld rfl rfl) rfl an rfl rfl ?_
  refine aq (i := 4) (y_fieldAddr rfl rfl) rfl an rfl rfl ?_
  refine aq (i := 5) (yld rfl rfl) rfl an rfl rfl ?_
  refine aq (i := 6) (y_build rfl rfl rfl) rfl an rfl rfl ?_
  refine aq (i := 7) (y_fieldAddr rfl rfl) rfl an rfl rfl ?_
  refine ae (i := 8) rfl an rfl rfl (eS rfl rfl rfl ?_)
  refine ⟨.inr (by first | exact Keeps.refl | exact Keeps.nil | ((repeat (first | exact fun _ h => h | apply Keeps.cons | apply Keeps.app)) <;> fail) | (repeat (first | exact Keeps.nil | refine Keeps.one (by repeat (first | exact List.Mem.head _ | apply List.Mem.tail)) ?_))), ?_⟩
  first | refine aq (i := 9) (yix rfl rfl rfl) rfl an rfl rfl ?_ | refine aq (i := 9) (yixI rfl rfl rfl) rfl an rfl rfl ?_
  refine aq (i := 10) (y_fieldAddr rfl rfl) rfl an rfl rfl ?_
  refine ae (i := 11) rfl an rfl rfl (eS rfl rfl rfl ?_)
  refine ⟨.inr (by first | exact Keeps.refl | exact Keeps.nil | ((repeat (first | exact fun _ h => h | apply Keeps.cons | apply Keeps.app)) <;> fail) | (repeat (first | exact Keeps.nil | refine Keeps.one (by repeat (first | exact List.Mem.head _ | apply List.Mem.tail)) ?_))), ?_⟩
  first | refine aq (i := 12) (yix rfl rfl rfl) rfl an rfl rfl ?_ | refine aq (i := 12) (yixI rfl rfl rfl) rfl an rfl rfl ?_
  refine aq (i := 13) (y_fieldAddr rfl rfl) rfl an rfl rfl ?_
  first | refine ae (i := 14) rfl an rfl rfl (eSW rfl rfl rfl ?_) | refine ae (i := 14) rfl an rfl rfl (eSA rfl rfl rfl ?_)
  refine ⟨.inr (by first | exact Keeps.refl | exact Keeps.nil | ((repeat (first | exact fun _ h => h | apply Keeps.cons | apply Keeps.app)) <;> fail) | (repeat (first | exact Keeps.nil | refine Keeps.one (by repeat (first | exact List.Mem.head _ | apply List.Mem.tail)) ?_))), ?_⟩
  first | refine aq (i := 15) (yix rfl rfl rfl) rfl an rfl rfl ?_ | refine aq (i := 15) (yixI rfl rfl rfl) rfl an rfl rfl ?_
  refine aq (i := 16) (y_fieldAddr rfl rfl) rfl an rfl rfl ?_
  refine ae (i := 17) rfl an rfl rfl (eS rfl rfl rfl ?_)
  refine ⟨.inl (by kernel_rfl), ?_⟩
  refine az ?_
  refine thn_n <| W.seq <| W.seq <| W.region rfl ?_
  refine cp (fun h' hE hL => exs_fn _ hS hmb h' Eg zg (hE.1 _ _ hg0) (hE.2 _ hz0)) ?_
  refine oq (y_not rfl rfl) rfl wn rfl rfl ?_
  refine qm rfl rfl rfl ?_
  refine oq (yldW rfl rfl) rfl (want_some rfl rfl rfl) rfl rfl ?_
  refine cp (u := I 0) (fun h' hE hL => ?_) ?_ (hw := want_some rfl rfl rfl)
  · have := Check_fn main h' (exF 1) (exS 6) (.slice (some ⟨s1, 0, none⟩) 2 2) (.slice (some ⟨s2, 0, none⟩) 4 4) (hsf.ext hE) (hss.ext hE)
    rw [kn1] at this
    exact this
  refine oq ((y_neq rfl rfl rfl).eq (u := .bool false) rfl) rfl (want_some rfl rfl rfl) rfl rfl ?_
  refine oq (y_pickF rfl rfl rfl) rfl wn rfl rfl ?_
  refine qm rfl rfl rfl ?_
  refine oq (yldW rfl rfl) rfl (want_some rfl rfl rfl) rfl rfl ?_
  refine cp (u := I 7) (fun h' hE hL => ?_) ?_ (hw := want_some rfl rfl rfl)
  · have := Check_fn main h' [] (exS 6) (.slice none 0 0) (.slice (some ⟨x2, 0, none⟩) 4 4) (.nil) (exSl (l := exS 6) (hL x2 _ (List.mem_of_getElem? (i := 11) rfl)) rfl)
    rw [kn2] at this
    exact this
  refine oq ((y_neq rfl rfl rfl).eq (u := .bool false) rfl) rfl (want_some rfl rfl rfl) rfl rfl ?_
  refine oq (y_pickF rfl rfl rfl) rfl wn rfl rfl ?_
  refine qm rfl rfl rfl ?_
  refine oq (yldW rfl rfl) rfl (want_some rfl rfl rfl) rfl rfl ?_
  refine cp (u := I 1) (fun h' hE hL => ?_) ?_ (hw := want_some rfl rfl rfl)
  · have := Check_fn main h' exFull (exS 6) (.slice (some ⟨f1, 0, none⟩) 2 2) (.slice (some ⟨f2, 0, none⟩) 4 4) (exSl (l := exFull) (hL f1 _ (List.mem_of_getElem? (i := 8) rfl)) rfl) (exSl (l := exS 6) (hL f2 _ (List.mem_of_getElem? (i := 9) rfl)) rfl)
    rw [kn3] at this
    exact this
  refine oq ((y_neq rfl rfl rfl).eq (u := .bool false) rfl) rfl (want_some rfl rfl rfl) rfl rfl ?_
  refine oq (y_pickF rfl rfl rfl) rfl wn rfl rfl ?_
  refine qm rfl rfl rfl ?_
  refine oq (yldW rfl rfl) rfl (want_some rfl rfl rfl) rfl rfl ?_
  refine cp (u := I 5) (fun h' hE hL => ?_) ?_ (hw := want_some rfl rfl rfl)
  · have := Check_fn main h' exTurn (exS 6) (.slice (some ⟨u1, 0, none⟩) 2 2) (.slice (some ⟨u2, 0, none⟩) 4 4) (exSl (l := exTurn) (hL u1 _ (List.mem_of_getElem? (i := 6) rfl)) rfl) (exSl (l := exS 6) (hL u2 _ (List.mem_of_getElem? (i := 7) rfl)) rfl)
    rw [kn4] at this
    exact this
  refine oq ((y_neq rfl rfl rfl).eq (u := .bool false) rfl) rfl (want_some rfl rfl rfl) rfl rfl ?_
  refine oq (y_pickF rfl rfl rfl) rfl wn rfl rfl ?_
  refine qm rfl rfl rfl ?_
  refine oq (yldW rfl rfl) rfl (want_some rfl rfl rfl) rfl rfl ?_
  refine cp (u := I 5) (fun h' hE hL => ?_) ?_ (hw := want_some rfl rfl rfl)
  · have := Check_fn main h' (exF 1) exLate (.slice (some ⟨l1, 0, none⟩) 2 2) (.slice (some ⟨l2, 0, none⟩) 4 4) (exSl (l := exF 1) (hL l1 _ (List.mem_of_getElem? (i := 4) rfl)) rfl) (exSl (l := exLate) (hL l2 _ (List.mem_of_getElem? (i := 5) rfl)) rfl)
    rw [kn5] at this
    exact this
  refine oq ((y_neq rfl rfl rfl).eq (u := .bool false) rfl) rfl (want_some rfl rfl rfl) rfl rfl ?_
  refine oq (y_pickF rfl rfl rfl) rfl wn rfl rfl ?_
  refine Ops.nil <| thn_n ?_
  refine W.condF ?_
  refine W.skip <| thn_n ?_
  refine W.sb (F' := []) (Sb.nil (by repeat (first | exact Shut.nil | refine Shut.cons rfl ?_))) ?_
  refine W.seq <| W.region rfl ?_
  refine c0 (fun h' hE hL => plan_fn _ h') (fun v A' hv => ?_)
  obtain ⟨p1, rfl, rfl⟩ := hv
  refine c0 (fun h' hE hL => plan_fn _ h') (fun v A' hv => ?_)
  obtain ⟨p2, rfl, rfl⟩ := hv
  refine c0 (fun h' hE hL => plan_fn _ h') (fun v A' hv => ?_)
  obtain ⟨p3, rfl, rfl⟩ := hv
  refine qs rfl rfl rfl <| qs rfl rfl rfl <| qs rfl rfl rfl <| Ops.nil <| thn_n <| W.seq <| W.region rfl <| qm rfl rfl rfl <| qm rfl rfl rfl <| qm rfl rfl rfl ?_
  refine oq (y_build (parts := [⟨_, _⟩, ⟨_, _⟩]) (cs := #[I (-1), I 3]) rfl rfl rfl) rfl wn rfl rfl ?_
  first | refine oq (yix rfl rfl rfl) rfl wn rfl rfl ?_ | refine oq (yixI rfl rfl rfl) rfl wn rfl rfl ?_
  refine oq (y_fieldAddr rfl rfl) rfl wn rfl rfl ?_
  refine Ops.sto ?_
  first | refine oq (yix rfl rfl rfl) rfl wn rfl rfl ?_ | refine oq (yixI rfl rfl rfl) rfl wn rfl rfl ?_
  first | refine Ops.stoW ?_ | refine Ops.stoA ?_
  first | refine oq (yix rfl rfl rfl) rfl wn rfl rfl ?_ | refine oq (yixI rfl rfl rfl) rfl wn rfl rfl ?_
  refine oq (y_fieldAddr rfl rfl) rfl wn rfl rfl ?_
  refine Ops.sto ?_
  refine Ops.nil <| thn_n <| W.seq <| W.seq ?_
  refine W.drawL [] (n := 29) rfl ?_
  first | refine aq (i := 0) (yldW rfl rfl) rfl an rfl rfl ?_ | refine aq (i := 0) (yldA rfl rfl) rfl an rfl rfl ?_
  refine ae (i := 1) rfl an rfl rfl (e_call0 (args := []) (vs := []) rfl rfl (fun h' hE hL => plan_fn _ h') (fun v A' hv => ?_))
  obtain ⟨q1, rfl, rfl⟩ := hv
  refine ⟨.inr Keeps.nil, ?_⟩
  refine acp (i := 2) (u := I 0) (vs := [.agg #[.slice (some ⟨s1, 0, none⟩) 2 2, .slice (some ⟨s2, 0, none⟩) 4 4], .slice (some ⟨q1, 0, none⟩) 4 4]) (fun h' hE hL => ?_) ?_
  · have := CheckPlan_fn main h' (exF 1) (exS 6) exP (.slice (some ⟨s1, 0, none⟩) 2 2) (.slice (some ⟨s2, 0, none⟩) 4 4) (.slice (some ⟨q1, 0, none⟩) 4 4) (hsf.ext hE) (hss.ext hE) (exSl (hL q1 _ (.head _)) rfl)
    rw [kn6] at this
    exact this
  refine aq (i := 3) ((y_neq rfl rfl rfl).eq (u := .bool false) rfl) rfl an rfl rfl ?_
  refine aq (i := 4) (y_move rfl rfl) rfl an rfl rfl ?_
  first | refine aq (i := 5) (yldW rfl rfl) rfl (wantε_some rfl rfl rfl rfl) rfl rfl ?_ | refine aq (i := 5) (yldA rfl rfl) rfl (wantε_some rfl rfl rfl rfl) rfl rfl ?_
  refine ae (i := 6) rfl (wantε_some rfl rfl rfl rfl) rfl rfl (e_call0 (args := []) (vs := []) rfl rfl (fun h' hE hL => plan_fn _ h') (fun v A' hv => ?_))
  obtain ⟨q2, rfl, rfl⟩ := hv
  refine ⟨.inr Keeps.nil, ?_⟩
  refine aq (i := 7) (y_sliceHi (m := 3) rfl rfl rfl (.inl rfl) (by decide)) rfl (wantε_some rfl rfl rfl rfl) rfl rfl ?_
  refine acp (i := 8) (u := I 7) (vs := [.agg #[.slice (some ⟨s1, 0, none⟩) 2 2, .slice (some ⟨s2, 0, none⟩) 4 4], .slice (some ⟨q2, 0, none⟩) 3 4]) (fun h' hE hL => ?_) ?_
  · have := CheckPlan_fn main h' (exF 1) (exS 6) (exP.take 3) (.slice (some ⟨s1, 0, none⟩) 2 2) (.slice (some ⟨s2, 0, none⟩) 4 4) (.slice (some ⟨q2, 0, none⟩) 3 4) (hsf.ext hE) (hss.ext hE) ((exSl (n := 4) (cap := 4) (hL q2 _ (.head _)) rfl).take (by decide))
    rw [kn7] at this
    exact this
  refine aq (i := 9) ((y_neq rfl rfl rfl).eq (u := .bool false) rfl) rfl (wantε_some rfl rfl rfl rfl) rfl rfl ?_
  refine aq (i := 10) (y_pickF rfl rfl rfl) rfl an rfl rfl ?_
  refine aq (i := 11) (y_move rfl rfl) rfl an rfl rfl ?_
  first | refine aq (i := 12) (yldW rfl rfl) rfl (wantε_some rfl rfl rfl rfl) rfl rfl ?_ | refine aq (i := 12) (yldA rfl rfl) rfl (wantε_some rfl rfl rfl rfl) rfl rfl ?_
  refine aq (i := 13) (y_move rfl rfl) rfl (wantε_some rfl rfl rfl rfl) rfl rfl ?_
  refine acp (i := 14) (u := I 3) (vs := [.agg #[.slice (some ⟨s1, 0, none⟩) 2 2, .slice (some ⟨s2, 0, none⟩) 4 4], .slice (some ⟨p1, 0, none⟩) 4 4]) (fun h' hE hL => ?_) ?_
  · have := CheckPlan_fn main h' (exF 1) (exS 6) [⟨2, 0⟩, ⟨1, 1⟩, ⟨0, 3⟩, ⟨0, 6⟩] (.slice (some ⟨s1, 0, none⟩) 2 2) (.slice (some ⟨s2, 0, none⟩) 4 4) (.slice (some ⟨p1, 0, none⟩) 4 4) (hsf.ext hE) (hss.ext hE) (exSl (hL p1 _ (List.mem_of_getElem? (i := 4) rfl)) rfl)
    rw [kn8] at this
    exact this
  refine aq (i := 15) ((y_neq rfl rfl rfl).eq (u := .bool false) rfl) rfl (wantε_some rfl rfl rfl rfl) rfl rfl ?_
  refine aq (i := 16) (y_pickF rfl rfl rfl) rfl an rfl rfl ?_
  refine aq (i := 17) (y_move rfl rfl) rfl an rfl rfl ?_
  first | refine aq (i := 18) (yldW rfl rfl) rfl (wantε_some rfl rfl rfl rfl) rfl rfl ?_ | refine aq (i := 18) (yldA rfl rfl) rfl (wantε_some rfl rfl rfl rfl) rfl rfl ?_
  refine aq (i := 19) (y_move rfl rfl) rfl (wantε_some rfl rfl rfl rfl) rfl rfl ?_
  refine acp (i := 20) (u := I 8) (vs := [.agg #[.slice (some ⟨s1, 0, none⟩) 2 2, .slice (some ⟨s2, 0, none⟩) 4 4], .slice (some ⟨p2, 0, none⟩) 4 4]) (fun h' hE hL => ?_) ?_
  · have := CheckPlan_fn main h' (exF 1) (exS 6) [⟨0, 0⟩, ⟨1, 1⟩, ⟨0, 3⟩, ⟨-1, 3⟩] (.slice (some ⟨s1, 0, none⟩) 2 2) (.slice (some ⟨s2, 0, none⟩) 4 4) (.slice (some ⟨p2, 0, none⟩) 4 4) (hsf.ext hE) (hss.ext hE) (exSl (hL p2 _ (List.mem_of_getElem? (i := 3) rfl)) rfl)
    rw [kn9] at this
    exact this
  refine aq (i := 21) ((y_neq rfl rfl rfl).eq (u := .bool false) rfl) rfl (wantε_some rfl rfl rfl rfl) rfl rfl ?_
  refine aq (i := 22) (y_pickF rfl rfl rfl) rfl an rfl rfl ?_
  refine aq (i := 23) (y_move rfl rfl) rfl an rfl rfl ?_
  first | refine aq (i := 24) (yldW rfl rfl) rfl (wantε_some rfl rfl rfl rfl) rfl rfl ?_ | refine aq (i := 24) (yldA rfl rfl) rfl (wantε_some rfl rfl rfl rfl) rfl rfl ?_
  refine aq (i := 25) (y_move rfl rfl) rfl (wantε_some rfl rfl rfl rfl) rfl rfl ?_
  refine acp (i := 26) (u := I 12) (vs := [.agg #[.slice (some ⟨s1, 0, none⟩) 2 2, .slice (some ⟨s2, 0, none⟩) 4 4], .slice (some ⟨p3, 0, none⟩) 4 4]) (fun h' hE hL => ?_) ?_
  · have := CheckPlan_fn main h' (exF 1) (exS 6) [⟨0, 0⟩, ⟨1, 3⟩, ⟨0, 3⟩, ⟨0, 6⟩] (.slice (some ⟨s1, 0, none⟩) 2 2) (.slice (some ⟨s2, 0, none⟩) 4 4) (.slice (some ⟨p3, 0, none⟩) 4 4) (hsf.ext hE) (hss.ext hE) (exSl (hL p3 _ (List.mem_of_getElem? (i := 2) rfl)) rfl)
    rw [kn10] at this
    exact this
  refine aq (i := 27) ((y_neq rfl rfl rfl).eq (u := .bool false) rfl) rfl (wantε_some rfl rfl rfl rfl) rfl rfl ?_
  refine aq (i := 28) (y_pickF rfl rfl rfl) rfl an rfl rfl ?_
  refine az ?_
  refine thn_n ?_
  refine W.condF ?_
  refine W.skip <| thn_n ?_
  refine W.sb (F' := []) (Sb.nil (by repeat (first | exact Shut.nil | refine Shut.cons rfl ?_))) ?_
  refine W.seq ?_
  refine W.mono (Q := (fun e ρ' ds' F' => e = .normal ∧ ds' = [] ∧ ∃ β, Sub [(11, .pointer (some ⟨β, 0, none⟩)), (12, I 0), (1, .pointer (some ⟨β1, 0, none⟩)), (2, .pointer (some ⟨β2, 0, none⟩)), (3, .pointer (some ⟨β3, 0, none⟩))] ρ' ∧ Sb ((β, .cells #[I 2, I 2] t_Span (0, 0)) :: []) F')) ?_ ?_
  · refine W.drawL [] (n := 9) rfl ?_
    refine aq (i := 0) (yldW rfl rfl) rfl an rfl rfl ?_
    have hst : ∀ (h' : Hp) (q : Nat), Ext g8 h' → h' q = some (.cells (flat Be.row exP).toArray t_Berth (0, 0)) → Pu prog main n_floor_Stands #[.agg #[.slice (some ⟨s1, 0, none⟩) 2 2, .slice (some ⟨s2, 0, none⟩) 4 4], .slice (some ⟨q, 0, none⟩) 4 4, I 1, I 1] h' (.tuple #[.agg #[I 2, I 2], I 0]) := fun h' q hE hq => by
      have := Stands_fn main h' (exF 1) (exS 6) exP 1 1 _ _ _ (hsf.ext hE) (hss.ext hE) (exSl (n := 4) (cap := 4) hq rfl)
      rw [kn11] at this
      exact this
    refine Any.eff2 (i := 1) (j := 6) (by kernel_rfl) (nthO_get rfl) (nthO_get rfl) an an rfl rfl rfl rfl ?_ ?_
    · refine e_call0 (args := []) (vs := []) rfl rfl (fun h' hE hL => plan_fn _ h') (fun v A' hv => ?_)
      obtain ⟨q, rfl, rfl⟩ := hv
      refine ⟨.inr Keeps.nil, ?_⟩
      refine Any.eff2 (i := 2) (j := 6) (by kernel_rfl) (nthO_get rfl) (nthO_get rfl) an an rfl rfl rfl rfl ?_ ?_
      · refine e_call0 (args := [_, _, _, _]) (vs := [.agg #[.slice (some ⟨s1, 0, none⟩) 2 2, .slice (some ⟨s2, 0, none⟩) 4 4], .slice (some ⟨q, 0, none⟩) 4 4, I 1, I 1]) rfl rfl (fun h' hE hL => hst h' q hE (hL q _ (.head _))) (fun v A' hv => ?_)
        obtain ⟨rfl, hsh⟩ := hv
        refine ⟨.inr Keeps.nil, Any.sb (Sb.left .refl hsh) ?_⟩
        refine aq (i := 3) (y_move rfl rfl) rfl an rfl rfl ?_
        refine aq (i := 4) (y_extract rfl rfl rfl) rfl an rfl rfl ?_
        refine aq (i := 5) (y_extract rfl rfl rfl) rfl an rfl rfl ?_
        refine ae (i := 6) rfl an rfl rfl (e_alloc rfl fun β _ _ => ⟨.inr Keeps.nil, ?_⟩)
        first | refine ae (i := 7) rfl an rfl rfl (eSW rfl rfl rfl ?_) | refine ae (i := 7) rfl an rfl rfl (eSA rfl rfl rfl ?_)
        refine ⟨.inr Keeps.nil, ?_⟩
        refine aq (i := 8) (y_assign rfl rfl) rfl an rfl rfl ?_
        refine az ?_
        refine ⟨rfl, rfl, β, ⟨rfl, rfl, rfl, rfl, rfl, trivial⟩, by repeat (first | exact Sb.refl | refine Sb.cons ?_ | refine Sb.skip rfl ?_)⟩
      · refine e_alloc rfl fun β _ _ => ⟨.inr Keeps.nil, ?_⟩
        refine acp (i := 2) (u := .tuple #[.agg #[I 2, I 2], I 0]) (vs := [.agg #[.slice (some ⟨s1, 0, none⟩) 2 2, .slice (some ⟨s2, 0, none⟩) 4 4], .slice (some ⟨q, 0, none⟩) 4 4, I 1, I 1]) (fun h' hE hL => hst h' q hE (hL q _ (.tail _ (.head _)))) ?_
        refine aq (i := 3) (y_move rfl rfl) rfl an rfl rfl ?_
        refine aq (i := 4) (y_extract rfl rfl rfl) rfl an rfl rfl ?_
        refine aq (i := 5) (y_extract rfl rfl rfl) rfl an rfl rfl ?_
        first | refine ae (i := 7) rfl an rfl rfl (eSW rfl rfl rfl ?_) | refine ae (i := 7) rfl an rfl rfl (eSA rfl rfl rfl ?_)
        refine ⟨.inr Keeps.nil, ?_⟩
        refine aq (i := 8) (y_assign rfl rfl) rfl an rfl rfl ?_
        refine az ?_
        refine ⟨rfl, rfl, β, ⟨rfl, rfl, rfl, rfl, rfl, trivial⟩, by repeat (first | exact Sb.refl | refine Sb.cons ?_ | refine Sb.skip rfl ?_)⟩
    · refine e_alloc rfl fun β _ _ => ⟨.inr Keeps.nil, ?_⟩
      refine ae (i := 1) rfl an rfl rfl (e_call0 (args := []) (vs := []) rfl rfl (fun h' hE hL => plan_fn _ h') (fun v A' hv => ?_))
      obtain ⟨q, rfl, rfl⟩ := hv
      refine ⟨.inr Keeps.nil, ?_⟩
      refine acp (i := 2) (u := .tuple #[.agg #[I 2, I 2], I 0]) (vs := [.agg #[.slice (some ⟨s1, 0, none⟩) 2 2, .slice (some ⟨s2, 0, none⟩) 4 4], .slice (some ⟨q, 0, none⟩) 4 4, I 1, I 1]) (fun h' hE hL => hst h' q hE (hL q _ (.head _))) ?_
      refine aq (i := 3) (y_move rfl rfl) rfl an rfl rfl ?_
      refine aq (i := 4) (y_extract rfl rfl rfl) rfl an rfl rfl ?_
      refine aq (i := 5) (y_extract rfl rfl rfl) rfl an rfl rfl ?_
      first | refine ae (i := 7) rfl an rfl rfl (eSW rfl rfl rfl ?_) | refine ae (i := 7) rfl an rfl rfl (eSA rfl rfl rfl ?_)
      refine ⟨.inr Keeps.nil, ?_⟩
      refine aq (i := 8) (y_assign rfl rfl) rfl an rfl rfl ?_
      refine az ?_
      refine ⟨rfl, rfl, β, ⟨rfl, rfl, rfl, rfl, rfl, trivial⟩, by repeat (first | exact Sb.refl | refine Sb.cons ?_ | refine Sb.skip rfl ?_)⟩
  rintro e ρ' ds' F' ⟨rfl, rfl, β11, hE11, hsb11⟩
  refine thn_n (W.env hE11 (W.sb hsb11 ?_))
  refine W.seq ?_
  refine W.mono (Q := (fun e ρ' ds' F' => e = .normal ∧ ds' = [] ∧ ∃ β, Sub [(13, .pointer (some ⟨β, 0, none⟩)), (14, I 0), (11, .pointer (some ⟨β11, 0, none⟩)), (12, I 0), (1, .pointer (some ⟨β1, 0, none⟩)), (2, .pointer (some ⟨β2, 0, none⟩)), (3, .pointer (some ⟨β3, 0, none⟩))] ρ' ∧ Sb ((β, .cells #[I 0, I 2] t_Span (0, 0)) :: [(β11, .cells #[I 2, I 2] t_Span (0, 0))]) F')) ?_ ?_
  · refine W.drawL [] (n := 9) rfl ?_
    refine aq (i := 0) (yldW rfl rfl) rfl an rfl rfl ?_
    have hst : ∀ (h' : Hp) (q : Nat), Ext g8 h' → h' q = some (.cells (flat Be.row exP).toArray t_Berth (0, 0)) → Pu prog main n_floor_Stands #[.agg #[.slice (some ⟨s1, 0, none⟩) 2 2, .slice (some ⟨s2, 0, none⟩) 4 4], .slice (some ⟨q, 0, none⟩) 4 4, I 1, I 4] h' (.tuple #[.agg #[I 0, I 2], I 0]) := fun h' q hE hq => by
      have := Stands_fn main h' (exF 1) (exS 6) exP 1 4 _ _ _ (hsf.ext hE) (hss.ext hE) (exSl (n := 4) (cap := 4) hq rfl)
      rw [kn12] at this
      exact this
    refine Any.eff2 (i := 1) (j := 6) (by kernel_rfl) (nthO_get rfl) (nthO_get rfl) an an rfl rfl rfl rfl ?_ ?_
    · refine e_call0 (args := []) (vs := []) rfl rfl (fun h' hE hL => plan_fn _ h') (fun v A' hv => ?_)
      obtain ⟨q, rfl, rfl⟩ := hv
      refine ⟨.inr Keeps.nil, ?_⟩
      refine Any.eff2 (i := 2) (j := 6) (by kernel_rfl) (nthO_get rfl) (nthO_get rfl) an an rfl rfl rfl rfl ?_ ?_
      · refine e_call0 (args := [_, _, _, _]) (vs := [.agg #[.slice (some ⟨s1, 0, none⟩) 2 2, .slice (some ⟨s2, 0, none⟩) 4 4], .slice (some ⟨q, 0, none⟩) 4 4, I 1, I 4]) rfl rfl (fun h' hE hL => hst h' q hE (hL q _ (.head _))) (fun v A' hv => ?_)
        obtain ⟨rfl, hsh⟩ := hv
        refine ⟨.inr Keeps.nil, Any.sb (Sb.left .refl hsh) ?_⟩
        refine aq (i := 3) (y_move rfl rfl) rfl an rfl rfl ?_
        refine aq (i := 4) (y_extract rfl rfl rfl) rfl an rfl rfl ?_
        refine aq (i := 5) (y_extract rfl rfl rfl) rfl an rfl rfl ?_
        refine ae (i := 6) rfl an rfl rfl (e_alloc rfl fun β _ _ => ⟨.inr Keeps.nil, ?_⟩)
        first | refine ae (i := 7) rfl an rfl rfl (eSW rfl rfl rfl ?_) | refine ae (i := 7) rfl an rfl rfl (eSA rfl rfl rfl ?_)
        refine ⟨.inr Keeps.nil, ?_⟩
        refine aq (i := 8) (y_assign rfl rfl) rfl an rfl rfl ?_
        refine az ?_
        refine ⟨rfl, rfl, β, ⟨rfl, rfl, rfl, rfl, rfl, rfl, rfl, trivial⟩, by repeat (first | exact Sb.refl | refine Sb.cons ?_ | refine Sb.skip rfl ?_)⟩
      · refine e_alloc rfl fun β _ _ => ⟨.inr Keeps.nil, ?_⟩
        refine acp (i := 2) (u := .tuple #[.agg #[I 0, I 2], I 0]) (vs := [.agg #[.slice (some ⟨s1, 0, none⟩) 2 2, .slice (some ⟨s2, 0, none⟩) 4 4], .slice (some ⟨q, 0, none⟩) 4 4, I 1, I 4]) (fun h' hE hL => hst h' q hE (hL q _ (.tail _ (.head _)))) ?_
        refine aq (i := 3) (y_move rfl rfl) rfl an rfl rfl ?_
        refine aq (i := 4) (y_extract rfl rfl rfl) rfl an rfl rfl ?_
        refine aq (i := 5) (y_extract rfl rfl rfl) rfl an rfl rfl ?_
        first | refine ae (i := 7) rfl an rfl rfl (eSW rfl rfl rfl ?_) | refine ae (i := 7) rfl an rfl rfl (eSA rfl rfl rfl ?_)
        refine ⟨.inr Keeps.nil, ?_⟩
        refine aq (i := 8) (y_assign rfl rfl) rfl an rfl rfl ?_
        refine az ?_
        refine ⟨rfl, rfl, β, ⟨rfl, rfl, rfl, rfl, rfl, rfl, rfl, trivial⟩, by repeat (first | exact Sb.refl | refine Sb.cons ?_ | refine Sb.skip rfl ?_)⟩
    · refine e_alloc rfl fun β _ _ => ⟨.inr Keeps.nil, ?_⟩
      refine ae (i := 1) rfl an rfl rfl (e_call0 (args := []) (vs := []) rfl rfl (fun h' hE hL => plan_fn _ h') (fun v A' hv => ?_))
      obtain ⟨q, rfl, rfl⟩ := hv
      refine ⟨.inr Keeps.nil, ?_⟩
      refine acp (i := 2) (u := .tuple #[.agg #[I 0, I 2], I 0]) (vs := [.agg #[.slice (some ⟨s1, 0, none⟩) 2 2, .slice (some ⟨s2, 0, none⟩) 4 4], .slice (some ⟨q, 0, none⟩) 4 4, I 1, I 4]) (fun h' hE hL => hst h' q hE (hL q _ (.head _))) ?_
      refine aq (i := 3) (y_move rfl rfl) rfl an rfl rfl ?_
      refine aq (i := 4) (y_extract rfl rfl rfl) rfl an rfl rfl ?_
      refine aq (i := 5) (y_extract rfl rfl rfl) rfl an rfl rfl ?_
      first | refine ae (i := 7) rfl an rfl rfl (eSW rfl rfl rfl ?_) | refine ae (i := 7) rfl an rfl rfl (eSA rfl rfl rfl ?_)
      refine ⟨.inr Keeps.nil, ?_⟩
      refine aq (i := 8) (y_assign rfl rfl) rfl an rfl rfl ?_
      refine az ?_
      refine ⟨rfl, rfl, β, ⟨rfl, rfl, rfl, rfl, rfl, rfl, rfl, trivial⟩, by repeat (first | exact Sb.refl | refine Sb.cons ?_ | refine Sb.skip rfl ?_)⟩
  rintro e ρ' ds' F' ⟨rfl, rfl, β13, hE13, hsb13⟩
  refine thn_n (W.env hE13 (W.sb hsb13 ?_))
  refine W.seq ?_
  refine W.mono (Q := (fun e ρ' ds' F' => e = .normal ∧ ds' = [] ∧ ∃ β, Sub [(15, .pointer (some ⟨β, 0, none⟩)), (16, I 3), (13, .pointer (some ⟨β13, 0, none⟩)), (14, I 0), (11, .pointer (some ⟨β11, 0, none⟩)), (12, I 0), (1, .pointer (some ⟨β1, 0, none⟩)), (2, .pointer (some ⟨β2, 0, none⟩)), (3, .pointer (some ⟨β3, 0, none⟩))] ρ' ∧ Sb ((β, .cells #[I 0, I 0] t_Span (0, 0)) :: [(β13, .cells #[I 0, I 2] t_Span (0, 0)), (β11, .cells #[I 2, I 2] t_Span (0, 0))]) F')) ?_ ?_
  · refine W.drawL [] (n := 9) rfl ?_
    refine aq (i := 0) (yldW rfl rfl) rfl an rfl rfl ?_
    have hst : ∀ (h' : Hp) (q : Nat), Ext g8 h' → h' q = some (.cells (flat Be.row exP).toArray t_Berth (0, 0)) → Pu prog main n_floor_Stands #[.agg #[.slice (some ⟨s1, 0, none⟩) 2 2, .slice (some ⟨s2, 0, none⟩) 4 4], .slice (some ⟨q, 0, none⟩) 4 4, I 2, I 0] h' (.tuple #[.agg #[I 0, I 0], I 3]) := fun h' q hE hq => by
      have := Stands_fn main h' (exF 1) (exS 6) exP 2 0 _ _ _ (hsf.ext hE) (hss.ext hE) (exSl (n := 4) (cap := 4) hq rfl)
      rw [kn13] at this
      exact this
    refine Any.eff2 (i := 1) (j := 6) (by kernel_rfl) (nthO_get rfl) (nthO_get rfl) an an rfl rfl rfl rfl ?_ ?_
    · refine e_call0 (args := []) (vs := []) rfl rfl (fun h' hE hL => plan_fn _ h') (fun v A' hv => ?_)
      obtain ⟨q, rfl, rfl⟩ := hv
      refine ⟨.inr Keeps.nil, ?_⟩
      refine Any.eff2 (i := 2) (j := 6) (by kernel_rfl) (nthO_get rfl) (nthO_get rfl) an an rfl rfl rfl rfl ?_ ?_
      · refine e_call0 (args := [_, _, _, _]) (vs := [.agg #[.slice (some ⟨s1, 0, none⟩) 2 2, .slice (some ⟨s2, 0, none⟩) 4 4], .slice (some ⟨q, 0, none⟩) 4 4, I 2, I 0]) rfl rfl (fun h' hE hL => hst h' q hE (hL q _ (.head _))) (fun v A' hv => ?_)
        obtain ⟨rfl, hsh⟩ := hv
        refine ⟨.inr Keeps.nil, Any.sb (Sb.left .refl hsh) ?_⟩
        refine aq (i := 3) (y_move rfl rfl) rfl an rfl rfl ?_
        refine aq (i := 4) (y_extract rfl rfl rfl) rfl an rfl rfl ?_
        refine aq (i := 5) (y_extract rfl rfl rfl) rfl an rfl rfl ?_
        refine ae (i := 6) rfl an rfl rfl (e_alloc rfl fun β _ _ => ⟨.inr Keeps.nil, ?_⟩)
        first | refine ae (i := 7) rfl an rfl rfl (eSW rfl rfl rfl ?_) | refine ae (i := 7) rfl an rfl rfl (eSA rfl rfl rfl ?_)
        refine ⟨.inr Keeps.nil, ?_⟩
        refine aq (i := 8) (y_assign rfl rfl) rfl an rfl rfl ?_
        refine az ?_
        refine ⟨rfl, rfl, β, ⟨rfl, rfl, rfl, rfl, rfl, rfl, rfl, rfl, rfl, trivial⟩, by repeat (first | exact Sb.refl | refine Sb.cons ?_ | refine Sb.skip rfl ?_)⟩
      · refine e_alloc rfl fun β _ _ => ⟨.inr Keeps.nil, ?_⟩
        refine acp (i := 2) (u := .tuple #[.agg #[I 0, I 0], I 3]) (vs := [.agg #[.slice (some ⟨s1, 0, none⟩) 2 2, .slice (some ⟨s2, 0, none⟩) 4 4], .slice (some ⟨q, 0, none⟩) 4 4, I 2, I 0]) (fun h' hE hL => hst h' q hE (hL q _ (.tail _ (.head _)))) ?_
        refine aq (i := 3) (y_move rfl rfl) rfl an rfl rfl ?_
        refine aq (i := 4) (y_extract rfl rfl rfl) rfl an rfl rfl ?_
        refine aq (i := 5) (y_extract rfl rfl rfl) rfl an rfl rfl ?_
        first | refine ae (i := 7) rfl an rfl rfl (eSW rfl rfl rfl ?_) | refine ae (i := 7) rfl an rfl rfl (eSA rfl rfl rfl ?_)
        refine ⟨.inr Keeps.nil, ?_⟩
        refine aq (i := 8) (y_assign rfl rfl) rfl an rfl rfl ?_
        refine az ?_
        refine ⟨rfl, rfl, β, ⟨rfl, rfl, rfl, rfl, rfl, rfl, rfl, rfl, rfl, trivial⟩, by repeat (first | exact Sb.refl | refine Sb.cons ?_ | refine Sb.skip rfl ?_)⟩
    · refine e_alloc rfl fun β _ _ => ⟨.inr Keeps.nil, ?_⟩
      refine ae (i := 1) rfl an rfl rfl (e_call0 (args := []) (vs := []) rfl rfl (fun h' hE hL => plan_fn _ h') (fun v A' hv => ?_))
      obtain ⟨q, rfl, rfl⟩ := hv
      refine ⟨.inr Keeps.nil, ?_⟩
      refine acp (i := 2) (u := .tuple #[.agg #[I 0, I 0], I 3]) (vs := [.agg #[.slice (some ⟨s1, 0, none⟩) 2 2, .slice (some ⟨s2, 0, none⟩) 4 4], .slice (some ⟨q, 0, none⟩) 4 4, I 2, I 0]) (fun h' hE hL => hst h' q hE (hL q _ (.head _))) ?_
      refine aq (i := 3) (y_move rfl rfl) rfl an rfl rfl ?_
      refine aq (i := 4) (y_extract rfl rfl rfl) rfl an rfl rfl ?_
      refine aq (i := 5) (y_extract rfl rfl rfl) rfl an rfl rfl ?_
      first | refine ae (i := 7) rfl an rfl rfl (eSW rfl rfl rfl ?_) | refine ae (i := 7) rfl an rfl rfl (eSA rfl rfl rfl ?_)
      refine ⟨.inr Keeps.nil, ?_⟩
      refine aq (i := 8) (y_assign rfl rfl) rfl an rfl rfl ?_
      refine az ?_
      refine ⟨rfl, rfl, β, ⟨rfl, rfl, rfl, rfl, rfl, rfl, rfl, rfl, rfl, trivial⟩, by repeat (first | exact Sb.refl | refine Sb.cons ?_ | refine Sb.skip rfl ?_)⟩
  rintro e ρ' ds' F' ⟨rfl, rfl, β15, hE15, hsb15⟩
  refine thn_n (W.env hE15 (W.sb hsb15 ?_))
  refine W.seq ?_
  refine W.mono (Q := (fun e ρ' ds' F' => e = .normal ∧ ds' = [] ∧ ∃ β, Sub [(17, .pointer (some ⟨β, 0, none⟩)), (18, I 1), (15, .pointer (some ⟨β15, 0, none⟩)), (16, I 3), (13, .pointer (some ⟨β13, 0, none⟩)), (14, I 0), (11, .pointer (some ⟨β11, 0, none⟩)), (12, I 0), (1, .pointer (some ⟨β1, 0, none⟩)), (2, .pointer (some ⟨β2, 0, none⟩)), (3, .pointer (some ⟨β3, 0, none⟩))] ρ' ∧ Sb ((β, .cells #[I 0, I 0] t_Span (0, 0)) :: [(β15, .cells #[I 0, I 0] t_Span (0, 0)), (β13, .cells #[I 0, I 2] t_Span (0, 0)), (β11, .cells #[I 2, I 2] t_Span (0, 0))]) F')) ?_ ?_
  · refine W.drawL [] (n := 9) rfl ?_
    refine aq (i := 0) (yldW rfl rfl) rfl an rfl rfl ?_
    have hst : ∀ (h' : Hp) (q : Nat), Ext g8 h' → h' q = some (.cells (flat Be.row exP).toArray t_Berth (0, 0)) → Pu prog main n_floor_Stands #[.agg #[.slice (some ⟨s1, 0, none⟩) 2 2, .slice (some ⟨s2, 0, none⟩) 4 4], .slice (some ⟨q, 0, none⟩) 4 4, I 0, I 22] h' (.tuple #[.agg #[I 0, I 0], I 1]) := fun h' q hE hq => by
      have := Stands_fn main h' (exF 1) (exS 6) exP 0 22 _ _ _ (hsf.ext hE) (hss.ext hE) (exSl (n := 4) (cap := 4) hq rfl)
      rw [kn14] at this
      exact this
    refine Any.eff2 (i := 1) (j := 6) (by kernel_rfl) (nthO_get rfl) (nthO_get rfl) an an rfl rfl rfl rfl ?_ ?_
    · refine e_call0 (args := []) (vs := []) rfl rfl (fun h' hE hL => plan_fn _ h') (fun v A' hv => ?_)
      obtain ⟨q, rfl, rfl⟩ := hv
      refine ⟨.inr Keeps.nil, ?_⟩
      refine Any.eff2 (i := 2) (j := 6) (by kernel_rfl) (nthO_get rfl) (nthO_get rfl) an an rfl rfl rfl rfl ?_ ?_
      · refine e_call0 (args := [_, _, _, _]) (vs := [.agg #[.slice (some ⟨s1, 0, none⟩) 2 2, .slice (some ⟨s2, 0, none⟩) 4 4], .slice (some ⟨q, 0, none⟩) 4 4, I 0, I 22]) rfl rfl (fun h' hE hL => hst h' q hE (hL q _ (.head _))) (fun v A' hv => ?_)
        obtain ⟨rfl, hsh⟩ := hv
        refine ⟨.inr Keeps.nil, Any.sb (Sb.left .refl hsh) ?_⟩
        refine aq (i := 3) (y_move rfl rfl) rfl an rfl rfl ?_
        refine aq (i := 4) (y_extract rfl rfl rfl) rfl an rfl rfl ?_
        refine aq (i := 5) (y_extract rfl rfl rfl) rfl an rfl rfl ?_
        refine ae (i := 6) rfl an rfl rfl (e_alloc rfl fun β _ _ => ⟨.inr Keeps.nil, ?_⟩)
        first | refine ae (i := 7) rfl an rfl rfl (eSW rfl rfl rfl ?_) | refine ae (i := 7) rfl an rfl rfl (eSA rfl rfl rfl ?_)
        refine ⟨.inr Keeps.nil, ?_⟩
        refine aq (i := 8) (y_assign rfl rfl) rfl an rfl rfl ?_
        refine az ?_
        refine ⟨rfl, rfl, β, ⟨rfl, rfl, rfl, rfl, rfl, rfl, rfl, rfl, rfl, rfl, rfl, trivial⟩, by repeat (first | exact Sb.refl | refine Sb.cons ?_ | refine Sb.skip rfl ?_)⟩
      · refine e_alloc rfl fun β _ _ => ⟨.inr Keeps.nil, ?_⟩
        refine acp (i := 2) (u := .tuple #[.agg #[I 0, I 0], I 1]) (vs := [.agg #[.slice (some ⟨s1, 0, none⟩) 2 2, .slice (some ⟨s2, 0, none⟩) 4 4], .slice (some ⟨q, 0, none⟩) 4 4, I 0, I 22]) (fun h' hE hL => hst h' q hE (hL q _ (.tail _ (.head _)))) ?_
        refine aq (i := 3) (y_move rfl rfl) rfl an rfl rfl ?_
        refine aq (i := 4) (y_extract rfl rfl rfl) rfl an rfl rfl ?_
        refine aq (i := 5) (y_extract rfl rfl rfl) rfl an rfl rfl ?_
        first | refine ae (i := 7) rfl an rfl rfl (eSW rfl rfl rfl ?_) | refine ae (i := 7) rfl an rfl rfl (eSA rfl rfl rfl ?_)
        refine ⟨.inr Keeps.nil, ?_⟩
        refine aq (i := 8) (y_assign rfl rfl) rfl an rfl rfl ?_
        refine az ?_
        refine ⟨rfl, rfl, β, ⟨rfl, rfl, rfl, rfl, rfl, rfl, rfl, rfl, rfl, rfl, rfl, trivial⟩, by repeat (first | exact Sb.refl | refine Sb.cons ?_ | refine Sb.skip rfl ?_)⟩
    · refine e_alloc rfl fun β _ _ => ⟨.inr Keeps.nil, ?_⟩
      refine ae (i := 1) rfl an rfl rfl (e_call0 (args := []) (vs := []) rfl rfl (fun h' hE hL => plan_fn _ h') (fun v A' hv => ?_))
      obtain ⟨q, rfl, rfl⟩ := hv
      refine ⟨.inr Keeps.nil, ?_⟩
      refine acp (i := 2) (u := .tuple #[.agg #[I 0, I 0], I 1]) (vs := [.agg #[.slice (some ⟨s1, 0, none⟩) 2 2, .slice (some ⟨s2, 0, none⟩) 4 4], .slice (some ⟨q, 0, none⟩) 4 4, I 0, I 22]) (fun h' hE hL => hst h' q hE (hL q _ (.head _))) ?_
      refine aq (i := 3) (y_move rfl rfl) rfl an rfl rfl ?_
      refine aq (i := 4) (y_extract rfl rfl rfl) rfl an rfl rfl ?_
      refine aq (i := 5) (y_extract rfl rfl rfl) rfl an rfl rfl ?_
      first | refine ae (i := 7) rfl an rfl rfl (eSW rfl rfl rfl ?_) | refine ae (i := 7) rfl an rfl rfl (eSA rfl rfl rfl ?_)
      refine ⟨.inr Keeps.nil, ?_⟩
      refine aq (i := 8) (y_assign rfl rfl) rfl an rfl rfl ?_
      refine az ?_
      refine ⟨rfl, rfl, β, ⟨rfl, rfl, rfl, rfl, rfl, rfl, rfl, rfl, rfl, rfl, rfl, trivial⟩, by repeat (first | exact Sb.refl | refine Sb.cons ?_ | refine Sb.skip rfl ?_)⟩
  rintro e ρ' ds' F' ⟨rfl, rfl, β17, hE17, hsb17⟩
  refine thn_n (W.env hE17 (W.sb hsb17 ?_))
  refine W.seq ?_
  refine W.drawL [] (n := 8) rfl ?_
  first | refine aq (i := 0) (yldW rfl rfl) rfl an rfl rfl ?_ | refine aq (i := 0) (yldA rfl rfl) rfl an rfl rfl ?_
  refine ae (i := 1) rfl an rfl rfl (e_call0 (args := []) (vs := []) rfl rfl (fun h' hE hL => plan_fn _ h') (fun v A' hv => ?_))
  obtain ⟨q14, rfl, rfl⟩ := hv
  refine ⟨.inr Keeps.nil, ?_⟩
  refine acp (i := 2) (u := .tuple #[I 3, I 0]) (vs := [.agg #[.slice (some ⟨s1, 0, none⟩) 2 2, .slice (some ⟨s2, 0, none⟩) 4 4], .slice (some ⟨q14, 0, none⟩) 4 4, I 0, I 2]) (fun h' hE hL => ?_) ?_
  · have := Empty_fn main h' (exF 1) (exS 6) exP 0 2 _ _ _ (hsf.ext hE) (hss.ext hE) (exSl (n := 4) (cap := 4) (hL q14 _ (.head _)) rfl)
    rw [kn15] at this
    exact this
  refine aq (i := 3) (y_move rfl rfl) rfl an rfl rfl ?_
  refine aq (i := 4) (y_extract rfl rfl rfl) rfl an rfl rfl ?_
  refine aq (i := 5) (y_extract rfl rfl rfl) rfl an rfl rfl ?_
  refine aq (i := 6) (y_assign rfl rfl) rfl an rfl rfl ?_
  refine aq (i := 7) (y_assign rfl rfl) rfl an rfl rfl ?_
  refine az ?_
  refine thn_n <| W.seq ?_
  refine W.drawL [] (n := 8) rfl ?_
  first | refine aq (i := 0) (yldW rfl rfl) rfl an rfl rfl ?_ | refine aq (i := 0) (yldA rfl rfl) rfl an rfl rfl ?_
  refine ae (i := 1) rfl an rfl rfl (e_call0 (args := []) (vs := []) rfl rfl (fun h' hE hL => plan_fn _ h') (fun v A' hv => ?_))
  obtain ⟨q15, rfl, rfl⟩ := hv
  refine ⟨.inr Keeps.nil, ?_⟩
  refine acp (i := 2) (u := .tuple #[I 2, I 0]) (vs := [.agg #[.slice (some ⟨s1, 0, none⟩) 2 2, .slice (some ⟨s2, 0, none⟩) 4 4], .slice (some ⟨q15, 0, none⟩) 4 4, I 0, I 7]) (fun h' hE hL => ?_) ?_
  · have := Empty_fn main h' (exF 1) (exS 6) exP 0 7 _ _ _ (hsf.ext hE) (hss.ext hE) (exSl (n := 4) (cap := 4) (hL q15 _ (.head _)) rfl)
    rw [kn16] at this
    exact this
  refine aq (i := 3) (y_move rfl rfl) rfl an rfl rfl ?_
  refine aq (i := 4) (y_extract rfl rfl rfl) rfl an rfl rfl ?_
  refine aq (i := 5) (y_extract rfl rfl rfl) rfl an rfl rfl ?_
  refine aq (i := 6) (y_assign rfl rfl) rfl an rfl rfl ?_
  refine aq (i := 7) (y_assign rfl rfl) rfl an rfl rfl ?_
  refine az ?_
  refine thn_n <| W.seq ?_
  refine W.drawL [] (n := 8) rfl ?_
  first | refine aq (i := 0) (yldW rfl rfl) rfl an rfl rfl ?_ | refine aq (i := 0) (yldA rfl rfl) rfl an rfl rfl ?_
  refine ae (i := 1) rfl an rfl rfl (e_call0 (args := []) (vs := []) rfl rfl (fun h' hE hL => plan_fn _ h') (fun v A' hv => ?_))
  obtain ⟨q16, rfl, rfl⟩ := hv
  refine ⟨.inr Keeps.nil, ?_⟩
  refine acp (i := 2) (u := .tuple #[I 1, I 0]) (vs := [.agg #[.slice (some ⟨s1, 0, none⟩) 2 2, .slice (some ⟨s2, 0, none⟩) 4 4], .slice (some ⟨q16, 0, none⟩) 4 4, I 0, I 9]) (fun h' hE hL => ?_) ?_
  · have := Empty_fn main h' (exF 1) (exS 6) exP 0 9 _ _ _ (hsf.ext hE) (hss.ext hE) (exSl (n := 4) (cap := 4) (hL q16 _ (.head _)) rfl)
    rw [kn17] at this
    exact this
  refine aq (i := 3) (y_move rfl rfl) rfl an rfl rfl ?_
  refine aq (i := 4) (y_extract rfl rfl rfl) rfl an rfl rfl ?_
  refine aq (i := 5) (y_extract rfl rfl rfl) rfl an rfl rfl ?_
  refine aq (i := 6) (y_assign rfl rfl) rfl an rfl rfl ?_
  refine aq (i := 7) (y_assign rfl rfl) rfl an rfl rfl ?_
  refine az ?_
  refine thn_n <| W.seq <| W.seq <| W.region rfl <| qm rfl rfl rfl ?_
  refine oq ((y_neq rfl rfl rfl).eq (u := .bool false) rfl) rfl wn rfl rfl ?_
  refine qm rfl rfl rfl ?_
  refine oq (y_move rfl rfl) rfl (want_some rfl rfl rfl) rfl rfl ?_
  refine oq ((y_neq rfl rfl rfl).eq (u := .bool false) rfl) rfl (want_some rfl rfl rfl) rfl rfl ?_
  refine oq (y_pickF rfl rfl rfl) rfl wn rfl rfl ?_
  refine qm rfl rfl rfl ?_
  refine oq (y_move rfl rfl) rfl (want_some rfl rfl rfl) rfl rfl ?_
  refine oq ((y_neq rfl rfl rfl).eq (u := .bool false) rfl) rfl (want_some rfl rfl rfl) rfl rfl ?_
  refine oq (y_pickF rfl rfl rfl) rfl wn rfl rfl ?_
  refine qm rfl rfl rfl ?_
  refine oq (y_move rfl rfl) rfl (want_some rfl rfl rfl) rfl rfl ?_
  refine oq ((y_neq rfl rfl rfl).eq (u := .bool false) rfl) rfl (want_some rfl rfl rfl) rfl rfl ?_
  refine oq (y_pickF rfl rfl rfl) rfl wn rfl rfl ?_
  refine qm rfl rfl rfl ?_
  refine oq (y_move rfl rfl) rfl (want_some rfl rfl rfl) rfl rfl ?_
  refine oq ((y_neq rfl rfl rfl).eq (u := .bool false) rfl) rfl (want_some rfl rfl rfl) rfl rfl ?_
  refine oq (y_pickF rfl rfl rfl) rfl wn rfl rfl ?_
  refine qm rfl rfl rfl ?_
  refine oq (y_move rfl rfl) rfl (want_some rfl rfl rfl) rfl rfl ?_
  refine oq ((y_neq rfl rfl rfl).eq (u := .bool false) rfl) rfl (want_some rfl rfl rfl) rfl rfl ?_
  refine oq (y_pickF rfl rfl rfl) rfl wn rfl rfl ?_
  refine qm rfl rfl rfl ?_
  refine oq (y_move rfl rfl) rfl (want_some rfl rfl rfl) rfl rfl ?_
  refine oq ((y_neq rfl rfl rfl).eq (u := .bool false) rfl) rfl (want_some rfl rfl rfl) rfl rfl ?_
  refine oq (y_pickF rfl rfl rfl) rfl wn rfl rfl ?_
  refine qm rfl rfl rfl ?_
  refine oq (yldW rfl rfl) rfl (want_some rfl rfl rfl) rfl rfl ?_
  refine oq (y_build (parts := [⟨_, _⟩, ⟨_, _⟩]) (cs := #[I 2, I 2]) rfl rfl rfl) rfl (want_some rfl rfl rfl) rfl rfl ?_
  refine oq (Yv.eq (u := .bool false) (y_neA [2, 2] [2, 2] rfl rfl rfl rfl rfl rfl rfl) rfl) rfl (want_some rfl rfl rfl) rfl rfl ?_
  refine oq (y_pickF rfl rfl rfl) rfl wn rfl rfl ?_
  refine qm rfl rfl rfl ?_
  refine oq (yldW rfl rfl) rfl (want_some rfl rfl rfl) rfl rfl ?_
  refine oq (y_build (parts := [⟨_, _⟩, ⟨_, _⟩]) (cs := #[I 0, I 2]) rfl rfl rfl) rfl (want_some rfl rfl rfl) rfl rfl ?_
  refine oq (Yv.eq (u := .bool false) (y_neA [0, 2] [0, 2] rfl rfl rfl rfl rfl rfl rfl) rfl) rfl (want_some rfl rfl rfl) rfl rfl ?_
  refine oq (y_pickF rfl rfl rfl) rfl wn rfl rfl ?_
  refine qm rfl rfl rfl ?_
  refine oq (y_move rfl rfl) rfl (want_some rfl rfl rfl) rfl rfl ?_
  refine oq ((y_neq rfl rfl rfl).eq (u := .bool false) rfl) rfl (want_some rfl rfl rfl) rfl rfl ?_
  refine oq (y_pickF rfl rfl rfl) rfl wn rfl rfl ?_
  refine qm rfl rfl rfl ?_
  refine oq (y_move rfl rfl) rfl (want_some rfl rfl rfl) rfl rfl ?_
  refine oq ((y_neq rfl rfl rfl).eq (u := .bool false) rfl) rfl (want_some rfl rfl rfl) rfl rfl ?_
  refine oq (y_pickF rfl rfl rfl) rfl wn rfl rfl ?_
  refine qm rfl rfl rfl ?_
  refine oq (y_move rfl rfl) rfl (want_some rfl rfl rfl) rfl rfl ?_
  refine oq ((y_neq rfl rfl rfl).eq (u := .bool false) rfl) rfl (want_some rfl rfl rfl) rfl rfl ?_
  refine oq (y_pickF rfl rfl rfl) rfl wn rfl rfl ?_
  refine Ops.nil <| thn_n ?_
  refine W.condF ?_
  refine W.skip <| thn_n <| W.seq ?_
  refine W.drawL [] (n := 10) rfl ?_
  first | refine aq (i := 0) (yldW rfl rfl) rfl an rfl rfl ?_ | refine aq (i := 0) (yldA rfl rfl) rfl an rfl rfl ?_
  refine ae (i := 1) rfl an rfl rfl (e_call0 (args := []) (vs := []) rfl rfl (fun h' hE hL => plan_fn _ h') (fun v A' hv => ?_))
  obtain ⟨q19, rfl, rfl⟩ := hv
  refine ⟨.inr Keeps.nil, ?_⟩
  refine acp (i := 2) (u := .tuple #[I (-1), I (-1), I 0]) (vs := [.agg #[.slice (some ⟨s1, 0, none⟩) 2 2, .slice (some ⟨s2, 0, none⟩) 4 4], .slice (some ⟨q19, 0, none⟩) 4 4]) (fun h' hE hL => ?_) ?_
  · have := Wrong_fn main h' (exF 1) (exS 6) exP _ _ _ Eg zg (hsf.ext hE) (hss.ext hE) (exSl (n := 4) (cap := 4) (hL q19 _ (.head _)) rfl) (hE.1 _ _ hg0)
    rw [kn18] at this
    exact this
  refine aq (i := 3) (y_move rfl rfl) rfl an rfl rfl ?_
  refine aq (i := 4) (y_extract rfl rfl rfl) rfl an rfl rfl ?_
  refine aq (i := 5) (y_extract rfl rfl rfl) rfl an rfl rfl ?_
  refine aq (i := 6) (y_extract rfl rfl rfl) rfl an rfl rfl ?_
  refine aq (i := 7) (y_assign rfl rfl) rfl an rfl rfl ?_
  refine aq (i := 8) (y_assign rfl rfl) rfl an rfl rfl ?_
  refine aq (i := 9) (y_assign rfl rfl) rfl an rfl rfl ?_
  refine az ?_
  refine thn_n <| W.seq ?_
  refine W.drawL [] (n := 14) rfl ?_
  first | refine aq (i := 0) (yldW rfl rfl) rfl an rfl rfl ?_ | refine aq (i := 0) (yldA rfl rfl) rfl an rfl rfl ?_
  refine aq (i := 1) (y_build (parts := []) (cs := #[I 0, I 0]) rfl rfl rfl) rfl an rfl rfl ?_
  refine aq (i := 3) (y_build (parts := [⟨_, _⟩]) (cs := #[I 0, I 4]) rfl rfl rfl) rfl an rfl rfl ?_
  refine acp (i := 2) (u := .agg #[I (-1), I 0]) (vs := []) (fun h' hE hL => none_fn _ h') ?_
  refine acp (i := 4) (u := .agg #[I (-1), I 0]) (vs := []) (fun h' hE hL => none_fn _ h') ?_
  refine abl (i := 5) (s := 2) (cs := (flat Be.row [⟨0, 0⟩, ⟨-1, 0⟩, ⟨0, 4⟩, ⟨-1, 0⟩]).toArray) (fun q20 => ?_) (hf := by kernel_rfl)
  refine acp (i := 6) (u := .tuple #[I 0, I 3, I 0]) (vs := [.agg #[.slice (some ⟨s1, 0, none⟩) 2 2, .slice (some ⟨s2, 0, none⟩) 4 4], .slice (some ⟨q20, 0, none⟩) 4 4]) (fun h' hE hL => ?_) ?_
  · have := Wrong_fn main h' (exF 1) (exS 6) [⟨0, 0⟩, ⟨-1, 0⟩, ⟨0, 4⟩, ⟨-1, 0⟩] _ _ _ Eg zg (hsf.ext hE) (hss.ext hE) (exSl (n := 4) (cap := 4) (hL q20 _ (.head _)) rfl) (hE.1 _ _ hg0)
    rw [kn19] at this
    exact this
  refine aq (i := 7) (y_move rfl rfl) rfl an rfl rfl ?_
  refine aq (i := 8) (y_extract rfl rfl rfl) rfl an rfl rfl ?_
  refine aq (i := 9) (y_extract rfl rfl rfl) rfl an rfl rfl ?_
  refine aq (i := 10) (y_extract rfl rfl rfl) rfl an rfl rfl ?_
  refine aq (i := 11) (y_assign rfl rfl) rfl an rfl rfl ?_
  refine aq (i := 12) (y_assign rfl rfl) rfl an rfl rfl ?_
  refine aq (i := 13) (y_assign rfl rfl) rfl an rfl rfl ?_
  refine az ?_
  refine thn_n <| W.seq ?_
  refine W.drawL [] (n := 8) rfl ?_
  first | refine aq (i := 0) (yldW rfl rfl) rfl an rfl rfl ?_ | refine aq (i := 0) (yldA rfl rfl) rfl an rfl rfl ?_
  refine ae (i := 1) rfl an rfl rfl (e_call0 (args := []) (vs := []) rfl rfl (fun h' hE hL => plan_fn _ h') (fun v A' hv => ?_))
  obtain ⟨q21, rfl, rfl⟩ := hv
  refine ⟨.inr Keeps.nil, ?_⟩
  refine acp (i := 2) (u := .tuple #[.agg #[I 4, I 6], I 0]) (vs := [.agg #[.slice (some ⟨s1, 0, none⟩) 2 2, .slice (some ⟨s2, 0, none⟩) 4 4], .slice (some ⟨q21, 0, none⟩) 4 4, I 1]) (fun h' hE hL => ?_) ?_
  · have := Ready_fn main h' (exF 1) (exS 6) exP 1 _ _ _ (hsf.ext hE) (hss.ext hE) (exSl (n := 4) (cap := 4) (hL q21 _ (.head _)) rfl)
    rw [kn20] at this
    exact this
  refine aq (i := 3) (y_move rfl rfl) rfl an rfl rfl ?_
  refine aq (i := 4) (y_extract rfl rfl rfl) rfl an rfl rfl ?_
  refine aq (i := 5) (y_extract rfl rfl rfl) rfl an rfl rfl ?_
  first | refine ae (i := 6) rfl an rfl rfl (eSW rfl rfl rfl ?_) | refine ae (i := 6) rfl an rfl rfl (eSA rfl rfl rfl ?_)
  refine ⟨.inr (by first | exact Keeps.refl | exact Keeps.nil | ((repeat (first | exact fun _ h => h | apply Keeps.cons | apply Keeps.app)) <;> fail) | (repeat (first | exact Keeps.nil | refine Keeps.one (by repeat (first | exact List.Mem.head _ | apply List.Mem.tail)) ?_))), ?_⟩
  refine aq (i := 7) (y_assign rfl rfl) rfl an rfl rfl ?_
  refine az ?_
  refine thn_n <| W.seq ?_
  refine W.drawL [] (n := 11) rfl ?_
  first | refine aq (i := 0) (yldW rfl rfl) rfl an rfl rfl ?_ | refine aq (i := 0) (yldA rfl rfl) rfl an rfl rfl ?_
  refine aq (i := 1) (y_build (parts := []) (cs := #[I 0, I 0]) rfl rfl rfl) rfl an rfl rfl ?_
  refine acp (i := 2) (u := .agg #[I (-1), I 0]) (vs := []) (fun h' hE hL => none_fn _ h') ?_
  refine acp (i := 3) (u := .agg #[I (-1), I 0]) (vs := []) (fun h' hE hL => none_fn _ h') ?_
  refine acp (i := 4) (u := .agg #[I (-1), I 0]) (vs := []) (fun h' hE hL => none_fn _ h') ?_
  refine abl (i := 5) (s := 2) (cs := (flat Be.row [⟨0, 0⟩, ⟨-1, 0⟩, ⟨-1, 0⟩, ⟨-1, 0⟩]).toArray) (fun q22 => ?_) (hf := by kernel_rfl)
  refine acp (i := 6) (u := .tuple #[.agg #[I 0, I 0], I 8]) (vs := [.agg #[.slice (some ⟨s1, 0, none⟩) 2 2, .slice (some ⟨s2, 0, none⟩) 4 4], .slice (some ⟨q22, 0, none⟩) 4 4, I 1]) (fun h' hE hL => ?_) ?_
  · have := Ready_fn main h' (exF 1) (exS 6) [⟨0, 0⟩, ⟨-1, 0⟩, ⟨-1, 0⟩, ⟨-1, 0⟩] 1 _ _ _ (hsf.ext hE) (hss.ext hE) (exSl (n := 4) (cap := 4) (hL q22 _ (.head _)) rfl)
    rw [kn21] at this
    exact this
  refine aq (i := 7) (y_move rfl rfl) rfl an rfl rfl ?_
  refine aq (i := 8) (y_extract rfl rfl rfl) rfl an rfl rfl ?_
  refine aq (i := 9) (y_extract rfl rfl rfl) rfl an rfl rfl ?_
  refine aq (i := 10) (y_assign rfl rfl) rfl an rfl rfl ?_
  refine az ?_
  refine thn_n <| W.seq ?_
  refine W.drawL [] (n := 8) rfl ?_
  first | refine aq (i := 0) (yldW rfl rfl) rfl an rfl rfl ?_ | refine aq (i := 0) (yldA rfl rfl) rfl an rfl rfl ?_
  refine ae (i := 1) rfl an rfl rfl (e_call0 (args := []) (vs := []) rfl rfl (fun h' hE hL => plan_fn _ h') (fun v A' hv => ?_))
  obtain ⟨q23, rfl, rfl⟩ := hv
  refine ⟨.inr Keeps.nil, ?_⟩
  refine ae (i := 2) rfl an rfl rfl (e_call0 (args := [_, _]) (vs := [.agg #[.slice (some ⟨s1, 0, none⟩) 2 2, .slice (some ⟨s2, 0, none⟩) 4 4], .slice (some ⟨q23, 0, none⟩) 4 4]) rfl rfl (fun h' hE hL => Doubt_fn main h' (exF 1) (exS 6) exP _ _ _ (hsf.ext hE) (hss.ext hE) (exSl (n := 4) (cap := 4) (hL q23 _ (.head _)) rfl)) (fun v A' hv => ?_))
  rw [kn22] at hv
  obtain ⟨u, N, us, C, rfl, hN, hC, hsb⟩ := hv
  obtain ⟨ua, uc, rfl⟩ := hN.isSl
  refine ⟨.inr Keeps.nil, Any.sb (hsb.app .refl) ?_⟩
  refine aq (i := 3) (y_move rfl rfl) rfl an rfl rfl ?_
  refine aq (i := 4) (y_extract rfl rfl rfl) rfl an rfl rfl ?_
  refine aq (i := 5) (y_extract rfl rfl rfl) rfl an rfl rfl ?_
  refine aq (i := 6) (y_assign rfl rfl) rfl an rfl rfl ?_
  refine aq (i := 7) (y_assign rfl rfl) rfl an rfl rfl ?_
  refine az ?_
  refine thn_n <| W.seq ?_
  refine W.sb (F' := (β11, .cells #[I 4, I 6] t_Span (0, 0)) :: (N ++ C)) (Sb.trans (.of_perm (List.perm_append_comm (l₁ := [_]))) (Sb.app .refl (by repeat (first | exact Sb.refl | refine Sb.skip rfl ?_)))) ?_
  refine W.seq <| W.region rfl <| qm rfl rfl rfl ?_
  refine oq ((y_neq rfl rfl rfl).eq (u := .bool false) rfl) rfl wn rfl rfl ?_
  refine qm rfl rfl rfl ?_
  refine oq (y_move rfl rfl) rfl (want_some rfl rfl rfl) rfl rfl ?_
  refine oq ((y_neq rfl rfl rfl).eq (u := .bool false) rfl) rfl (want_some rfl rfl rfl) rfl rfl ?_
  refine oq (y_pickF rfl rfl rfl) rfl wn rfl rfl ?_
  refine qm rfl rfl rfl ?_
  refine oq (y_move rfl rfl) rfl (want_some rfl rfl rfl) rfl rfl ?_
  refine oq ((y_neq rfl rfl rfl).eq (u := .bool false) rfl) rfl (want_some rfl rfl rfl) rfl rfl ?_
  refine oq (y_pickF rfl rfl rfl) rfl wn rfl rfl ?_
  refine qm rfl rfl rfl ?_
  refine oq (y_move rfl rfl) rfl (want_some rfl rfl rfl) rfl rfl ?_
  refine oq ((y_neq rfl rfl rfl).eq (u := .bool false) rfl) rfl (want_some rfl rfl rfl) rfl rfl ?_
  refine oq (y_pickF rfl rfl rfl) rfl wn rfl rfl ?_
  refine qm rfl rfl rfl ?_
  refine oq (y_move rfl rfl) rfl (want_some rfl rfl rfl) rfl rfl ?_
  refine oq ((y_neq rfl rfl rfl).eq (u := .bool false) rfl) rfl (want_some rfl rfl rfl) rfl rfl ?_
  refine oq (y_pickF rfl rfl rfl) rfl wn rfl rfl ?_
  refine qm rfl rfl rfl ?_
  refine oq (y_move rfl rfl) rfl (want_some rfl rfl rfl) rfl rfl ?_
  refine oq ((y_neq rfl rfl rfl).eq (u := .bool false) rfl) rfl (want_some rfl rfl rfl) rfl rfl ?_
  refine oq (y_pickF rfl rfl rfl) rfl wn rfl rfl ?_
  refine qm rfl rfl rfl ?_
  refine oq (y_move rfl rfl) rfl (want_some rfl rfl rfl) rfl rfl ?_
  refine oq ((y_neq rfl rfl rfl).eq (u := .bool false) rfl) rfl (want_some rfl rfl rfl) rfl rfl ?_
  refine oq (y_pickF rfl rfl rfl) rfl wn rfl rfl ?_
  refine qm rfl rfl rfl ?_
  refine oq (y_move rfl rfl) rfl (want_some rfl rfl rfl) rfl rfl ?_
  refine oq ((y_neq rfl rfl rfl).eq (u := .bool false) rfl) rfl (want_some rfl rfl rfl) rfl rfl ?_
  refine oq (y_pickF rfl rfl rfl) rfl wn rfl rfl ?_
  refine qm rfl rfl rfl ?_
  refine oq (y_move rfl rfl) rfl (want_some rfl rfl rfl) rfl rfl ?_
  refine oq ((y_neq rfl rfl rfl).eq (u := .bool false) rfl) rfl (want_some rfl rfl rfl) rfl rfl ?_
  refine oq (y_pickF rfl rfl rfl) rfl wn rfl rfl ?_
  refine qm rfl rfl rfl ?_
  refine oq (yldW rfl rfl) rfl (want_some rfl rfl rfl) rfl rfl ?_
  refine oq (y_build (parts := [⟨_, _⟩, ⟨_, _⟩]) (cs := #[I 4, I 6]) rfl rfl rfl) rfl (want_some rfl rfl rfl) rfl rfl ?_
  refine oq (Yv.eq (u := .bool false) (y_neA [4, 6] [4, 6] rfl rfl rfl rfl rfl rfl rfl) rfl) rfl (want_some rfl rfl rfl) rfl rfl ?_
  refine oq (y_pickF rfl rfl rfl) rfl wn rfl rfl ?_
  refine qm rfl rfl rfl ?_
  refine oq (y_move rfl rfl) rfl (want_some rfl rfl rfl) rfl rfl ?_
  refine Ops.bsl (cs := #[I 0, I 2]) (fun d0 => ?_) rfl
  refine Ops.bsl (cs := #[I 0, I 5]) (fun d1 => ?_) rfl
  refine Ops.bsl (cs := #[I 0, I 8]) (fun d2 => ?_) rfl
  refine Ops.bsl (cs := #[I 1, I 4]) (fun d3 => ?_) rfl
  refine Ops.bsl (cs := #[I 1, I 5]) (fun d4 => ?_) rfl
  refine Ops.bsl (cs := #[.slice (some ⟨d0, 0, none⟩) 2 2, .slice (some ⟨d1, 0, none⟩) 2 2, .slice (some ⟨d2, 0, none⟩) 2 2, .slice (some ⟨d3, 0, none⟩) 2 2, .slice (some ⟨d4, 0, none⟩) 2 2]) (fun d5 => ?_) rfl
  refine cp (u := .bool true) (fun h' hE hL => ?_) ?_ (hw := want_some rfl rfl rfl)
  · have h0 : ∀ {α : Type} {b : Nat} {o : Obj} (q : (b, o) ∈ N ++ C), h' b = some o := fun q => hL _ _ (.tail _ (.tail _ (.tail _ (.tail _ (.tail _ (.tail _ (.tail _ q)))))))
    have := EqLists_fn main h' us [⟨some ⟨d0, 0, none⟩, 2, 2⟩, ⟨some ⟨d1, 0, none⟩, 2, 2⟩, ⟨some ⟨d2, 0, none⟩, 2, 2⟩, ⟨some ⟨d3, 0, none⟩, 2, 2⟩, ⟨some ⟨d4, 0, none⟩, 2, 2⟩] [[0, 2], [0, 5], [0, 8], [1, 4], [1, 5]] [[0, 2], [0, 5], [0, 8], [1, 4], [1, 5]] (.slice ua us.length uc) (.slice (some ⟨d5, 0, none⟩) 5 5) (hN.sl fun b o hb => h0 (α := Nat) (List.mem_append_left _ hb)) (Sl.mk (hL d5 _ (.head _)) rfl (Part.all _)) (fun k s g hs hg => hC.sl (fun b o hb => h0 (α := Nat) (List.mem_append_right _ hb)) hs hg) (fun k s g hs hg => ?_) hC.len rfl (by rw [hC.len]; decide) (by decide)
    · rw [decide_eq_true rfl] at this
      exact this
    · rcases k with _ | _ | _ | _ | _ | k
      · cases hs; cases hg; exact Sl.mk (hL d0 _ (List.mem_of_getElem? (i := 5) rfl)) rfl (Part.all _)
      · cases hs; cases hg; exact Sl.mk (hL d1 _ (List.mem_of_getElem? (i := 4) rfl)) rfl (Part.all _)
      · cases hs; cases hg; exact Sl.mk (hL d2 _ (List.mem_of_getElem? (i := 3) rfl)) rfl (Part.all _)
      · cases hs; cases hg; exact Sl.mk (hL d3 _ (List.mem_of_getElem? (i := 2) rfl)) rfl (Part.all _)
      · cases hs; cases hg; exact Sl.mk (hL d4 _ (List.mem_of_getElem? (i := 1) rfl)) rfl (Part.all _)
      · simp at hs
  refine oq (y_not rfl rfl) rfl (want_some rfl rfl rfl) rfl rfl ?_
  refine oq (y_pickF rfl rfl rfl) rfl wn rfl rfl ?_
  refine Ops.nil <| thn_n ?_
  refine W.condF ?_
  refine W.skip <| thn_n ?_
  refine W.sb (F' := []) (Sb.nil (by repeat (first | exact Shut.nil | exact hN.shut.app hC.shut | refine Shut.cons rfl ?_))) ?_
  refine W.seq <| W.region rfl ?_
  first | refine oq (yldW rfl rfl) rfl wn rfl rfl ?_ | refine oq (yldA rfl rfl) rfl wn rfl rfl ?_
  refine c0 (fun h' hE hL => Best_fn _ hS hmb h' (exF 1) (exS 4) _ _ Eg zg (htf.ext hE) (hts.ext hE) (ztf.ext hE) (zts.ext hE) (hE.1 _ _ hg0) (hE.2 _ hz0)) (fun v A' hv => ?_)
  rw [kn23] at hv
  obtain ⟨ub, SB, rfl, hOB, hsbB⟩ := hv
  obtain ⟨ba, bc, rfl⟩ := hOB.isSl
  refine Ops.sb (hsbB.app .refl) ?_
  refine qm rfl rfl rfl <| oq (y_extract rfl rfl rfl) rfl wn rfl rfl <| oq (y_extract rfl rfl rfl) rfl wn rfl rfl <| oq (y_extract rfl rfl rfl) rfl wn rfl rfl <| qs rfl rfl rfl <| qs rfl rfl rfl <| qs rfl rfl rfl <| Ops.nil <| thn_n <| W.seq ?_
  refine W.region rfl ?_
  first | refine oq (yldW rfl rfl) rfl wn rfl rfl ?_ | refine oq (yldA rfl rfl) rfl wn rfl rfl ?_
  refine cp (u := .tuple #[I 3, I 0]) (fun h' hE hL => ?_) ?_
  · have := Count_fn main hS hmb h' (exF 1) (exS 6) _ _ Eg zg (hsf.ext hE) (hss.ext hE) (zsf.ext hE) (zss.ext hE) (hE.1 _ _ hg0) (hE.2 _ hz0)
    rw [kn24] at this
    exact this
  refine qm rfl rfl rfl <| oq (y_extract rfl rfl rfl) rfl wn rfl rfl <| oq (y_extract rfl rfl rfl) rfl wn rfl rfl <| qs rfl rfl rfl <| qs rfl rfl rfl <| Ops.nil <| thn_n <| W.seq <| W.region rfl ?_
  first | refine oq (yldW rfl rfl) rfl wn rfl rfl ?_ | refine oq (yldA rfl rfl) rfl wn rfl rfl ?_
  refine cp (u := .tuple #[I (-1), I 0]) (fun h' hE hL => ?_) ?_
  · have := Late_fn main h' (exF 1) (exS 6) _ _ Eg zg (hsf.ext hE) (hss.ext hE) (hE.1 _ _ hg0)
    rw [kn1, if_neg (by decide), kn25] at this
    exact this
  refine qm rfl rfl rfl <| oq (y_extract rfl rfl rfl) rfl wn rfl rfl <| oq (y_extract rfl rfl rfl) rfl wn rfl rfl <| qs rfl rfl rfl <| qs rfl rfl rfl <| Ops.nil <| thn_n <| W.seq <| W.region rfl ?_
  first | refine oq (yldW rfl rfl) rfl wn rfl rfl ?_ | refine oq (yldA rfl rfl) rfl wn rfl rfl ?_
  refine cp (u := .tuple #[I 3, I 0]) (fun h' hE hL => ?_) ?_
  · have := Late_fn main h' (exF 1) (exS 4) _ _ Eg zg (htf.ext hE) (hts.ext hE) (hE.1 _ _ hg0)
    rw [kn26c, if_neg (by decide), kn26] at this
    exact this
  refine qm rfl rfl rfl <| oq (y_extract rfl rfl rfl) rfl wn rfl rfl <| oq (y_extract rfl rfl rfl) rfl wn rfl rfl <| qs rfl rfl rfl <| qs rfl rfl rfl <| Ops.nil <| thn_n <| W.seq <| W.region rfl ?_
  first | refine oq (yldW rfl rfl) rfl wn rfl rfl ?_ | refine oq (yldA rfl rfl) rfl wn rfl rfl ?_
  refine cp (u := .tuple #[I 1, I 0]) (fun h' hE hL => ?_) ?_
  · have := Verdict_fn main hS hmb h' (exF 1) (exS 4) 0 _ _ Eg zg (htf.ext hE) (hts.ext hE) (ztf.ext hE) (zts.ext hE) kn26c (by decide) (hE.1 _ _ hg0) (hE.2 _ hz0)
    rw [kn27] at this
    exact this
  refine qm rfl rfl rfl <| oq (y_extract rfl rfl rfl) rfl wn rfl rfl <| oq (y_extract rfl rfl rfl) rfl wn rfl rfl <| qs rfl rfl rfl <| qs rfl rfl rfl <| Ops.nil <| thn_n <| W.seq <| W.region rfl ?_
  first | refine oq (yldW rfl rfl) rfl wn rfl rfl ?_ | refine oq (yldA rfl rfl) rfl wn rfl rfl ?_
  refine cp (u := .tuple #[I 3, I 0]) (fun h' hE hL => ?_) ?_
  · have := Verdict_fn main hS hmb h' (exF 1) (exS 4) 1 _ _ Eg zg (htf.ext hE) (hts.ext hE) (ztf.ext hE) (zts.ext hE) kn26c (by decide) (hE.1 _ _ hg0) (hE.2 _ hz0)
    rw [kn28] at this
    exact this
  refine qm rfl rfl rfl <| oq (y_extract rfl rfl rfl) rfl wn rfl rfl <| oq (y_extract rfl rfl rfl) rfl wn rfl rfl <| qs rfl rfl rfl <| qs rfl rfl rfl <| Ops.nil <| thn_n <| W.seq <| W.region rfl ?_
  first | refine oq (yldW rfl rfl) rfl wn rfl rfl ?_ | refine oq (yldA rfl rfl) rfl wn rfl rfl ?_
  refine cp (u := .tuple #[I 3, I 0]) (fun h' hE hL => ?_) ?_
  · have := Verdict_fn main hS hmb h' (exF 1) (exS 4) 3 _ _ Eg zg (htf.ext hE) (hts.ext hE) (ztf.ext hE) (zts.ext hE) kn26c (by decide) (hE.1 _ _ hg0) (hE.2 _ hz0)
    rw [kn29] at this
    exact this
  refine qm rfl rfl rfl <| oq (y_extract rfl rfl rfl) rfl wn rfl rfl <| oq (y_extract rfl rfl rfl) rfl wn rfl rfl <| qs rfl rfl rfl <| qs rfl rfl rfl <| Ops.nil <| thn_n <| W.seq <| W.seq <| W.region rfl ?_
  refine qm rfl rfl rfl ?_
  refine oq ((y_neq rfl rfl rfl).eq (u := .bool false) rfl) rfl wn rfl rfl ?_
  refine qm rfl rfl rfl ?_
  refine oq (y_move rfl rfl) rfl (want_some rfl rfl rfl) rfl rfl ?_
  refine oq ((y_neq rfl rfl rfl).eq (u := .bool false) rfl) rfl (want_some rfl rfl rfl) rfl rfl ?_
  refine oq (y_pickF rfl rfl rfl) rfl wn rfl rfl ?_
  refine qm rfl rfl rfl ?_
  refine oq (y_move rfl rfl) rfl (want_some rfl rfl rfl) rfl rfl ?_
  refine oq ((y_neq rfl rfl rfl).eq (u := .bool false) rfl) rfl (want_some rfl rfl rfl) rfl rfl ?_
  refine oq (y_pickF rfl rfl rfl) rfl wn rfl rfl ?_
  refine qm rfl rfl rfl ?_
  refine oq (y_move rfl rfl) rfl (want_some rfl rfl rfl) rfl rfl ?_
  refine oq ((y_neq rfl rfl rfl).eq (u := .bool false) rfl) rfl (want_some rfl rfl rfl) rfl rfl ?_
  refine oq (y_pickF rfl rfl rfl) rfl wn rfl rfl ?_
  refine qm rfl rfl rfl ?_
  refine oq (y_move rfl rfl) rfl (want_some rfl rfl rfl) rfl rfl ?_
  refine oq ((y_neq rfl rfl rfl).eq (u := .bool false) rfl) rfl (want_some rfl rfl rfl) rfl rfl ?_
  refine oq (y_pickF rfl rfl rfl) rfl wn rfl rfl ?_
  refine qm rfl rfl rfl ?_
  refine oq (y_move rfl rfl) rfl (want_some rfl rfl rfl) rfl rfl ?_
  refine oq ((y_neq rfl rfl rfl).eq (u := .bool false) rfl) rfl (want_some rfl rfl rfl) rfl rfl ?_
  refine oq (y_pickF rfl rfl rfl) rfl wn rfl rfl ?_
  refine qm rfl rfl rfl ?_
  refine oq (y_move rfl rfl) rfl (want_some rfl rfl rfl) rfl rfl ?_
  refine oq ((y_neq rfl rfl rfl).eq (u := .bool false) rfl) rfl (want_some rfl rfl rfl) rfl rfl ?_
  refine oq (y_pickF rfl rfl rfl) rfl wn rfl rfl ?_
  refine qm rfl rfl rfl ?_
  refine oq (y_move rfl rfl) rfl (want_some rfl rfl rfl) rfl rfl ?_
  refine oq ((y_neq rfl rfl rfl).eq (u := .bool false) rfl) rfl (want_some rfl rfl rfl) rfl rfl ?_
  refine oq (y_pickF rfl rfl rfl) rfl wn rfl rfl ?_
  refine qm rfl rfl rfl ?_
  refine oq (y_move rfl rfl) rfl (want_some rfl rfl rfl) rfl rfl ?_
  refine oq ((y_neq rfl rfl rfl).eq (u := .bool false) rfl) rfl (want_some rfl rfl rfl) rfl rfl ?_
  refine oq (y_pickF rfl rfl rfl) rfl wn rfl rfl ?_
  refine qm rfl rfl rfl ?_
  refine oq (y_move rfl rfl) rfl (want_some rfl rfl rfl) rfl rfl ?_
  refine oq ((y_neq rfl rfl rfl).eq (u := .bool false) rfl) rfl (want_some rfl rfl rfl) rfl rfl ?_
  refine oq (y_pickF rfl rfl rfl) rfl wn rfl rfl ?_
  refine qm rfl rfl rfl ?_
  refine oq (y_move rfl rfl) rfl (want_some rfl rfl rfl) rfl rfl ?_
  refine oq ((y_neq rfl rfl rfl).eq (u := .bool false) rfl) rfl (want_some rfl rfl rfl) rfl rfl ?_
  refine oq (y_pickF rfl rfl rfl) rfl wn rfl rfl ?_
  refine qm rfl rfl rfl ?_
  refine oq (y_move rfl rfl) rfl (want_some rfl rfl rfl) rfl rfl ?_
  refine oq ((y_neq rfl rfl rfl).eq (u := .bool false) rfl) rfl (want_some rfl rfl rfl) rfl rfl ?_
  refine oq (y_pickF rfl rfl rfl) rfl wn rfl rfl ?_
  refine qm rfl rfl rfl ?_
  refine oq (y_move rfl rfl) rfl (want_some rfl rfl rfl) rfl rfl ?_
  refine oq ((y_neq rfl rfl rfl).eq (u := .bool false) rfl) rfl (want_some rfl rfl rfl) rfl rfl ?_
  refine oq (y_pickF rfl rfl rfl) rfl wn rfl rfl ?_
  refine qm rfl rfl rfl ?_
  refine oq (y_move rfl rfl) rfl (want_some rfl rfl rfl) rfl rfl ?_
  refine oq ((y_neq rfl rfl rfl).eq (u := .bool false) rfl) rfl (want_some rfl rfl rfl) rfl rfl ?_
  refine oq (y_pickF rfl rfl rfl) rfl wn rfl rfl ?_
  refine qm rfl rfl rfl ?_
  refine oq (y_move rfl rfl) rfl (want_some rfl rfl rfl) rfl rfl ?_
  refine oq (y_build (parts := []) (cs := #[I 0, I 0]) rfl rfl rfl) rfl (want_some rfl rfl rfl) rfl rfl ?_
  refine cp (u := .agg #[I (-1), I 0]) (fun h' hE hL => none_fn _ h') ?_ (hw := want_some rfl rfl rfl)
  refine oq (y_build (parts := [⟨_, _⟩]) (cs := #[I 0, I 3]) rfl rfl rfl) rfl (want_some rfl rfl rfl) rfl rfl ?_
  refine oq (y_build (parts := [⟨_, _⟩, ⟨_, _⟩]) (cs := #[I 1, I 4]) rfl rfl rfl) rfl (want_some rfl rfl rfl) rfl rfl ?_
  refine Ops.bsl (cs := (flat Be.row [⟨0, 0⟩, ⟨-1, 0⟩, ⟨0, 3⟩, ⟨1, 4⟩]).toArray) (fun q33 => ?_) rfl (hf := by kernel_rfl)
  refine cp (u := .bool true) (fun h' hE hL => ?_) ?_ (hw := want_some rfl rfl rfl)
  · exact EqBerths_fn main h' [⟨0, 0⟩, ⟨-1, 0⟩, ⟨0, 3⟩, ⟨1, 4⟩] [⟨0, 0⟩, ⟨-1, 0⟩, ⟨0, 3⟩, ⟨1, 4⟩] _ _ (hOB.sl fun b o hb => hL b o (.tail _ (List.mem_append_left _ hb))) (exSl (hL q33 _ (.head _)) rfl) (by decide)
  refine oq (y_not rfl rfl) rfl (want_some rfl rfl rfl) rfl rfl ?_
  refine oq (y_pickF rfl rfl rfl) rfl wn rfl rfl ?_
  refine Ops.nil <| thn_n ?_
  refine W.condF ?_
  refine W.skip <| thn_n ?_
  refine W.sb (F' := []) (Sb.nil (by repeat (first | exact Shut.nil | refine Shut.cons rfl ?_ | refine Shut.app hOB.shut ?_ | exact hOB.shut))) ?_
  refine W.seq <| W.region rfl ?_
  first | refine oq (yldW rfl rfl) rfl wn rfl rfl ?_ | refine oq (yldA rfl rfl) rfl wn rfl rfl ?_
  refine cp (u := .tuple #[I 0, I 0]) (fun h' hE hL => ?_) ?_
  · have := Patience_fn main h' (exF 1) (exS 6) _ _ Eg zg (hsf.ext hE) (hss.ext hE) (hE.1 _ _ hg0)
    rw [kn30] at this
    exact this
  refine qm rfl rfl rfl <| oq (y_extract rfl rfl rfl) rfl wn rfl rfl <| oq (y_extract rfl rfl rfl) rfl wn rfl rfl <| qs rfl rfl rfl <| qs rfl rfl rfl <| Ops.nil <| thn_n <| W.seq <| W.region rfl ?_
  first | refine oq (yldW rfl rfl) rfl wn rfl rfl ?_ | refine oq (yldA rfl rfl) rfl wn rfl rfl ?_
  refine cp (u := .tuple #[I 0, I 11]) (fun h' hE hL => ?_) ?_
  · have := Patience_fn main h' (exF 0) (exS 6) _ _ Eg zg (hwf.ext hE) (hws.ext hE) (hE.1 _ _ hg0)
    rw [kn31] at this
    exact this
  refine qm rfl rfl rfl <| oq (y_extract rfl rfl rfl) rfl wn rfl rfl <| oq (y_extract rfl rfl rfl) rfl wn rfl rfl <| qs rfl rfl rfl <| Ops.nil <| thn_n <| W.seq <| W.region rfl ?_
  first | refine oq (yldW rfl rfl) rfl wn rfl rfl ?_ | refine oq (yldA rfl rfl) rfl wn rfl rfl ?_
  refine cp (u := .tuple #[I 4, I 0]) (fun h' hE hL => ?_) ?_
  · have := Need_fn main h' (exF 1) (exS 6) 0 _ _ Eg zg (hsf.ext hE) (hss.ext hE) kn1 (by decide) (hE.1 _ _ hg0)
    rw [kn32] at this
    exact this
  refine qm rfl rfl rfl <| oq (y_extract rfl rfl rfl) rfl wn rfl rfl <| oq (y_extract rfl rfl rfl) rfl wn rfl rfl <| qs rfl rfl rfl <| qs rfl rfl rfl <| Ops.nil <| thn_n <| W.seq <| W.region rfl ?_
  first | refine oq (yldW rfl rfl) rfl wn rfl rfl ?_ | refine oq (yldA rfl rfl) rfl wn rfl rfl ?_
  refine cp (u := .tuple #[I 2, I 0]) (fun h' hE hL => ?_) ?_
  · have := Need_fn main h' (exF 1) (exS 6) 1 _ _ Eg zg (hsf.ext hE) (hss.ext hE) kn1 (by decide) (hE.1 _ _ hg0)
    rw [kn33] at this
    exact this
  refine qm rfl rfl rfl <| oq (y_extract rfl rfl rfl) rfl wn rfl rfl <| oq (y_extract rfl rfl rfl) rfl wn rfl rfl <| qs rfl rfl rfl <| qs rfl rfl rfl <| Ops.nil <| thn_n <| W.seq <| W.region rfl ?_
  first | refine oq (yldW rfl rfl) rfl wn rfl rfl ?_ | refine oq (yldA rfl rfl) rfl wn rfl rfl ?_
  refine cp (u := .tuple #[I 4, I 0]) (fun h' hE hL => ?_) ?_
  · have := Need_fn main h' (exF 1) (exS 4) 1 _ _ Eg zg (htf.ext hE) (hts.ext hE) kn26c (by decide) (hE.1 _ _ hg0)
    rw [kn34] at this
    exact this
  refine qm rfl rfl rfl <| oq (y_extract rfl rfl rfl) rfl wn rfl rfl <| oq (y_extract rfl rfl rfl) rfl wn rfl rfl <| qs rfl rfl rfl <| qs rfl rfl rfl <| Ops.nil <| thn_n <| W.seq <| W.region rfl ?_
  first | refine oq (yldW rfl rfl) rfl wn rfl rfl ?_ | refine oq (yldA rfl rfl) rfl wn rfl rfl ?_
  refine cp (u := .tuple #[I 0, I 0]) (fun h' hE hL => ?_) ?_
  · have := Slower_fn main hS hmb h' (exF 1) (exS 6) 0 _ _ Eg zg (hsf.ext hE) (hss.ext hE) (zsf.ext hE) (zss.ext hE) kn1 (by decide) (hE.1 _ _ hg0) (hE.2 _ hz0)
    rw [show ((0 : Nat) : Int) = 0 from rfl, kn35] at this
    exact this
  refine qm rfl rfl rfl <| oq (y_extract rfl rfl rfl) rfl wn rfl rfl <| oq (y_extract rfl rfl rfl) rfl wn rfl rfl <| qs rfl rfl rfl <| qs rfl rfl rfl <| Ops.nil <| thn_n <| W.seq <| W.region rfl ?_
  first | refine oq (yldW rfl rfl) rfl wn rfl rfl ?_ | refine oq (yldA rfl rfl) rfl wn rfl rfl ?_
  refine cp (u := .tuple #[I 1, I 0]) (fun h' hE hL => ?_) ?_
  · have := Slower_fn main hS hmb h' (exF 1) (exS 6) 1 _ _ Eg zg (hsf.ext hE) (hss.ext hE) (zsf.ext hE) (zss.ext hE) kn1 (by decide) (hE.1 _ _ hg0) (hE.2 _ hz0)
    rw [show ((1 : Nat) : Int) = 1 from rfl, kn36] at this
    exact this
  refine qm rfl rfl rfl <| oq (y_extract rfl rfl rfl) rfl wn rfl rfl <| oq (y_extract rfl rfl rfl) rfl wn rfl rfl <| qs rfl rfl rfl <| qs rfl rfl rfl <| Ops.nil <| thn_n <| W.seq <| W.region rfl <| qm rfl rfl rfl ?_
  refine oq ((y_eql rfl rfl rfl).eq (u := .bool true) rfl) rfl wn rfl rfl ?_
  refine qm rfl rfl rfl ?_
  refine oq (y_move rfl rfl) rfl (want_some rfl rfl rfl) rfl rfl ?_
  refine oq ((y_eql rfl rfl rfl).eq (u := .bool true) rfl) rfl (want_some rfl rfl rfl) rfl rfl ?_
  refine oq (y_pickT rfl rfl rfl) rfl wn rfl rfl ?_
  refine qm rfl rfl rfl ?_
  refine oq (y_move rfl rfl) rfl (want_some rfl rfl rfl) rfl rfl ?_
  refine oq ((y_eql rfl rfl rfl).eq (u := .bool true) rfl) rfl (want_some rfl rfl rfl) rfl rfl ?_
  refine oq (y_pickT rfl rfl rfl) rfl wn rfl rfl ?_
  refine qm rfl rfl rfl ?_
  refine oq (y_move rfl rfl) rfl (want_some rfl rfl rfl) rfl rfl ?_
  refine oq ((y_eql rfl rfl rfl).eq (u := .bool true) rfl) rfl (want_some rfl rfl rfl) rfl rfl ?_
  refine oq (y_pickT rfl rfl rfl) rfl wn rfl rfl ?_
  refine qm rfl rfl rfl ?_
  refine oq (y_move rfl rfl) rfl (want_some rfl rfl rfl) rfl rfl ?_
  refine oq ((y_eql rfl rfl rfl).eq (u := .bool true) rfl) rfl (want_some rfl rfl rfl) rfl rfl ?_
  refine oq (y_pickT rfl rfl rfl) rfl wn rfl rfl ?_
  refine qm rfl rfl rfl ?_
  refine oq (y_move rfl rfl) rfl (want_some rfl rfl rfl) rfl rfl ?_
  refine oq ((y_eql rfl rfl rfl).eq (u := .bool true) rfl) rfl (want_some rfl rfl rfl) rfl rfl ?_
  refine oq (y_pickT rfl rfl rfl) rfl wn rfl rfl ?_
  refine qm rfl rfl rfl ?_
  refine oq (y_move rfl rfl) rfl (want_some rfl rfl rfl) rfl rfl ?_
  refine oq ((y_eql rfl rfl rfl).eq (u := .bool true) rfl) rfl (want_some rfl rfl rfl) rfl rfl ?_
  refine oq (y_pickT rfl rfl rfl) rfl wn rfl rfl ?_
  refine qm rfl rfl rfl ?_
  refine oq (y_move rfl rfl) rfl (want_some rfl rfl rfl) rfl rfl ?_
  refine oq ((y_eql rfl rfl rfl).eq (u := .bool true) rfl) rfl (want_some rfl rfl rfl) rfl rfl ?_
  refine oq (y_pickT rfl rfl rfl) rfl wn rfl rfl ?_
  refine qm rfl rfl rfl ?_
  refine oq (y_move rfl rfl) rfl (want_some rfl rfl rfl) rfl rfl ?_
  refine oq ((y_eql rfl rfl rfl).eq (u := .bool true) rfl) rfl (want_some rfl rfl rfl) rfl rfl ?_
  refine oq (y_pickT rfl rfl rfl) rfl wn rfl rfl ?_
  refine qm rfl rfl rfl ?_
  refine oq (y_move rfl rfl) rfl (want_some rfl rfl rfl) rfl rfl ?_
  refine oq ((y_eql rfl rfl rfl).eq (u := .bool true) rfl) rfl (want_some rfl rfl rfl) rfl rfl ?_
  refine oq (y_pickT rfl rfl rfl) rfl wn rfl rfl ?_
  refine qm rfl rfl rfl ?_
  refine oq (y_move rfl rfl) rfl (want_some rfl rfl rfl) rfl rfl ?_
  refine oq ((y_eql rfl rfl rfl).eq (u := .bool true) rfl) rfl (want_some rfl rfl rfl) rfl rfl ?_
  refine oq (y_pickT rfl rfl rfl) rfl wn rfl rfl ?_
  refine qm rfl rfl rfl ?_
  refine oq (y_move rfl rfl) rfl (want_some rfl rfl rfl) rfl rfl ?_
  refine oq ((y_eql rfl rfl rfl).eq (u := .bool true) rfl) rfl (want_some rfl rfl rfl) rfl rfl ?_
  refine oq (y_pickT rfl rfl rfl) rfl wn rfl rfl ?_
  refine qm rfl rfl rfl ?_
  refine oq (y_move rfl rfl) rfl (want_some rfl rfl rfl) rfl rfl ?_
  refine oq ((y_eql rfl rfl rfl).eq (u := .bool true) rfl) rfl (want_some rfl rfl rfl) rfl rfl ?_
  refine oq (y_pickT rfl rfl rfl) rfl wn rfl rfl ?_
  refine qs rfl rfl rfl <| Ops.nil <| thn_n <| W.ret ?_
  exact lvq rfl
end Go.Mus

/- From a law of nothing that answers true to its card. Conditions: as the cards say; over the given program. -/
namespace Go.Mus
open Go.Proofs.YtabnpjbnoedfgaaDoor
set_option maxRecDepth 100000
set_option maxHeartbeats 4000000
section
open Go.ChangeShapes Go.WideShapes Go.RowKit
/-- ████ A LAW OF NOTHING. -/
theorem lift0 {s : ChangeSpec} {f : FuncId} {fn : Func} (os : Go.Os) (started : os.Started) (H : Type) (enc : TypeId × Value → H) (hfn : prog.funcs[f]? = some fn) (hinit : prog.inits.idxOf? f = none) (hp : fn.params.toList = []) (hr : fn.resultTypes.toList = [t_bool]) (hrs : fn.resultTypes.size = 1) (hv : s.vars = [])
    (hs : s.fn H [] = { results := [.lit (.bool true)], args := [] })
    (witness : ∃ (w : World) (tape : Tape) (i : Input), w.os = os ∧ (w.forCall tape i).Shaped prog ∧ i.vars = [] ∧ Input.okWide prog (w.forCall tape i) .any w.heap.size f i ∧
      ((s.pre enc prog fn [] false (w.forCall tape i).memory i.args ∧ laidMetH prog laid0 (w.forCall tape i).memory) ∧ sizedMet enc prog fn (OpenSpec.ofChange s) false (w.forCall tape i).memory i.args) ∧ ({} : Assume).holds prog (lone (Frame.enter prog f i.args .normal) [] (w.forCall tape i)))
    (T : ∀ (main : Side) (_ : ∀ S, main.ok S → ∃ Fin, S = Mn prog Fin) (_ : main.b = true) (h : Hp) (Eg : TypeId) (zg : Nat × Nat) (_ : h 0 = some (.cells #[rtV t_error] Eg zg)) (_ : h.z 0), TopV prog main f #[] h (.bool true)) :
    ReturnsInLeavingWide {} Go.Proofs.Tryd.checked os f .any (fun w args => (s.pre enc prog fn [] false w args ∧ laidMetH prog laid0 w) ∧ sizedMet enc prog fn (OpenSpec.ofChange s) false w args) (s.post enc prog fn false true false false) := by
  refine returnsInLeavingWide_of_good (C := Go.Proofs.Tryd.checked) own0 started witness ?_
  intro w tape i _ _ _ hok hpre _
  obtain ⟨_, _, _, fn', hfn', _, _, _, _, hval0⟩ := hok
  have e : fn' = fn := Option.some.inj (hfn'.symm.trans hfn)
  subst e
  obtain ⟨⟨⟨ds, gs, before, hw, -⟩, hx⟩, -⟩ := hpre
  have hW := DataW.Whole.of_heap (w' := w.forCall tape i) (by rfl) hw
  have hL : laidMetH prog laid0 (w.forCall tape i) := laidMetH_heap (by rfl) hx
  generalize w.forCall tape i = W at *
  have hW' := hW
  obtain ⟨p, q, hA0, hV, rfl, _, _⟩ := hW
  have hA : DataW.TrodAll enc prog W 0 (fun _ => true) true fn'.params.toList i.args.toList ds p := hA0
  rw [hp] at hA
  obtain ⟨ha, rfl, rfl⟩ := trodAll_nil hA
  have hargs : i.args = #[] := by simpa using ha
  rw [hargs] at hW' ⊢
  rw [hv] at hV
  obtain ⟨rfl, rfl⟩ := trodVars_none hV
  simp only [List.append_nil] at hW'
  obtain ⟨E, z, hg⟩ := handle0 hL
  have hgs : atStart W 0 = some (.cells #[rtV t_error] E z) := atStart_some.2 ⟨hg, rfl⟩
  obtain ⟨M, last, o, w', t', h1, h2, h3, h4⟩ := TopV.run hinit (T (mainS prog (FinOK prog fun v _ => v = .bool true)) (fun S h => ⟨_, h⟩) rfl (atStart W) E z hgs ⟨_, hg, rfl⟩)
  refine ⟨M, last, o, w', t', h1, h2, h3, h4.mono fun v hF => ?_⟩
  obtain ⟨rfl, hk⟩ := hF
  have hb := hk.below
  refine ChangeSpec.post_blind ⟨[], [], [], [], [], [], hW', ?_, ?_, ?_, hb.frame _, fun h => by cases h⟩
  · have hrl : Value.resultList fn'.resultTypes.size (.bool true) = [.bool true] := by rw [hrs]; rfl
    rw [List.append_nil, hs, hrl, hr]; exact trodAll_mk1 (shut_bool under_bool true)
  · rw [List.append_nil, hs, hp]
    exact trodAll_mk0
  · rw [List.append_nil, hs, hv]; rfl
end
end Go.Mus

/- FloorKnown's card. Conditions: as the card says; over the given program. -/
namespace Go.Proofs.YtabnpjbnoedfgaaDoor
open Go Go.Mus
set_option maxRecDepth 100000
set_option maxHeartbeats 4000000
theorem floorKnown_row : Rows.FloorKnownSaid :=
  OpenClaim.holds_of_wide_leaving n_law_FloorKnown F_law_FloorKnown rfl rfl rfl rfl rfl rfl rfl ⟨rfl, rfl, rfl, rfl, rfl⟩ rfl rfl rfl rfl rfl (by kernel_rfl) at_law_FloorKnown (by kernel_rfl)
    (of_decide_eq_true (by kernel_rfl)) (by unfold Func.isWrapper; first | (rw [if_pos (by decide +kernel)]; kernel_rfl) | (rw [if_neg (by decide +kernel)]; exact ⟨rfl, rfl⟩))
    (fun os started H enc _ => lift0 (s := Rows.floorKnownSpec) os started H enc at_law_FloorKnown (by kernel_rfl) (by kernel_rfl) (by kernel_rfl) (by kernel_rfl) rfl rfl
      (ChangeSpec.witness_at (enc := enc) (C := Tryd.checked) (os := os) (X := fun w _ => laidMetH prog laid0 w) false (laidWorld os) #[] 8 rfl (by kernel_rfl) (by kernel_rfl) (by kernel_rfl) (by kernel_rfl) (by kernel_rfl) (laidWorld_met os _))
      (fun main hS hmb h Eg zg hg z0 => FloorKnown_top main hS hmb h Eg zg hg z0))

theorem FloorKnown_card : Rows.FloorKnownCardSaid :=
  tied_goes .later [] [.handle] true (true, "2e2133920f864db8286a366f85eb0bf56b29bab96a3561a4e902e110205c3504") true
    floorKnown_row (fun _ h => by cases h) (by kernel_rfl) (fun _ h => by cases h) floorKnown_row_tie rfl ⟨rfl, rfl⟩ (by kernel_rfl) rfl
    (fun f fn hf hfn => by
      obtain rfl : f = n_law_FloorKnown := (Option.some.inj ((show prog.funcNamed Rows.floorKnownRow.func = some n_law_FloorKnown by kernel_rfl).symm.trans hf)).symm
      obtain rfl : fn = F_law_FloorKnown := (Option.some.inj (at_law_FloorKnown.symm.trans hfn)).symm
      exact ⟨by kernel_rfl, fun j t ht => by
        rw [show (F_law_FloorKnown).params = #[] by kernel_rfl] at ht
        simp at ht⟩)
    (by kernel_rfl)
#print axioms FloorKnown_card
end Go.Proofs.YtabnpjbnoedfgaaDoor
