/- With how much slower a floor the loaves are as many. Conditions: none; over the given program. (And 1 texts more.) -/
import Derived.Test.YtabnpjbnoedfgaaDoorFloorSlowerQ1
import Derived.Test.YtabnpjbnoedfgaaDoorP13
set_option linter.unusedVariables false
set_option linter.unusedSimpArgs false

/- With how much slower a floor the loaves are as many. Conditions: none; over the given program. -/
namespace Go.Mus
set_option maxRecDepth 100000
set_option maxHeartbeats 4000000

section
variable {x : Cx} {ρ : Env} {S : Frag → Prop} {o : Oper}
theorem tr_eqB {P : Program} {t : TypeId} [TD P t .bool] (n : Nat) {a b : Bool} {h : Hp} {F : Frag} {β : Type} {f : Bool → Sem β} {Q : β → Frag → Prop} : tr P h ((Op.equalIn (n + 1) t (.bool a) (.bool b)).bind f) F Q = tr P h (f (a == b)) F Q := by
  simp only [Op.equalIn, bind_eq, pure_eq, bind_assoc, bind_pure, trb_underlying, if_true]
theorem y_neBB {t t' : TypeId} {y z : Operand} {a b : Bool} (ho : o.op = .binOp .neq t y z t') [TD x.P t .bool] (hy : ev ρ y = some (.bool a)) (hz : ev ρ z = some (.bool b)) : Yv x S ρ o (.bool (!(a == b))) := fun e he F hF h' hE => by
  have hg : eqGuard .neq t y z (.bool a) (.bool b) = .pure () := by unfold eqGuard; split <;> rfl
  simp only [execOp, ho, he y _ hy, he z _ hz, hg, bind_eq, pure_eq, bind_assoc, bind_pure, binOp]
  have := @tr_eqB x.P t _ 9999 a b h' F Next (fun r => Sem.pure (Next.value (.bool !r))) (fun nx F' => nx = .value (.bool (!(a == b))) ∧ F' = F)
  refine this.mpr ⟨rfl, rfl⟩
end

theorem bne_iff {A B : Prop} [Decidable A] [Decidable B] (h : A ↔ B) : (!(decide A == decide B)) = false := by
  have e : decide A = decide B := decide_eq_decide.2 h
  rw [e]; cases decide B <;> rfl
theorem find_rev {q : Int → Bool} {lo : Int} : ∀ (m : Nat), (∃ k : Nat, k < m ∧ q (lo + k) = true) → ∃ k : Nat, k < m ∧ (numsN lo m).reverse.find? q = some (lo + k) ∧ q (lo + k) = true ∧ ∀ j : Nat, k < j → j < m → q (lo + j) = false
  | 0, ⟨k, h, _⟩ => by omega
  | m + 1, ⟨k, h, hq⟩ => by
    rw [numsN, List.reverse_append]
    simp only [List.reverse_cons, List.reverse_nil, List.nil_append, List.singleton_append, List.find?_cons]
    cases hm : q (lo + m) with
    | true => exact ⟨m, by omega, rfl, hm, fun j h1 h2 => by omega⟩
    | false =>
      have hkm : k ≠ m := by rintro rfl; rw [hm] at hq; cases hq
      obtain ⟨k', h1, h2, h3, h4⟩ := find_rev (q := q) (lo := lo) m ⟨k, by omega, hq⟩
      refine ⟨k', by omega, h2, h3, fun j h5 h6 => ?_⟩
      by_cases e : j = m
      · subst e; exact hm
      · exact h4 j h5 (by omega)
theorem hi_zero {fs : List Fl} {ss : List St} {f : Nat} (hck : ckPlant fs ss = 0) (hf : f < fs.length) : flS fs f (hiF 0) = fs := by
  have hfl := fl_ok (hall_ck hck) (show (0 : Int) ≤ (f : Int) by omega) (show (f : Int) < fs.length by omega)
  have hx := flAt_some (show (0 : Int) ≤ (f : Int) by omega) (show (f : Int) < fs.length by omega)
  have e : hiF 0 (flAt fs f) = flAt fs f := by
    have : wadd (flAt fs f).hi 0 = (flAt fs f).hi := by rw [wadd_small (by omega) (by omega) (by omega) (by omega)]; omega
    simp only [hiF, this]
  rw [flS, e]
  apply List.ext_getElem?
  intro i
  rw [List.getElem?_set]
  split
  · rename_i h
    rw [if_pos (by omega), ← h, hx]
  · rfl
theorem slow_mono {fs : List Fl} {ss : List St} {f : Nat} {n m : Int} (hck : ckPlant fs ss = 0) (hf : f < fs.length) (h0 : 0 ≤ n) (hnm : n ≤ m) (hm : (flAt fs f).hi + m ≤ 6) : (bestF (flS fs f (hiF m)) ss).1 ≤ (bestF (flS fs f (hiF n)) ss).1 := by
  have hf1 : (0 : Int) ≤ (f : Int) ∧ (f : Int) < fs.length := by omega
  have hfl := fl_ok (hall_ck hck) hf1.1 hf1.2
  have e1 : wadd (flAt fs f).hi n = (flAt fs f).hi + n := wadd_small (by omega) (by omega) (by omega) (by omega)
  have e2 : wadd (flAt fs f).hi m = (flAt fs f).hi + m := wadd_small (by omega) (by omega) (by omega) (by omega)
  refine best_easier (hall_ck (ck_hi hck hf1.1 hf1.2 (by omega))) (hall_ck (ck_hi hck hf1.1 hf1.2 (by omega))) ⟨by simp [flS], fun g g0 g1 => ?_⟩
  simp only [flS, Int.toNat_natCast, flAt_set hf g0]
  split
  · simp only [hiF, e1, e2]; omega
  · exact ⟨Int.le_refl _, Int.le_refl _, Int.le_refl _⟩
theorem slow_spec {fs : List Fl} {ss : List St} {f : Nat} (hck : ckPlant fs ss = 0) (hf : f < fs.length) : 0 ≤ slowV fs ss f ∧ (flAt fs f).hi + slowV fs ss f ≤ 6 ∧ ∀ n : Int, 0 ≤ n → (flAt fs f).hi + n ≤ 6 → ((bestF (flS fs f (hiF n)) ss).1 = (bestF fs ss).1 ↔ n ≤ slowV fs ss f) ∧ (bestF (flS fs f (hiF n)) ss).1 ≤ (bestF fs ss).1 := by
  have hf1 : (0 : Int) ≤ (f : Int) ∧ (f : Int) < fs.length := by omega
  have hfl := fl_ok (hall_ck hck) hf1.1 hf1.2
  have hz := hi_zero hck hf
  obtain ⟨k, h1, h2, h3, h4⟩ := find_rev (q := slowQ fs ss f) (lo := 0) (6 - (flAt fs f).hi + 1 - 0).toNat ⟨0, by omega, by simp only [slowQ]; rw [show ((0 : Int) + ((0 : Nat) : Int)) = 0 from rfl, hz]; simp⟩
  have e : slowV fs ss f = k := by
    rw [slowV, nums, h2]; simp
  have hk : (bestF (flS fs f (hiF k)) ss).1 = (bestF fs ss).1 := by
    have := h3
    simp only [slowQ, decide_eq_true_eq, Int.zero_add] at this
    exact this
  rw [e]
  refine ⟨by omega, by omega, fun n h0 hn => ?_⟩
  have hle := slow_mono hck hf (Int.le_refl 0) h0 hn
  rw [hz] at hle
  refine ⟨⟨fun he => ?_, fun hnk => ?_⟩, hle⟩
  · refine Decidable.byContradiction fun hc => ?_
    obtain ⟨j, rfl⟩ : ∃ j : Nat, n = j := ⟨n.toNat, by omega⟩
    have := h4 j (by omega) (by omega)
    simp only [slowQ, Int.zero_add, he] at this
    simp at this
  · have := slow_mono hck hf h0 hnk (by omega)
    omega

theorem FloorSlower_top (main : Side) (hS : ∀ S, main.ok S → ∃ Fin, S = Mn prog Fin) (hmb : main.b = true) (h : Hp) (nums : List Int) (lv : Value) (Eg : TypeId) (zg : Nat × Nat) (hl : Sl h rowI lv nums) (hg : h 0 = some (.cells #[rtV t_error] Eg zg)) (z0 : h.z 0) : TopV prog main n_law_FloorSlower #[lv] h (.bool true) := by
  refine TopV.of_body at_law_FloorSlower rfl (by show 1 ≤ 108; decide) [(0, lv)] ⟨rfl, trivial⟩ ?_
  refine W.seq ?_
  refine W.region rfl ?_
  refine oq (y_assign rfl rfl) rfl wn rfl rfl ?_
  refine Ops.nil ?_
  refine thn_n ?_
  refine W.seq ?_
  refine W.region rfl ?_
  refine oq (y_move rfl rfl) rfl wn rfl rfl ?_
  refine c0 (fun h' hE hL => NewHat_fn _ h' nums lv (hl.ext hE)) (fun v A' hv => ?_)
  obtain ⟨bh, s0, rfl, rfl⟩ := hv
  refine oq (y_assign rfl rfl) rfl wn rfl rfl ?_
  refine Ops.nil ?_
  refine thn_n ?_
  refine W.seq ?_
  refine W.region rfl ?_
  refine oq (y_move rfl rfl) rfl wn rfl rfl ?_
  refine cg (A := [(bh, _)]) .head (fun h' hE hL => PlantOf_fn _ h' nums lv bh s0 3 1 (hl.ext hE) (by decide) (by decide)) (fun v A' hv => ?_)
  obtain ⟨vf, vs, fs, ss, Sf, Ss, k1, s1, rfl, ⟨hOf, hOs⟩, ⟨hck, hn4, hw⟩, hk100, hsb⟩ := hv
  refine Ops.sb (F' := (bh, hatO lv k1 s1) :: (Sf ++ Ss)) (hsb.trans (Sb.right .refl .nil)) ?_
  obtain ⟨a, cap, rfl⟩ := hOf.isSl
  obtain ⟨a', cap', rfl⟩ := hOs.isSl
  have hnf := (hall_ck hck).nf
  refine Ops.new (fun β4 => ?_)
  first | refine Ops.stoW ?_ | refine Ops.stoA ?_
  refine Ops.nil ?_
  refine thn_n ?_
  refine W.sb (F' := Sf ++ (Ss ++ [(β4, .cells #[.slice a fs.length cap, .slice a' ss.length cap'] t_Plant (0, 0)), (bh, hatO lv k1 s1)])) (.of_perm (by rw [← List.append_assoc]; exact List.perm_append_comm (l₂ := [_, _]))) ?_
  refine freezeOs hOf (fun hx hEx hslf hzf => ?_)
  refine freezeOs hOs (fun hy hEy hsls hzs => ?_)
  refine W.seq ?_
  refine W.region rfl ?_
  refine oq (y_move rfl rfl) rfl wn rfl rfl ?_
  refine oq (y_fieldAddr rfl rfl) rfl wn rfl rfl ?_
  refine oq (yld rfl rfl) rfl wn rfl rfl ?_
  refine oq (y_len rfl rfl) rfl wn rfl rfl ?_
  first | refine oq (ysub rfl rfl rfl) rfl wn rfl rfl ?_ | refine oq (y_subw rfl rfl rfl) rfl wn rfl rfl ?_
  refine cg (A := [(bh, _)]) (.tail .head) (fun h' hE hL => To_fn _ h' nums lv bh k1 s1 ((fs.length : Int) - 1) (hl.ext ((hEx.trans hEy).trans hE)) (by omega) (by omega)) (fun v A' hv => ?_)
  obtain ⟨f, s2, rfl, hf0, hsb2⟩ := hv
  refine Ops.sb (F' := [(β4, .cells #[.slice a fs.length cap, .slice a' ss.length cap'] t_Plant (0, 0))]) (.cons (.trans (.skip rfl .refl) (hsb2.app .refl))) ?_
  obtain ⟨fn, rfl⟩ : ∃ fn : Nat, f = fn := ⟨f.toNat, by omega⟩
  have hfn : fn < fs.length := by omega
  obtain ⟨hsl0, hsl1, hsl2⟩ := slow_spec hck hfn
  have hxf := flAt_some (show (0 : Int) ≤ (fn : Int) by omega) (show (fn : Int) < fs.length by omega)
  rw [Int.toNat_natCast] at hxf
  have hfl := fl_ok (hall_ck hck) (show (0 : Int) ≤ (fn : Int) by omega) (show (fn : Int) < fs.length by omega)
  obtain ⟨x, hxe⟩ : ∃ x, flAt fs fn = x := ⟨_, rfl⟩
  obtain ⟨g, hge⟩ : ∃ g, slowV fs ss fn = g := ⟨_, rfl⟩
  rw [hxe] at hxf hfl hsl1 hsl2
  rw [hge] at hsl0 hsl1 hsl2
  have hslf' := hslf
  obtain ⟨bf, off, c, E, fz, rfl, hb, -, hy1, hz1⟩ := hslf'.at hxf
  have hbx := hEy.1 _ _ hb
  have hc2 : c[off + fn * 4 + 1 + 1]? = some (I x.hi) := hz1 2 (by decide)
  clear hz1
  refine oq (y_assign rfl rfl) rfl wn rfl rfl ?_
  refine Ops.nil ?_
  refine thn_n ?_
  refine W.seq ?_
  refine W.region rfl ?_
  first | refine oq (yldW rfl rfl) rfl wn rfl rfl ?_ | refine oq (yldA rfl rfl) rfl wn rfl rfl ?_
  refine oq (y_move rfl rfl) rfl wn rfl rfl ?_
  refine cp (u := .tuple #[I g, I 0]) (fun h' hE hL => ?_) ?_
  · rw [← hge]; exact Slower_fn main hS hmb h' fs ss fn _ _ Eg zg (hslf.ext (hEy.trans hE)) (hsls.ext hE) (hzf.ext (hEy.trans hE)) (hzs.ext hE) hck hfn (((hEx.trans hEy).trans hE).1 _ _ hg) (((hEx.trans hEy).trans hE).2 _ z0)
  refine oq (y_move rfl rfl) rfl wn rfl rfl ?_
  refine oq (y_extract rfl rfl rfl) rfl wn rfl rfl ?_
  refine oq (y_extract rfl rfl rfl) rfl wn rfl rfl ?_
  refine oq (y_assign rfl rfl) rfl wn rfl rfl ?_
  refine oq (y_assign rfl rfl) rfl wn rfl rfl ?_
  refine Ops.nil ?_
  refine thn_n ?_
  refine W.seq ?_
  refine W.region rfl ?_
  first | refine oq (yldW rfl rfl) rfl wn rfl rfl ?_ | refine oq (yldA rfl rfl) rfl wn rfl rfl ?_
  refine cp (fun h' hE hL => lawloaves_fn main hS hmb h' fs ss _ _ Eg zg (hslf.ext (hEy.trans hE)) (hsls.ext hE) (hzf.ext (hEy.trans hE)) (hzs.ext hE) hck (((hEx.trans hEy).trans hE).1 _ _ hg) (((hEx.trans hEy).trans hE).2 _ z0)) ?_
  refine oq (y_move rfl rfl) rfl wn rfl rfl ?_
  refine oq (y_extract rfl rfl rfl) rfl wn rfl rfl ?_
  refine oq (y_extract rfl rfl rfl) rfl wn rfl rfl ?_
  refine oq (y_assign rfl rfl) rfl wn rfl rfl ?_
  refine oq (y_assign rfl rfl) rfl wn rfl rfl ?_
  refine Ops.nil ?_
  refine thn_n ?_
  refine W.seq ?_
  refine W.seq ?_
  refine W.region rfl ?_
  refine oq (y_move rfl rfl) rfl wn rfl rfl ?_
  --abs F
  refine oq ((y_neq rfl rfl rfl).eq (u := .bool false) rfl) rfl wn rfl rfl ?_
  refine oq (y_move rfl rfl) rfl wn rfl rfl ?_
  refine oq (y_move rfl rfl) rfl (want_some rfl rfl rfl) rfl rfl ?_
  --abs F
  refine oq ((y_not rfl rfl).eq (u := .bool false) rfl) rfl (want_some rfl rfl rfl) rfl rfl ?_
  refine oq (y_pickF rfl rfl rfl) rfl wn rfl rfl ?_
  refine oq (y_move rfl rfl) rfl wn rfl rfl ?_
  refine oq (y_move rfl rfl) rfl (want_some rfl rfl rfl) rfl rfl ?_
  --abs F
  refine oq ((y_lss rfl rfl rfl).eq (u := .bool false) (congrArg Value.bool (decide_eq_false (by omega)))) rfl (want_some rfl rfl rfl) rfl rfl ?_
  refine oq (y_pickF rfl rfl rfl) rfl wn rfl rfl ?_
  refine oq (y_move rfl rfl) rfl wn rfl rfl ?_
  refine oq (y_fieldAddr rfl rfl) rfl (want_some rfl rfl rfl) rfl rfl ?_
  refine oq (yld rfl rfl) rfl (want_some rfl rfl rfl) rfl rfl ?_
  refine oq (y_move rfl rfl) rfl (want_some rfl rfl rfl) rfl rfl ?_
  first | refine oq (yix rfl rfl rfl) rfl (want_some rfl rfl rfl) rfl rfl ?_ | refine oq (yixI rfl rfl rfl) rfl (want_some rfl rfl rfl) rfl rfl ?_
  refine oq (y_fieldAddr rfl rfl) rfl (want_some rfl rfl rfl) rfl rfl ?_
  refine oq (y_fieldAddr rfl rfl) rfl (want_some rfl rfl rfl) rfl rfl ?_
  refine oq (yld rfl rfl) rfl (want_some rfl rfl rfl) rfl rfl ?_
  refine oq (y_move rfl rfl) rfl (want_some rfl rfl rfl) rfl rfl ?_
  first | refine oq (yadd rfl rfl rfl) rfl (want_some rfl rfl rfl) rfl rfl ?_ | refine oq (y_addw rfl rfl rfl) rfl (want_some rfl rfl rfl) rfl rfl ?_
  --abs F
  refine oq ((y_gtr rfl rfl rfl).eq (u := .bool false) (congrArg Value.bool (decide_eq_false (by omega)))) rfl (want_some rfl rfl rfl) rfl rfl ?_
  refine oq (y_pickF rfl rfl rfl) rfl wn rfl rfl ?_
  refine Ops.nil ?_
  refine thn_n ?_
  refine W.condF ?_
  refine W.skip ?_
  refine thn_n ?_
  refine W.seq ?_
  refine W.seq ?_
  refine W.region rfl ?_
  refine oq (y_assign rfl rfl) rfl wn rfl rfl ?_
  refine Ops.nil ?_
  refine thn_n ?_
  refine W.block ?_
  refine W.loop (σ := Nat) (fun k => x.hi + k ≤ 7) (fun k => [(10, I k), (8, I (bestF fs ss).1), (6, I g), (5, I fn), (4, .pointer (some ⟨β4, 0, none⟩))]) (fun _ => [(β4, .cells #[.slice (some ⟨bf, off, none⟩) fs.length cap, .slice a' ss.length cap'] t_Plant (0, 0))]) (fun k => 7 - k) 0 (by omega) ⟨rfl, rfl, rfl, rfl, rfl, trivial⟩ .refl ?_
  rintro k hk7
  refine W.seq ?_
  refine W.seq ?_
  refine W.region rfl ?_
  refine oq (y_fieldAddr rfl rfl) rfl wn rfl rfl ?_
  refine oq (yld rfl rfl) rfl wn rfl rfl ?_
  refine oq (y_move rfl rfl) rfl wn rfl rfl ?_
  first | refine oq (yix rfl rfl rfl) rfl wn rfl rfl ?_ | refine oq (yixI rfl rfl rfl) rfl wn rfl rfl ?_
  refine oq (y_fieldAddr rfl rfl) rfl wn rfl rfl ?_
  refine oq (y_fieldAddr rfl rfl) rfl wn rfl rfl ?_
  refine oq (yld rfl rfl) rfl wn rfl rfl ?_
  refine oq (y_move rfl rfl) rfl wn rfl rfl ?_
  first | refine oq (yadd rfl rfl rfl) rfl wn rfl rfl ?_ | refine oq (y_addw rfl rfl rfl) rfl wn rfl rfl ?_
  refine oq (y_leq rfl rfl rfl) rfl wn rfl rfl ?_
  refine Ops.nil ?_
  refine thn_n ?_
  refine W.condp rfl (fun c66 => ?_) (fun c66 => ?_)
  · have hk6 : x.hi + (k : Int) ≤ 6 := by omega
    obtain ⟨hiff, hle⟩ := hsl2 k (by omega) hk6
    refine W.skip ?_
    refine thn_n ?_
    refine W.seq ?_
    refine W.block ?_
    refine W.seq ?_
    refine W.region rfl ?_
    first | refine oq (yldW rfl rfl) rfl wn rfl rfl ?_ | refine oq (yldA rfl rfl) rfl wn rfl rfl ?_
    refine c0 (fun h' hE hL => DupPlant_fn _ h' fs ss _ _ (hslf.ext (hEy.trans hE)) (hsls.ext hE) (by omega)) (fun v A' hv => ?_)
    obtain ⟨vf2, vs2, Sf2, Ss2, rfl, ⟨hOf2, hOs2⟩, hsb3⟩ := hv
    refine Ops.sb (F' := Sf2 ++ (Ss2 ++ [(β4, .cells #[.slice (some ⟨bf, off, none⟩) fs.length cap, .slice a' ss.length cap'] t_Plant (0, 0))])) (by rw [← List.append_assoc]; exact hsb3.app .refl) ?_
    obtain ⟨a2, cap2, rfl⟩ := hOf2.isSl
    obtain ⟨a3, cap3, rfl⟩ := hOs2.isSl
    rcases hOf2 with ⟨hnil, _, _⟩ | ⟨β, c2, cp2, J, hv, rfl, hc1, hcap, hP, hJ⟩
    · rw [hnil] at hnf; simp at hnf
    obtain ⟨rfl, rfl⟩ : a2 = some ⟨β, 0, none⟩ ∧ cap2 = cp2 := by injection hv with e1 e2 e3; exact ⟨e1, e3⟩
    have hsz := (hP.rowE hxf).2
    refine Ops.new (fun β11 => ?_)
    first | refine Ops.stoW ?_ | refine Ops.stoA ?_
    refine Ops.nil ?_
    refine thn_n ?_
    refine W.sb (F' := (β11, .cells #[.slice (some ⟨β, 0, none⟩) fs.length cap2, .slice a3 ss.length cap3] t_Plant (0, 0)) :: (β4, .cells #[.slice (some ⟨bf, off, none⟩) fs.length cap, .slice a' ss.length cap'] t_Plant (0, 0)) :: (((β, .cells c2 t_Floor (0, 0)) :: J) ++ Ss2)) (Sb.of_perm (List.Perm.cons _ ?_)) ?_
    · have := List.perm_append_comm (l₁ := [(β4, .cells #[.slice (some ⟨bf, off, none⟩) fs.length cap, .slice a' ss.length cap'] t_Plant (0, 0))]) (l₂ := ((β, .cells c2 t_Floor (0, 0)) :: J) ++ Ss2)
      rw [List.append_assoc] at this
      exact this
    refine W.seq ?_
    refine W.drawP2 (n := 16) rfl ?_
    refine aq (i := 0) (y_fieldAddr rfl rfl) rfl an rfl rfl ?_
    refine aq (i := 1) (yld rfl rfl) rfl an rfl rfl ?_
    refine aq (i := 2) (y_move rfl rfl) rfl an rfl rfl ?_
    refine aq (i := 3) (y_fieldAddr rfl rfl) rfl an rfl rfl ?_
    refine aq (i := 4) (yld rfl rfl) rfl an rfl rfl ?_
    refine aq (i := 5) (y_move rfl rfl) rfl an rfl rfl ?_
    first | refine aq (i := 6) (yix rfl rfl rfl) rfl an rfl rfl ?_ | refine aq (i := 6) (yixI rfl rfl rfl) rfl an rfl rfl ?_
    refine aq (i := 7) (y_fieldAddr rfl rfl) rfl an rfl rfl ?_
    refine aq (i := 8) (y_fieldAddr rfl rfl) rfl an rfl rfl ?_
    refine aq (i := 9) (yld rfl rfl) rfl an rfl rfl ?_
    refine aq (i := 10) (y_move rfl rfl) rfl an rfl rfl ?_
    first | refine aq (i := 11) (yadd rfl rfl rfl) rfl an rfl rfl ?_ | refine aq (i := 11) (y_addw rfl rfl rfl) rfl an rfl rfl ?_
    first | refine aq (i := 12) (yix rfl rfl rfl) rfl an rfl rfl ?_ | refine aq (i := 12) (yixI rfl rfl rfl) rfl an rfl rfl ?_
    refine aq (i := 13) (y_fieldAddr rfl rfl) rfl an rfl rfl ?_
    refine aq (i := 14) (y_fieldAddr rfl rfl) rfl an rfl rfl ?_
    refine ae (i := 15) rfl an rfl rfl (eS rfl rfl rfl ?_)
    refine ⟨.inr (Keeps.one (.head _) (Keeps.one (.tail _ (.head _)) Keeps.nil)), ?_⟩
    refine az ?_
    refine thn_n ?_
    have hadd : x.hi + (k : Int) = wadd x.hi k := (wadd_small (by omega) (by omega) (by omega) (by omega)).symm
    have hOf3 : Os t_Floor Fl.row (.slice (some ⟨β, 0, none⟩) fs.length cap2) (flS fs fn (hiF k)) ((β, .cells (c2.setIfInBounds (0 + fn * 4 + 1 + 1) (I (x.hi + (k : Int)))) t_Floor (0, 0)) :: J) := by
      refine .inr ⟨β, _, cap2, J, by simp [flS], rfl, by rw [Array.size_setIfInBounds]; exact hc1, by simpa [flS] using hcap, ?_, hJ⟩
      have := hP.setR (hiF k x) 2 (I (x.hi + (k : Int))) (by decide) hxf (by rw [hadd]; rfl)
      rw [show 0 + fn * 4 + 1 + 1 = fn * 4 + 2 by omega, flS, hxe, Int.toNat_natCast]
      exact this
    refine W.sb (F' := ((β, .cells (c2.setIfInBounds (0 + fn * 4 + 1 + 1) (I (x.hi + (k : Int)))) t_Floor (0, 0)) :: J) ++ (Ss2 ++ [(β11, .cells #[.slice (some ⟨β, 0, none⟩) fs.length cap2, .slice a3 ss.length cap3] t_Plant (0, 0)), (β4, .cells #[.slice (some ⟨bf, off, none⟩) fs.length cap, .slice a' ss.length cap'] t_Plant (0, 0))])) (Sb.of_perm ?_) ?_
    · have := List.perm_append_comm (l₁ := ((β, .cells (c2.setIfInBounds (0 + fn * 4 + 1 + 1) (I (x.hi + (k : Int)))) t_Floor (0, 0)) :: J) ++ Ss2) (l₂ := [(β11, .cells #[.slice (some ⟨β, 0, none⟩) fs.length cap2, .slice a3 ss.length cap3] t_Plant (0, 0)), (β4, .cells #[.slice (some ⟨bf, off, none⟩) fs.length cap, .slice a' ss.length cap'] t_Plant (0, 0))])
      rw [List.append_assoc] at this
      exact this
    refine freezeOs hOf3 (fun hx2 hEx2 hslf2 hzf2 => ?_)
    refine freezeOs hOs2 (fun hy2 hEy2 hsls2 hzs2 => ?_)
    have hEall := ((hEx.trans hEy).trans hEx2).trans hEy2
    refine W.seq ?_
    refine W.region rfl ?_
    first | refine oq (yldW rfl rfl) rfl wn rfl rfl ?_ | refine oq (yldA rfl rfl) rfl wn rfl rfl ?_
    refine cp (fun h' hE hL => lawloaves_fn main hS hmb h' (flS fs fn (hiF k)) ss (.slice (some ⟨β, 0, none⟩) fs.length cap2) (.slice a3 ss.length cap3) Eg zg (hslf2.ext (hEy2.trans hE)) (hsls2.ext hE) (hzf2.ext (hEy2.trans hE)) (hzs2.ext hE) (ck_hi hck (by omega) (by omega) (by rw [hxe]; omega)) ((hEall.trans hE).1 _ _ hg) ((hEall.trans hE).2 _ z0)) ?_
    refine oq (y_move rfl rfl) rfl wn rfl rfl ?_
    refine oq (y_extract rfl rfl rfl) rfl wn rfl rfl ?_
    refine oq (y_extract rfl rfl rfl) rfl wn rfl rfl ?_
    refine oq (y_assign rfl rfl) rfl wn rfl rfl ?_
    refine oq (y_assign rfl rfl) rfl wn rfl rfl ?_
    refine Ops.nil ?_
    refine thn_n ?_
    refine W.seq ?_
    refine W.region rfl ?_
    refine oq (y_move rfl rfl) rfl wn rfl rfl ?_
    --abs F
    refine oq ((y_not rfl rfl).eq (u := .bool false) rfl) rfl wn rfl rfl ?_
    refine oq (y_move rfl rfl) rfl wn rfl rfl ?_
    refine oq (y_move rfl rfl) rfl (want_some rfl rfl rfl) rfl rfl ?_
    refine oq (y_move rfl rfl) rfl (want_some rfl rfl rfl) rfl rfl ?_
    refine oq (y_eql rfl rfl rfl) rfl (want_some rfl rfl rfl) rfl rfl ?_
    refine oq (y_move rfl rfl) rfl (want_some rfl rfl rfl) rfl rfl ?_
    refine oq (y_move rfl rfl) rfl (want_some rfl rfl rfl) rfl rfl ?_
    refine oq (y_leq rfl rfl rfl) rfl (want_some rfl rfl rfl) rfl rfl ?_
    --abs F
    refine oq (Yv.eq (u := .bool false) (y_neBB rfl rfl rfl) (congrArg Value.bool (bne_iff hiff))) rfl (want_some rfl rfl rfl) rfl rfl ?_
    refine oq (y_pickF rfl rfl rfl) rfl wn rfl rfl ?_
    refine oq (y_move rfl rfl) rfl wn rfl rfl ?_
    refine oq (y_move rfl rfl) rfl (want_some rfl rfl rfl) rfl rfl ?_
    refine oq (y_move rfl rfl) rfl (want_some rfl rfl rfl) rfl rfl ?_
    --abs F
    refine oq ((y_gtr rfl rfl rfl).eq (u := .bool false) (congrArg Value.bool (decide_eq_false (by omega)))) rfl (want_some rfl rfl rfl) rfl rfl ?_
    refine oq (y_pickF rfl rfl rfl) rfl wn rfl rfl ?_
    refine Ops.nil ?_
    refine thn_n ?_
    refine W.condF ?_
    refine W.skip ?_
    refine blk_n ?_
    refine thn_n ?_
    refine W.region rfl ?_
    refine oq (y_move rfl rfl) rfl wn rfl rfl ?_
    first | refine oq (yadd rfl rfl rfl) rfl wn rfl rfl ?_ | refine oq (y_addw rfl rfl rfl) rfl wn rfl rfl ?_
    refine oq (y_assign rfl rfl) rfl wn rfl rfl ?_
    refine Ops.nil ?_
    refine thn_n ?_
    exact ⟨rfl, k + 1, by omega, by omega, ⟨rfl, rfl, rfl, rfl, rfl, trivial⟩, .skip rfl .refl⟩
  · refine W.exit ?_
    refine thn_x ?_
    refine thn_x ?_
    refine blk_x ?_
    refine thn_n ?_
    refine W.seq ?_
    refine W.region rfl ?_
    refine cp (fun h' hE hL => exs_fn _ hS hmb h' Eg zg (((hEx.trans hEy).trans hE).1 _ _ hg) (((hEx.trans hEy).trans hE).2 _ z0)) ?_
    refine oq (y_assign rfl rfl) rfl wn rfl rfl ?_
    refine Ops.nil ?_
    refine thn_n ?_
    refine W.ret ?_
    exact lvq rfl
end Go.Mus

/- FloorSlower's card. Conditions: as the card says; over the given program. -/
namespace Go.Proofs.YtabnpjbnoedfgaaDoor
open Go Go.Mus
set_option maxRecDepth 100000
set_option maxHeartbeats 4000000

theorem floorSlower_row : Rows.FloorSlowerSaid :=
  OpenClaim.holds_of_wide_leaving n_law_FloorSlower F_law_FloorSlower rfl rfl rfl rfl rfl rfl rfl ⟨rfl, rfl, rfl, rfl, rfl⟩ rfl rfl rfl rfl rfl (by kernel_rfl) at_law_FloorSlower (by kernel_rfl)
    (of_decide_eq_true (by kernel_rfl)) (by unfold Func.isWrapper; first | (rw [if_pos (by decide +kernel)]; kernel_rfl) | (rw [if_neg (by decide +kernel)]; exact ⟨rfl, rfl⟩))
    (fun os started H enc _ => lift1 (s := Rows.floorSlowerSpec) os started H enc at_law_FloorSlower (by kernel_rfl) (by kernel_rfl) (by kernel_rfl) (by kernel_rfl) (by kernel_rfl) rfl (fun _ => rfl)
      (ChangeSpec.witness_at (enc := enc) (C := Tryd.checked) (os := os) (X := fun w _ => laidMetH prog laid0 w) false (laidWorld os) #[.slice none 0 0] 8 rfl (by kernel_rfl) (by kernel_rfl) (by kernel_rfl) (by kernel_rfl) (by kernel_rfl) (laidWorld_met os _))
      (fun main hS hmb h nums lv Eg zg hl hg z0 => FloorSlower_top main hS hmb h nums lv Eg zg hl hg z0))

theorem FloorSlower_card : Rows.FloorSlowerCardSaid :=
  tied_goes .later [] [.handle] true (true, "2e2133920f864db8286a366f85eb0bf56b29bab96a3561a4e902e110205c3504") true
    floorSlower_row (fun _ h => by cases h) (by kernel_rfl) (fun _ h => by cases h) floorSlower_row_tie rfl ⟨rfl, rfl⟩ (by kernel_rfl) rfl
    (fun f fn hf hfn => by
      obtain rfl : f = n_law_FloorSlower := (Option.some.inj ((show prog.funcNamed Rows.floorSlowerRow.func = some n_law_FloorSlower by kernel_rfl).symm.trans hf)).symm
      obtain rfl : fn = F_law_FloorSlower := (Option.some.inj (at_law_FloorSlower.symm.trans hfn)).symm
      exact ⟨by kernel_rfl, fun j t ht => by
        rw [show (F_law_FloorSlower).params = #[t_sl_int] by kernel_rfl] at ht
        have h3 : t = t_sl_int := by
          rcases j with _ | j
          · simpa using ht.symm
          · simp at ht
        subst h3
        exact (show prog.wantsStandIn t_sl_int = false by kernel_rfl)⟩)
    (by kernel_rfl)
#print axioms FloorSlower_card
end Go.Proofs.YtabnpjbnoedfgaaDoor
