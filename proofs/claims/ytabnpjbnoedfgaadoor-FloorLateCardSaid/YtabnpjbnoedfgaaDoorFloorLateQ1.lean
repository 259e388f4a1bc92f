/- The strike that is late, asked of the best plans. Conditions: none; over the given program. (And 1 texts more.) -/
import Derived.Test.YtabnpjbnoedfgaaDoorP15
import Derived.Test.YtabnpjbnoedfgaaDoorP13
set_option linter.unusedVariables false
set_option linter.unusedSimpArgs false

/- The strike that is late, asked of the best plans. Conditions: none; over the given program. -/
namespace Go.Mus
set_option maxRecDepth 100000
set_option maxHeartbeats 4000000

theorem FloorLate_top (main : Side) (hS : ∀ S, main.ok S → ∃ Fin, S = Mn prog Fin) (hmb : main.b = true) (h : Hp) (nums : List Int) (lv : Value) (Eg : TypeId) (zg : Nat × Nat) (hl : Sl h rowI lv nums) (hg : h 0 = some (.cells #[rtV t_error] Eg zg)) (z0 : h.z 0) : TopV prog main n_law_FloorLate #[lv] h (.bool true) := by
  refine TopV.of_body at_law_FloorLate rfl (by show 1 ≤ 55; decide) [(0, lv)] ⟨rfl, trivial⟩ ?_
  refine W.seq ?_
  refine W.region rfl ?_
  refine oq (y_assign rfl rfl) rfl wn rfl rfl ?_
  refine Ops.nil ?_
  refine thn_n ?_
  refine W.seq ?_
  refine W.region rfl ?_
  refine oq (y_move rfl rfl) rfl wn rfl rfl ?_
  refine c0 (fun h' hE hL => NewHat_fn _ h' nums lv (hl.ext hE)) (fun v A' hv => ?_)
  obtain ⟨bh, s0, rfl, rfl⟩ := hv
  refine cg (A := [(bh, _)]) .head (fun h' hE hL => PlantOf_fn _ h' nums lv bh s0 4 1 (hl.ext hE) (by decide) (by decide)) (fun v A' hv => ?_)
  obtain ⟨vf, vs, fs, ss, Sf, Ss, k1, s1, rfl, ⟨hOf, hOs⟩, ⟨hck, hn4, hw⟩, -, hsb⟩ := hv
  refine Ops.sb (F' := Sf ++ Ss) ((Sb.skip rfl .refl).trans (hsb.trans (Sb.right .refl .nil))) ?_
  obtain ⟨a, cap, rfl⟩ := hOf.isSl
  obtain ⟨a', cap', rfl⟩ := hOs.isSl
  obtain ⟨h1n, h2n, -, -, -⟩ := ckPlant0 hck
  refine Ops.new (fun β3 => ?_)
  first | refine Ops.stoW ?_ | refine Ops.stoA ?_
  refine Ops.nil ?_
  refine thn_n ?_
  refine W.seq ?_
  refine W.region rfl ?_
  first | refine oq (yldW rfl rfl) rfl wn rfl rfl ?_ | refine oq (yldA rfl rfl) rfl wn rfl rfl ?_
  refine cp (u := .tuple #[I (lateF fs ss), I 0]) (fun h' hE hL => ?_) ?_
  · have := Late_fn main h' fs ss _ _ Eg zg (hOf.sl fun b o hb => hL b o (.tail _ (List.mem_append_left _ hb))) (hOs.sl fun b o hb => hL b o (.tail _ (List.mem_append_right _ hb))) (hE.1 _ _ hg)
    rw [hck, if_neg (by decide)] at this
    exact this
  refine oq (y_move rfl rfl) rfl wn rfl rfl ?_
  refine oq (y_extract rfl rfl rfl) rfl wn rfl rfl ?_
  refine oq (y_extract rfl rfl rfl) rfl wn rfl rfl ?_
  refine oq (y_assign rfl rfl) rfl wn rfl rfl ?_
  refine oq (y_assign rfl rfl) rfl wn rfl rfl ?_
  refine Ops.nil ?_
  refine thn_n ?_
  refine W.seq ?_
  refine W.seq ?_
  refine W.region rfl ?_
  refine oq (y_move rfl rfl) rfl wn rfl rfl ?_
  --abs F
  refine oq ((y_neq rfl rfl rfl).eq (u := .bool false) rfl) rfl wn rfl rfl ?_
  refine Ops.nil ?_
  refine thn_n ?_
  refine W.condF ?_
  refine W.skip ?_
  refine thn_n ?_
  refine W.seq ?_
  refine W.seq ?_
  refine W.region rfl ?_
  refine oq (y_assign rfl rfl) rfl wn rfl rfl ?_
  refine Ops.nil ?_
  refine thn_n ?_
  refine W.block ?_
  refine W.loop (σ := Nat) (fun k => 1 ≤ k ∧ k ≤ ss.length + 1 ∧ ∀ i, i + 1 < k → someR fs ss (lateM i) = true) (fun k => [(6, I k), (4, I (lateF fs ss)), (3, .pointer (some ⟨β3, 0, none⟩))]) (fun _ => (β3, .cells #[.slice a fs.length cap, .slice a' ss.length cap'] t_Plant (0, 0)) :: (Sf ++ Ss)) (fun k => ss.length + 1 - k) 1 ⟨Nat.le_refl _, by omega, fun i hi => by omega⟩ ⟨rfl, rfl, rfl, trivial⟩ .refl ?_
  rintro k ⟨hk1, hk2, hall⟩
  refine W.seq ?_
  refine W.seq ?_
  refine W.region rfl ?_
  refine oq (y_move rfl rfl) rfl wn rfl rfl ?_
  refine oq (y_fieldAddr rfl rfl) rfl wn rfl rfl ?_
  refine oq (yld rfl rfl) rfl wn rfl rfl ?_
  refine oq (y_len rfl rfl) rfl wn rfl rfl ?_
  refine oq (y_leq rfl rfl rfl) rfl wn rfl rfl ?_
  refine Ops.nil ?_
  refine thn_n ?_
  refine W.condp rfl (fun c24 => ?_) (fun c24 => ?_)
  · refine W.skip ?_
    refine thn_n ?_
    refine W.seq ?_
    refine W.block ?_
    refine W.seq ?_
    refine W.region rfl ?_
    first | refine oq (yldW rfl rfl) rfl wn rfl rfl ?_ | refine oq (yldA rfl rfl) rfl wn rfl rfl ?_
    refine c0 (fun h' hE hL => DupPlant_fn _ h' fs ss _ _ (hOf.sl fun b o hb => hL b o (.tail _ (List.mem_append_left _ hb))) (hOs.sl fun b o hb => hL b o (.tail _ (List.mem_append_right _ hb))) (by omega)) (fun v A' hv => ?_)
    obtain ⟨vf2, vs2, Sf2, Ss2, rfl, ⟨hOf2, hOs2⟩, hsb⟩ := hv
    refine Ops.sb (F' := (β3, .cells #[.slice a fs.length cap, .slice a' ss.length cap'] t_Plant (0, 0)) :: ((Sf ++ Ss) ++ (Sf2 ++ Ss2))) (.trans (.of_perm (List.perm_append_comm (l₁ := _ :: (Sf ++ Ss)) (l₂ := Sf2 ++ Ss2))) (hsb.app .refl)) ?_
    obtain ⟨a2, cap2, rfl⟩ := hOf2.isSl
    obtain ⟨a3, cap3, rfl⟩ := hOs2.isSl
    obtain ⟨hsp, hcp⟩ := hOs2.addr
    refine Ops.new (fun β7 => ?_)
    first | refine Ops.stoW ?_ | refine Ops.stoA ?_
    refine Ops.nil ?_
    refine thn_n ?_
    refine W.seq ?_
    refine W.region rfl ?_
    refine oq (y_fieldAddr rfl rfl) rfl wn rfl rfl ?_
    refine oq (yld rfl rfl) rfl wn rfl rfl ?_
    refine oq (y_move rfl rfl) rfl wn rfl rfl ?_
    refine oq (y_sliceHi (m := k) rfl rfl rfl hsp) rfl wn rfl rfl ?_
    refine oq (y_fieldAddr rfl rfl) rfl wn rfl rfl ?_
    refine Ops.sto ?_
    refine Ops.nil ?_
    refine thn_n ?_
    refine W.sb (F' := Sf2 ++ (Ss2 ++ ((β7, .cells #[.slice a2 fs.length cap2, .slice a3 k cap3] t_Plant (0, 0)) :: (β3, .cells #[.slice a fs.length cap, .slice a' ss.length cap'] t_Plant (0, 0)) :: (Sf ++ Ss)))) (.of_perm (by rw [← List.append_assoc]; exact List.perm_append_comm (l₂ := _ :: _ :: (Sf ++ Ss)))) ?_
    refine freezeOs hOf2 (fun hx hEx hslf hzf => ?_)
    refine freezeOs hOs2 (fun hy hEy hsls hzs => ?_)
    refine W.seq ?_
    refine W.region rfl ?_
    first | refine oq (yldW rfl rfl) rfl wn rfl rfl ?_ | refine oq (yldA rfl rfl) rfl wn rfl rfl ?_
    refine cp (fun h' hE hL => served_fn _ hS hmb h' fs (ss.take k) (.slice a2 fs.length cap2) (.slice a3 k cap3) Eg zg (hslf.ext (hEy.trans hE)) (Sl.take (hsls.ext hE) (by omega)) (hzf.ext (hEy.trans hE)) (Zs.take (hzs.ext hE)) (ckPlant_take _ hck) (((hEx.trans hEy).trans hE).1 _ _ hg) (((hEx.trans hEy).trans hE).2 _ z0)) ?_
    refine oq (y_move rfl rfl) rfl wn rfl rfl ?_
    refine oq (y_extract rfl rfl rfl) rfl wn rfl rfl ?_
    refine oq (y_extract rfl rfl rfl) rfl wn rfl rfl ?_
    refine oq (y_assign rfl rfl) rfl wn rfl rfl ?_
    refine oq (y_assign rfl rfl) rfl wn rfl rfl ?_
    refine Ops.nil ?_
    refine thn_n ?_
    refine W.seq ?_
    refine W.seq ?_
    have hsb := some_bound (m := k) hck (by omega) (by omega)
    refine W.region rfl ?_
    refine oq (y_move rfl rfl) rfl wn rfl rfl ?_
    --abs F
    refine oq ((y_not rfl rfl).eq (u := .bool false) rfl) rfl wn rfl rfl ?_
    refine Ops.nil ?_
    refine thn_n ?_
    refine W.condF ?_
    refine W.skip ?_
    refine thn_n ?_
    refine W.seq ?_
    refine W.region rfl ?_
    refine oq (y_move rfl rfl) rfl wn rfl rfl ?_
    refine oq (y_not rfl rfl) rfl wn rfl rfl ?_
    refine Ops.nil ?_
    refine thn_n ?_
    refine W.cond rfl (fun c42 => ?_) (fun c42 => ?_)
    · refine W.seq ?_
      refine W.region rfl ?_
      refine oq (y_move rfl rfl) rfl wn rfl rfl ?_
      refine oq (y_move rfl rfl) rfl wn rfl rfl ?_
      first | refine oq (ysub rfl rfl rfl) rfl wn rfl rfl ?_ | refine oq (y_subw rfl rfl rfl) rfl wn rfl rfl ?_
      --abs T
      have hle : lateF fs ss = ((k - 1 : Nat) : Int) := late_eq (by omega) (by rw [← hsb]; simpa using c42) (fun j hj => hall j (by omega))
      refine oq ((y_eql rfl rfl rfl).eq (u := .bool true) (congrArg Value.bool (decide_eq_true (by omega)))) rfl wn rfl rfl ?_
      refine oq (y_move rfl rfl) rfl wn rfl rfl ?_
      --abs T
      refine cp (fun h' hE hL => exs_fn _ hS hmb h' Eg zg (((hEx.trans hEy).trans hE).1 _ _ hg) (((hEx.trans hEy).trans hE).2 _ z0)) ?_ (hw := want_some rfl rfl rfl)
      refine oq (y_pickT rfl rfl rfl) rfl wn rfl rfl ?_
      refine oq (y_assign rfl rfl) rfl wn rfl rfl ?_
      refine Ops.nil ?_
      refine thn_n ?_
      refine W.ret ?_
      refine blk_r ?_
      refine thn_r ?_
      refine thn_r ?_
      refine blk_r ?_
      refine thn_r ?_
      exact lvq (hs := .cons rfl (.cons rfl (hOf.shut.app hOs.shut))) rfl
    · refine W.skip ?_
      refine blk_n ?_
      refine thn_n ?_
      refine W.region rfl ?_
      refine oq (y_move rfl rfl) rfl wn rfl rfl ?_
      first | refine oq (yadd rfl rfl rfl) rfl wn rfl rfl ?_ | refine oq (y_addw rfl rfl rfl) rfl wn rfl rfl ?_
      refine oq (y_assign rfl rfl) rfl wn rfl rfl ?_
      refine Ops.nil ?_
      refine thn_n ?_
      refine ⟨rfl, k + 1, ⟨by omega, by omega, fun j hj => ?_⟩, by omega, ⟨rfl, rfl, rfl, trivial⟩, .skip rfl .refl⟩
      by_cases e : j = k - 1
      · subst e
        rw [← hsb]; simpa using c42
      · exact hall j (by omega)
  · refine W.exit ?_
    refine thn_x ?_
    refine thn_x ?_
    refine blk_x ?_
    refine thn_n ?_
    refine W.seq ?_
    refine W.region rfl ?_
    refine oq (y_move rfl rfl) rfl wn rfl rfl ?_
    --abs T
    have hle : lateF fs ss = -1 := late_all (fun j hj => hall j (by omega))
    refine oq ((y_eql rfl rfl rfl).eq (u := .bool true) (congrArg Value.bool (decide_eq_true hle))) rfl wn rfl rfl ?_
    refine oq (y_move rfl rfl) rfl wn rfl rfl ?_
    --abs T
    refine cp (fun h' hE hL => exs_fn _ hS hmb h' Eg zg (hE.1 _ _ hg) (hE.2 _ z0)) ?_ (hw := want_some rfl rfl rfl)
    refine oq (y_pickT rfl rfl rfl) rfl wn rfl rfl ?_
    refine oq (y_assign rfl rfl) rfl wn rfl rfl ?_
    refine Ops.nil ?_
    refine thn_n ?_
    refine W.ret ?_
    exact lvq (hs := .cons rfl (hOf.shut.app hOs.shut)) rfl
end Go.Mus

/- FloorLate's card. Conditions: as the card says; over the given program. -/
namespace Go.Proofs.YtabnpjbnoedfgaaDoor
open Go Go.Mus
set_option maxRecDepth 100000
set_option maxHeartbeats 4000000

theorem floorLate_row : Rows.FloorLateSaid :=
  OpenClaim.holds_of_wide_leaving n_law_FloorLate F_law_FloorLate rfl rfl rfl rfl rfl rfl rfl ⟨rfl, rfl, rfl, rfl, rfl⟩ rfl rfl rfl rfl rfl (by kernel_rfl) at_law_FloorLate (by kernel_rfl)
    (of_decide_eq_true (by kernel_rfl)) (by unfold Func.isWrapper; first | (rw [if_pos (by decide +kernel)]; kernel_rfl) | (rw [if_neg (by decide +kernel)]; exact ⟨rfl, rfl⟩))
    (fun os started H enc _ => lift1 (s := Rows.floorLateSpec) os started H enc at_law_FloorLate (by kernel_rfl) (by kernel_rfl) (by kernel_rfl) (by kernel_rfl) (by kernel_rfl) rfl (fun _ => rfl)
      (ChangeSpec.witness_at (enc := enc) (C := Tryd.checked) (os := os) (X := fun w _ => laidMetH prog laid0 w) false (laidWorld os) #[.slice none 0 0] 8 rfl (by kernel_rfl) (by kernel_rfl) (by kernel_rfl) (by kernel_rfl) (by kernel_rfl) (laidWorld_met os _))
      (fun main hS hmb h nums lv Eg zg hl hg z0 => FloorLate_top main hS hmb h nums lv Eg zg hl hg z0))

theorem FloorLate_card : Rows.FloorLateCardSaid :=
  tied_goes .later [] [.handle] true (true, "2e2133920f864db8286a366f85eb0bf56b29bab96a3561a4e902e110205c3504") true
    floorLate_row (fun _ h => by cases h) (by kernel_rfl) (fun _ h => by cases h) floorLate_row_tie rfl ⟨rfl, rfl⟩ (by kernel_rfl) rfl
    (fun f fn hf hfn => by
      obtain rfl : f = n_law_FloorLate := (Option.some.inj ((show prog.funcNamed Rows.floorLateRow.func = some n_law_FloorLate by kernel_rfl).symm.trans hf)).symm
      obtain rfl : fn = F_law_FloorLate := (Option.some.inj (at_law_FloorLate.symm.trans hfn)).symm
      exact ⟨by kernel_rfl, fun j t ht => by
        rw [show (F_law_FloorLate).params = #[t_sl_int] by kernel_rfl] at ht
        have h3 : t = t_sl_int := by
          rcases j with _ | j
          · simpa using ht.symm
          · simp at ht
        subst h3
        exact (show prog.wantsStandIn t_sl_int = false by kernel_rfl)⟩)
    (by kernel_rfl)
#print axioms FloorLate_card
end Go.Proofs.YtabnpjbnoedfgaaDoor
