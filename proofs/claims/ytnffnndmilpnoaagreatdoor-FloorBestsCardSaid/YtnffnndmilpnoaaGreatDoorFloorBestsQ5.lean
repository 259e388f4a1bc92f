/- The document's list of all plans. Conditions: none; over the given program. -/
import Derived.Test.YtnffnndmilpnoaaGreatDoorFloorBestsQ4
set_option linter.unusedVariables false
set_option linter.unusedSimpArgs false
set_option linter.unusedSectionVars false

/- The document's list of all plans. Conditions: none; over the given program. -/
namespace Go.Mus
set_option maxRecDepth 100000
set_option maxHeartbeats 40000000
theorem Oss.append {α : Type} {row : α → List Value} {w : Nat} [Rw row w] {E : TypeId} {vs vs' : List Sv} {ls ls' : List (List α)} {A A' : Frag} (h : Oss E row vs ls A) (h' : Oss E row vs' ls' A') : Oss E row (vs ++ vs') (ls ++ ls') (A ++ A') := by
  induction h with
  | nil => exact h'
  | cons h1 _ ih => have := Oss.cons h1 ih; rw [← List.append_assoc] at this; exact this
def PlansSpec (main : Side) (fs : List Fl) (ss : List St) (u : Int) (m : Nat) : Prop := ∀ (h : Hp) (l : List Be) (S : Frag) (vf vs v : Value), Sl h Fl.row vf fs → Sl h St.row vs ss → Os t_Berth Be.row v l S → l.length + m = ss.length → PlanOf fs ss (padB l) →
  Fnc prog main n_ref_Plans #[.agg #[vf, vs], I u, v] h S (fun v' A => ∃ O us B, Os t_sl_Berth rowS v' us O ∧ Oss t_Berth Be.row us (plansF fs ss u m l) B ∧ Sb (O ++ B) A)
def stepG (fs : List Fl) (ss : List St) (u : Int) (m : Nat) (l : List Be) (b : Be) : List (List Be) := if fullL fs ss (l ++ [b]) b.fl then [] else plansF fs ss u m (l ++ [b])
theorem Plans_step (main : Side) (fs : List Fl) (ss : List St) (u : Int) (hall : HallOK fs ss) (m : Nat) (ih : ∀ m', m' < m → PlansSpec main fs ss u m') : PlansSpec main fs ss u m := by
  intro h l S vf vs v hf hs hO hlm hp
  have hns := hall.ns
  have hnf := hall.nf
  obtain ⟨a, cap, rfl⟩ := hf.isSl
  obtain ⟨a', cap', rfl⟩ := hs.isSl
  obtain ⟨al, lc, rfl⟩ := hO.isSl
  refine Fnc.of_body at_ref_Plans rfl (by show 3 ≤ 95; decide) [(0, .agg #[.slice a fs.length cap, .slice a' ss.length cap']), (1, I u), (2, .slice al l.length lc)] ⟨rfl, rfl, rfl, trivial⟩ ?_
  refine W.seq <| W.region rfl ?_
  refine Ops.box (cs := #[.slice a fs.length cap, .slice a' ss.length cap']) (fun β3 => ?_) rfl rfl rfl
  refine qs rfl rfl rfl <| Ops.nil <| thn_n <| W.seq <| W.region rfl <| qm rfl rfl rfl ?_
  refine oq (y_len rfl rfl) rfl wn rfl rfl ?_
  refine qs rfl rfl rfl <| Ops.nil <| thn_n <| W.seq <| W.seq <| W.region rfl <| qm rfl rfl rfl ?_
  refine oq (y_fieldAddr rfl rfl) rfl wn rfl rfl ?_
  refine oq (yld rfl rfl) rfl wn rfl rfl ?_
  refine oq (y_len rfl rfl) rfl wn rfl rfl ?_
  refine oq (y_eql rfl rfl rfl) rfl wn rfl rfl ?_
  refine Ops.nil <| thn_n ?_
  refine W.condp rfl (fun c18 => ?_) (fun c18 => ?_)
  · have hm : m = 0 := by omega
    subst hm
    refine W.seq <| W.region rfl <| qm rfl rfl rfl ?_
    refine Ops.bsl (cs := #[.slice al l.length lc]) (fun β20 => ?_) rfl
    refine qs rfl rfl rfl <| Ops.nil <| thn_n <| W.ret <| thn_r ?_
    exact lvt (vs := [_]) ⟨[(β20, .cells #[.slice al l.length lc] t_sl_Berth (0, 0))], [⟨al, l.length, lc⟩], S ++ [], .inr ⟨β20, _, 1, [], rfl, rfl, rfl, Nat.le_refl _, Part.all _, .nil⟩, Oss.cons (s := ⟨al, l.length, lc⟩) hO .nil, by rw [List.append_nil]; exact .cons (.skip rfl .refl)⟩
  · obtain ⟨m, rfl⟩ : ∃ k, m = k + 1 := ⟨m - 1, by omega⟩
    have hk : l.length < ss.length := by omega
    have hpb : ∀ b, b ∈ berthsK fs ss freeM l.length → PlanOf fs ss (padB (l ++ [b])) := fun b hb => by
      rw [← padB_set (by omega)]
      exact plan_set hp (by omega) (berth_ok hall hk hb)
    have hbe := berths_eq (fs := fs) (ss := ss) (k := l.length)
    have h0 : bnone ∈ berthsK fs ss freeM l.length := by rw [hbe]; exact List.mem_cons_self ..
    have hmf : ∀ b, b ∈ floorsFrom (stAt ss l.length) 0 fs.length → b ∈ berthsK fs ss freeM l.length := fun b hb => by rw [hbe]; exact List.mem_cons_of_mem _ hb
    have hpf : plansF fs ss u (m + 1) l = (if u < 0 ∨ u < l.length then plansF fs ss u m (l ++ [bnone]) else []) ++ (if 0 ≤ u ∧ u < l.length then [] else (floorsFrom (stAt ss l.length) 0 fs.length).flatMap (stepG fs ss u m l)) := rfl
    rw [hpf]
    obtain ⟨t, ht0, -⟩ := has hk
    have hta : stAt ss l.length = t := by simp [stAt, List.getD, ht0]
    rw [hta] at hbe hmf ⊢
    have hto := hall.st t (List.mem_of_getElem? ht0)
    have h13 : 13 ^ m ≤ 2197 := by
      rcases (by omega : m = 0 ∨ m = 1 ∨ m = 2 ∨ m = 3) with rfl | rfl | rfl | rfl <;> decide
    refine W.skip <| thn_n <| W.seq <| W.region rfl <| qs rfl rfl rfl <| Ops.nil <| thn_n <| W.seq <| W.seq <| W.region rfl ?_
    refine qm rfl rfl rfl ?_
    refine oq (y_lss rfl rfl rfl) rfl wn rfl rfl ?_
    refine qm rfl rfl rfl ?_
    refine Ops.ask (fun a5_3 => ?_) (fun a5_3 => ?_)
    · refine Ops.no ?_
      refine Ops.no ?_
      refine Ops.no ?_
      refine oq (y_pickT rfl rfl rfl) rfl wn rfl rfl ?_
      refine Ops.nil <| thn_n ?_
      refine W.condT ?_
      refine W.mono (Q := (fun e ρ' ds' F' => e = .normal ∧ ds' = [] ∧ ∃ (O : Frag) (us : List Sv) (B : Frag) (ua : Option Addr) (uc : Nat), Sub [(8, .slice ua us.length uc), (7, I l.length), (3, .pointer (some ⟨β3, 0, none⟩)), (2, .slice al l.length lc), (1, I u)] ρ' ∧ Os t_sl_Berth rowS (.slice ua us.length uc) us O ∧ Oss t_Berth Be.row us (plansF fs ss u m (l ++ [bnone])) B ∧ Sb ((β3, .cells #[.slice a fs.length cap, .slice a' ss.length cap'] t_Plant (0, 0)) :: (S ++ (O ++ B))) F')) ?_ ?_
      · refine W.drawL [(β3, .cells #[.slice a fs.length cap, .slice a' ss.length cap'] t_Plant (0, 0))] (n := 10) rfl ?_
        refine aq (i := 0) (yldW rfl rfl) rfl an rfl rfl ?_
        refine aq (i := 1) (y_move rfl rfl) rfl an rfl rfl ?_
        refine aq (i := 3) (y_move rfl rfl) rfl an rfl rfl ?_
        refine aq (i := 5) (y_build (parts := [⟨_, _⟩]) (cs := #[I (-1), I 0]) rfl rfl rfl) rfl an rfl rfl ?_
        refine Any.eff2 (i := 2) (j := 6) (by kernel_rfl) (nthO_get rfl) (nthO_get rfl) an an rfl rfl rfl rfl ?_ ?_
        · refine e_buildSlice0 rfl fun β30 _ _ => ⟨.inr (Keeps.one (by repeat (first | exact List.Mem.head _ | apply List.Mem.tail | apply List.mem_append_right)) Keeps.nil), ?_⟩
          have hO30 : Os t_Berth Be.row (.slice (some ⟨β30, 0, none⟩) 0 0) ([] : List Be) [(β30, .cells #[] t_Berth (0, 0))] := .inr ⟨β30, #[], 0, [], rfl, rfl, rfl, Nat.le_refl _, Part.all [], .nil⟩
          refine Any.eff2 (i := 4) (j := 6) (by kernel_rfl) (nthO_get rfl) (nthO_get rfl) an an rfl rfl rfl rfl ?_ ?_
          · refine e_append (row := Be.row) (l := []) (l' := l) rfl rfl rfl hO30 .head (fun h2 hE hL => hO.sl fun b o hb => hL b o (.tail _ hb)) (by simp; omega) (by decide) rfl (fun v4 S4 hO4 => ⟨.inr (Keeps.one (by repeat (first | exact List.Mem.head _ | apply List.Mem.tail | apply List.mem_append_right)) Keeps.nil), ?_⟩)
            rw [List.nil_append] at hO4
            refine abl (i := 6) (s := 2) (cs := #[I (-1), I 0]) (fun β34 => ?_) (hk := Keeps.one (by repeat (first | exact List.Mem.head _ | apply List.Mem.tail | apply List.mem_append_right)) Keeps.nil) (hf := by kernel_rfl)
            refine ae (i := 7) rfl an rfl rfl (e_append (row := Be.row) (l' := [bnone]) rfl rfl rfl hO4 (.tail .head) (fun h2 _ hl => Sl.mk (hl β34 _ (.head _)) rfl (Part.all (Be.row bnone))) (by simp; omega) (by decide) rfl (fun v7 S7 hO7 => ⟨.inr (Keeps.one (by repeat (first | exact List.Mem.head _ | apply List.Mem.tail | apply List.mem_append_right)) Keeps.nil), ?_⟩))
            refine ae (i := 8) rfl an rfl rfl (e_call (A := S7) (args := [_, _, _]) (vs := [.agg #[.slice a fs.length cap, .slice a' ss.length cap'], I u, v7]) rfl rfl (.tail .head) (fun h' hE hL => ih m (by omega) h' (l ++ [bnone]) S7 _ _ _ (hf.ext hE) (hs.ext hE) hO7 (by simp; omega) (hpb _ h0)) (fun v A' hv => ?_))
            obtain ⟨O, us, B, hOO, hBB, hsb⟩ := hv
            obtain ⟨ua, uc, rfl⟩ := hOO.isSl
            refine ⟨.inr (Keeps.one (by repeat (first | exact List.Mem.head _ | apply List.Mem.tail | apply List.mem_append_right)) Keeps.nil), ?_⟩
            refine aq (i := 9) (y_assign rfl rfl) rfl an rfl rfl ?_ (hS := Keeps.one (by repeat (first | exact List.Mem.head _ | apply List.Mem.tail | apply List.mem_append_right)) Keeps.nil)
            refine az ?_
            exact ⟨rfl, rfl, O, us, B, ua, uc, ⟨rfl, rfl, rfl, rfl, rfl, trivial⟩, hOO, hBB, .skip rfl (Sb.trans (.of_perm (List.perm_append_comm (l₁ := (β3, .cells #[.slice a fs.length cap, .slice a' ss.length cap'] t_Plant (0, 0)) :: S) (l₂ := O ++ B))) (hsb.app .refl))⟩
          · refine (e_buildSlice (cs := #[I (-1), I 0]) rfl rfl (by decide) (by decide) (by kernel_rfl) fun β34 _ _ => ⟨.inr (Keeps.one (by repeat (first | exact List.Mem.head _ | apply List.Mem.tail | apply List.mem_append_right)) Keeps.nil), ?_⟩)
            refine ae (i := 4) rfl an rfl rfl (e_append (row := Be.row) (l := []) (l' := l) rfl rfl rfl hO30 (.tail .head) (fun h2 hE hL => hO.sl fun b o hb => hL b o (.tail _ (.tail _ hb))) (by simp; omega) (by decide) rfl (fun v4 S4 hO4 => ⟨.inr (Keeps.one (by repeat (first | exact List.Mem.head _ | apply List.Mem.tail | apply List.mem_append_right)) Keeps.nil), ?_⟩))
            rw [List.nil_append] at hO4
            refine ae (i := 7) rfl an rfl rfl (e_append (row := Be.row) (l' := [bnone]) rfl rfl rfl hO4 (.tail .head) (fun h2 _ hl => Sl.mk (hl β34 _ (.head _)) rfl (Part.all (Be.row bnone))) (by simp; omega) (by decide) rfl (fun v7 S7 hO7 => ⟨.inr (Keeps.one (by repeat (first | exact List.Mem.head _ | apply List.Mem.tail | apply List.mem_append_right)) Keeps.nil), ?_⟩))
            refine ae (i := 8) rfl an rfl rfl (e_call (A := S7) (args := [_, _, _]) (vs := [.agg #[.slice a fs.length cap, .slice a' ss.length cap'], I u, v7]) rfl rfl (.tail .head) (fun h' hE hL => ih m (by omega) h' (l ++ [bnone]) S7 _ _ _ (hf.ext hE) (hs.ext hE) hO7 (by simp; omega) (hpb _ h0)) (fun v A' hv => ?_))
            obtain ⟨O, us, B, hOO, hBB, hsb⟩ := hv
            obtain ⟨ua, uc, rfl⟩ := hOO.isSl
            refine ⟨.inr (Keeps.one (by repeat (first | exact List.Mem.head _ | apply List.Mem.tail | apply List.mem_append_right)) Keeps.nil), ?_⟩
            refine aq (i := 9) (y_assign rfl rfl) rfl an rfl rfl ?_ (hS := Keeps.one (by repeat (first | exact List.Mem.head _ | apply List.Mem.tail | apply List.mem_append_right)) Keeps.nil)
            refine az ?_
            exact ⟨rfl, rfl, O, us, B, ua, uc, ⟨rfl, rfl, rfl, rfl, rfl, trivial⟩, hOO, hBB, .skip rfl (Sb.trans (.of_perm (List.perm_append_comm (l₁ := (β3, .cells #[.slice a fs.length cap, .slice a' ss.length cap'] t_Plant (0, 0)) :: S) (l₂ := O ++ B))) (hsb.app .refl))⟩
        · refine (e_buildSlice (cs := #[I (-1), I 0]) rfl rfl (by decide) (by decide) (by kernel_rfl) fun β34 _ _ => ⟨.inr (Keeps.one (by repeat (first | exact List.Mem.head _ | apply List.Mem.tail | apply List.mem_append_right)) Keeps.nil), ?_⟩)
          refine ae (i := 2) rfl an rfl rfl (e_buildSlice0 rfl fun β30 _ _ => ⟨.inr (Keeps.one (by repeat (first | exact List.Mem.head _ | apply List.Mem.tail | apply List.mem_append_right)) Keeps.nil), ?_⟩)
          have hO30 : Os t_Berth Be.row (.slice (some ⟨β30, 0, none⟩) 0 0) ([] : List Be) [(β30, .cells #[] t_Berth (0, 0))] := .inr ⟨β30, #[], 0, [], rfl, rfl, rfl, Nat.le_refl _, Part.all [], .nil⟩
          refine ae (i := 4) rfl an rfl rfl (e_append (row := Be.row) (l := []) (l' := l) rfl rfl rfl hO30 .head (fun h2 hE hL => hO.sl fun b o hb => hL b o (.tail _ (.tail _ hb))) (by simp; omega) (by decide) rfl (fun v4 S4 hO4 => ⟨.inr (Keeps.one (by repeat (first | exact List.Mem.head _ | apply List.Mem.tail | apply List.mem_append_right)) Keeps.nil), ?_⟩))
          rw [List.nil_append] at hO4
          refine Any.sb (F' := (β34, .cells #[I (-1), I 0] t_Berth (0, 0)) :: (S4 ++ ((β3, .cells #[.slice a fs.length cap, .slice a' ss.length cap'] t_Plant (0, 0)) :: S))) (.of_perm (List.perm_middle (a := _) (l₁ := S4)).symm) ?_
          refine ae (i := 7) rfl an rfl rfl (e_append (row := Be.row) (l' := [bnone]) rfl rfl rfl hO4 (.tail .head) (fun h2 _ hl => Sl.mk (hl β34 _ (.head _)) rfl (Part.all (Be.row bnone))) (by simp; omega) (by decide) rfl (fun v7 S7 hO7 => ⟨.inr (Keeps.one (by repeat (first | exact List.Mem.head _ | apply List.Mem.tail | apply List.mem_append_right)) Keeps.nil), ?_⟩))
          refine ae (i := 8) rfl an rfl rfl (e_call (A := S7) (args := [_, _, _]) (vs := [.agg #[.slice a fs.length cap, .slice a' ss.length cap'], I u, v7]) rfl rfl (.tail .head) (fun h' hE hL => ih m (by omega) h' (l ++ [bnone]) S7 _ _ _ (hf.ext hE) (hs.ext hE) hO7 (by simp; omega) (hpb _ h0)) (fun v A' hv => ?_))
          obtain ⟨O, us, B, hOO, hBB, hsb⟩ := hv
          obtain ⟨ua, uc, rfl⟩ := hOO.isSl
          refine ⟨.inr (Keeps.one (by repeat (first | exact List.Mem.head _ | apply List.Mem.tail | apply List.mem_append_right)) Keeps.nil), ?_⟩
          refine aq (i := 9) (y_assign rfl rfl) rfl an rfl rfl ?_ (hS := Keeps.one (by repeat (first | exact List.Mem.head _ | apply List.Mem.tail | apply List.mem_append_right)) Keeps.nil)
          refine az ?_
          exact ⟨rfl, rfl, O, us, B, ua, uc, ⟨rfl, rfl, rfl, rfl, rfl, trivial⟩, hOO, hBB, .skip rfl (Sb.trans (.of_perm (List.perm_append_comm (l₁ := (β3, .cells #[.slice a fs.length cap, .slice a' ss.length cap'] t_Plant (0, 0)) :: S) (l₂ := O ++ B))) (hsb.app .refl))⟩
      rintro e ρ' ds' F' ⟨rfl, rfl, O, us, B, ua, uc, hE0, hOO, hBB, hsb0⟩
      refine thn_n (W.env hE0 (W.sb hsb0 ?_))
      refine W.seq <| W.seq <| W.region rfl <| qm rfl rfl rfl ?_
      refine oq (y_geq rfl rfl rfl) rfl wn rfl rfl ?_
      refine qm rfl rfl rfl ?_
      refine Ops.ask (fun a7_3 => ?_) (fun a7_3 => ?_)
      · refine oq (y_move rfl rfl) rfl (want_some rfl rfl rfl) rfl rfl ?_
        refine oq (y_move rfl rfl) rfl (want_some rfl rfl rfl) rfl rfl ?_
        refine oq (y_gtr rfl rfl rfl) rfl (want_some rfl rfl rfl) rfl rfl ?_
        refine oq (y_pickT rfl rfl rfl) rfl wn rfl rfl ?_
        refine Ops.nil <| thn_n ?_
        refine W.condp rfl (fun c43 => ?_) (fun c43 => ?_)
        · refine W.seq <| W.region rfl <| qm rfl rfl rfl <| qs rfl rfl rfl <| Ops.nil <| thn_n <| W.ret <| thn_r ?_
          first
          | (exfalso; omega)
          | (rw [if_pos (by omega), if_pos (by omega), List.append_nil]
             exact lvt (vs := [_]) ⟨O, us, B, hOO, hBB, .skip rfl (Sb.left .refl hO.shut)⟩)
        · refine W.skip <| thn_n <| W.seq <| W.seq <| W.region rfl <| qs rfl rfl rfl <| Ops.nil <| thn_n <| W.block ?_
          first
          | refine W.loop (σ := Nat × List Sv × Option Addr × Nat × Frag × Frag) (fun q => q.1 ≤ fs.length ∧ Os t_sl_Berth rowS (.slice q.2.2.1 q.2.1.length q.2.2.2.1) q.2.1 q.2.2.2.2.1 ∧ Oss t_Berth Be.row q.2.1 ((if u < 0 ∨ u < l.length then plansF fs ss u m (l ++ [bnone]) else []) ++ (floorsFrom t 0 q.1).flatMap (stepG fs ss u m l)) q.2.2.2.2.2) (fun q => [(9, I q.1), (8, .slice q.2.2.1 q.2.1.length q.2.2.2.1), (7, I l.length), (3, .pointer (some ⟨β3, 0, none⟩)), (2, .slice al l.length lc), (1, I u)]) (fun q => (β3, .cells #[.slice a fs.length cap, .slice a' ss.length cap'] t_Plant (0, 0)) :: (S ++ (q.2.2.2.2.1 ++ q.2.2.2.2.2))) (fun q => fs.length - q.1) (0, us, ua, uc, O, B) ⟨Nat.zero_le _, hOO, by rw [if_pos (by omega)]; simpa [floorsFrom] using hBB⟩ ⟨rfl, rfl, rfl, rfl, rfl, rfl, trivial⟩ .refl ?_
          | refine W.loop (σ := Nat × List Sv × Option Addr × Nat × Frag × Frag) (fun q => q.1 ≤ fs.length ∧ Os t_sl_Berth rowS (.slice q.2.2.1 q.2.1.length q.2.2.2.1) q.2.1 q.2.2.2.2.1 ∧ Oss t_Berth Be.row q.2.1 ((if u < 0 ∨ u < l.length then plansF fs ss u m (l ++ [bnone]) else []) ++ (floorsFrom t 0 q.1).flatMap (stepG fs ss u m l)) q.2.2.2.2.2) (fun q => [(9, I q.1), (8, .slice q.2.2.1 q.2.1.length q.2.2.2.1), (7, I l.length), (3, .pointer (some ⟨β3, 0, none⟩)), (2, .slice al l.length lc), (1, I u)]) (fun q => (β3, .cells #[.slice a fs.length cap, .slice a' ss.length cap'] t_Plant (0, 0)) :: (S ++ (q.2.2.2.2.1 ++ q.2.2.2.2.2))) (fun q => fs.length - q.1) (0, [], none, 0, [], []) ⟨Nat.zero_le _, .nil .nil, by rw [if_neg (by omega)]; exact .nil⟩ ⟨rfl, rfl, rfl, rfl, rfl, rfl, trivial⟩ (by simp only [List.append_nil]; exact .refl) ?_
          rintro ⟨k, us, ua, uc, O, B⟩ ⟨hk0, hN, hC⟩
          dsimp only at *
          rw [if_neg (show ¬ (0 ≤ u ∧ u < l.length) by omega)]
          obtain ⟨X0, hX0⟩ : ∃ X, (if u < 0 ∨ u < (l.length : Int) then plansF fs ss u m (l ++ [bnone]) else []) = X := ⟨_, rfl⟩
          have hX0l : X0.length ≤ 13 ^ m := by
            rw [← hX0]
            split
            · exact plansF_len hall m _ (by simp; omega)
            · simp
          rw [hX0] at hC ⊢
          refine W.seq <| W.seq <| W.region rfl <| qm rfl rfl rfl ?_
          refine oq (y_fieldAddr rfl rfl) rfl wn rfl rfl ?_
          refine oq (yld rfl rfl) rfl wn rfl rfl ?_
          refine oq (y_len rfl rfl) rfl wn rfl rfl ?_
          refine oq (y_lss rfl rfl rfl) rfl wn rfl rfl ?_
          refine Ops.nil <| thn_n ?_
          refine W.condp rfl (fun c49 => ?_) (fun c49 => ?_)
          · have hk1 : k < fs.length := by omega
            obtain ⟨bs, offs, cs, Es, fzs, rfl, hbs, -, hys, hzs⟩ := hs.at ht0
            have hsd : cs[offs + l.length * 3 + 0]? = some (I t.day) := hzs 0 (by decide)
            have hsw : cs[offs + l.length * 3 + 2]? = some (I t.wa) := hzs 2 (by decide)
            clear hzs
            refine W.skip <| thn_n <| W.seq <| W.block <| W.seq <| W.region rfl ?_
            refine oq (y_fieldAddr rfl rfl) rfl wn rfl rfl ?_
            refine oq (yld rfl rfl) rfl wn rfl rfl ?_
            refine qm rfl rfl rfl ?_
            first | refine oq (yix rfl rfl rfl) rfl wn rfl rfl ?_ | refine oq (yixI rfl rfl rfl) rfl wn rfl rfl ?_
            refine oq (y_fieldAddr rfl rfl) rfl wn rfl rfl ?_
            refine oq (yld rfl rfl) rfl wn rfl rfl ?_
            refine qs rfl rfl rfl <| Ops.nil <| thn_n <| W.block ?_
            refine W.loop (σ := Nat × List Sv × Option Addr × Nat × Frag × Frag) (fun q => q.1 ≤ (t.wa + 1).toNat ∧ Os t_sl_Berth rowS (.slice q.2.2.1 q.2.1.length q.2.2.2.1) q.2.1 q.2.2.2.2.1 ∧ Oss t_Berth Be.row q.2.1 (X0 ++ (floorsFrom t 0 k ++ daysFrom k t.day q.1).flatMap (stepG fs ss u m l)) q.2.2.2.2.2) (fun q => [(10, I (t.day + q.1)), (9, I k), (8, .slice q.2.2.1 q.2.1.length q.2.2.2.1), (7, I l.length), (3, .pointer (some ⟨β3, 0, none⟩)), (2, .slice al l.length lc), (1, I u)]) (fun q => (β3, .cells #[.slice a fs.length cap, .slice _ ss.length cap'] t_Plant (0, 0)) :: (S ++ (q.2.2.2.2.1 ++ q.2.2.2.2.2))) (fun q => (t.wa + 1).toNat - q.1) (0, us, ua, uc, O, B) ⟨Nat.zero_le _, hN, by simpa [daysFrom] using hC⟩ ⟨lk rfl (show I _ = I _ by congr 1; omega), rfl, rfl, rfl, rfl, rfl, rfl, trivial⟩ .refl ?_
            clear hN hC
            rintro ⟨j, us, ua, uc, O, B⟩ ⟨hj, hN, hC⟩
            dsimp only at *
            refine W.seq <| W.seq ?_
            refine W.drawF (n := 15) rfl ?_
            refine aq (i := 0) (y_move rfl rfl) rfl an rfl rfl ?_
            refine aq (i := 1) (y_fieldAddr rfl rfl) rfl an rfl rfl ?_
            refine aq (i := 2) (yld rfl rfl) rfl an rfl rfl ?_
            refine aq (i := 3) (y_move rfl rfl) rfl an rfl rfl ?_
            first | refine aq (i := 4) (yix rfl rfl rfl) rfl an rfl rfl ?_ | refine aq (i := 4) (yixI rfl rfl rfl) rfl an rfl rfl ?_
            refine aq (i := 5) (y_fieldAddr rfl rfl) rfl an rfl rfl ?_
            refine aq (i := 6) (yld rfl rfl) rfl an rfl rfl ?_
            refine aq (i := 7) (y_fieldAddr rfl rfl) rfl an rfl rfl ?_
            refine aq (i := 8) (yld rfl rfl) rfl an rfl rfl ?_
            refine aq (i := 9) (y_move rfl rfl) rfl an rfl rfl ?_
            first | refine aq (i := 10) (yix rfl rfl rfl) rfl an rfl rfl ?_ | refine aq (i := 10) (yixI rfl rfl rfl) rfl an rfl rfl ?_
            refine aq (i := 11) (y_fieldAddr rfl rfl) rfl an rfl rfl ?_
            refine aq (i := 12) (yld rfl rfl) rfl an rfl rfl ?_
            first | refine aq (i := 13) (yadd rfl rfl rfl) rfl an rfl rfl ?_ | refine aq (i := 13) (y_addw rfl rfl rfl) rfl an rfl rfl ?_
            refine aq (i := 14) (y_leq rfl rfl rfl) rfl an rfl rfl ?_
            refine az ?_
            refine thn_n ?_
            refine W.condp rfl (fun c72 => ?_) (fun c72 => ?_)
            · have hj1 : j < (t.wa + 1).toNat := by omega
              have hbm : (⟨k, t.day + j⟩ : Be) ∈ floorsFrom t 0 fs.length := by
                have := mem_berths (fs := fs) (ss := ss) (may := freeM) (k := l.length) (b := ⟨k, t.day + j⟩)
                rw [hbe, hta] at this
                have h2 := this.2 (.inr ⟨rfl, by simp only; omega, by simp only; omega, by simp only; omega, by simp only; omega⟩)
                rcases List.mem_cons.1 h2 with h3 | h3
                · exact absurd (congrArg Be.fl h3) (by simp only [bnone]; omega)
                · exact h3
              have hPb := hpb _ (hmf _ hbm)
              have hL20 : (floorsFrom t 0 k ++ daysFrom k t.day j).length ≤ 20 := by
                have := floors_le (s := t) (m := k) (f := 0) (by omega) (by omega)
                rw [List.length_append, daysFrom_len]; omega
              have hul : us.length ≤ 60000 := by
                have h1 := fm_len (l := floorsFrom t 0 k ++ daysFrom k t.day j) (f := stepG fs ss u m l) (n := 13 ^ m) fun b _ => by
                  unfold stepG
                  split
                  · simp
                  · exact plansF_len hall m _ (by simp; omega)
                have h2 := Nat.mul_le_mul hL20 h13
                rw [hC.len, List.length_append]
                omega
              have hday : (floorsFrom t 0 k ++ daysFrom k t.day (j + 1)).flatMap (stepG fs ss u m l) = (floorsFrom t 0 k ++ daysFrom k t.day j).flatMap (stepG fs ss u m l) ++ stepG fs ss u m l ⟨k, t.day + j⟩ := by
                rw [daysFrom_snoc, ← List.append_assoc, List.flatMap_append]; simp
              refine W.skip <| thn_n <| W.seq <| W.block <| W.seq <| W.region rfl ?_
              refine Ops.bsl0 (fun β75 => ?_)
              refine qm rfl rfl rfl ?_
              have hO75 : Os t_Berth Be.row (.slice (some ⟨β75, 0, none⟩) 0 0) ([] : List Be) [(β75, .cells #[] t_Berth (0, 0))] := .inr ⟨β75, #[], 0, [], rfl, rfl, rfl, Nat.le_refl _, Part.all [], .nil⟩
              refine oe rfl wn rfl rfl (e_append (row := Be.row) (l := []) (l' := l) rfl rfl rfl hO75 .head (fun h2 hE hL => hO.sl fun b o hb => hL b o (.tail _ (List.mem_append_left _ hb))) (by simp; omega) (by decide) rfl (fun v1 S1 hS1 => ?_))
              rw [List.nil_append] at hS1
              refine qm rfl rfl rfl <| qm rfl rfl rfl ?_
              refine oq (y_build (parts := [⟨_, _⟩, ⟨_, _⟩]) (cs := #[I k, I (t.day + j)]) rfl rfl rfl) rfl wn rfl rfl ?_
              refine Ops.bsl (cs := #[I k, I (t.day + j)]) (fun β81 => ?_) rfl (hf := by kernel_rfl)
              refine oe rfl wn rfl rfl (e_append (row := Be.row) (l' := [(⟨k, t.day + j⟩ : Be)]) rfl rfl rfl hS1 (.tail .head) (fun h2 _ hl => Sl.mk (hl β81 _ (.head _)) rfl (Part.all (Be.row ⟨k, t.day + j⟩))) (by simp; omega) (by decide) rfl (fun v2 S2 hS2 => ?_))
              refine qs rfl rfl rfl <| Ops.nil <| thn_n ?_
              refine W.sb (.of_perm ((List.Perm.swap _ _ _).trans (List.Perm.cons _ (List.perm_middle (l₁ := S2)).symm))) ?_
              refine W.seq <| W.region rfl ?_
              first | refine oq (yldW rfl rfl) rfl wn rfl rfl ?_ | refine oq (yldA rfl rfl) rfl wn rfl rfl ?_
              refine qm rfl rfl rfl <| qm rfl rfl rfl ?_
              refine cp (u := .bool (fullL fs ss (l ++ [⟨k, t.day + j⟩]) k)) (fun h' hE hL => Rfull_fn _ h' fs ss (l ++ [⟨k, t.day + j⟩]) k _ _ v2 (hf.ext hE) (hs.ext hE) (hS2.sl fun b o hb => hL b o (.tail _ (.tail _ (List.mem_append_left _ hb)))) hall hPb (by simp; omega) hk1) ?_
              refine oq (y_not rfl rfl) rfl wn rfl rfl ?_
              refine Ops.nil <| thn_n ?_
              refine W.cond rfl (fun c87 => ?_) (fun c87 => ?_)
              · refine W.region rfl <| qm rfl rfl rfl ?_
                first | refine oq (yldW rfl rfl) rfl wn rfl rfl ?_ | refine oq (yldA rfl rfl) rfl wn rfl rfl ?_
                refine qm rfl rfl rfl <| qm rfl rfl rfl ?_
                refine cg (A := S2) (.tail (.tail .head)) (fun h' hE hL => ih m (by omega) h' (l ++ [⟨k, t.day + j⟩]) S2 _ _ v2 (hf.ext hE) (hs.ext hE) hS2 (by simp; omega) hPb) (fun v A' hv => ?_)
                obtain ⟨O2, us2, B2, hO2, hB2, hsb2⟩ := hv
                obtain ⟨u2a, u2c, rfl⟩ := hO2.isSl
                have hul2 : us2.length ≤ 2197 := by rw [hB2.len]; exact Nat.le_trans (plansF_len hall m _ (by simp; omega)) h13
                refine Ops.sb (.cons (.cons (hsb2.app .refl))) ?_
                refine oe rfl wn rfl rfl (e_append (row := rowS) (l' := us2) rfl rfl rfl hN (.tail (.tail (.app (.app .head)))) (fun h2 _ hl => hO2.sl fun b o hb => hl b o (.tail _ (.tail _ (List.mem_append_left _ (List.mem_append_left _ hb))))) (by omega) (by decide) rfl (fun v3 N3 hN3 => ?_))
                obtain ⟨na3, nc3, rfl⟩ := hN3.isSl
                refine qs rfl rfl rfl <| Ops.nil <| blk_n <| thn_n <| W.region rfl <| qm rfl rfl rfl ?_
                first | refine oq (yadd rfl rfl rfl) rfl wn rfl rfl ?_ | refine oq (y_addw rfl rfl rfl) rfl wn rfl rfl ?_
                refine qs rfl rfl rfl <| Ops.nil <| thn_n ?_
                have hff : fullL fs ss (l ++ [⟨k, t.day + j⟩]) k = false := by simpa using c87
                refine ⟨rfl, (j + 1, us ++ us2, na3, nc3, N3, B ++ B2), ⟨by simp only; omega, hN3, ?_⟩, by simp only; omega, ⟨lk rfl (show I _ = I _ by congr 1; omega), rfl, rfl, rfl, rfl, rfl, rfl, trivial⟩, ?_⟩
                · dsimp only
                  rw [hday, ← List.append_assoc]
                  refine hC.append ?_
                  rw [stepG, hff, if_neg (by decide)]
                  exact hB2
                · dsimp only
                  refine .cons (.skip rfl ⟨O2, perm_cnt fun y => ?_, hO2.shut⟩)
                  simp only [List.count_append, List.count_cons, List.count_nil]; omega
              · refine W.skip <| blk_n <| thn_n <| W.region rfl <| qm rfl rfl rfl ?_
                first | refine oq (yadd rfl rfl rfl) rfl wn rfl rfl ?_ | refine oq (y_addw rfl rfl rfl) rfl wn rfl rfl ?_
                refine qs rfl rfl rfl <| Ops.nil <| thn_n ?_
                have hff : fullL fs ss (l ++ [⟨k, t.day + j⟩]) k = true := by simpa using c87
                refine ⟨rfl, (j + 1, us, ua, uc, O, B), ⟨by simp only; omega, hN, ?_⟩, by simp only; omega, ⟨lk rfl (show I _ = I _ by congr 1; omega), rfl, rfl, rfl, rfl, rfl, rfl, trivial⟩, .cons (.skip rfl (Sb.left .refl hS2.shut))⟩
                dsimp only
                rw [hday, stepG, if_pos hff, List.append_nil]
                exact hC
            · refine W.exit <| thn_x <| thn_x <| blk_x <| blk_n <| thn_n <| W.region rfl <| qm rfl rfl rfl ?_
              first | refine oq (yadd rfl rfl rfl) rfl wn rfl rfl ?_ | refine oq (y_addw rfl rfl rfl) rfl wn rfl rfl ?_
              refine qs rfl rfl rfl <| Ops.nil <| thn_n ?_
              have hje : j = (t.wa + 1).toNat := by omega
              subst hje
              refine ⟨rfl, (k + 1, us, ua, uc, O, B), ⟨by simp only; omega, hN, ?_⟩, by simp only; omega, ⟨rfl, rfl, rfl, rfl, rfl, rfl, trivial⟩, .refl⟩
              dsimp only
              rw [floorsFrom_snoc, Int.zero_add]
              exact hC
          · have hke : k = fs.length := by omega
            subst hke
            refine W.exit <| thn_x <| thn_x <| blk_x <| thn_n <| W.seq <| W.region rfl <| qm rfl rfl rfl <| qs rfl rfl rfl <| Ops.nil ?_
            refine thn_n <| W.ret ?_
            exact lvt (vs := [_]) ⟨O, us, B, hN, hC, .skip rfl (Sb.left .refl hO.shut)⟩
      · refine Ops.no ?_
        refine Ops.no ?_
        refine Ops.no ?_
        refine oq (y_pickF rfl rfl rfl) rfl wn rfl rfl ?_
        refine Ops.nil <| thn_n ?_
        refine W.condF ?_
        refine W.skip <| thn_n <| W.seq <| W.seq <| W.region rfl <| qs rfl rfl rfl <| Ops.nil <| thn_n <| W.block ?_
        first
        | refine W.loop (σ := Nat × List Sv × Option Addr × Nat × Frag × Frag) (fun q => q.1 ≤ fs.length ∧ Os t_sl_Berth rowS (.slice q.2.2.1 q.2.1.length q.2.2.2.1) q.2.1 q.2.2.2.2.1 ∧ Oss t_Berth Be.row q.2.1 ((if u < 0 ∨ u < l.length then plansF fs ss u m (l ++ [bnone]) else []) ++ (floorsFrom t 0 q.1).flatMap (stepG fs ss u m l)) q.2.2.2.2.2) (fun q => [(9, I q.1), (8, .slice q.2.2.1 q.2.1.length q.2.2.2.1), (7, I l.length), (3, .pointer (some ⟨β3, 0, none⟩)), (2, .slice al l.length lc), (1, I u)]) (fun q => (β3, .cells #[.slice a fs.length cap, .slice a' ss.length cap'] t_Plant (0, 0)) :: (S ++ (q.2.2.2.2.1 ++ q.2.2.2.2.2))) (fun q => fs.length - q.1) (0, us, ua, uc, O, B) ⟨Nat.zero_le _, hOO, by rw [if_pos (by omega)]; simpa [floorsFrom] using hBB⟩ ⟨rfl, rfl, rfl, rfl, rfl, rfl, trivial⟩ .refl ?_
        | refine W.loop (σ := Nat × List Sv × Option Addr × Nat × Frag × Frag) (fun q => q.1 ≤ fs.length ∧ Os t_sl_Berth rowS (.slice q.2.2.1 q.2.1.length q.2.2.2.1) q.2.1 q.2.2.2.2.1 ∧ Oss t_Berth Be.row q.2.1 ((if u < 0 ∨ u < l.length then plansF fs ss u m (l ++ [bnone]) else []) ++ (floorsFrom t 0 q.1).flatMap (stepG fs ss u m l)) q.2.2.2.2.2) (fun q => [(9, I q.1), (8, .slice q.2.2.1 q.2.1.length q.2.2.2.1), (7, I l.length), (3, .pointer (some ⟨β3, 0, none⟩)), (2, .slice al l.length lc), (1, I u)]) (fun q => (β3, .cells #[.slice a fs.length cap, .slice a' ss.length cap'] t_Plant (0, 0)) :: (S ++ (q.2.2.2.2.1 ++ q.2.2.2.2.2))) (fun q => fs.length - q.1) (0, [], none, 0, [], []) ⟨Nat.zero_le _, .nil .nil, by rw [if_neg (by omega)]; exact .nil⟩ ⟨rfl, rfl, rfl, rfl, rfl, rfl, trivial⟩ (by simp only [List.append_nil]; exact .refl) ?_
        rintro ⟨k, us, ua, uc, O, B⟩ ⟨hk0, hN, hC⟩
        dsimp only at *
        rw [if_neg (show ¬ (0 ≤ u ∧ u < l.length) by omega)]
        obtain ⟨X0, hX0⟩ : ∃ X, (if u < 0 ∨ u < (l.length : Int) then plansF fs ss u m (l ++ [bnone]) else []) = X := ⟨_, rfl⟩
        have hX0l : X0.length ≤ 13 ^ m := by
          rw [← hX0]
          split
          · exact plansF_len hall m _ (by simp; omega)
          · simp
        rw [hX0] at hC ⊢
        refine W.seq <| W.seq <| W.region rfl <| qm rfl rfl rfl ?_
        refine oq (y_fieldAddr rfl rfl) rfl wn rfl rfl ?_
        refine oq (yld rfl rfl) rfl wn rfl rfl ?_
        refine oq (y_len rfl rfl) rfl wn rfl rfl ?_
        refine oq (y_lss rfl rfl rfl) rfl wn rfl rfl ?_
        refine Ops.nil <| thn_n ?_
        refine W.condp rfl (fun c49 => ?_) (fun c49 => ?_)
        · have hk1 : k < fs.length := by omega
          obtain ⟨bs, offs, cs, Es, fzs, rfl, hbs, -, hys, hzs⟩ := hs.at ht0
          have hsd : cs[offs + l.length * 3 + 0]? = some (I t.day) := hzs 0 (by decide)
          have hsw : cs[offs + l.length * 3 + 2]? = some (I t.wa) := hzs 2 (by decide)
          clear hzs
          refine W.skip <| thn_n <| W.seq <| W.block <| W.seq <| W.region rfl ?_
          refine oq (y_fieldAddr rfl rfl) rfl wn rfl rfl ?_
          refine oq (yld rfl rfl) rfl wn rfl rfl ?_
          refine qm rfl rfl rfl ?_
          first | refine oq (yix rfl rfl rfl) rfl wn rfl rfl ?_ | refine oq (yixI rfl rfl rfl) rfl wn rfl rfl ?_
          refine oq (y_fieldAddr rfl rfl) rfl wn rfl rfl ?_
          refine oq (yld rfl rfl) rfl wn rfl rfl ?_
          refine qs rfl rfl rfl <| Ops.nil <| thn_n <| W.block ?_
          refine W.loop (σ := Nat × List Sv × Option Addr × Nat × Frag × Frag) (fun q => q.1 ≤ (t.wa + 1).toNat ∧ Os t_sl_Berth rowS (.slice q.2.2.1 q.2.1.length q.2.2.2.1) q.2.1 q.2.2.2.2.1 ∧ Oss t_Berth Be.row q.2.1 (X0 ++ (floorsFrom t 0 k ++ daysFrom k t.day q.1).flatMap (stepG fs ss u m l)) q.2.2.2.2.2) (fun q => [(10, I (t.day + q.1)), (9, I k), (8, .slice q.2.2.1 q.2.1.length q.2.2.2.1), (7, I l.length), (3, .pointer (some ⟨β3, 0, none⟩)), (2, .slice al l.length lc), (1, I u)]) (fun q => (β3, .cells #[.slice a fs.length cap, .slice _ ss.length cap'] t_Plant (0, 0)) :: (S ++ (q.2.2.2.2.1 ++ q.2.2.2.2.2))) (fun q => (t.wa + 1).toNat - q.1) (0, us, ua, uc, O, B) ⟨Nat.zero_le _, hN, by simpa [daysFrom] using hC⟩ ⟨lk rfl (show I _ = I _ by congr 1; omega), rfl, rfl, rfl, rfl, rfl, rfl, trivial⟩ .refl ?_
          clear hN hC
          rintro ⟨j, us, ua, uc, O, B⟩ ⟨hj, hN, hC⟩
          dsimp only at *
          refine W.seq <| W.seq ?_
          refine W.drawF (n := 15) rfl ?_
          refine aq (i := 0) (y_move rfl rfl) rfl an rfl rfl ?_
          refine aq (i := 1) (y_fieldAddr rfl rfl) rfl an rfl rfl ?_
          refine aq (i := 2) (yld rfl rfl) rfl an rfl rfl ?_
          refine aq (i := 3) (y_move rfl rfl) rfl an rfl rfl ?_
          first | refine aq (i := 4) (yix rfl rfl rfl) rfl an rfl rfl ?_ | refine aq (i := 4) (yixI rfl rfl rfl) rfl an rfl rfl ?_
          refine aq (i := 5) (y_fieldAddr rfl rfl) rfl an rfl rfl ?_
          refine aq (i := 6) (yld rfl rfl) rfl an rfl rfl ?_
          refine aq (i := 7) (y_fieldAddr rfl rfl) rfl an rfl rfl ?_
          refine aq (i := 8) (yld rfl rfl) rfl an rfl rfl ?_
          refine aq (i := 9) (y_move rfl rfl) rfl an rfl rfl ?_
          first | refine aq (i := 10) (yix rfl rfl rfl) rfl an rfl rfl ?_ | refine aq (i := 10) (yixI rfl rfl rfl) rfl an rfl rfl ?_
          refine aq (i := 11) (y_fieldAddr rfl rfl) rfl an rfl rfl ?_
          refine aq (i := 12) (yld rfl rfl) rfl an rfl rfl ?_
          first | refine aq (i := 13) (yadd rfl rfl rfl) rfl an rfl rfl ?_ | refine aq (i := 13) (y_addw rfl rfl rfl) rfl an rfl rfl ?_
          refine aq (i := 14) (y_leq rfl rfl rfl) rfl an rfl rfl ?_
          refine az ?_
          refine thn_n ?_
          refine W.condp rfl (fun c72 => ?_) (fun c72 => ?_)
          · have hj1 : j < (t.wa + 1).toNat := by omega
            have hbm : (⟨k, t.day + j⟩ : Be) ∈ floorsFrom t 0 fs.length := by
              have := mem_berths (fs := fs) (ss := ss) (may := freeM) (k := l.length) (b := ⟨k, t.day + j⟩)
              rw [hbe, hta] at this
              have h2 := this.2 (.inr ⟨rfl, by simp only; omega, by simp only; omega, by simp only; omega, by simp only; omega⟩)
              rcases List.mem_cons.1 h2 with h3 | h3
              · exact absurd (congrArg Be.fl h3) (by simp only [bnone]; omega)
              · exact h3
            have hPb := hpb _ (hmf _ hbm)
            have hL20 : (floorsFrom t 0 k ++ daysFrom k t.day j).length ≤ 20 := by
              have := floors_le (s := t) (m := k) (f := 0) (by omega) (by omega)
              rw [List.length_append, daysFrom_len]; omega
            have hul : us.length ≤ 60000 := by
              have h1 := fm_len (l := floorsFrom t 0 k ++ daysFrom k t.day j) (f := stepG fs ss u m l) (n := 13 ^ m) fun b _ => by
                unfold stepG
                split
                · simp
                · exact plansF_len hall m _ (by simp; omega)
              have h2 := Nat.mul_le_mul hL20 h13
              rw [hC.len, List.length_append]
              omega
            have hday : (floorsFrom t 0 k ++ daysFrom k t.day (j + 1)).flatMap (stepG fs ss u m l) = (floorsFrom t 0 k ++ daysFrom k t.day j).flatMap (stepG fs ss u m l) ++ stepG fs ss u m l ⟨k, t.day + j⟩ := by
              rw [daysFrom_snoc, ← List.append_assoc, List.flatMap_append]; simp
            refine W.skip <| thn_n <| W.seq <| W.block <| W.seq <| W.region rfl ?_
            refine Ops.bsl0 (fun β75 => ?_)
            refine qm rfl rfl rfl ?_
            have hO75 : Os t_Berth Be.row (.slice (some ⟨β75, 0, none⟩) 0 0) ([] : List Be) [(β75, .cells #[] t_Berth (0, 0))] := .inr ⟨β75, #[], 0, [], rfl, rfl, rfl, Nat.le_refl _, Part.all [], .nil⟩
            refine oe rfl wn rfl rfl (e_append (row := Be.row) (l := []) (l' := l) rfl rfl rfl hO75 .head (fun h2 hE hL => hO.sl fun b o hb => hL b o (.tail _ (List.mem_append_left _ hb))) (by simp; omega) (by decide) rfl (fun v1 S1 hS1 => ?_))
            rw [List.nil_append] at hS1
            refine qm rfl rfl rfl <| qm rfl rfl rfl ?_
            refine oq (y_build (parts := [⟨_, _⟩, ⟨_, _⟩]) (cs := #[I k, I (t.day + j)]) rfl rfl rfl) rfl wn rfl rfl ?_
            refine Ops.bsl (cs := #[I k, I (t.day + j)]) (fun β81 => ?_) rfl (hf := by kernel_rfl)
            refine oe rfl wn rfl rfl (e_append (row := Be.row) (l' := [(⟨k, t.day + j⟩ : Be)]) rfl rfl rfl hS1 (.tail .head) (fun h2 _ hl => Sl.mk (hl β81 _ (.head _)) rfl (Part.all (Be.row ⟨k, t.day + j⟩))) (by simp; omega) (by decide) rfl (fun v2 S2 hS2 => ?_))
            refine qs rfl rfl rfl <| Ops.nil <| thn_n ?_
            refine W.sb (.of_perm ((List.Perm.swap _ _ _).trans (List.Perm.cons _ (List.perm_middle (l₁ := S2)).symm))) ?_
            refine W.seq <| W.region rfl ?_
            first | refine oq (yldW rfl rfl) rfl wn rfl rfl ?_ | refine oq (yldA rfl rfl) rfl wn rfl rfl ?_
            refine qm rfl rfl rfl <| qm rfl rfl rfl ?_
            refine cp (u := .bool (fullL fs ss (l ++ [⟨k, t.day + j⟩]) k)) (fun h' hE hL => Rfull_fn _ h' fs ss (l ++ [⟨k, t.day + j⟩]) k _ _ v2 (hf.ext hE) (hs.ext hE) (hS2.sl fun b o hb => hL b o (.tail _ (.tail _ (List.mem_append_left _ hb)))) hall hPb (by simp; omega) hk1) ?_
            refine oq (y_not rfl rfl) rfl wn rfl rfl ?_
            refine Ops.nil <| thn_n ?_
            refine W.cond rfl (fun c87 => ?_) (fun c87 => ?_)
            · refine W.region rfl <| qm rfl rfl rfl ?_
              first | refine oq (yldW rfl rfl) rfl wn rfl rfl ?_ | refine oq (yldA rfl rfl) rfl wn rfl rfl ?_
              refine qm rfl rfl rfl <| qm rfl rfl rfl ?_
              refine cg (A := S2) (.tail (.tail .head)) (fun h' hE hL => ih m (by omega) h' (l ++ [⟨k, t.day + j⟩]) S2 _ _ v2 (hf.ext hE) (hs.ext hE) hS2 (by simp; omega) hPb) (fun v A' hv => ?_)
              obtain ⟨O2, us2, B2, hO2, hB2, hsb2⟩ := hv
              obtain ⟨u2a, u2c, rfl⟩ := hO2.isSl
              have hul2 : us2.length ≤ 2197 := by rw [hB2.len]; exact Nat.le_trans (plansF_len hall m _ (by simp; omega)) h13
              refine Ops.sb (.cons (.cons (hsb2.app .refl))) ?_
              refine oe rfl wn rfl rfl (e_append (row := rowS) (l' := us2) rfl rfl rfl hN (.tail (.tail (.app (.app .head)))) (fun h2 _ hl => hO2.sl fun b o hb => hl b o (.tail _ (.tail _ (List.mem_append_left _ (List.mem_append_left _ hb))))) (by omega) (by decide) rfl (fun v3 N3 hN3 => ?_))
              obtain ⟨na3, nc3, rfl⟩ := hN3.isSl
              refine qs rfl rfl rfl <| Ops.nil <| blk_n <| thn_n <| W.region rfl <| qm rfl rfl rfl ?_
              first | refine oq (yadd rfl rfl rfl) rfl wn rfl rfl ?_ | refine oq (y_addw rfl rfl rfl) rfl wn rfl rfl ?_
              refine qs rfl rfl rfl <| Ops.nil <| thn_n ?_
              have hff : fullL fs ss (l ++ [⟨k, t.day + j⟩]) k = false := by simpa using c87
              refine ⟨rfl, (j + 1, us ++ us2, na3, nc3, N3, B ++ B2), ⟨by simp only; omega, hN3, ?_⟩, by simp only; omega, ⟨lk rfl (show I _ = I _ by congr 1; omega), rfl, rfl, rfl, rfl, rfl, rfl, trivial⟩, ?_⟩
              · dsimp only
                rw [hday, ← List.append_assoc]
                refine hC.append ?_
                rw [stepG, hff, if_neg (by decide)]
                exact hB2
              · dsimp only
                refine .cons (.skip rfl ⟨O2, perm_cnt fun y => ?_, hO2.shut⟩)
                simp only [List.count_append, List.count_cons, List.count_nil]; omega
            · refine W.skip <| blk_n <| thn_n <| W.region rfl <| qm rfl rfl rfl ?_
              first | refine oq (yadd rfl rfl rfl) rfl wn rfl rfl ?_ | refine oq (y_addw rfl rfl rfl) rfl wn rfl rfl ?_
              refine qs rfl rfl rfl <| Ops.nil <| thn_n ?_
              have hff : fullL fs ss (l ++ [⟨k, t.day + j⟩]) k = true := by simpa using c87
              refine ⟨rfl, (j + 1, us, ua, uc, O, B), ⟨by simp only; omega, hN, ?_⟩, by simp only; omega, ⟨lk rfl (show I _ = I _ by congr 1; omega), rfl, rfl, rfl, rfl, rfl, rfl, trivial⟩, .cons (.skip rfl (Sb.left .refl hS2.shut))⟩
              dsimp only
              rw [hday, stepG, if_pos hff, List.append_nil]
              exact hC
          · refine W.exit <| thn_x <| thn_x <| blk_x <| blk_n <| thn_n <| W.region rfl <| qm rfl rfl rfl ?_
            first | refine oq (yadd rfl rfl rfl) rfl wn rfl rfl ?_ | refine oq (y_addw rfl rfl rfl) rfl wn rfl rfl ?_
            refine qs rfl rfl rfl <| Ops.nil <| thn_n ?_
            have hje : j = (t.wa + 1).toNat := by omega
            subst hje
            refine ⟨rfl, (k + 1, us, ua, uc, O, B), ⟨by simp only; omega, hN, ?_⟩, by simp only; omega, ⟨rfl, rfl, rfl, rfl, rfl, rfl, trivial⟩, .refl⟩
            dsimp only
            rw [floorsFrom_snoc, Int.zero_add]
            exact hC
        · have hke : k = fs.length := by omega
          subst hke
          refine W.exit <| thn_x <| thn_x <| blk_x <| thn_n <| W.seq <| W.region rfl <| qm rfl rfl rfl <| qs rfl rfl rfl <| Ops.nil ?_
          refine thn_n <| W.ret ?_
          exact lvt (vs := [_]) ⟨O, us, B, hN, hC, .skip rfl (Sb.left .refl hO.shut)⟩
    · refine oq (y_move rfl rfl) rfl (want_some rfl rfl rfl) rfl rfl ?_
      refine oq (y_move rfl rfl) rfl (want_some rfl rfl rfl) rfl rfl ?_
      refine oq (y_gtr rfl rfl rfl) rfl (want_some rfl rfl rfl) rfl rfl ?_
      refine oq (y_pickF rfl rfl rfl) rfl wn rfl rfl ?_
      refine Ops.nil <| thn_n ?_
      refine W.condp rfl (fun c27 => ?_) (fun c27 => ?_)
      · --thn
        refine W.mono (Q := (fun e ρ' ds' F' => e = .normal ∧ ds' = [] ∧ ∃ (O : Frag) (us : List Sv) (B : Frag) (ua : Option Addr) (uc : Nat), Sub [(8, .slice ua us.length uc), (7, I l.length), (3, .pointer (some ⟨β3, 0, none⟩)), (2, .slice al l.length lc), (1, I u)] ρ' ∧ Os t_sl_Berth rowS (.slice ua us.length uc) us O ∧ Oss t_Berth Be.row us (plansF fs ss u m (l ++ [bnone])) B ∧ Sb ((β3, .cells #[.slice a fs.length cap, .slice a' ss.length cap'] t_Plant (0, 0)) :: (S ++ (O ++ B))) F')) ?_ ?_
        · refine W.drawL [(β3, .cells #[.slice a fs.length cap, .slice a' ss.length cap'] t_Plant (0, 0))] (n := 10) rfl ?_
          refine aq (i := 0) (yldW rfl rfl) rfl an rfl rfl ?_
          refine aq (i := 1) (y_move rfl rfl) rfl an rfl rfl ?_
          refine aq (i := 3) (y_move rfl rfl) rfl an rfl rfl ?_
          refine aq (i := 5) (y_build (parts := [⟨_, _⟩]) (cs := #[I (-1), I 0]) rfl rfl rfl) rfl an rfl rfl ?_
          refine Any.eff2 (i := 2) (j := 6) (by kernel_rfl) (nthO_get rfl) (nthO_get rfl) an an rfl rfl rfl rfl ?_ ?_
          · refine e_buildSlice0 rfl fun β30 _ _ => ⟨.inr (Keeps.one (by repeat (first | exact List.Mem.head _ | apply List.Mem.tail | apply List.mem_append_right)) Keeps.nil), ?_⟩
            have hO30 : Os t_Berth Be.row (.slice (some ⟨β30, 0, none⟩) 0 0) ([] : List Be) [(β30, .cells #[] t_Berth (0, 0))] := .inr ⟨β30, #[], 0, [], rfl, rfl, rfl, Nat.le_refl _, Part.all [], .nil⟩
            refine Any.eff2 (i := 4) (j := 6) (by kernel_rfl) (nthO_get rfl) (nthO_get rfl) an an rfl rfl rfl rfl ?_ ?_
            · refine e_append (row := Be.row) (l := []) (l' := l) rfl rfl rfl hO30 .head (fun h2 hE hL => hO.sl fun b o hb => hL b o (.tail _ hb)) (by simp; omega) (by decide) rfl (fun v4 S4 hO4 => ⟨.inr (Keeps.one (by repeat (first | exact List.Mem.head _ | apply List.Mem.tail | apply List.mem_append_right)) Keeps.nil), ?_⟩)
              rw [List.nil_append] at hO4
              refine abl (i := 6) (s := 2) (cs := #[I (-1), I 0]) (fun β34 => ?_) (hk := Keeps.one (by repeat (first | exact List.Mem.head _ | apply List.Mem.tail | apply List.mem_append_right)) Keeps.nil) (hf := by kernel_rfl)
              refine ae (i := 7) rfl an rfl rfl (e_append (row := Be.row) (l' := [bnone]) rfl rfl rfl hO4 (.tail .head) (fun h2 _ hl => Sl.mk (hl β34 _ (.head _)) rfl (Part.all (Be.row bnone))) (by simp; omega) (by decide) rfl (fun v7 S7 hO7 => ⟨.inr (Keeps.one (by repeat (first | exact List.Mem.head _ | apply List.Mem.tail | apply List.mem_append_right)) Keeps.nil), ?_⟩))
              refine ae (i := 8) rfl an rfl rfl (e_call (A := S7) (args := [_, _, _]) (vs := [.agg #[.slice a fs.length cap, .slice a' ss.length cap'], I u, v7]) rfl rfl (.tail .head) (fun h' hE hL => ih m (by omega) h' (l ++ [bnone]) S7 _ _ _ (hf.ext hE) (hs.ext hE) hO7 (by simp; omega) (hpb _ h0)) (fun v A' hv => ?_))
              obtain ⟨O, us, B, hOO, hBB, hsb⟩ := hv
              obtain ⟨ua, uc, rfl⟩ := hOO.isSl
              refine ⟨.inr (Keeps.one (by repeat (first | exact List.Mem.head _ | apply List.Mem.tail | apply List.mem_append_right)) Keeps.nil), ?_⟩
              refine aq (i := 9) (y_assign rfl rfl) rfl an rfl rfl ?_ (hS := Keeps.one (by repeat (first | exact List.Mem.head _ | apply List.Mem.tail | apply List.mem_append_right)) Keeps.nil)
              refine az ?_
              exact ⟨rfl, rfl, O, us, B, ua, uc, ⟨rfl, rfl, rfl, rfl, rfl, trivial⟩, hOO, hBB, .skip rfl (Sb.trans (.of_perm (List.perm_append_comm (l₁ := (β3, .cells #[.slice a fs.length cap, .slice a' ss.length cap'] t_Plant (0, 0)) :: S) (l₂ := O ++ B))) (hsb.app .refl))⟩
            · refine (e_buildSlice (cs := #[I (-1), I 0]) rfl rfl (by decide) (by decide) (by kernel_rfl) fun β34 _ _ => ⟨.inr (Keeps.one (by repeat (first | exact List.Mem.head _ | apply List.Mem.tail | apply List.mem_append_right)) Keeps.nil), ?_⟩)
              refine ae (i := 4) rfl an rfl rfl (e_append (row := Be.row) (l := []) (l' := l) rfl rfl rfl hO30 (.tail .head) (fun h2 hE hL => hO.sl fun b o hb => hL b o (.tail _ (.tail _ hb))) (by simp; omega) (by decide) rfl (fun v4 S4 hO4 => ⟨.inr (Keeps.one (by repeat (first | exact List.Mem.head _ | apply List.Mem.tail | apply List.mem_append_right)) Keeps.nil), ?_⟩))
              rw [List.nil_append] at hO4
              refine ae (i := 7) rfl an rfl rfl (e_append (row := Be.row) (l' := [bnone]) rfl rfl rfl hO4 (.tail .head) (fun h2 _ hl => Sl.mk (hl β34 _ (.head _)) rfl (Part.all (Be.row bnone))) (by simp; omega) (by decide) rfl (fun v7 S7 hO7 => ⟨.inr (Keeps.one (by repeat (first | exact List.Mem.head _ | apply List.Mem.tail | apply List.mem_append_right)) Keeps.nil), ?_⟩))
              refine ae (i := 8) rfl an rfl rfl (e_call (A := S7) (args := [_, _, _]) (vs := [.agg #[.slice a fs.length cap, .slice a' ss.length cap'], I u, v7]) rfl rfl (.tail .head) (fun h' hE hL => ih m (by omega) h' (l ++ [bnone]) S7 _ _ _ (hf.ext hE) (hs.ext hE) hO7 (by simp; omega) (hpb _ h0)) (fun v A' hv => ?_))
              obtain ⟨O, us, B, hOO, hBB, hsb⟩ := hv
              obtain ⟨ua, uc, rfl⟩ := hOO.isSl
              refine ⟨.inr (Keeps.one (by repeat (first | exact List.Mem.head _ | apply List.Mem.tail | apply List.mem_append_right)) Keeps.nil), ?_⟩
              refine aq (i := 9) (y_assign rfl rfl) rfl an rfl rfl ?_ (hS := Keeps.one (by repeat (first | exact List.Mem.head _ | apply List.Mem.tail | apply List.mem_append_right)) Keeps.nil)
              refine az ?_
              exact ⟨rfl, rfl, O, us, B, ua, uc, ⟨rfl, rfl, rfl, rfl, rfl, trivial⟩, hOO, hBB, .skip rfl (Sb.trans (.of_perm (List.perm_append_comm (l₁ := (β3, .cells #[.slice a fs.length cap, .slice a' ss.length cap'] t_Plant (0, 0)) :: S) (l₂ := O ++ B))) (hsb.app .refl))⟩
          · refine (e_buildSlice (cs := #[I (-1), I 0]) rfl rfl (by decide) (by decide) (by kernel_rfl) fun β34 _ _ => ⟨.inr (Keeps.one (by repeat (first | exact List.Mem.head _ | apply List.Mem.tail | apply List.mem_append_right)) Keeps.nil), ?_⟩)
            refine ae (i := 2) rfl an rfl rfl (e_buildSlice0 rfl fun β30 _ _ => ⟨.inr (Keeps.one (by repeat (first | exact List.Mem.head _ | apply List.Mem.tail | apply List.mem_append_right)) Keeps.nil), ?_⟩)
            have hO30 : Os t_Berth Be.row (.slice (some ⟨β30, 0, none⟩) 0 0) ([] : List Be) [(β30, .cells #[] t_Berth (0, 0))] := .inr ⟨β30, #[], 0, [], rfl, rfl, rfl, Nat.le_refl _, Part.all [], .nil⟩
            refine ae (i := 4) rfl an rfl rfl (e_append (row := Be.row) (l := []) (l' := l) rfl rfl rfl hO30 .head (fun h2 hE hL => hO.sl fun b o hb => hL b o (.tail _ (.tail _ hb))) (by simp; omega) (by decide) rfl (fun v4 S4 hO4 => ⟨.inr (Keeps.one (by repeat (first | exact List.Mem.head _ | apply List.Mem.tail | apply List.mem_append_right)) Keeps.nil), ?_⟩))
            rw [List.nil_append] at hO4
            refine Any.sb (F' := (β34, .cells #[I (-1), I 0] t_Berth (0, 0)) :: (S4 ++ ((β3, .cells #[.slice a fs.length cap, .slice a' ss.length cap'] t_Plant (0, 0)) :: S))) (.of_perm (List.perm_middle (a := _) (l₁ := S4)).symm) ?_
            refine ae (i := 7) rfl an rfl rfl (e_append (row := Be.row) (l' := [bnone]) rfl rfl rfl hO4 (.tail .head) (fun h2 _ hl => Sl.mk (hl β34 _ (.head _)) rfl (Part.all (Be.row bnone))) (by simp; omega) (by decide) rfl (fun v7 S7 hO7 => ⟨.inr (Keeps.one (by repeat (first | exact List.Mem.head _ | apply List.Mem.tail | apply List.mem_append_right)) Keeps.nil), ?_⟩))
            refine ae (i := 8) rfl an rfl rfl (e_call (A := S7) (args := [_, _, _]) (vs := [.agg #[.slice a fs.length cap, .slice a' ss.length cap'], I u, v7]) rfl rfl (.tail .head) (fun h' hE hL => ih m (by omega) h' (l ++ [bnone]) S7 _ _ _ (hf.ext hE) (hs.ext hE) hO7 (by simp; omega) (hpb _ h0)) (fun v A' hv => ?_))
            obtain ⟨O, us, B, hOO, hBB, hsb⟩ := hv
            obtain ⟨ua, uc, rfl⟩ := hOO.isSl
            refine ⟨.inr (Keeps.one (by repeat (first | exact List.Mem.head _ | apply List.Mem.tail | apply List.mem_append_right)) Keeps.nil), ?_⟩
            refine aq (i := 9) (y_assign rfl rfl) rfl an rfl rfl ?_ (hS := Keeps.one (by repeat (first | exact List.Mem.head _ | apply List.Mem.tail | apply List.mem_append_right)) Keeps.nil)
            refine az ?_
            exact ⟨rfl, rfl, O, us, B, ua, uc, ⟨rfl, rfl, rfl, rfl, rfl, trivial⟩, hOO, hBB, .skip rfl (Sb.trans (.of_perm (List.perm_append_comm (l₁ := (β3, .cells #[.slice a fs.length cap, .slice a' ss.length cap'] t_Plant (0, 0)) :: S) (l₂ := O ++ B))) (hsb.app .refl))⟩
        rintro e ρ' ds' F' ⟨rfl, rfl, O, us, B, ua, uc, hE0, hOO, hBB, hsb0⟩
        refine thn_n (W.env hE0 (W.sb hsb0 ?_))
        refine W.seq <| W.seq <| W.region rfl <| qm rfl rfl rfl ?_
        refine oq (y_geq rfl rfl rfl) rfl wn rfl rfl ?_
        refine qm rfl rfl rfl ?_
        refine Ops.ask (fun a7_3 => ?_) (fun a7_3 => ?_)
        · refine oq (y_move rfl rfl) rfl (want_some rfl rfl rfl) rfl rfl ?_
          refine oq (y_move rfl rfl) rfl (want_some rfl rfl rfl) rfl rfl ?_
          refine oq (y_gtr rfl rfl rfl) rfl (want_some rfl rfl rfl) rfl rfl ?_
          refine oq (y_pickT rfl rfl rfl) rfl wn rfl rfl ?_
          refine Ops.nil <| thn_n ?_
          refine W.condp rfl (fun c43 => ?_) (fun c43 => ?_)
          · refine W.seq <| W.region rfl <| qm rfl rfl rfl <| qs rfl rfl rfl <| Ops.nil <| thn_n <| W.ret <| thn_r ?_
            first
            | (exfalso; omega)
            | (rw [if_pos (by omega), if_pos (by omega), List.append_nil]
               exact lvt (vs := [_]) ⟨O, us, B, hOO, hBB, .skip rfl (Sb.left .refl hO.shut)⟩)
          · refine W.skip <| thn_n <| W.seq <| W.seq <| W.region rfl <| qs rfl rfl rfl <| Ops.nil <| thn_n <| W.block ?_
            first
            | refine W.loop (σ := Nat × List Sv × Option Addr × Nat × Frag × Frag) (fun q => q.1 ≤ fs.length ∧ Os t_sl_Berth rowS (.slice q.2.2.1 q.2.1.length q.2.2.2.1) q.2.1 q.2.2.2.2.1 ∧ Oss t_Berth Be.row q.2.1 ((if u < 0 ∨ u < l.length then plansF fs ss u m (l ++ [bnone]) else []) ++ (floorsFrom t 0 q.1).flatMap (stepG fs ss u m l)) q.2.2.2.2.2) (fun q => [(9, I q.1), (8, .slice q.2.2.1 q.2.1.length q.2.2.2.1), (7, I l.length), (3, .pointer (some ⟨β3, 0, none⟩)), (2, .slice al l.length lc), (1, I u)]) (fun q => (β3, .cells #[.slice a fs.length cap, .slice a' ss.length cap'] t_Plant (0, 0)) :: (S ++ (q.2.2.2.2.1 ++ q.2.2.2.2.2))) (fun q => fs.length - q.1) (0, us, ua, uc, O, B) ⟨Nat.zero_le _, hOO, by rw [if_pos (by omega)]; simpa [floorsFrom] using hBB⟩ ⟨rfl, rfl, rfl, rfl, rfl, rfl, trivial⟩ .refl ?_
            | refine W.loop (σ := Nat × List Sv × Option Addr × Nat × Frag × Frag) (fun q => q.1 ≤ fs.length ∧ Os t_sl_Berth rowS (.slice q.2.2.1 q.2.1.length q.2.2.2.1) q.2.1 q.2.2.2.2.1 ∧ Oss t_Berth Be.row q.2.1 ((if u < 0 ∨ u < l.length then plansF fs ss u m (l ++ [bnone]) else []) ++ (floorsFrom t 0 q.1).flatMap (stepG fs ss u m l)) q.2.2.2.2.2) (fun q => [(9, I q.1), (8, .slice q.2.2.1 q.2.1.length q.2.2.2.1), (7, I l.length), (3, .pointer (some ⟨β3, 0, none⟩)), (2, .slice al l.length lc), (1, I u)]) (fun q => (β3, .cells #[.slice a fs.length cap, .slice a' ss.length cap'] t_Plant (0, 0)) :: (S ++ (q.2.2.2.2.1 ++ q.2.2.2.2.2))) (fun q => fs.length - q.1) (0, [], none, 0, [], []) ⟨Nat.zero_le _, .nil .nil, by rw [if_neg (by omega)]; exact .nil⟩ ⟨rfl, rfl, rfl, rfl, rfl, rfl, trivial⟩ (by simp only [List.append_nil]; exact .refl) ?_
            rintro ⟨k, us, ua, uc, O, B⟩ ⟨hk0, hN, hC⟩
            dsimp only at *
            rw [if_neg (show ¬ (0 ≤ u ∧ u < l.length) by omega)]
            obtain ⟨X0, hX0⟩ : ∃ X, (if u < 0 ∨ u < (l.length : Int) then plansF fs ss u m (l ++ [bnone]) else []) = X := ⟨_, rfl⟩
            have hX0l : X0.length ≤ 13 ^ m := by
              rw [← hX0]
              split
              · exact plansF_len hall m _ (by simp; omega)
              · simp
            rw [hX0] at hC ⊢
            refine W.seq <| W.seq <| W.region rfl <| qm rfl rfl rfl ?_
            refine oq (y_fieldAddr rfl rfl) rfl wn rfl rfl ?_
            refine oq (yld rfl rfl) rfl wn rfl rfl ?_
            refine oq (y_len rfl rfl) rfl wn rfl rfl ?_
            refine oq (y_lss rfl rfl rfl) rfl wn rfl rfl ?_
            refine Ops.nil <| thn_n ?_
            refine W.condp rfl (fun c49 => ?_) (fun c49 => ?_)
            · have hk1 : k < fs.length := by omega
              obtain ⟨bs, offs, cs, Es, fzs, rfl, hbs, -, hys, hzs⟩ := hs.at ht0
              have hsd : cs[offs + l.length * 3 + 0]? = some (I t.day) := hzs 0 (by decide)
              have hsw : cs[offs + l.length * 3 + 2]? = some (I t.wa) := hzs 2 (by decide)
              clear hzs
              refine W.skip <| thn_n <| W.seq <| W.block <| W.seq <| W.region rfl ?_
              refine oq (y_fieldAddr rfl rfl) rfl wn rfl rfl ?_
              refine oq (yld rfl rfl) rfl wn rfl rfl ?_
              refine qm rfl rfl rfl ?_
              first | refine oq (yix rfl rfl rfl) rfl wn rfl rfl ?_ | refine oq (yixI rfl rfl rfl) rfl wn rfl rfl ?_
              refine oq (y_fieldAddr rfl rfl) rfl wn rfl rfl ?_
              refine oq (yld rfl rfl) rfl wn rfl rfl ?_
              refine qs rfl rfl rfl <| Ops.nil <| thn_n <| W.block ?_
              refine W.loop (σ := Nat × List Sv × Option Addr × Nat × Frag × Frag) (fun q => q.1 ≤ (t.wa + 1).toNat ∧ Os t_sl_Berth rowS (.slice q.2.2.1 q.2.1.length q.2.2.2.1) q.2.1 q.2.2.2.2.1 ∧ Oss t_Berth Be.row q.2.1 (X0 ++ (floorsFrom t 0 k ++ daysFrom k t.day q.1).flatMap (stepG fs ss u m l)) q.2.2.2.2.2) (fun q => [(10, I (t.day + q.1)), (9, I k), (8, .slice q.2.2.1 q.2.1.length q.2.2.2.1), (7, I l.length), (3, .pointer (some ⟨β3, 0, none⟩)), (2, .slice al l.length lc), (1, I u)]) (fun q => (β3, .cells #[.slice a fs.length cap, .slice _ ss.length cap'] t_Plant (0, 0)) :: (S ++ (q.2.2.2.2.1 ++ q.2.2.2.2.2))) (fun q => (t.wa + 1).toNat - q.1) (0, us, ua, uc, O, B) ⟨Nat.zero_le _, hN, by simpa [daysFrom] using hC⟩ ⟨lk rfl (show I _ = I _ by congr 1; omega), rfl, rfl, rfl, rfl, rfl, rfl, trivial⟩ .refl ?_
              clear hN hC
              rintro ⟨j, us, ua, uc, O, B⟩ ⟨hj, hN, hC⟩
              dsimp only at *
              refine W.seq <| W.seq ?_
              refine W.drawF (n := 15) rfl ?_
              refine aq (i := 0) (y_move rfl rfl) rfl an rfl rfl ?_
              refine aq (i := 1) (y_fieldAddr rfl rfl) rfl an rfl rfl ?_
              refine aq (i := 2) (yld rfl rfl) rfl an rfl rfl ?_
              refine aq (i := 3) (y_move rfl rfl) rfl an rfl rfl ?_
              first | refine aq (i := 4) (yix rfl rfl rfl) rfl an rfl rfl ?_ | refine aq (i := 4) (yixI rfl rfl rfl) rfl an rfl rfl ?_
              refine aq (i := 5) (y_fieldAddr rfl rfl) rfl an rfl rfl ?_
              refine aq (i := 6) (yld rfl rfl) rfl an rfl rfl ?_
              refine aq (i := 7) (y_fieldAddr rfl rfl) rfl an rfl rfl ?_
              refine aq (i := 8) (yld rfl rfl) rfl an rfl rfl ?_
              refine aq (i := 9) (y_move rfl rfl) rfl an rfl rfl ?_
              first | refine aq (i := 10) (yix rfl rfl rfl) rfl an rfl rfl ?_ | refine aq (i := 10) (yixI rfl rfl rfl) rfl an rfl rfl ?_
              refine aq (i := 11) (y_fieldAddr rfl rfl) rfl an rfl rfl ?_
              refine aq (i := 12) (yld rfl rfl) rfl an rfl rfl ?_
              first | refine aq (i := 13) (yadd rfl rfl rfl) rfl an rfl rfl ?_ | refine aq (i := 13) (y_addw rfl rfl rfl) rfl an rfl rfl ?_
              refine aq (i := 14) (y_leq rfl rfl rfl) rfl an rfl rfl ?_
              refine az ?_
              refine thn_n ?_
              refine W.condp rfl (fun c72 => ?_) (fun c72 => ?_)
              · have hj1 : j < (t.wa + 1).toNat := by omega
                have hbm : (⟨k, t.day + j⟩ : Be) ∈ floorsFrom t 0 fs.length := by
                  have := mem_berths (fs := fs) (ss := ss) (may := freeM) (k := l.length) (b := ⟨k, t.day + j⟩)
                  rw [hbe, hta] at this
                  have h2 := this.2 (.inr ⟨rfl, by simp only; omega, by simp only; omega, by simp only; omega, by simp only; omega⟩)
                  rcases List.mem_cons.1 h2 with h3 | h3
                  · exact absurd (congrArg Be.fl h3) (by simp only [bnone]; omega)
                  · exact h3
                have hPb := hpb _ (hmf _ hbm)
                have hL20 : (floorsFrom t 0 k ++ daysFrom k t.day j).length ≤ 20 := by
                  have := floors_le (s := t) (m := k) (f := 0) (by omega) (by omega)
                  rw [List.length_append, daysFrom_len]; omega
                have hul : us.length ≤ 60000 := by
                  have h1 := fm_len (l := floorsFrom t 0 k ++ daysFrom k t.day j) (f := stepG fs ss u m l) (n := 13 ^ m) fun b _ => by
                    unfold stepG
                    split
                    · simp
                    · exact plansF_len hall m _ (by simp; omega)
                  have h2 := Nat.mul_le_mul hL20 h13
                  rw [hC.len, List.length_append]
                  omega
                have hday : (floorsFrom t 0 k ++ daysFrom k t.day (j + 1)).flatMap (stepG fs ss u m l) = (floorsFrom t 0 k ++ daysFrom k t.day j).flatMap (stepG fs ss u m l) ++ stepG fs ss u m l ⟨k, t.day + j⟩ := by
                  rw [daysFrom_snoc, ← List.append_assoc, List.flatMap_append]; simp
                refine W.skip <| thn_n <| W.seq <| W.block <| W.seq <| W.region rfl ?_
                refine Ops.bsl0 (fun β75 => ?_)
                refine qm rfl rfl rfl ?_
                have hO75 : Os t_Berth Be.row (.slice (some ⟨β75, 0, none⟩) 0 0) ([] : List Be) [(β75, .cells #[] t_Berth (0, 0))] := .inr ⟨β75, #[], 0, [], rfl, rfl, rfl, Nat.le_refl _, Part.all [], .nil⟩
                refine oe rfl wn rfl rfl (e_append (row := Be.row) (l := []) (l' := l) rfl rfl rfl hO75 .head (fun h2 hE hL => hO.sl fun b o hb => hL b o (.tail _ (List.mem_append_left _ hb))) (by simp; omega) (by decide) rfl (fun v1 S1 hS1 => ?_))
                rw [List.nil_append] at hS1
                refine qm rfl rfl rfl <| qm rfl rfl rfl ?_
                refine oq (y_build (parts := [⟨_, _⟩, ⟨_, _⟩]) (cs := #[I k, I (t.day + j)]) rfl rfl rfl) rfl wn rfl rfl ?_
                refine Ops.bsl (cs := #[I k, I (t.day + j)]) (fun β81 => ?_) rfl (hf := by kernel_rfl)
                refine oe rfl wn rfl rfl (e_append (row := Be.row) (l' := [(⟨k, t.day + j⟩ : Be)]) rfl rfl rfl hS1 (.tail .head) (fun h2 _ hl => Sl.mk (hl β81 _ (.head _)) rfl (Part.all (Be.row ⟨k, t.day + j⟩))) (by simp; omega) (by decide) rfl (fun v2 S2 hS2 => ?_))
                refine qs rfl rfl rfl <| Ops.nil <| thn_n ?_
                refine W.sb (.of_perm ((List.Perm.swap _ _ _).trans (List.Perm.cons _ (List.perm_middle (l₁ := S2)).symm))) ?_
                refine W.seq <| W.region rfl ?_
                first | refine oq (yldW rfl rfl) rfl wn rfl rfl ?_ | refine oq (yldA rfl rfl) rfl wn rfl rfl ?_
                refine qm rfl rfl rfl <| qm rfl rfl rfl ?_
                refine cp (u := .bool (fullL fs ss (l ++ [⟨k, t.day + j⟩]) k)) (fun h' hE hL => Rfull_fn _ h' fs ss (l ++ [⟨k, t.day + j⟩]) k _ _ v2 (hf.ext hE) (hs.ext hE) (hS2.sl fun b o hb => hL b o (.tail _ (.tail _ (List.mem_append_left _ hb)))) hall hPb (by simp; omega) hk1) ?_
                refine oq (y_not rfl rfl) rfl wn rfl rfl ?_
                refine Ops.nil <| thn_n ?_
                refine W.cond rfl (fun c87 => ?_) (fun c87 => ?_)
                · refine W.region rfl <| qm rfl rfl rfl ?_
                  first | refine oq (yldW rfl rfl) rfl wn rfl rfl ?_ | refine oq (yldA rfl rfl) rfl wn rfl rfl ?_
                  refine qm rfl rfl rfl <| qm rfl rfl rfl ?_
                  refine cg (A := S2) (.tail (.tail .head)) (fun h' hE hL => ih m (by omega) h' (l ++ [⟨k, t.day + j⟩]) S2 _ _ v2 (hf.ext hE) (hs.ext hE) hS2 (by simp; omega) hPb) (fun v A' hv => ?_)
                  obtain ⟨O2, us2, B2, hO2, hB2, hsb2⟩ := hv
                  obtain ⟨u2a, u2c, rfl⟩ := hO2.isSl
                  have hul2 : us2.length ≤ 2197 := by rw [hB2.len]; exact Nat.le_trans (plansF_len hall m _ (by simp; omega)) h13
                  refine Ops.sb (.cons (.cons (hsb2.app .refl))) ?_
                  refine oe rfl wn rfl rfl (e_append (row := rowS) (l' := us2) rfl rfl rfl hN (.tail (.tail (.app (.app .head)))) (fun h2 _ hl => hO2.sl fun b o hb => hl b o (.tail _ (.tail _ (List.mem_append_left _ (List.mem_append_left _ hb))))) (by omega) (by decide) rfl (fun v3 N3 hN3 => ?_))
                  obtain ⟨na3, nc3, rfl⟩ := hN3.isSl
                  refine qs rfl rfl rfl <| Ops.nil <| blk_n <| thn_n <| W.region rfl <| qm rfl rfl rfl ?_
                  first | refine oq (yadd rfl rfl rfl) rfl wn rfl rfl ?_ | refine oq (y_addw rfl rfl rfl) rfl wn rfl rfl ?_
                  refine qs rfl rfl rfl <| Ops.nil <| thn_n ?_
                  have hff : fullL fs ss (l ++ [⟨k, t.day + j⟩]) k = false := by simpa using c87
                  refine ⟨rfl, (j + 1, us ++ us2, na3, nc3, N3, B ++ B2), ⟨by simp only; omega, hN3, ?_⟩, by simp only; omega, ⟨lk rfl (show I _ = I _ by congr 1; omega), rfl, rfl, rfl, rfl, rfl, rfl, trivial⟩, ?_⟩
                  · dsimp only
                    rw [hday, ← List.append_assoc]
                    refine hC.append ?_
                    rw [stepG, hff, if_neg (by decide)]
                    exact hB2
                  · dsimp only
                    refine .cons (.skip rfl ⟨O2, perm_cnt fun y => ?_, hO2.shut⟩)
                    simp only [List.count_append, List.count_cons, List.count_nil]; omega
                · refine W.skip <| blk_n <| thn_n <| W.region rfl <| qm rfl rfl rfl ?_
                  first | refine oq (yadd rfl rfl rfl) rfl wn rfl rfl ?_ | refine oq (y_addw rfl rfl rfl) rfl wn rfl rfl ?_
                  refine qs rfl rfl rfl <| Ops.nil <| thn_n ?_
                  have hff : fullL fs ss (l ++ [⟨k, t.day + j⟩]) k = true := by simpa using c87
                  refine ⟨rfl, (j + 1, us, ua, uc, O, B), ⟨by simp only; omega, hN, ?_⟩, by simp only; omega, ⟨lk rfl (show I _ = I _ by congr 1; omega), rfl, rfl, rfl, rfl, rfl, rfl, trivial⟩, .cons (.skip rfl (Sb.left .refl hS2.shut))⟩
                  dsimp only
                  rw [hday, stepG, if_pos hff, List.append_nil]
                  exact hC
              · refine W.exit <| thn_x <| thn_x <| blk_x <| blk_n <| thn_n <| W.region rfl <| qm rfl rfl rfl ?_
                first | refine oq (yadd rfl rfl rfl) rfl wn rfl rfl ?_ | refine oq (y_addw rfl rfl rfl) rfl wn rfl rfl ?_
                refine qs rfl rfl rfl <| Ops.nil <| thn_n ?_
                have hje : j = (t.wa + 1).toNat := by omega
                subst hje
                refine ⟨rfl, (k + 1, us, ua, uc, O, B), ⟨by simp only; omega, hN, ?_⟩, by simp only; omega, ⟨rfl, rfl, rfl, rfl, rfl, rfl, trivial⟩, .refl⟩
                dsimp only
                rw [floorsFrom_snoc, Int.zero_add]
                exact hC
            · have hke : k = fs.length := by omega
              subst hke
              refine W.exit <| thn_x <| thn_x <| blk_x <| thn_n <| W.seq <| W.region rfl <| qm rfl rfl rfl <| qs rfl rfl rfl <| Ops.nil ?_
              refine thn_n <| W.ret ?_
              exact lvt (vs := [_]) ⟨O, us, B, hN, hC, .skip rfl (Sb.left .refl hO.shut)⟩
        · refine Ops.no ?_
          refine Ops.no ?_
          refine Ops.no ?_
          refine oq (y_pickF rfl rfl rfl) rfl wn rfl rfl ?_
          refine Ops.nil <| thn_n ?_
          refine W.condF ?_
          refine W.skip <| thn_n <| W.seq <| W.seq <| W.region rfl <| qs rfl rfl rfl <| Ops.nil <| thn_n <| W.block ?_
          first
          | refine W.loop (σ := Nat × List Sv × Option Addr × Nat × Frag × Frag) (fun q => q.1 ≤ fs.length ∧ Os t_sl_Berth rowS (.slice q.2.2.1 q.2.1.length q.2.2.2.1) q.2.1 q.2.2.2.2.1 ∧ Oss t_Berth Be.row q.2.1 ((if u < 0 ∨ u < l.length then plansF fs ss u m (l ++ [bnone]) else []) ++ (floorsFrom t 0 q.1).flatMap (stepG fs ss u m l)) q.2.2.2.2.2) (fun q => [(9, I q.1), (8, .slice q.2.2.1 q.2.1.length q.2.2.2.1), (7, I l.length), (3, .pointer (some ⟨β3, 0, none⟩)), (2, .slice al l.length lc), (1, I u)]) (fun q => (β3, .cells #[.slice a fs.length cap, .slice a' ss.length cap'] t_Plant (0, 0)) :: (S ++ (q.2.2.2.2.1 ++ q.2.2.2.2.2))) (fun q => fs.length - q.1) (0, us, ua, uc, O, B) ⟨Nat.zero_le _, hOO, by rw [if_pos (by omega)]; simpa [floorsFrom] using hBB⟩ ⟨rfl, rfl, rfl, rfl, rfl, rfl, trivial⟩ .refl ?_
          | refine W.loop (σ := Nat × List Sv × Option Addr × Nat × Frag × Frag) (fun q => q.1 ≤ fs.length ∧ Os t_sl_Berth rowS (.slice q.2.2.1 q.2.1.length q.2.2.2.1) q.2.1 q.2.2.2.2.1 ∧ Oss t_Berth Be.row q.2.1 ((if u < 0 ∨ u < l.length then plansF fs ss u m (l ++ [bnone]) else []) ++ (floorsFrom t 0 q.1).flatMap (stepG fs ss u m l)) q.2.2.2.2.2) (fun q => [(9, I q.1), (8, .slice q.2.2.1 q.2.1.length q.2.2.2.1), (7, I l.length), (3, .pointer (some ⟨β3, 0, none⟩)), (2, .slice al l.length lc), (1, I u)]) (fun q => (β3, .cells #[.slice a fs.length cap, .slice a' ss.length cap'] t_Plant (0, 0)) :: (S ++ (q.2.2.2.2.1 ++ q.2.2.2.2.2))) (fun q => fs.length - q.1) (0, [], none, 0, [], []) ⟨Nat.zero_le _, .nil .nil, by rw [if_neg (by omega)]; exact .nil⟩ ⟨rfl, rfl, rfl, rfl, rfl, rfl, trivial⟩ (by simp only [List.append_nil]; exact .refl) ?_
          rintro ⟨k, us, ua, uc, O, B⟩ ⟨hk0, hN, hC⟩
          dsimp only at *
          rw [if_neg (show ¬ (0 ≤ u ∧ u < l.length) by omega)]
          obtain ⟨X0, hX0⟩ : ∃ X, (if u < 0 ∨ u < (l.length : Int) then plansF fs ss u m (l ++ [bnone]) else []) = X := ⟨_, rfl⟩
          have hX0l : X0.length ≤ 13 ^ m := by
            rw [← hX0]
            split
            · exact plansF_len hall m _ (by simp; omega)
            · simp
          rw [hX0] at hC ⊢
          refine W.seq <| W.seq <| W.region rfl <| qm rfl rfl rfl ?_
          refine oq (y_fieldAddr rfl rfl) rfl wn rfl rfl ?_
          refine oq (yld rfl rfl) rfl wn rfl rfl ?_
          refine oq (y_len rfl rfl) rfl wn rfl rfl ?_
          refine oq (y_lss rfl rfl rfl) rfl wn rfl rfl ?_
          refine Ops.nil <| thn_n ?_
          refine W.condp rfl (fun c49 => ?_) (fun c49 => ?_)
          · have hk1 : k < fs.length := by omega
            obtain ⟨bs, offs, cs, Es, fzs, rfl, hbs, -, hys, hzs⟩ := hs.at ht0
            have hsd : cs[offs + l.length * 3 + 0]? = some (I t.day) := hzs 0 (by decide)
            have hsw : cs[offs + l.length * 3 + 2]? = some (I t.wa) := hzs 2 (by decide)
            clear hzs
            refine W.skip <| thn_n <| W.seq <| W.block <| W.seq <| W.region rfl ?_
            refine oq (y_fieldAddr rfl rfl) rfl wn rfl rfl ?_
            refine oq (yld rfl rfl) rfl wn rfl rfl ?_
            refine qm rfl rfl rfl ?_
            first | refine oq (yix rfl rfl rfl) rfl wn rfl rfl ?_ | refine oq (yixI rfl rfl rfl) rfl wn rfl rfl ?_
            refine oq (y_fieldAddr rfl rfl) rfl wn rfl rfl ?_
            refine oq (yld rfl rfl) rfl wn rfl rfl ?_
            refine qs rfl rfl rfl <| Ops.nil <| thn_n <| W.block ?_
            refine W.loop (σ := Nat × List Sv × Option Addr × Nat × Frag × Frag) (fun q => q.1 ≤ (t.wa + 1).toNat ∧ Os t_sl_Berth rowS (.slice q.2.2.1 q.2.1.length q.2.2.2.1) q.2.1 q.2.2.2.2.1 ∧ Oss t_Berth Be.row q.2.1 (X0 ++ (floorsFrom t 0 k ++ daysFrom k t.day q.1).flatMap (stepG fs ss u m l)) q.2.2.2.2.2) (fun q => [(10, I (t.day + q.1)), (9, I k), (8, .slice q.2.2.1 q.2.1.length q.2.2.2.1), (7, I l.length), (3, .pointer (some ⟨β3, 0, none⟩)), (2, .slice al l.length lc), (1, I u)]) (fun q => (β3, .cells #[.slice a fs.length cap, .slice _ ss.length cap'] t_Plant (0, 0)) :: (S ++ (q.2.2.2.2.1 ++ q.2.2.2.2.2))) (fun q => (t.wa + 1).toNat - q.1) (0, us, ua, uc, O, B) ⟨Nat.zero_le _, hN, by simpa [daysFrom] using hC⟩ ⟨lk rfl (show I _ = I _ by congr 1; omega), rfl, rfl, rfl, rfl, rfl, rfl, trivial⟩ .refl ?_
            clear hN hC
            rintro ⟨j, us, ua, uc, O, B⟩ ⟨hj, hN, hC⟩
            dsimp only at *
            refine W.seq <| W.seq ?_
            refine W.drawF (n := 15) rfl ?_
            refine aq (i := 0) (y_move rfl rfl) rfl an rfl rfl ?_
            refine aq (i := 1) (y_fieldAddr rfl rfl) rfl an rfl rfl ?_
            refine aq (i := 2) (yld rfl rfl) rfl an rfl rfl ?_
            refine aq (i := 3) (y_move rfl rfl) rfl an rfl rfl ?_
            first | refine aq (i := 4) (yix rfl rfl rfl) rfl an rfl rfl ?_ | refine aq (i := 4) (yixI rfl rfl rfl) rfl an rfl rfl ?_
            refine aq (i := 5) (y_fieldAddr rfl rfl) rfl an rfl rfl ?_
            refine aq (i := 6) (yld rfl rfl) rfl an rfl rfl ?_
            refine aq (i := 7) (y_fieldAddr rfl rfl) rfl an rfl rfl ?_
            refine aq (i := 8) (yld rfl rfl) rfl an rfl rfl ?_
            refine aq (i := 9) (y_move rfl rfl) rfl an rfl rfl ?_
            first | refine aq (i := 10) (yix rfl rfl rfl) rfl an rfl rfl ?_ | refine aq (i := 10) (yixI rfl rfl rfl) rfl an rfl rfl ?_
            refine aq (i := 11) (y_fieldAddr rfl rfl) rfl an rfl rfl ?_
            refine aq (i := 12) (yld rfl rfl) rfl an rfl rfl ?_
            first | refine aq (i := 13) (yadd rfl rfl rfl) rfl an rfl rfl ?_ | refine aq (i := 13) (y_addw rfl rfl rfl) rfl an rfl rfl ?_
            refine aq (i := 14) (y_leq rfl rfl rfl) rfl an rfl rfl ?_
            refine az ?_
            refine thn_n ?_
            refine W.condp rfl (fun c72 => ?_) (fun c72 => ?_)
            · have hj1 : j < (t.wa + 1).toNat := by omega
              have hbm : (⟨k, t.day + j⟩ : Be) ∈ floorsFrom t 0 fs.length := by
                have := mem_berths (fs := fs) (ss := ss) (may := freeM) (k := l.length) (b := ⟨k, t.day + j⟩)
                rw [hbe, hta] at this
                have h2 := this.2 (.inr ⟨rfl, by simp only; omega, by simp only; omega, by simp only; omega, by simp only; omega⟩)
                rcases List.mem_cons.1 h2 with h3 | h3
                · exact absurd (congrArg Be.fl h3) (by simp only [bnone]; omega)
                · exact h3
              have hPb := hpb _ (hmf _ hbm)
              have hL20 : (floorsFrom t 0 k ++ daysFrom k t.day j).length ≤ 20 := by
                have := floors_le (s := t) (m := k) (f := 0) (by omega) (by omega)
                rw [List.length_append, daysFrom_len]; omega
              have hul : us.length ≤ 60000 := by
                have h1 := fm_len (l := floorsFrom t 0 k ++ daysFrom k t.day j) (f := stepG fs ss u m l) (n := 13 ^ m) fun b _ => by
                  unfold stepG
                  split
                  · simp
                  · exact plansF_len hall m _ (by simp; omega)
                have h2 := Nat.mul_le_mul hL20 h13
                rw [hC.len, List.length_append]
                omega
              have hday : (floorsFrom t 0 k ++ daysFrom k t.day (j + 1)).flatMap (stepG fs ss u m l) = (floorsFrom t 0 k ++ daysFrom k t.day j).flatMap (stepG fs ss u m l) ++ stepG fs ss u m l ⟨k, t.day + j⟩ := by
                rw [daysFrom_snoc, ← List.append_assoc, List.flatMap_append]; simp
              refine W.skip <| thn_n <| W.seq <| W.block <| W.seq <| W.region rfl ?_
              refine Ops.bsl0 (fun β75 => ?_)
              refine qm rfl rfl rfl ?_
              have hO75 : Os t_Berth Be.row (.slice (some ⟨β75, 0, none⟩) 0 0) ([] : List Be) [(β75, .cells #[] t_Berth (0, 0))] := .inr ⟨β75, #[], 0, [], rfl, rfl, rfl, Nat.le_refl _, Part.all [], .nil⟩
              refine oe rfl wn rfl rfl (e_append (row := Be.row) (l := []) (l' := l) rfl rfl rfl hO75 .head (fun h2 hE hL => hO.sl fun b o hb => hL b o (.tail _ (List.mem_append_left _ hb))) (by simp; omega) (by decide) rfl (fun v1 S1 hS1 => ?_))
              rw [List.nil_append] at hS1
              refine qm rfl rfl rfl <| qm rfl rfl rfl ?_
              refine oq (y_build (parts := [⟨_, _⟩, ⟨_, _⟩]) (cs := #[I k, I (t.day + j)]) rfl rfl rfl) rfl wn rfl rfl ?_
              refine Ops.bsl (cs := #[I k, I (t.day + j)]) (fun β81 => ?_) rfl (hf := by kernel_rfl)
              refine oe rfl wn rfl rfl (e_append (row := Be.row) (l' := [(⟨k, t.day + j⟩ : Be)]) rfl rfl rfl hS1 (.tail .head) (fun h2 _ hl => Sl.mk (hl β81 _ (.head _)) rfl (Part.all (Be.row ⟨k, t.day + j⟩))) (by simp; omega) (by decide) rfl (fun v2 S2 hS2 => ?_))
              refine qs rfl rfl rfl <| Ops.nil <| thn_n ?_
              refine W.sb (.of_perm ((List.Perm.swap _ _ _).trans (List.Perm.cons _ (List.perm_middle (l₁ := S2)).symm))) ?_
              refine W.seq <| W.region rfl ?_
              first | refine oq (yldW rfl rfl) rfl wn rfl rfl ?_ | refine oq (yldA rfl rfl) rfl wn rfl rfl ?_
              refine qm rfl rfl rfl <| qm rfl rfl rfl ?_
              refine cp (u := .bool (fullL fs ss (l ++ [⟨k, t.day + j⟩]) k)) (fun h' hE hL => Rfull_fn _ h' fs ss (l ++ [⟨k, t.day + j⟩]) k _ _ v2 (hf.ext hE) (hs.ext hE) (hS2.sl fun b o hb => hL b o (.tail _ (.tail _ (List.mem_append_left _ hb)))) hall hPb (by simp; omega) hk1) ?_
              refine oq (y_not rfl rfl) rfl wn rfl rfl ?_
              refine Ops.nil <| thn_n ?_
              refine W.cond rfl (fun c87 => ?_) (fun c87 => ?_)
              · refine W.region rfl <| qm rfl rfl rfl ?_
                first | refine oq (yldW rfl rfl) rfl wn rfl rfl ?_ | refine oq (yldA rfl rfl) rfl wn rfl rfl ?_
                refine qm rfl rfl rfl <| qm rfl rfl rfl ?_
                refine cg (A := S2) (.tail (.tail .head)) (fun h' hE hL => ih m (by omega) h' (l ++ [⟨k, t.day + j⟩]) S2 _ _ v2 (hf.ext hE) (hs.ext hE) hS2 (by simp; omega) hPb) (fun v A' hv => ?_)
                obtain ⟨O2, us2, B2, hO2, hB2, hsb2⟩ := hv
                obtain ⟨u2a, u2c, rfl⟩ := hO2.isSl
                have hul2 : us2.length ≤ 2197 := by rw [hB2.len]; exact Nat.le_trans (plansF_len hall m _ (by simp; omega)) h13
                refine Ops.sb (.cons (.cons (hsb2.app .refl))) ?_
                refine oe rfl wn rfl rfl (e_append (row := rowS) (l' := us2) rfl rfl rfl hN (.tail (.tail (.app (.app .head)))) (fun h2 _ hl => hO2.sl fun b o hb => hl b o (.tail _ (.tail _ (List.mem_append_left _ (List.mem_append_left _ hb))))) (by omega) (by decide) rfl (fun v3 N3 hN3 => ?_))
                obtain ⟨na3, nc3, rfl⟩ := hN3.isSl
                refine qs rfl rfl rfl <| Ops.nil <| blk_n <| thn_n <| W.region rfl <| qm rfl rfl rfl ?_
                first | refine oq (yadd rfl rfl rfl) rfl wn rfl rfl ?_ | refine oq (y_addw rfl rfl rfl) rfl wn rfl rfl ?_
                refine qs rfl rfl rfl <| Ops.nil <| thn_n ?_
                have hff : fullL fs ss (l ++ [⟨k, t.day + j⟩]) k = false := by simpa using c87
                refine ⟨rfl, (j + 1, us ++ us2, na3, nc3, N3, B ++ B2), ⟨by simp only; omega, hN3, ?_⟩, by simp only; omega, ⟨lk rfl (show I _ = I _ by congr 1; omega), rfl, rfl, rfl, rfl, rfl, rfl, trivial⟩, ?_⟩
                · dsimp only
                  rw [hday, ← List.append_assoc]
                  refine hC.append ?_
                  rw [stepG, hff, if_neg (by decide)]
                  exact hB2
                · dsimp only
                  refine .cons (.skip rfl ⟨O2, perm_cnt fun y => ?_, hO2.shut⟩)
                  simp only [List.count_append, List.count_cons, List.count_nil]; omega
              · refine W.skip <| blk_n <| thn_n <| W.region rfl <| qm rfl rfl rfl ?_
                first | refine oq (yadd rfl rfl rfl) rfl wn rfl rfl ?_ | refine oq (y_addw rfl rfl rfl) rfl wn rfl rfl ?_
                refine qs rfl rfl rfl <| Ops.nil <| thn_n ?_
                have hff : fullL fs ss (l ++ [⟨k, t.day + j⟩]) k = true := by simpa using c87
                refine ⟨rfl, (j + 1, us, ua, uc, O, B), ⟨by simp only; omega, hN, ?_⟩, by simp only; omega, ⟨lk rfl (show I _ = I _ by congr 1; omega), rfl, rfl, rfl, rfl, rfl, rfl, trivial⟩, .cons (.skip rfl (Sb.left .refl hS2.shut))⟩
                dsimp only
                rw [hday, stepG, if_pos hff, List.append_nil]
                exact hC
            · refine W.exit <| thn_x <| thn_x <| blk_x <| blk_n <| thn_n <| W.region rfl <| qm rfl rfl rfl ?_
              first | refine oq (yadd rfl rfl rfl) rfl wn rfl rfl ?_ | refine oq (y_addw rfl rfl rfl) rfl wn rfl rfl ?_
              refine qs rfl rfl rfl <| Ops.nil <| thn_n ?_
              have hje : j = (t.wa + 1).toNat := by omega
              subst hje
              refine ⟨rfl, (k + 1, us, ua, uc, O, B), ⟨by simp only; omega, hN, ?_⟩, by simp only; omega, ⟨rfl, rfl, rfl, rfl, rfl, rfl, trivial⟩, .refl⟩
              dsimp only
              rw [floorsFrom_snoc, Int.zero_add]
              exact hC
          · have hke : k = fs.length := by omega
            subst hke
            refine W.exit <| thn_x <| thn_x <| blk_x <| thn_n <| W.seq <| W.region rfl <| qm rfl rfl rfl <| qs rfl rfl rfl <| Ops.nil ?_
            refine thn_n <| W.ret ?_
            exact lvt (vs := [_]) ⟨O, us, B, hN, hC, .skip rfl (Sb.left .refl hO.shut)⟩
      · have hu2 : 0 ≤ u ∧ ¬ u < l.length := by omega
        refine W.skip <| thn_n <| W.seq <| W.seq <| W.region rfl <| qm rfl rfl rfl ?_
        refine oq (y_geq rfl rfl rfl) rfl wn rfl rfl ?_
        refine qm rfl rfl rfl ?_
        refine Ops.ask (fun a7_3 => ?_) (fun a7_3 => ?_)
        · refine oq (y_move rfl rfl) rfl (want_some rfl rfl rfl) rfl rfl ?_
          refine oq (y_move rfl rfl) rfl (want_some rfl rfl rfl) rfl rfl ?_
          refine oq (y_gtr rfl rfl rfl) rfl (want_some rfl rfl rfl) rfl rfl ?_
          refine oq (y_pickT rfl rfl rfl) rfl wn rfl rfl ?_
          refine Ops.nil <| thn_n ?_
          refine W.condp rfl (fun c43 => ?_) (fun c43 => ?_)
          · refine W.seq <| W.region rfl <| qm rfl rfl rfl <| qs rfl rfl rfl <| Ops.nil <| thn_n <| W.ret <| thn_r ?_
            first
            | (exfalso; omega)
            | (rw [if_pos (by omega), if_pos (by omega), List.append_nil]
               exact lvt (vs := [_]) ⟨O, us, B, hOO, hBB, .skip rfl (Sb.left .refl hO.shut)⟩)
          · refine W.skip <| thn_n <| W.seq <| W.seq <| W.region rfl <| qs rfl rfl rfl <| Ops.nil <| thn_n <| W.block ?_
            first
            | refine W.loop (σ := Nat × List Sv × Option Addr × Nat × Frag × Frag) (fun q => q.1 ≤ fs.length ∧ Os t_sl_Berth rowS (.slice q.2.2.1 q.2.1.length q.2.2.2.1) q.2.1 q.2.2.2.2.1 ∧ Oss t_Berth Be.row q.2.1 ((if u < 0 ∨ u < l.length then plansF fs ss u m (l ++ [bnone]) else []) ++ (floorsFrom t 0 q.1).flatMap (stepG fs ss u m l)) q.2.2.2.2.2) (fun q => [(9, I q.1), (8, .slice q.2.2.1 q.2.1.length q.2.2.2.1), (7, I l.length), (3, .pointer (some ⟨β3, 0, none⟩)), (2, .slice al l.length lc), (1, I u)]) (fun q => (β3, .cells #[.slice a fs.length cap, .slice a' ss.length cap'] t_Plant (0, 0)) :: (S ++ (q.2.2.2.2.1 ++ q.2.2.2.2.2))) (fun q => fs.length - q.1) (0, us, ua, uc, O, B) ⟨Nat.zero_le _, hOO, by rw [if_pos (by omega)]; simpa [floorsFrom] using hBB⟩ ⟨rfl, rfl, rfl, rfl, rfl, rfl, trivial⟩ .refl ?_
            | refine W.loop (σ := Nat × List Sv × Option Addr × Nat × Frag × Frag) (fun q => q.1 ≤ fs.length ∧ Os t_sl_Berth rowS (.slice q.2.2.1 q.2.1.length q.2.2.2.1) q.2.1 q.2.2.2.2.1 ∧ Oss t_Berth Be.row q.2.1 ((if u < 0 ∨ u < l.length then plansF fs ss u m (l ++ [bnone]) else []) ++ (floorsFrom t 0 q.1).flatMap (stepG fs ss u m l)) q.2.2.2.2.2) (fun q => [(9, I q.1), (8, .slice q.2.2.1 q.2.1.length q.2.2.2.1), (7, I l.length), (3, .pointer (some ⟨β3, 0, none⟩)), (2, .slice al l.length lc), (1, I u)]) (fun q => (β3, .cells #[.slice a fs.length cap, .slice a' ss.length cap'] t_Plant (0, 0)) :: (S ++ (q.2.2.2.2.1 ++ q.2.2.2.2.2))) (fun q => fs.length - q.1) (0, [], none, 0, [], []) ⟨Nat.zero_le _, .nil .nil, by rw [if_neg (by omega)]; exact .nil⟩ ⟨rfl, rfl, rfl, rfl, rfl, rfl, trivial⟩ (by simp only [List.append_nil]; exact .refl) ?_
            rintro ⟨k, us, ua, uc, O, B⟩ ⟨hk0, hN, hC⟩
            dsimp only at *
            rw [if_neg (show ¬ (0 ≤ u ∧ u < l.length) by omega)]
            obtain ⟨X0, hX0⟩ : ∃ X, (if u < 0 ∨ u < (l.length : Int) then plansF fs ss u m (l ++ [bnone]) else []) = X := ⟨_, rfl⟩
            have hX0l : X0.length ≤ 13 ^ m := by
              rw [← hX0]
              split
              · exact plansF_len hall m _ (by simp; omega)
              · simp
            rw [hX0] at hC ⊢
            refine W.seq <| W.seq <| W.region rfl <| qm rfl rfl rfl ?_
            refine oq (y_fieldAddr rfl rfl) rfl wn rfl rfl ?_
            refine oq (yld rfl rfl) rfl wn rfl rfl ?_
            refine oq (y_len rfl rfl) rfl wn rfl rfl ?_
            refine oq (y_lss rfl rfl rfl) rfl wn rfl rfl ?_
            refine Ops.nil <| thn_n ?_
            refine W.condp rfl (fun c49 => ?_) (fun c49 => ?_)
            · have hk1 : k < fs.length := by omega
              obtain ⟨bs, offs, cs, Es, fzs, rfl, hbs, -, hys, hzs⟩ := hs.at ht0
              have hsd : cs[offs + l.length * 3 + 0]? = some (I t.day) := hzs 0 (by decide)
              have hsw : cs[offs + l.length * 3 + 2]? = some (I t.wa) := hzs 2 (by decide)
              clear hzs
              refine W.skip <| thn_n <| W.seq <| W.block <| W.seq <| W.region rfl ?_
              refine oq (y_fieldAddr rfl rfl) rfl wn rfl rfl ?_
              refine oq (yld rfl rfl) rfl wn rfl rfl ?_
              refine qm rfl rfl rfl ?_
              first | refine oq (yix rfl rfl rfl) rfl wn rfl rfl ?_ | refine oq (yixI rfl rfl rfl) rfl wn rfl rfl ?_
              refine oq (y_fieldAddr rfl rfl) rfl wn rfl rfl ?_
              refine oq (yld rfl rfl) rfl wn rfl rfl ?_
              refine qs rfl rfl rfl <| Ops.nil <| thn_n <| W.block ?_
              refine W.loop (σ := Nat × List Sv × Option Addr × Nat × Frag × Frag) (fun q => q.1 ≤ (t.wa + 1).toNat ∧ Os t_sl_Berth rowS (.slice q.2.2.1 q.2.1.length q.2.2.2.1) q.2.1 q.2.2.2.2.1 ∧ Oss t_Berth Be.row q.2.1 (X0 ++ (floorsFrom t 0 k ++ daysFrom k t.day q.1).flatMap (stepG fs ss u m l)) q.2.2.2.2.2) (fun q => [(10, I (t.day + q.1)), (9, I k), (8, .slice q.2.2.1 q.2.1.length q.2.2.2.1), (7, I l.length), (3, .pointer (some ⟨β3, 0, none⟩)), (2, .slice al l.length lc), (1, I u)]) (fun q => (β3, .cells #[.slice a fs.length cap, .slice _ ss.length cap'] t_Plant (0, 0)) :: (S ++ (q.2.2.2.2.1 ++ q.2.2.2.2.2))) (fun q => (t.wa + 1).toNat - q.1) (0, us, ua, uc, O, B) ⟨Nat.zero_le _, hN, by simpa [daysFrom] using hC⟩ ⟨lk rfl (show I _ = I _ by congr 1; omega), rfl, rfl, rfl, rfl, rfl, rfl, trivial⟩ .refl ?_
              clear hN hC
              rintro ⟨j, us, ua, uc, O, B⟩ ⟨hj, hN, hC⟩
              dsimp only at *
              refine W.seq <| W.seq ?_
              refine W.drawF (n := 15) rfl ?_
              refine aq (i := 0) (y_move rfl rfl) rfl an rfl rfl ?_
              refine aq (i := 1) (y_fieldAddr rfl rfl) rfl an rfl rfl ?_
              refine aq (i := 2) (yld rfl rfl) rfl an rfl rfl ?_
              refine aq (i := 3) (y_move rfl rfl) rfl an rfl rfl ?_
              first | refine aq (i := 4) (yix rfl rfl rfl) rfl an rfl rfl ?_ | refine aq (i := 4) (yixI rfl rfl rfl) rfl an rfl rfl ?_
              refine aq (i := 5) (y_fieldAddr rfl rfl) rfl an rfl rfl ?_
              refine aq (i := 6) (yld rfl rfl) rfl an rfl rfl ?_
              refine aq (i := 7) (y_fieldAddr rfl rfl) rfl an rfl rfl ?_
              refine aq (i := 8) (yld rfl rfl) rfl an rfl rfl ?_
              refine aq (i := 9) (y_move rfl rfl) rfl an rfl rfl ?_
              first | refine aq (i := 10) (yix rfl rfl rfl) rfl an rfl rfl ?_ | refine aq (i := 10) (yixI rfl rfl rfl) rfl an rfl rfl ?_
              refine aq (i := 11) (y_fieldAddr rfl rfl) rfl an rfl rfl ?_
              refine aq (i := 12) (yld rfl rfl) rfl an rfl rfl ?_
              first | refine aq (i := 13) (yadd rfl rfl rfl) rfl an rfl rfl ?_ | refine aq (i := 13) (y_addw rfl rfl rfl) rfl an rfl rfl ?_
              refine aq (i := 14) (y_leq rfl rfl rfl) rfl an rfl rfl ?_
              refine az ?_
              refine thn_n ?_
              refine W.condp rfl (fun c72 => ?_) (fun c72 => ?_)
              · have hj1 : j < (t.wa + 1).toNat := by omega
                have hbm : (⟨k, t.day + j⟩ : Be) ∈ floorsFrom t 0 fs.length := by
                  have := mem_berths (fs := fs) (ss := ss) (may := freeM) (k := l.length) (b := ⟨k, t.day + j⟩)
                  rw [hbe, hta] at this
                  have h2 := this.2 (.inr ⟨rfl, by simp only; omega, by simp only; omega, by simp only; omega, by simp only; omega⟩)
                  rcases List.mem_cons.1 h2 with h3 | h3
                  · exact absurd (congrArg Be.fl h3) (by simp only [bnone]; omega)
                  · exact h3
                have hPb := hpb _ (hmf _ hbm)
                have hL20 : (floorsFrom t 0 k ++ daysFrom k t.day j).length ≤ 20 := by
                  have := floors_le (s := t) (m := k) (f := 0) (by omega) (by omega)
                  rw [List.length_append, daysFrom_len]; omega
                have hul : us.length ≤ 60000 := by
                  have h1 := fm_len (l := floorsFrom t 0 k ++ daysFrom k t.day j) (f := stepG fs ss u m l) (n := 13 ^ m) fun b _ => by
                    unfold stepG
                    split
                    · simp
                    · exact plansF_len hall m _ (by simp; omega)
                  have h2 := Nat.mul_le_mul hL20 h13
                  rw [hC.len, List.length_append]
                  omega
                have hday : (floorsFrom t 0 k ++ daysFrom k t.day (j + 1)).flatMap (stepG fs ss u m l) = (floorsFrom t 0 k ++ daysFrom k t.day j).flatMap (stepG fs ss u m l) ++ stepG fs ss u m l ⟨k, t.day + j⟩ := by
                  rw [daysFrom_snoc, ← List.append_assoc, List.flatMap_append]; simp
                refine W.skip <| thn_n <| W.seq <| W.block <| W.seq <| W.region rfl ?_
                refine Ops.bsl0 (fun β75 => ?_)
                refine qm rfl rfl rfl ?_
                have hO75 : Os t_Berth Be.row (.slice (some ⟨β75, 0, none⟩) 0 0) ([] : List Be) [(β75, .cells #[] t_Berth (0, 0))] := .inr ⟨β75, #[], 0, [], rfl, rfl, rfl, Nat.le_refl _, Part.all [], .nil⟩
                refine oe rfl wn rfl rfl (e_append (row := Be.row) (l := []) (l' := l) rfl rfl rfl hO75 .head (fun h2 hE hL => hO.sl fun b o hb => hL b o (.tail _ (List.mem_append_left _ hb))) (by simp; omega) (by decide) rfl (fun v1 S1 hS1 => ?_))
                rw [List.nil_append] at hS1
                refine qm rfl rfl rfl <| qm rfl rfl rfl ?_
                refine oq (y_build (parts := [⟨_, _⟩, ⟨_, _⟩]) (cs := #[I k, I (t.day + j)]) rfl rfl rfl) rfl wn rfl rfl ?_
                refine Ops.bsl (cs := #[I k, I (t.day + j)]) (fun β81 => ?_) rfl (hf := by kernel_rfl)
                refine oe rfl wn rfl rfl (e_append (row := Be.row) (l' := [(⟨k, t.day + j⟩ : Be)]) rfl rfl rfl hS1 (.tail .head) (fun h2 _ hl => Sl.mk (hl β81 _ (.head _)) rfl (Part.all (Be.row ⟨k, t.day + j⟩))) (by simp; omega) (by decide) rfl (fun v2 S2 hS2 => ?_))
                refine qs rfl rfl rfl <| Ops.nil <| thn_n ?_
                refine W.sb (.of_perm ((List.Perm.swap _ _ _).trans (List.Perm.cons _ (List.perm_middle (l₁ := S2)).symm))) ?_
                refine W.seq <| W.region rfl ?_
                first | refine oq (yldW rfl rfl) rfl wn rfl rfl ?_ | refine oq (yldA rfl rfl) rfl wn rfl rfl ?_
                refine qm rfl rfl rfl <| qm rfl rfl rfl ?_
                refine cp (u := .bool (fullL fs ss (l ++ [⟨k, t.day + j⟩]) k)) (fun h' hE hL => Rfull_fn _ h' fs ss (l ++ [⟨k, t.day + j⟩]) k _ _ v2 (hf.ext hE) (hs.ext hE) (hS2.sl fun b o hb => hL b o (.tail _ (.tail _ (List.mem_append_left _ hb)))) hall hPb (by simp; omega) hk1) ?_
                refine oq (y_not rfl rfl) rfl wn rfl rfl ?_
                refine Ops.nil <| thn_n ?_
                refine W.cond rfl (fun c87 => ?_) (fun c87 => ?_)
                · refine W.region rfl <| qm rfl rfl rfl ?_
                  first | refine oq (yldW rfl rfl) rfl wn rfl rfl ?_ | refine oq (yldA rfl rfl) rfl wn rfl rfl ?_
                  refine qm rfl rfl rfl <| qm rfl rfl rfl ?_
                  refine cg (A := S2) (.tail (.tail .head)) (fun h' hE hL => ih m (by omega) h' (l ++ [⟨k, t.day + j⟩]) S2 _ _ v2 (hf.ext hE) (hs.ext hE) hS2 (by simp; omega) hPb) (fun v A' hv => ?_)
                  obtain ⟨O2, us2, B2, hO2, hB2, hsb2⟩ := hv
                  obtain ⟨u2a, u2c, rfl⟩ := hO2.isSl
                  have hul2 : us2.length ≤ 2197 := by rw [hB2.len]; exact Nat.le_trans (plansF_len hall m _ (by simp; omega)) h13
                  refine Ops.sb (.cons (.cons (hsb2.app .refl))) ?_
                  refine oe rfl wn rfl rfl (e_append (row := rowS) (l' := us2) rfl rfl rfl hN (.tail (.tail (.app (.app .head)))) (fun h2 _ hl => hO2.sl fun b o hb => hl b o (.tail _ (.tail _ (List.mem_append_left _ (List.mem_append_left _ hb))))) (by omega) (by decide) rfl (fun v3 N3 hN3 => ?_))
                  obtain ⟨na3, nc3, rfl⟩ := hN3.isSl
                  refine qs rfl rfl rfl <| Ops.nil <| blk_n <| thn_n <| W.region rfl <| qm rfl rfl rfl ?_
                  first | refine oq (yadd rfl rfl rfl) rfl wn rfl rfl ?_ | refine oq (y_addw rfl rfl rfl) rfl wn rfl rfl ?_
                  refine qs rfl rfl rfl <| Ops.nil <| thn_n ?_
                  have hff : fullL fs ss (l ++ [⟨k, t.day + j⟩]) k = false := by simpa using c87
                  refine ⟨rfl, (j + 1, us ++ us2, na3, nc3, N3, B ++ B2), ⟨by simp only; omega, hN3, ?_⟩, by simp only; omega, ⟨lk rfl (show I _ = I _ by congr 1; omega), rfl, rfl, rfl, rfl, rfl, rfl, trivial⟩, ?_⟩
                  · dsimp only
                    rw [hday, ← List.append_assoc]
                    refine hC.append ?_
                    rw [stepG, hff, if_neg (by decide)]
                    exact hB2
                  · dsimp only
                    refine .cons (.skip rfl ⟨O2, perm_cnt fun y => ?_, hO2.shut⟩)
                    simp only [List.count_append, List.count_cons, List.count_nil]; omega
                · refine W.skip <| blk_n <| thn_n <| W.region rfl <| qm rfl rfl rfl ?_
                  first | refine oq (yadd rfl rfl rfl) rfl wn rfl rfl ?_ | refine oq (y_addw rfl rfl rfl) rfl wn rfl rfl ?_
                  refine qs rfl rfl rfl <| Ops.nil <| thn_n ?_
                  have hff : fullL fs ss (l ++ [⟨k, t.day + j⟩]) k = true := by simpa using c87
                  refine ⟨rfl, (j + 1, us, ua, uc, O, B), ⟨by simp only; omega, hN, ?_⟩, by simp only; omega, ⟨lk rfl (show I _ = I _ by congr 1; omega), rfl, rfl, rfl, rfl, rfl, rfl, trivial⟩, .cons (.skip rfl (Sb.left .refl hS2.shut))⟩
                  dsimp only
                  rw [hday, stepG, if_pos hff, List.append_nil]
                  exact hC
              · refine W.exit <| thn_x <| thn_x <| blk_x <| blk_n <| thn_n <| W.region rfl <| qm rfl rfl rfl ?_
                first | refine oq (yadd rfl rfl rfl) rfl wn rfl rfl ?_ | refine oq (y_addw rfl rfl rfl) rfl wn rfl rfl ?_
                refine qs rfl rfl rfl <| Ops.nil <| thn_n ?_
                have hje : j = (t.wa + 1).toNat := by omega
                subst hje
                refine ⟨rfl, (k + 1, us, ua, uc, O, B), ⟨by simp only; omega, hN, ?_⟩, by simp only; omega, ⟨rfl, rfl, rfl, rfl, rfl, rfl, trivial⟩, .refl⟩
                dsimp only
                rw [floorsFrom_snoc, Int.zero_add]
                exact hC
            · have hke : k = fs.length := by omega
              subst hke
              refine W.exit <| thn_x <| thn_x <| blk_x <| thn_n <| W.seq <| W.region rfl <| qm rfl rfl rfl <| qs rfl rfl rfl <| Ops.nil ?_
              refine thn_n <| W.ret ?_
              exact lvt (vs := [_]) ⟨O, us, B, hN, hC, .skip rfl (Sb.left .refl hO.shut)⟩
        · refine Ops.no ?_
          refine Ops.no ?_
          refine Ops.no ?_
          refine oq (y_pickF rfl rfl rfl) rfl wn rfl rfl ?_
          refine Ops.nil <| thn_n ?_
          refine W.condF ?_
          refine W.skip <| thn_n <| W.seq <| W.seq <| W.region rfl <| qs rfl rfl rfl <| Ops.nil <| thn_n <| W.block ?_
          first
          | refine W.loop (σ := Nat × List Sv × Option Addr × Nat × Frag × Frag) (fun q => q.1 ≤ fs.length ∧ Os t_sl_Berth rowS (.slice q.2.2.1 q.2.1.length q.2.2.2.1) q.2.1 q.2.2.2.2.1 ∧ Oss t_Berth Be.row q.2.1 ((if u < 0 ∨ u < l.length then plansF fs ss u m (l ++ [bnone]) else []) ++ (floorsFrom t 0 q.1).flatMap (stepG fs ss u m l)) q.2.2.2.2.2) (fun q => [(9, I q.1), (8, .slice q.2.2.1 q.2.1.length q.2.2.2.1), (7, I l.length), (3, .pointer (some ⟨β3, 0, none⟩)), (2, .slice al l.length lc), (1, I u)]) (fun q => (β3, .cells #[.slice a fs.length cap, .slice a' ss.length cap'] t_Plant (0, 0)) :: (S ++ (q.2.2.2.2.1 ++ q.2.2.2.2.2))) (fun q => fs.length - q.1) (0, us, ua, uc, O, B) ⟨Nat.zero_le _, hOO, by rw [if_pos (by omega)]; simpa [floorsFrom] using hBB⟩ ⟨rfl, rfl, rfl, rfl, rfl, rfl, trivial⟩ .refl ?_
          | refine W.loop (σ := Nat × List Sv × Option Addr × Nat × Frag × Frag) (fun q => q.1 ≤ fs.length ∧ Os t_sl_Berth rowS (.slice q.2.2.1 q.2.1.length q.2.2.2.1) q.2.1 q.2.2.2.2.1 ∧ Oss t_Berth Be.row q.2.1 ((if u < 0 ∨ u < l.length then plansF fs ss u m (l ++ [bnone]) else []) ++ (floorsFrom t 0 q.1).flatMap (stepG fs ss u m l)) q.2.2.2.2.2) (fun q => [(9, I q.1), (8, .slice q.2.2.1 q.2.1.length q.2.2.2.1), (7, I l.length), (3, .pointer (some ⟨β3, 0, none⟩)), (2, .slice al l.length lc), (1, I u)]) (fun q => (β3, .cells #[.slice a fs.length cap, .slice a' ss.length cap'] t_Plant (0, 0)) :: (S ++ (q.2.2.2.2.1 ++ q.2.2.2.2.2))) (fun q => fs.length - q.1) (0, [], none, 0, [], []) ⟨Nat.zero_le _, .nil .nil, by rw [if_neg (by omega)]; exact .nil⟩ ⟨rfl, rfl, rfl, rfl, rfl, rfl, trivial⟩ (by simp only [List.append_nil]; exact .refl) ?_
          rintro ⟨k, us, ua, uc, O, B⟩ ⟨hk0, hN, hC⟩
          dsimp only at *
          rw [if_neg (show ¬ (0 ≤ u ∧ u < l.length) by omega)]
          obtain ⟨X0, hX0⟩ : ∃ X, (if u < 0 ∨ u < (l.length : Int) then plansF fs ss u m (l ++ [bnone]) else []) = X := ⟨_, rfl⟩
          have hX0l : X0.length ≤ 13 ^ m := by
            rw [← hX0]
            split
            · exact plansF_len hall m _ (by simp; omega)
            · simp
          rw [hX0] at hC ⊢
          refine W.seq <| W.seq <| W.region rfl <| qm rfl rfl rfl ?_
          refine oq (y_fieldAddr rfl rfl) rfl wn rfl rfl ?_
          refine oq (yld rfl rfl) rfl wn rfl rfl ?_
          refine oq (y_len rfl rfl) rfl wn rfl rfl ?_
          refine oq (y_lss rfl rfl rfl) rfl wn rfl rfl ?_
          refine Ops.nil <| thn_n ?_
          refine W.condp rfl (fun c49 => ?_) (fun c49 => ?_)
          · have hk1 : k < fs.length := by omega
            obtain ⟨bs, offs, cs, Es, fzs, rfl, hbs, -, hys, hzs⟩ := hs.at ht0
            have hsd : cs[offs + l.length * 3 + 0]? = some (I t.day) := hzs 0 (by decide)
            have hsw : cs[offs + l.length * 3 + 2]? = some (I t.wa) := hzs 2 (by decide)
            clear hzs
            refine W.skip <| thn_n <| W.seq <| W.block <| W.seq <| W.region rfl ?_
            refine oq (y_fieldAddr rfl rfl) rfl wn rfl rfl ?_
            refine oq (yld rfl rfl) rfl wn rfl rfl ?_
            refine qm rfl rfl rfl ?_
            first | refine oq (yix rfl rfl rfl) rfl wn rfl rfl ?_ | refine oq (yixI rfl rfl rfl) rfl wn rfl rfl ?_
            refine oq (y_fieldAddr rfl rfl) rfl wn rfl rfl ?_
            refine oq (yld rfl rfl) rfl wn rfl rfl ?_
            refine qs rfl rfl rfl <| Ops.nil <| thn_n <| W.block ?_
            refine W.loop (σ := Nat × List Sv × Option Addr × Nat × Frag × Frag) (fun q => q.1 ≤ (t.wa + 1).toNat ∧ Os t_sl_Berth rowS (.slice q.2.2.1 q.2.1.length q.2.2.2.1) q.2.1 q.2.2.2.2.1 ∧ Oss t_Berth Be.row q.2.1 (X0 ++ (floorsFrom t 0 k ++ daysFrom k t.day q.1).flatMap (stepG fs ss u m l)) q.2.2.2.2.2) (fun q => [(10, I (t.day + q.1)), (9, I k), (8, .slice q.2.2.1 q.2.1.length q.2.2.2.1), (7, I l.length), (3, .pointer (some ⟨β3, 0, none⟩)), (2, .slice al l.length lc), (1, I u)]) (fun q => (β3, .cells #[.slice a fs.length cap, .slice _ ss.length cap'] t_Plant (0, 0)) :: (S ++ (q.2.2.2.2.1 ++ q.2.2.2.2.2))) (fun q => (t.wa + 1).toNat - q.1) (0, us, ua, uc, O, B) ⟨Nat.zero_le _, hN, by simpa [daysFrom] using hC⟩ ⟨lk rfl (show I _ = I _ by congr 1; omega), rfl, rfl, rfl, rfl, rfl, rfl, trivial⟩ .refl ?_
            clear hN hC
            rintro ⟨j, us, ua, uc, O, B⟩ ⟨hj, hN, hC⟩
            dsimp only at *
            refine W.seq <| W.seq ?_
            refine W.drawF (n := 15) rfl ?_
            refine aq (i := 0) (y_move rfl rfl) rfl an rfl rfl ?_
            refine aq (i := 1) (y_fieldAddr rfl rfl) rfl an rfl rfl ?_
            refine aq (i := 2) (yld rfl rfl) rfl an rfl rfl ?_
            refine aq (i := 3) (y_move rfl rfl) rfl an rfl rfl ?_
            first | refine aq (i := 4) (yix rfl rfl rfl) rfl an rfl rfl ?_ | refine aq (i := 4) (yixI rfl rfl rfl) rfl an rfl rfl ?_
            refine aq (i := 5) (y_fieldAddr rfl rfl) rfl an rfl rfl ?_
            refine aq (i := 6) (yld rfl rfl) rfl an rfl rfl ?_
            refine aq (i := 7) (y_fieldAddr rfl rfl) rfl an rfl rfl ?_
            refine aq (i := 8) (yld rfl rfl) rfl an rfl rfl ?_
            refine aq (i := 9) (y_move rfl rfl) rfl an rfl rfl ?_
            first | refine aq (i := 10) (yix rfl rfl rfl) rfl an rfl rfl ?_ | refine aq (i := 10) (yixI rfl rfl rfl) rfl an rfl rfl ?_
            refine aq (i := 11) (y_fieldAddr rfl rfl) rfl an rfl rfl ?_
            refine aq (i := 12) (yld rfl rfl) rfl an rfl rfl ?_
            first | refine aq (i := 13) (yadd rfl rfl rfl) rfl an rfl rfl ?_ | refine aq (i := 13) (y_addw rfl rfl rfl) rfl an rfl rfl ?_
            refine aq (i := 14) (y_leq rfl rfl rfl) rfl an rfl rfl ?_
            refine az ?_
            refine thn_n ?_
            refine W.condp rfl (fun c72 => ?_) (fun c72 => ?_)
            · have hj1 : j < (t.wa + 1).toNat := by omega
              have hbm : (⟨k, t.day + j⟩ : Be) ∈ floorsFrom t 0 fs.length := by
                have := mem_berths (fs := fs) (ss := ss) (may := freeM) (k := l.length) (b := ⟨k, t.day + j⟩)
                rw [hbe, hta] at this
                have h2 := this.2 (.inr ⟨rfl, by simp only; omega, by simp only; omega, by simp only; omega, by simp only; omega⟩)
                rcases List.mem_cons.1 h2 with h3 | h3
                · exact absurd (congrArg Be.fl h3) (by simp only [bnone]; omega)
                · exact h3
              have hPb := hpb _ (hmf _ hbm)
              have hL20 : (floorsFrom t 0 k ++ daysFrom k t.day j).length ≤ 20 := by
                have := floors_le (s := t) (m := k) (f := 0) (by omega) (by omega)
                rw [List.length_append, daysFrom_len]; omega
              have hul : us.length ≤ 60000 := by
                have h1 := fm_len (l := floorsFrom t 0 k ++ daysFrom k t.day j) (f := stepG fs ss u m l) (n := 13 ^ m) fun b _ => by
                  unfold stepG
                  split
                  · simp
                  · exact plansF_len hall m _ (by simp; omega)
                have h2 := Nat.mul_le_mul hL20 h13
                rw [hC.len, List.length_append]
                omega
              have hday : (floorsFrom t 0 k ++ daysFrom k t.day (j + 1)).flatMap (stepG fs ss u m l) = (floorsFrom t 0 k ++ daysFrom k t.day j).flatMap (stepG fs ss u m l) ++ stepG fs ss u m l ⟨k, t.day + j⟩ := by
                rw [daysFrom_snoc, ← List.append_assoc, List.flatMap_append]; simp
              refine W.skip <| thn_n <| W.seq <| W.block <| W.seq <| W.region rfl ?_
              refine Ops.bsl0 (fun β75 => ?_)
              refine qm rfl rfl rfl ?_
              have hO75 : Os t_Berth Be.row (.slice (some ⟨β75, 0, none⟩) 0 0) ([] : List Be) [(β75, .cells #[] t_Berth (0, 0))] := .inr ⟨β75, #[], 0, [], rfl, rfl, rfl, Nat.le_refl _, Part.all [], .nil⟩
              refine oe rfl wn rfl rfl (e_append (row := Be.row) (l := []) (l' := l) rfl rfl rfl hO75 .head (fun h2 hE hL => hO.sl fun b o hb => hL b o (.tail _ (List.mem_append_left _ hb))) (by simp; omega) (by decide) rfl (fun v1 S1 hS1 => ?_))
              rw [List.nil_append] at hS1
              refine qm rfl rfl rfl <| qm rfl rfl rfl ?_
              refine oq (y_build (parts := [⟨_, _⟩, ⟨_, _⟩]) (cs := #[I k, I (t.day + j)]) rfl rfl rfl) rfl wn rfl rfl ?_
              refine Ops.bsl (cs := #[I k, I (t.day + j)]) (fun β81 => ?_) rfl (hf := by kernel_rfl)
              refine oe rfl wn rfl rfl (e_append (row := Be.row) (l' := [(⟨k, t.day + j⟩ : Be)]) rfl rfl rfl hS1 (.tail .head) (fun h2 _ hl => Sl.mk (hl β81 _ (.head _)) rfl (Part.all (Be.row ⟨k, t.day + j⟩))) (by simp; omega) (by decide) rfl (fun v2 S2 hS2 => ?_))
              refine qs rfl rfl rfl <| Ops.nil <| thn_n ?_
              refine W.sb (.of_perm ((List.Perm.swap _ _ _).trans (List.Perm.cons _ (List.perm_middle (l₁ := S2)).symm))) ?_
              refine W.seq <| W.region rfl ?_
              first | refine oq (yldW rfl rfl) rfl wn rfl rfl ?_ | refine oq (yldA rfl rfl) rfl wn rfl rfl ?_
              refine qm rfl rfl rfl <| qm rfl rfl rfl ?_
              refine cp (u := .bool (fullL fs ss (l ++ [⟨k, t.day + j⟩]) k)) (fun h' hE hL => Rfull_fn _ h' fs ss (l ++ [⟨k, t.day + j⟩]) k _ _ v2 (hf.ext hE) (hs.ext hE) (hS2.sl fun b o hb => hL b o (.tail _ (.tail _ (List.mem_append_left _ hb)))) hall hPb (by simp; omega) hk1) ?_
              refine oq (y_not rfl rfl) rfl wn rfl rfl ?_
              refine Ops.nil <| thn_n ?_
              refine W.cond rfl (fun c87 => ?_) (fun c87 => ?_)
              · refine W.region rfl <| qm rfl rfl rfl ?_
                first | refine oq (yldW rfl rfl) rfl wn rfl rfl ?_ | refine oq (yldA rfl rfl) rfl wn rfl rfl ?_
                refine qm rfl rfl rfl <| qm rfl rfl rfl ?_
                refine cg (A := S2) (.tail (.tail .head)) (fun h' hE hL => ih m (by omega) h' (l ++ [⟨k, t.day + j⟩]) S2 _ _ v2 (hf.ext hE) (hs.ext hE) hS2 (by simp; omega) hPb) (fun v A' hv => ?_)
                obtain ⟨O2, us2, B2, hO2, hB2, hsb2⟩ := hv
                obtain ⟨u2a, u2c, rfl⟩ := hO2.isSl
                have hul2 : us2.length ≤ 2197 := by rw [hB2.len]; exact Nat.le_trans (plansF_len hall m _ (by simp; omega)) h13
                refine Ops.sb (.cons (.cons (hsb2.app .refl))) ?_
                refine oe rfl wn rfl rfl (e_append (row := rowS) (l' := us2) rfl rfl rfl hN (.tail (.tail (.app (.app .head)))) (fun h2 _ hl => hO2.sl fun b o hb => hl b o (.tail _ (.tail _ (List.mem_append_left _ (List.mem_append_left _ hb))))) (by omega) (by decide) rfl (fun v3 N3 hN3 => ?_))
                obtain ⟨na3, nc3, rfl⟩ := hN3.isSl
                refine qs rfl rfl rfl <| Ops.nil <| blk_n <| thn_n <| W.region rfl <| qm rfl rfl rfl ?_
                first | refine oq (yadd rfl rfl rfl) rfl wn rfl rfl ?_ | refine oq (y_addw rfl rfl rfl) rfl wn rfl rfl ?_
                refine qs rfl rfl rfl <| Ops.nil <| thn_n ?_
                have hff : fullL fs ss (l ++ [⟨k, t.day + j⟩]) k = false := by simpa using c87
                refine ⟨rfl, (j + 1, us ++ us2, na3, nc3, N3, B ++ B2), ⟨by simp only; omega, hN3, ?_⟩, by simp only; omega, ⟨lk rfl (show I _ = I _ by congr 1; omega), rfl, rfl, rfl, rfl, rfl, rfl, trivial⟩, ?_⟩
                · dsimp only
                  rw [hday, ← List.append_assoc]
                  refine hC.append ?_
                  rw [stepG, hff, if_neg (by decide)]
                  exact hB2
                · dsimp only
                  refine .cons (.skip rfl ⟨O2, perm_cnt fun y => ?_, hO2.shut⟩)
                  simp only [List.count_append, List.count_cons, List.count_nil]; omega
              · refine W.skip <| blk_n <| thn_n <| W.region rfl <| qm rfl rfl rfl ?_
                first | refine oq (yadd rfl rfl rfl) rfl wn rfl rfl ?_ | refine oq (y_addw rfl rfl rfl) rfl wn rfl rfl ?_
                refine qs rfl rfl rfl <| Ops.nil <| thn_n ?_
                have hff : fullL fs ss (l ++ [⟨k, t.day + j⟩]) k = true := by simpa using c87
                refine ⟨rfl, (j + 1, us, ua, uc, O, B), ⟨by simp only; omega, hN, ?_⟩, by simp only; omega, ⟨lk rfl (show I _ = I _ by congr 1; omega), rfl, rfl, rfl, rfl, rfl, rfl, trivial⟩, .cons (.skip rfl (Sb.left .refl hS2.shut))⟩
                dsimp only
                rw [hday, stepG, if_pos hff, List.append_nil]
                exact hC
            · refine W.exit <| thn_x <| thn_x <| blk_x <| blk_n <| thn_n <| W.region rfl <| qm rfl rfl rfl ?_
              first | refine oq (yadd rfl rfl rfl) rfl wn rfl rfl ?_ | refine oq (y_addw rfl rfl rfl) rfl wn rfl rfl ?_
              refine qs rfl rfl rfl <| Ops.nil <| thn_n ?_
              have hje : j = (t.wa + 1).toNat := by omega
              subst hje
              refine ⟨rfl, (k + 1, us, ua, uc, O, B), ⟨by simp only; omega, hN, ?_⟩, by simp only; omega, ⟨rfl, rfl, rfl, rfl, rfl, rfl, trivial⟩, .refl⟩
              dsimp only
              rw [floorsFrom_snoc, Int.zero_add]
              exact hC
          · have hke : k = fs.length := by omega
            subst hke
            refine W.exit <| thn_x <| thn_x <| blk_x <| thn_n <| W.seq <| W.region rfl <| qm rfl rfl rfl <| qs rfl rfl rfl <| Ops.nil ?_
            refine thn_n <| W.ret ?_
            exact lvt (vs := [_]) ⟨O, us, B, hN, hC, .skip rfl (Sb.left .refl hO.shut)⟩
theorem Plans_fn (main : Side) (fs : List Fl) (ss : List St) (u : Int) (hall : HallOK fs ss) : ∀ m, PlansSpec main fs ss u m := fun m => by
  induction m using Nat.strongRecOn with
  | ind m ih => exact Plans_step main fs ss u hall m ih
end Go.Mus
