/- The document's list of all plans. Conditions: none; over the given program. (And 3 texts more.) -/
import Derived.Test.YtnffnndmilpnoaaGreatDoorFloorNeedsQ4
import Derived.Test.YtnffnndmilpnoaaGreatDoorFloorNeedsQ2
set_option linter.unusedVariables false
set_option linter.unusedSimpArgs false
set_option linter.unusedSectionVars false

/- The document's list of all plans. Conditions: none; over the given program. -/
namespace Go.Mus
set_option maxRecDepth 100000
set_option maxHeartbeats 40000000
theorem Oss.append {α : Type} {row : α → List Value} {w : Nat} [Rw row w] {E : TypeId} {vs vs' : List Sv} {ls ls' : List (List α)} {A A' : Frag} (h : Oss E row vs ls A) (h' : Oss E row vs' ls' A') : Oss E row (vs ++ vs') (ls ++ ls') (A ++ A') := by
  induction h with
  | nil => exact h'
  | cons h1 _ ih => have := Oss.cons h1 ih; rw [← List.append_assoc] at this; exact this
def PlansSpec (main : Side) (fs : List Fl) (ss : List St) (u : Int) (m : Nat) : Prop := ∀ (h : Hp) (l : List Be) (S : Frag) (vf vs v : Value), Sl h Fl.row vf fs → Sl h St.row vs ss → Os t_Berth Be.row v l S → l.length + m = ss.length → PlanOf fs ss (padB l) →
  Fnc prog main n_ref_Plans #[.agg #[vf, vs], I u, v] h S (fun v' A => ∃ O us B, Os t_sl_Berth rowS v' us O ∧ Oss t_Berth Be.row us (plansF fs ss u m l) B ∧ Sb (O ++ B) A)
def stepG (fs : List Fl) (ss : List St) (u : Int) (m : Nat) (l : List Be) (b : Be) : List (List Be) := if fullL fs ss (l ++ [b]) b.fl then [] else plansF fs ss u m (l ++ [b])
theorem Plans_step (main : Side) (fs : List Fl) (ss : List St) (u : Int) (hall : HallOK fs ss) (m : Nat) (ih : ∀ m', m' < m → PlansSpec main fs ss u m') : PlansSpec main fs ss u m := by
  intro h l S vf vs v hf hs hO hlm hp
  have hns := hall.ns
  have hnf := hall.nf
  obtain ⟨a, cap, rfl⟩ := hf.isSl
  obtain ⟨a', cap', rfl⟩ := hs.isSl
  obtain ⟨al, lc, rfl⟩ := hO.isSl
  refine Fnc.of_body at_ref_Plans rfl (by show 3 ≤ 95; decide) [(0, .agg #[.slice a fs.length cap, .slice a' ss.length cap']), (1, I u), (2, .slice al l.length lc)] ⟨rfl, rfl, rfl, trivial⟩ ?_
  refine W.seq <| W.region rfl ?_
  refine Ops.box (cs := #[.slice a fs.length cap, .slice a' ss.length cap']) (fun β3 => ?_) rfl rfl rfl
  refine qs rfl rfl rfl <| nn <| W.seq <| W.region rfl <| qm rfl rfl rfl ?_
  refine o1 (y_len rfl rfl) rfl ?_
  refine qs rfl rfl rfl <| nn <| W.seq <| W.seq <| W.region rfl <| qm rfl rfl rfl ?_
  refine fq rfl ?_
  refine dq rfl ?_
  refine o1 (y_len rfl rfl) rfl ?_
  refine o1 (y_eql rfl rfl rfl) rfl ?_
  refine nn ?_
  refine W.condp rfl (fun c18 => ?_) (fun c18 => ?_)
  · have hm : m = 0 := by omega
    subst hm
    refine W.seq <| W.region rfl <| qm rfl rfl rfl ?_
    refine Ops.bsl (cs := #[.slice al l.length lc]) (fun β20 => ?_) rfl
    refine qs rfl rfl rfl <| nn <| W.ret <| thn_r ?_
    exact lvt (vs := [_]) ⟨[(β20, .cells #[.slice al l.length lc] t_sl_Berth (0, 0))], [⟨al, l.length, lc⟩], S ++ [], .inr ⟨β20, _, 1, [], rfl, rfl, rfl, Nat.le_refl _, Part.all _, .nil⟩, Oss.cons (s := ⟨al, l.length, lc⟩) hO .nil, by rw [List.append_nil]; exact .cons (.skip rfl .refl)⟩
  · obtain ⟨m, rfl⟩ : ∃ k, m = k + 1 := ⟨m - 1, by omega⟩
    have hk : l.length < ss.length := by omega
    have hpb : ∀ b, b ∈ berthsK fs ss freeM l.length → PlanOf fs ss (padB (l ++ [b])) := fun b hb => by
      rw [← padB_set (by omega)]
      exact plan_set hp (by omega) (berth_ok hall hk hb)
    have hbe := berths_eq (fs := fs) (ss := ss) (k := l.length)
    have h0 : bnone ∈ berthsK fs ss freeM l.length := by rw [hbe]; exact List.mem_cons_self ..
    have hmf : ∀ b, b ∈ floorsFrom (stAt ss l.length) 0 fs.length → b ∈ berthsK fs ss freeM l.length := fun b hb => by rw [hbe]; exact List.mem_cons_of_mem _ hb
    have hpf : plansF fs ss u (m + 1) l = (if u < 0 ∨ u < l.length then plansF fs ss u m (l ++ [bnone]) else []) ++ (if 0 ≤ u ∧ u < l.length then [] else (floorsFrom (stAt ss l.length) 0 fs.length).flatMap (stepG fs ss u m l)) := rfl
    rw [hpf]
    obtain ⟨t, ht0, -⟩ := has hk
    have hta : stAt ss l.length = t := by simp [stAt, List.getD, ht0]
    rw [hta] at hbe hmf ⊢
    have hto := hall.st t (List.mem_of_getElem? ht0)
    have h13 : 13 ^ m ≤ 2197 := by
      rcases (by omega : m = 0 ∨ m = 1 ∨ m = 2 ∨ m = 3) with rfl | rfl | rfl | rfl <;> decide
    refine W.skip <| thn_n <| W.seq <| W.region rfl <| qs rfl rfl rfl <| nn <| W.seq <| W.seq <| W.region rfl ?_
    refine qm rfl rfl rfl ?_
    refine o1 (y_lss rfl rfl rfl) rfl ?_
    refine qm rfl rfl rfl ?_
    refine Ops.ask (fun a5_3 => ?_) (fun a5_3 => ?_)
    · refine Ops.no ?_
      refine Ops.no ?_
      refine Ops.no ?_
      refine o1 (y_pickT rfl rfl rfl) rfl ?_
      refine nn ?_
      refine W.condT ?_
      refine W.mono (Q := (fun e ρ' ds' F' => e = .normal ∧ ds' = [] ∧ ∃ (O : Frag) (us : List Sv) (B : Frag) (ua : Option Addr) (uc : Nat), Sub [(8, .slice ua us.length uc), (7, I l.length), (3, .pointer (some ⟨β3, 0, none⟩)), (2, .slice al l.length lc), (1, I u)] ρ' ∧ Os t_sl_Berth rowS (.slice ua us.length uc) us O ∧ Oss t_Berth Be.row us (plansF fs ss u m (l ++ [bnone])) B ∧ Sb ((β3, .cells #[.slice a fs.length cap, .slice a' ss.length cap'] t_Plant (0, 0)) :: (S ++ (O ++ B))) F')) ?_ ?_
      · refine W.drawL [(β3, .cells #[.slice a fs.length cap, .slice a' ss.length cap'] t_Plant (0, 0))] (n := 10) rfl ?_
        refine a1 0 (yldW rfl rfl) rfl ?_
        refine a1 1 (y_move rfl rfl) rfl ?_
        refine a1 3 (y_move rfl rfl) rfl ?_
        refine a1 5 (y_build (parts := [⟨_, _⟩]) (cs := #[I (-1), I 0]) rfl rfl rfl) rfl ?_
        refine Any.eff2 (i := 2) (j := 6) (by kernel_rfl) (nthO_get rfl) (nthO_get rfl) an an rfl rfl rfl rfl ?_ ?_
        · refine e_buildSlice0 rfl fun β30 _ _ => ⟨.inr (Keeps.one (by repeat (first | exact List.Mem.head _ | apply List.Mem.tail | apply List.mem_append_right)) Keeps.nil), ?_⟩
          have hO30 : Os t_Berth Be.row (.slice (some ⟨β30, 0, none⟩) 0 0) ([] : List Be) [(β30, .cells #[] t_Berth (0, 0))] := .inr ⟨β30, #[], 0, [], rfl, rfl, rfl, Nat.le_refl _, Part.all [], .nil⟩
          refine Any.eff2 (i := 4) (j := 6) (by kernel_rfl) (nthO_get rfl) (nthO_get rfl) an an rfl rfl rfl rfl ?_ ?_
          · refine e_append (row := Be.row) (l := []) (l' := l) rfl rfl rfl hO30 .head (fun h2 hE hL => hO.sl fun b o hb => hL b o (.tail _ hb)) (by simp; omega) (by decide) rfl (fun v4 S4 hO4 => ⟨.inr (Keeps.one (by repeat (first | exact List.Mem.head _ | apply List.Mem.tail | apply List.mem_append_right)) Keeps.nil), ?_⟩)
            rw [List.nil_append] at hO4
            refine abl (i := 6) (s := 2) (cs := #[I (-1), I 0]) (fun β34 => ?_) (hk := Keeps.one (by repeat (first | exact List.Mem.head _ | apply List.Mem.tail | apply List.mem_append_right)) Keeps.nil) (hf := by kernel_rfl)
            refine ae (i := 7) rfl an rfl rfl (e_append (row := Be.row) (l' := [bnone]) rfl rfl rfl hO4 (.tail .head) (fun h2 _ hl => Sl.mk (hl β34 _ (.head _)) rfl (Part.all (Be.row bnone))) (by simp; omega) (by decide) rfl (fun v7 S7 hO7 => ⟨.inr (Keeps.one (by repeat (first | exact List.Mem.head _ | apply List.Mem.tail | apply List.mem_append_right)) Keeps.nil), ?_⟩))
            refine ae (i := 8) rfl an rfl rfl (e_call (A := S7) (args := [_, _, _]) (vs := [.agg #[.slice a fs.length cap, .slice a' ss.length cap'], I u, v7]) rfl rfl (.tail .head) (fun h' hE hL => ih m (by omega) h' (l ++ [bnone]) S7 _ _ _ (hf.ext hE) (hs.ext hE) hO7 (by simp; omega) (hpb _ h0)) (fun v A' hv => ?_))
            obtain ⟨O, us, B, hOO, hBB, hsb⟩ := hv
            obtain ⟨ua, uc, rfl⟩ := hOO.isSl
            refine ⟨.inr (Keeps.one (by repeat (first | exact List.Mem.head _ | apply List.Mem.tail | apply List.mem_append_right)) Keeps.nil), ?_⟩
            refine a1 9 (y_assign rfl rfl) rfl ?_ (hS := Keeps.one (by repeat (first | exact List.Mem.head _ | apply List.Mem.tail | apply List.mem_append_right)) Keeps.nil)
            refine az ?_
            exact ⟨rfl, rfl, O, us, B, ua, uc, ⟨rfl, rfl, rfl, rfl, rfl, trivial⟩, hOO, hBB, .skip rfl (Sb.trans (.of_perm (List.perm_append_comm (l₁ := (β3, .cells #[.slice a fs.length cap, .slice a' ss.length cap'] t_Plant (0, 0)) :: S) (l₂ := O ++ B))) (hsb.app .refl))⟩
          · refine (e_buildSlice (cs := #[I (-1), I 0]) rfl rfl (by decide) (by decide) (by kernel_rfl) fun β34 _ _ => ⟨.inr (Keeps.one (by repeat (first | exact List.Mem.head _ | apply List.Mem.tail | apply List.mem_append_right)) Keeps.nil), ?_⟩)
            refine ae (i := 4) rfl an rfl rfl (e_append (row := Be.row) (l := []) (l' := l) rfl rfl rfl hO30 (.tail .head) (fun h2 hE hL => hO.sl fun b o hb => hL b o (.tail _ (.tail _ hb))) (by simp; omega) (by decide) rfl (fun v4 S4 hO4 => ⟨.inr (Keeps.one (by repeat (first | exact List.Mem.head _ | apply List.Mem.tail | apply List.mem_append_right)) Keeps.nil), ?_⟩))
            rw [List.nil_append] at hO4
            refine ae (i := 7) rfl an rfl rfl (e_append (row := Be.row) (l' := [bnone]) rfl rfl rfl hO4 (.tail .head) (fun h2 _ hl => Sl.mk (hl β34 _ (.head _)) rfl (Part.all (Be.row bnone))) (by simp; omega) (by decide) rfl (fun v7 S7 hO7 => ⟨.inr (Keeps.one (by repeat (first | exact List.Mem.head _ | apply List.Mem.tail | apply List.mem_append_right)) Keeps.nil), ?_⟩))
            refine ae (i := 8) rfl an rfl rfl (e_call (A := S7) (args := [_, _, _]) (vs := [.agg #[.slice a fs.length cap, .slice a' ss.length cap'], I u, v7]) rfl rfl (.tail .head) (fun h' hE hL => ih m (by omega) h' (l ++ [bnone]) S7 _ _ _ (hf.ext hE) (hs.ext hE) hO7 (by simp; omega) (hpb _ h0)) (fun v A' hv => ?_))
            obtain ⟨O, us, B, hOO, hBB, hsb⟩ := hv
            obtain ⟨ua, uc, rfl⟩ := hOO.isSl
            refine ⟨.inr (Keeps.one (by repeat (first | exact List.Mem.head _ | apply List.Mem.tail | apply List.mem_append_right)) Keeps.nil), ?_⟩
            refine a1 9 (y_assign rfl rfl) rfl ?_ (hS := Keeps.one (by repeat (first | exact List.Mem.head _ | apply List.Mem.tail | apply List.mem_append_right)) Keeps.nil)
            refine az ?_
            exact ⟨rfl, rfl, O, us, B, ua, uc, ⟨rfl, rfl, rfl, rfl, rfl, trivial⟩, hOO, hBB, .skip rfl (Sb.trans (.of_perm (List.perm_append_comm (l₁ := (β3, .cells #[.slice a fs.length cap, .slice a' ss.length cap'] t_Plant (0, 0)) :: S) (l₂ := O ++ B))) (hsb.app .refl))⟩
        · refine (e_buildSlice (cs := #[I (-1), I 0]) rfl rfl (by decide) (by decide) (by kernel_rfl) fun β34 _ _ => ⟨.inr (Keeps.one (by repeat (first | exact List.Mem.head _ | apply List.Mem.tail | apply List.mem_append_right)) Keeps.nil), ?_⟩)
          refine ae (i := 2) rfl an rfl rfl (e_buildSlice0 rfl fun β30 _ _ => ⟨.inr (Keeps.one (by repeat (first | exact List.Mem.head _ | apply List.Mem.tail | apply List.mem_append_right)) Keeps.nil), ?_⟩)
          have hO30 : Os t_Berth Be.row (.slice (some ⟨β30, 0, none⟩) 0 0) ([] : List Be) [(β30, .cells #[] t_Berth (0, 0))] := .inr ⟨β30, #[], 0, [], rfl, rfl, rfl, Nat.le_refl _, Part.all [], .nil⟩
          refine ae (i := 4) rfl an rfl rfl (e_append (row := Be.row) (l := []) (l' := l) rfl rfl rfl hO30 .head (fun h2 hE hL => hO.sl fun b o hb => hL b o (.tail _ (.tail _ hb))) (by simp; omega) (by decide) rfl (fun v4 S4 hO4 => ⟨.inr (Keeps.one (by repeat (first | exact List.Mem.head _ | apply List.Mem.tail | apply List.mem_append_right)) Keeps.nil), ?_⟩))
          rw [List.nil_append] at hO4
          refine Any.sb (F' := (β34, .cells #[I (-1), I 0] t_Berth (0, 0)) :: (S4 ++ ((β3, .cells #[.slice a fs.length cap, .slice a' ss.length cap'] t_Plant (0, 0)) :: S))) (.of_perm (List.perm_middle (a := _) (l₁ := S4)).symm) ?_
          refine ae (i := 7) rfl an rfl rfl (e_append (row := Be.row) (l' := [bnone]) rfl rfl rfl hO4 (.tail .head) (fun h2 _ hl => Sl.mk (hl β34 _ (.head _)) rfl (Part.all (Be.row bnone))) (by simp; omega) (by decide) rfl (fun v7 S7 hO7 => ⟨.inr (Keeps.one (by repeat (first | exact List.Mem.head _ | apply List.Mem.tail | apply List.mem_append_right)) Keeps.nil), ?_⟩))
          refine ae (i := 8) rfl an rfl rfl (e_call (A := S7) (args := [_, _, _]) (vs := [.agg #[.slice a fs.length cap, .slice a' ss.length cap'], I u, v7]) rfl rfl (.tail .head) (fun h' hE hL => ih m (by omega) h' (l ++ [bnone]) S7 _ _ _ (hf.ext hE) (hs.ext hE) hO7 (by simp; omega) (hpb _ h0)) (fun v A' hv => ?_))
          obtain ⟨O, us, B, hOO, hBB, hsb⟩ := hv
          obtain ⟨ua, uc, rfl⟩ := hOO.isSl
          refine ⟨.inr (Keeps.one (by repeat (first | exact List.Mem.head _ | apply List.Mem.tail | apply List.mem_append_right)) Keeps.nil), ?_⟩
          refine a1 9 (y_assign rfl rfl) rfl ?_ (hS := Keeps.one (by repeat (first | exact List.Mem.head _ | apply List.Mem.tail | apply List.mem_append_right)) Keeps.nil)
          refine az ?_
          exact ⟨rfl, rfl, O, us, B, ua, uc, ⟨rfl, rfl, rfl, rfl, rfl, trivial⟩, hOO, hBB, .skip rfl (Sb.trans (.of_perm (List.perm_append_comm (l₁ := (β3, .cells #[.slice a fs.length cap, .slice a' ss.length cap'] t_Plant (0, 0)) :: S) (l₂ := O ++ B))) (hsb.app .refl))⟩
      rintro e ρ' ds' F' ⟨rfl, rfl, O, us, B, ua, uc, hE0, hOO, hBB, hsb0⟩
      refine thn_n (W.env hE0 (W.sb hsb0 ?_))
      refine W.seq <| W.seq <| W.region rfl <| qm rfl rfl rfl ?_
      refine o1 (y_geq rfl rfl rfl) rfl ?_
      refine qm rfl rfl rfl ?_
      refine Ops.ask (fun a7_3 => ?_) (fun a7_3 => ?_)
      · refine oq (y_move rfl rfl) rfl (want_some rfl rfl rfl) rfl rfl ?_
        refine oq (y_move rfl rfl) rfl (want_some rfl rfl rfl) rfl rfl ?_
        refine oq (y_gtr rfl rfl rfl) rfl (want_some rfl rfl rfl) rfl rfl ?_
        refine o1 (y_pickT rfl rfl rfl) rfl ?_
        refine nn ?_
        refine W.condp rfl (fun c43 => ?_) (fun c43 => ?_)
        · refine W.seq <| W.region rfl <| qm rfl rfl rfl <| qs rfl rfl rfl <| nn <| W.ret <| thn_r ?_
          first
          | (exfalso; omega)
          | (rw [if_pos (by omega), if_pos (by omega), List.append_nil]
             exact lvt (vs := [_]) ⟨O, us, B, hOO, hBB, .skip rfl (Sb.left .refl hO.shut)⟩)
        · refine W.skip <| thn_n <| W.seq <| W.seq <| W.region rfl <| qs rfl rfl rfl <| nn <| W.block ?_
          first
          | refine W.loop (σ := Nat × List Sv × Option Addr × Nat × Frag × Frag) (fun q => q.1 ≤ fs.length ∧ Os t_sl_Berth rowS (.slice q.2.2.1 q.2.1.length q.2.2.2.1) q.2.1 q.2.2.2.2.1 ∧ Oss t_Berth Be.row q.2.1 ((if u < 0 ∨ u < l.length then plansF fs ss u m (l ++ [bnone]) else []) ++ (floorsFrom t 0 q.1).flatMap (stepG fs ss u m l)) q.2.2.2.2.2) (fun q => [(9, I q.1), (8, .slice q.2.2.1 q.2.1.length q.2.2.2.1), (7, I l.length), (3, .pointer (some ⟨β3, 0, none⟩)), (2, .slice al l.length lc), (1, I u)]) (fun q => (β3, .cells #[.slice a fs.length cap, .slice a' ss.length cap'] t_Plant (0, 0)) :: (S ++ (q.2.2.2.2.1 ++ q.2.2.2.2.2))) (fun q => fs.length - q.1) (0, us, ua, uc, O, B) ⟨Nat.zero_le _, hOO, by rw [if_pos (by omega)]; simpa [floorsFrom] using hBB⟩ ⟨rfl, rfl, rfl, rfl, rfl, rfl, trivial⟩ .refl ?_
          | refine W.loop (σ := Nat × List Sv × Option Addr × Nat × Frag × Frag) (fun q => q.1 ≤ fs.length ∧ Os t_sl_Berth rowS (.slice q.2.2.1 q.2.1.length q.2.2.2.1) q.2.1 q.2.2.2.2.1 ∧ Oss t_Berth Be.row q.2.1 ((if u < 0 ∨ u < l.length then plansF fs ss u m (l ++ [bnone]) else []) ++ (floorsFrom t 0 q.1).flatMap (stepG fs ss u m l)) q.2.2.2.2.2) (fun q => [(9, I q.1), (8, .slice q.2.2.1 q.2.1.length q.2.2.2.1), (7, I l.length), (3, .pointer (some ⟨β3, 0, none⟩)), (2, .slice al l.length lc), (1, I u)]) (fun q => (β3, .cells #[.slice a fs.length cap, .slice a' ss.length cap'] t_Plant (0, 0)) :: (S ++ (q.2.2.2.2.1 ++ q.2.2.2.2.2))) (fun q => fs.length - q.1) (0, [], none, 0, [], []) ⟨Nat.zero_le _, .nil .nil, by rw [if_neg (by omega)]; exact .nil⟩ ⟨rfl, rfl, rfl, rfl, rfl, rfl, trivial⟩ (by simp only [List.append_nil]; exact .refl) ?_
          rintro ⟨k, us, ua, uc, O, B⟩ ⟨hk0, hN, hC⟩
          dsimp only at *
          rw [if_neg (show ¬ (0 ≤ u ∧ u < l.length) by omega)]
          obtain ⟨X0, hX0⟩ : ∃ X, (if u < 0 ∨ u < (l.length : Int) then plansF fs ss u m (l ++ [bnone]) else []) = X := ⟨_, rfl⟩
          have hX0l : X0.length ≤ 13 ^ m := by
            rw [← hX0]
            split
            · exact plansF_len hall m _ (by simp; omega)
            · simp
          rw [hX0] at hC ⊢
          refine W.seq <| W.seq <| W.region rfl <| qm rfl rfl rfl ?_
          refine fq rfl ?_
          refine dq rfl ?_
          refine o1 (y_len rfl rfl) rfl ?_
          refine o1 (y_lss rfl rfl rfl) rfl ?_
          refine nn ?_
          refine W.condp rfl (fun c49 => ?_) (fun c49 => ?_)
          · have hk1 : k < fs.length := by omega
            obtain ⟨bs, offs, cs, Es, fzs, rfl, hbs, -, hys, hzs⟩ := hs.at ht0
            have hsd : cs[offs + l.length * 3 + 0]? = some (I t.day) := hzs 0 (by decide)
            have hsw : cs[offs + l.length * 3 + 2]? = some (I t.wa) := hzs 2 (by decide)
            clear hzs
            refine W.skip <| thn_n <| W.seq <| W.block <| W.seq <| W.region rfl ?_
            refine fq rfl ?_
            refine dq rfl ?_
            refine qm rfl rfl rfl ?_
            refine xq rfl ?_
            refine fq rfl ?_
            refine dq rfl ?_
            refine qs rfl rfl rfl <| nn <| W.block ?_
            refine W.loop (σ := Nat × List Sv × Option Addr × Nat × Frag × Frag) (fun q => q.1 ≤ (t.wa + 1).toNat ∧ Os t_sl_Berth rowS (.slice q.2.2.1 q.2.1.length q.2.2.2.1) q.2.1 q.2.2.2.2.1 ∧ Oss t_Berth Be.row q.2.1 (X0 ++ (floorsFrom t 0 k ++ daysFrom k t.day q.1).flatMap (stepG fs ss u m l)) q.2.2.2.2.2) (fun q => [(10, I (t.day + q.1)), (9, I k), (8, .slice q.2.2.1 q.2.1.length q.2.2.2.1), (7, I l.length), (3, .pointer (some ⟨β3, 0, none⟩)), (2, .slice al l.length lc), (1, I u)]) (fun q => (β3, .cells #[.slice a fs.length cap, .slice _ ss.length cap'] t_Plant (0, 0)) :: (S ++ (q.2.2.2.2.1 ++ q.2.2.2.2.2))) (fun q => (t.wa + 1).toNat - q.1) (0, us, ua, uc, O, B) ⟨Nat.zero_le _, hN, by simpa [daysFrom] using hC⟩ ⟨lk rfl (show I _ = I _ by congr 1; omega), rfl, rfl, rfl, rfl, rfl, rfl, trivial⟩ .refl ?_
            clear hN hC
            rintro ⟨j, us, ua, uc, O, B⟩ ⟨hj, hN, hC⟩
            dsimp only at *
            refine W.seq <| W.seq ?_
            refine W.drawF (n := 15) rfl ?_
            refine a1 0 (y_move rfl rfl) rfl ?_
            refine a1 1 (y_fieldAddr rfl rfl) rfl ?_
            refine a1 2 (yld rfl rfl) rfl ?_
            refine a1 3 (y_move rfl rfl) rfl ?_
            first | refine a1 4 (yix rfl rfl rfl) rfl ?_ | refine a1 4 (yixI rfl rfl rfl) rfl ?_
            refine a1 5 (y_fieldAddr rfl rfl) rfl ?_
            refine a1 6 (yld rfl rfl) rfl ?_
            refine a1 7 (y_fieldAddr rfl rfl) rfl ?_
            refine a1 8 (yld rfl rfl) rfl ?_
            refine a1 9 (y_move rfl rfl) rfl ?_
            first | refine a1 10 (yix rfl rfl rfl) rfl ?_ | refine a1 10 (yixI rfl rfl rfl) rfl ?_
            refine a1 11 (y_fieldAddr rfl rfl) rfl ?_
            refine a1 12 (yld rfl rfl) rfl ?_
            first | refine a1 13 (yadd rfl rfl rfl) rfl ?_ | refine a1 13 (y_addw rfl rfl rfl) rfl ?_
            refine a1 14 (y_leq rfl rfl rfl) rfl ?_
            refine az ?_
            refine thn_n ?_
            refine W.condp rfl (fun c72 => ?_) (fun c72 => ?_)
            · have hj1 : j < (t.wa + 1).toNat := by omega
              have hbm : (⟨k, t.day + j⟩ : Be) ∈ floorsFrom t 0 fs.length := by
                have := mem_berths (fs := fs) (ss := ss) (may := freeM) (k := l.length) (b := ⟨k, t.day + j⟩)
                rw [hbe, hta] at this
                have h2 := this.2 (.inr ⟨rfl, by simp only; omega, by simp only; omega, by simp only; omega, by simp only; omega⟩)
                rcases List.mem_cons.1 h2 with h3 | h3
                · exact absurd (congrArg Be.fl h3) (by simp only [bnone]; omega)
                · exact h3
              have hPb := hpb _ (hmf _ hbm)
              have hL20 : (floorsFrom t 0 k ++ daysFrom k t.day j).length ≤ 20 := by
                have := floors_le (s := t) (m := k) (f := 0) (by omega) (by omega)
                rw [List.length_append, daysFrom_len]; omega
              have hul : us.length ≤ 60000 := by
                have h1 := fm_len (l := floorsFrom t 0 k ++ daysFrom k t.day j) (f := stepG fs ss u m l) (n := 13 ^ m) fun b _ => by
                  unfold stepG
                  split
                  · simp
                  · exact plansF_len hall m _ (by simp; omega)
                have h2 := Nat.mul_le_mul hL20 h13
                rw [hC.len, List.length_append]
                omega
              have hday : (floorsFrom t 0 k ++ daysFrom k t.day (j + 1)).flatMap (stepG fs ss u m l) = (floorsFrom t 0 k ++ daysFrom k t.day j).flatMap (stepG fs ss u m l) ++ stepG fs ss u m l ⟨k, t.day + j⟩ := by
                rw [daysFrom_snoc, ← List.append_assoc, List.flatMap_append]; simp
              refine W.skip <| thn_n <| W.seq <| W.block <| W.seq <| W.region rfl ?_
              refine Ops.bsl0 (fun β75 => ?_)
              refine qm rfl rfl rfl ?_
              have hO75 : Os t_Berth Be.row (.slice (some ⟨β75, 0, none⟩) 0 0) ([] : List Be) [(β75, .cells #[] t_Berth (0, 0))] := .inr ⟨β75, #[], 0, [], rfl, rfl, rfl, Nat.le_refl _, Part.all [], .nil⟩
              refine oe rfl wn rfl rfl (e_append (row := Be.row) (l := []) (l' := l) rfl rfl rfl hO75 .head (fun h2 hE hL => hO.sl fun b o hb => hL b o (.tail _ (List.mem_append_left _ hb))) (by simp; omega) (by decide) rfl (fun v1 S1 hS1 => ?_))
              rw [List.nil_append] at hS1
              refine qm rfl rfl rfl <| qm rfl rfl rfl ?_
              refine o1 (y_build (parts := [⟨_, _⟩, ⟨_, _⟩]) (cs := #[I k, I (t.day + j)]) rfl rfl rfl) rfl ?_
              refine Ops.bsl (cs := #[I k, I (t.day + j)]) (fun β81 => ?_) rfl (hf := by kernel_rfl)
              refine oe rfl wn rfl rfl (e_append (row := Be.row) (l' := [(⟨k, t.day + j⟩ : Be)]) rfl rfl rfl hS1 (.tail .head) (fun h2 _ hl => Sl.mk (hl β81 _ (.head _)) rfl (Part.all (Be.row ⟨k, t.day + j⟩))) (by simp; omega) (by decide) rfl (fun v2 S2 hS2 => ?_))
              refine qs rfl rfl rfl <| nn ?_
              refine W.sb (.of_perm ((List.Perm.swap _ _ _).trans (List.Perm.cons _ (List.perm_middle (l₁ := S2)).symm))) ?_
              refine W.seq <| W.region rfl ?_
              refine lq rfl ?_
              refine qm rfl rfl rfl <| qm rfl rfl rfl ?_
              refine cp (u := .bool (fullL fs ss (l ++ [⟨k, t.day + j⟩]) k)) (fun h' hE hL => Rfull_fn _ h' fs ss (l ++ [⟨k, t.day + j⟩]) k _ _ v2 (hf.ext hE) (hs.ext hE) (hS2.sl fun b o hb => hL b o (.tail _ (.tail _ (List.mem_append_left _ hb)))) hall hPb (by simp; omega) hk1) ?_
              refine o1 (y_not rfl rfl) rfl ?_
              refine nn ?_
              refine W.cond rfl (fun c87 => ?_) (fun c87 => ?_)
              · refine W.region rfl <| qm rfl rfl rfl ?_
                refine lq rfl ?_
                refine qm rfl rfl rfl <| qm rfl rfl rfl ?_
                refine cg (A := S2) (.tail (.tail .head)) (fun h' hE hL => ih m (by omega) h' (l ++ [⟨k, t.day + j⟩]) S2 _ _ v2 (hf.ext hE) (hs.ext hE) hS2 (by simp; omega) hPb) (fun v A' hv => ?_)
                obtain ⟨O2, us2, B2, hO2, hB2, hsb2⟩ := hv
                obtain ⟨u2a, u2c, rfl⟩ := hO2.isSl
                have hul2 : us2.length ≤ 2197 := by rw [hB2.len]; exact Nat.le_trans (plansF_len hall m _ (by simp; omega)) h13
                refine Ops.sb (.cons (.cons (hsb2.app .refl))) ?_
                refine oe rfl wn rfl rfl (e_append (row := rowS) (l' := us2) rfl rfl rfl hN (.tail (.tail (.app (.app .head)))) (fun h2 _ hl => hO2.sl fun b o hb => hl b o (.tail _ (.tail _ (List.mem_append_left _ (List.mem_append_left _ hb))))) (by omega) (by decide) rfl (fun v3 N3 hN3 => ?_))
                obtain ⟨na3, nc3, rfl⟩ := hN3.isSl
                refine qs rfl rfl rfl <| Ops.nil <| blk_n <| thn_n <| W.region rfl <| qm rfl rfl rfl ?_
                refine pq rfl ?_
                refine qs rfl rfl rfl <| nn ?_
                have hff : fullL fs ss (l ++ [⟨k, t.day + j⟩]) k = false := by simpa using c87
                refine ⟨rfl, (j + 1, us ++ us2, na3, nc3, N3, B ++ B2), ⟨by simp only; omega, hN3, ?_⟩, by simp only; omega, ⟨lk rfl (show I _ = I _ by congr 1; omega), rfl, rfl, rfl, rfl, rfl, rfl, trivial⟩, ?_⟩
                · dsimp only
                  rw [hday, ← List.append_assoc]
                  refine hC.append ?_
                  rw [stepG, hff, if_neg (by decide)]
                  exact hB2
                · dsimp only
                  refine .cons (.skip rfl ⟨O2, perm_cnt fun y => ?_, hO2.shut⟩)
                  simp only [List.count_append, List.count_cons, List.count_nil]; omega
              · refine W.skip <| blk_n <| thn_n <| W.region rfl <| qm rfl rfl rfl ?_
                refine pq rfl ?_
                refine qs rfl rfl rfl <| nn ?_
                have hff : fullL fs ss (l ++ [⟨k, t.day + j⟩]) k = true := by simpa using c87
                refine ⟨rfl, (j + 1, us, ua, uc, O, B), ⟨by simp only; omega, hN, ?_⟩, by simp only; omega, ⟨lk rfl (show I _ = I _ by congr 1; omega), rfl, rfl, rfl, rfl, rfl, rfl, trivial⟩, .cons (.skip rfl (Sb.left .refl hS2.shut))⟩
                dsimp only
                rw [hday, stepG, if_pos hff, List.append_nil]
                exact hC
            · refine W.exit <| thn_x <| thn_x <| blk_x <| blk_n <| thn_n <| W.region rfl <| qm rfl rfl rfl ?_
              refine pq rfl ?_
              refine qs rfl rfl rfl <| nn ?_
              have hje : j = (t.wa + 1).toNat := by omega
              subst hje
              refine ⟨rfl, (k + 1, us, ua, uc, O, B), ⟨by simp only; omega, hN, ?_⟩, by simp only; omega, ⟨rfl, rfl, rfl, rfl, rfl, rfl, trivial⟩, .refl⟩
              dsimp only
              rw [floorsFrom_snoc, Int.zero_add]
              exact hC
          · have hke : k = fs.length := by omega
            subst hke
            refine W.exit <| thn_x <| thn_x <| blk_x <| thn_n <| W.seq <| W.region rfl <| qm rfl rfl rfl <| qs rfl rfl rfl <| Ops.nil ?_
            refine thn_n <| W.ret ?_
            exact lvt (vs := [_]) ⟨O, us, B, hN, hC, .skip rfl (Sb.left .refl hO.shut)⟩
      · refine Ops.no ?_
        refine Ops.no ?_
        refine Ops.no ?_
        refine o1 (y_pickF rfl rfl rfl) rfl ?_
        refine nn ?_
        refine W.condF ?_
        refine W.skip <| thn_n <| W.seq <| W.seq <| W.region rfl <| qs rfl rfl rfl <| nn <| W.block ?_
        first
        | refine W.loop (σ := Nat × List Sv × Option Addr × Nat × Frag × Frag) (fun q => q.1 ≤ fs.length ∧ Os t_sl_Berth rowS (.slice q.2.2.1 q.2.1.length q.2.2.2.1) q.2.1 q.2.2.2.2.1 ∧ Oss t_Berth Be.row q.2.1 ((if u < 0 ∨ u < l.length then plansF fs ss u m (l ++ [bnone]) else []) ++ (floorsFrom t 0 q.1).flatMap (stepG fs ss u m l)) q.2.2.2.2.2) (fun q => [(9, I q.1), (8, .slice q.2.2.1 q.2.1.length q.2.2.2.1), (7, I l.length), (3, .pointer (some ⟨β3, 0, none⟩)), (2, .slice al l.length lc), (1, I u)]) (fun q => (β3, .cells #[.slice a fs.length cap, .slice a' ss.length cap'] t_Plant (0, 0)) :: (S ++ (q.2.2.2.2.1 ++ q.2.2.2.2.2))) (fun q => fs.length - q.1) (0, us, ua, uc, O, B) ⟨Nat.zero_le _, hOO, by rw [if_pos (by omega)]; simpa [floorsFrom] using hBB⟩ ⟨rfl, rfl, rfl, rfl, rfl, rfl, trivial⟩ .refl ?_
        | refine W.loop (σ := Nat × List Sv × Option Addr × Nat × Frag × Frag) (fun q => q.1 ≤ fs.length ∧ Os t_sl_Berth rowS (.slice q.2.2.1 q.2.1.length q.2.2.2.1) q.2.1 q.2.2.2.2.1 ∧ Oss t_Berth Be.row q.2.1 ((if u < 0 ∨ u < l.length then plansF fs ss u m (l ++ [bnone]) else []) ++ (floorsFrom t 0 q.1).flatMap (stepG fs ss u m l)) q.2.2.2.2.2) (fun q => [(9, I q.1), (8, .slice q.2.2.1 q.2.1.length q.2.2.2.1), (7, I l.length), (3, .pointer (some ⟨β3, 0, none⟩)), (2, .slice al l.length lc), (1, I u)]) (fun q => (β3, .cells #[.slice a fs.length cap, .slice a' ss.length cap'] t_Plant (0, 0)) :: (S ++ (q.2.2.2.2.1 ++ q.2.2.2.2.2))) (fun q => fs.length - q.1) (0, [], none, 0, [], []) ⟨Nat.zero_le _, .nil .nil, by rw [if_neg (by omega)]; exact .nil⟩ ⟨rfl, rfl, rfl, rfl, rfl, rfl, trivial⟩ (by simp only [List.append_nil]; exact .refl) ?_
        rintro ⟨k, us, ua, uc, O, B⟩ ⟨hk0, hN, hC⟩
        dsimp only at *
        rw [if_neg (show ¬ (0 ≤ u ∧ u < l.length) by omega)]
        obtain ⟨X0, hX0⟩ : ∃ X, (if u < 0 ∨ u < (l.length : Int) then plansF fs ss u m (l ++ [bnone]) else []) = X := ⟨_, rfl⟩
        have hX0l : X0.length ≤ 13 ^ m := by
          rw [← hX0]
          split
          · exact plansF_len hall m _ (by simp; omega)
          · simp
        rw [hX0] at hC ⊢
        refine W.seq <| W.seq <| W.region rfl <| qm rfl rfl rfl ?_
        refine fq rfl ?_
        refine dq rfl ?_
        refine o1 (y_len rfl rfl) rfl ?_
        refine o1 (y_lss rfl rfl rfl) rfl ?_
        refine nn ?_
        refine W.condp rfl (fun c49 => ?_) (fun c49 => ?_)
        · have hk1 : k < fs.length := by omega
          obtain ⟨bs, offs, cs, Es, fzs, rfl, hbs, -, hys, hzs⟩ := hs.at ht0
          have hsd : cs[offs + l.length * 3 + 0]? = some (I t.day) := hzs 0 (by decide)
          have hsw : cs[offs + l.length * 3 + 2]? = some (I t.wa) := hzs 2 (by decide)
          clear hzs
          refine W.skip <| thn_n <| W.seq <| W.block <| W.seq <| W.region rfl ?_
          refine fq rfl ?_
          refine dq rfl ?_
          refine qm rfl rfl rfl ?_
          refine xq rfl ?_
          refine fq rfl ?_
          refine dq rfl ?_
          refine qs rfl rfl rfl <| nn <| W.block ?_
          refine W.loop (σ := Nat × List Sv × Option Addr × Nat × Frag × Frag) (fun q => q.1 ≤ (t.wa + 1).toNat ∧ Os t_sl_Berth rowS (.slice q.2.2.1 q.2.1.length q.2.2.2.1) q.2.1 q.2.2.2.2.1 ∧ Oss t_Berth Be.row q.2.1 (X0 ++ (floorsFrom t 0 k ++ daysFrom k t.day q.1).flatMap (stepG fs ss u m l)) q.2.2.2.2.2) (fun q => [(10, I (t.day + q.1)), (9, I k), (8, .slice q.2.2.1 q.2.1.length q.2.2.2.1), (7, I l.length), (3, .pointer (some ⟨β3, 0, none⟩)), (2, .slice al l.length lc), (1, I u)]) (fun q => (β3, .cells #[.slice a fs.length cap, .slice _ ss.length cap'] t_Plant (0, 0)) :: (S ++ (q.2.2.2.2.1 ++ q.2.2.2.2.2))) (fun q => (t.wa + 1).toNat - q.1) (0, us, ua, uc, O, B) ⟨Nat.zero_le _, hN, by simpa [daysFrom] using hC⟩ ⟨lk rfl (show I _ = I _ by congr 1; omega), rfl, rfl, rfl, rfl, rfl, rfl, trivial⟩ .refl ?_
          clear hN hC
          rintro ⟨j, us, ua, uc, O, B⟩ ⟨hj, hN, hC⟩
          dsimp only at *
          refine W.seq <| W.seq ?_
          refine W.drawF (n := 15) rfl ?_
          refine a1 0 (y_move rfl rfl) rfl ?_
          refine a1 1 (y_fieldAddr rfl rfl) rfl ?_
          refine a1 2 (yld rfl rfl) rfl ?_
          refine a1 3 (y_move rfl rfl) rfl ?_
          first | refine a1 4 (yix rfl rfl rfl) rfl ?_ | refine a1 4 (yixI rfl rfl rfl) rfl ?_
          refine a1 5 (y_fieldAddr rfl rfl) rfl ?_
          refine a1 6 (yld rfl rfl) rfl ?_
          refine a1 7 (y_fieldAddr rfl rfl) rfl ?_
          refine a1 8 (yld rfl rfl) rfl ?_
          refine a1 9 (y_move rfl rfl) rfl ?_
          first | refine a1 10 (yix rfl rfl rfl) rfl ?_ | refine a1 10 (yixI rfl rfl rfl) rfl ?_
          refine a1 11 (y_fieldAddr rfl rfl) rfl ?_
          refine a1 12 (yld rfl rfl) rfl ?_
          first | refine a1 13 (yadd rfl rfl rfl) rfl ?_ | refine a1 13 (y_addw rfl rfl rfl) rfl ?_
          refine a1 14 (y_leq rfl rfl rfl) rfl ?_
          refine az ?_
          refine thn_n ?_
          refine W.condp rfl (fun c72 => ?_) (fun c72 => ?_)
          · have hj1 : j < (t.wa + 1).toNat := by omega
            have hbm : (⟨k, t.day + j⟩ : Be) ∈ floorsFrom t 0 fs.length := by
              have := mem_berths (fs := fs) (ss := ss) (may := freeM) (k := l.length) (b := ⟨k, t.day + j⟩)
              rw [hbe, hta] at this
              have h2 := this.2 (.inr ⟨rfl, by simp only; omega, by simp only; omega, by simp only; omega, by simp only; omega⟩)
              rcases List.mem_cons.1 h2 with h3 | h3
              · exact absurd (congrArg Be.fl h3) (by simp only [bnone]; omega)
              · exact h3
            have hPb := hpb _ (hmf _ hbm)
            have hL20 : (floorsFrom t 0 k ++ daysFrom k t.day j).length ≤ 20 := by
              have := floors_le (s := t) (m := k) (f := 0) (by omega) (by omega)
              rw [List.length_append, daysFrom_len]; omega
            have hul : us.length ≤ 60000 := by
              have h1 := fm_len (l := floorsFrom t 0 k ++ daysFrom k t.day j) (f := stepG fs ss u m l) (n := 13 ^ m) fun b _ => by
                unfold stepG
                split
                · simp
                · exact plansF_len hall m _ (by simp; omega)
              have h2 := Nat.mul_le_mul hL20 h13
              rw [hC.len, List.length_append]
              omega
            have hday : (floorsFrom t 0 k ++ daysFrom k t.day (j + 1)).flatMap (stepG fs ss u m l) = (floorsFrom t 0 k ++ daysFrom k t.day j).flatMap (stepG fs ss u m l) ++ stepG fs ss u m l ⟨k, t.day + j⟩ := by
              rw [daysFrom_snoc, ← List.append_assoc, List.flatMap_append]; simp
            refine W.skip <| thn_n <| W.seq <| W.block <| W.seq <| W.region rfl ?_
            refine Ops.bsl0 (fun β75 => ?_)
            refine qm rfl rfl rfl ?_
            have hO75 : Os t_Berth Be.row (.slice (some ⟨β75, 0, none⟩) 0 0) ([] : List Be) [(β75, .cells #[] t_Berth (0, 0))] := .inr ⟨β75, #[], 0, [], rfl, rfl, rfl, Nat.le_refl _, Part.all [], .nil⟩
            refine oe rfl wn rfl rfl (e_append (row := Be.row) (l := []) (l' := l) rfl rfl rfl hO75 .head (fun h2 hE hL => hO.sl fun b o hb => hL b o (.tail _ (List.mem_append_left _ hb))) (by simp; omega) (by decide) rfl (fun v1 S1 hS1 => ?_))
            rw [List.nil_append] at hS1
            refine qm rfl rfl rfl <| qm rfl rfl rfl ?_
            refine o1 (y_build (parts := [⟨_, _⟩, ⟨_, _⟩]) (cs := #[I k, I (t.day + j)]) rfl rfl rfl) rfl ?_
            refine Ops.bsl (cs := #[I k, I (t.day + j)]) (fun β81 => ?_) rfl (hf := by kernel_rfl)
            refine oe rfl wn rfl rfl (e_append (row := Be.row) (l' := [(⟨k, t.day + j⟩ : Be)]) rfl rfl rfl hS1 (.tail .head) (fun h2 _ hl => Sl.mk (hl β81 _ (.head _)) rfl (Part.all (Be.row ⟨k, t.day + j⟩))) (by simp; omega) (by decide) rfl (fun v2 S2 hS2 => ?_))
            refine qs rfl rfl rfl <| nn ?_
            refine W.sb (.of_perm ((List.Perm.swap _ _ _).trans (List.Perm.cons _ (List.perm_middle (l₁ := S2)).symm))) ?_
            refine W.seq <| W.region rfl ?_
            refine lq rfl ?_
            refine qm rfl rfl rfl <| qm rfl rfl rfl ?_
            refine cp (u := .bool (fullL fs ss (l ++ [⟨k, t.day + j⟩]) k)) (fun h' hE hL => Rfull_fn _ h' fs ss (l ++ [⟨k, t.day + j⟩]) k _ _ v2 (hf.ext hE) (hs.ext hE) (hS2.sl fun b o hb => hL b o (.tail _ (.tail _ (List.mem_append_left _ hb)))) hall hPb (by simp; omega) hk1) ?_
            refine o1 (y_not rfl rfl) rfl ?_
            refine nn ?_
            refine W.cond rfl (fun c87 => ?_) (fun c87 => ?_)
            · refine W.region rfl <| qm rfl rfl rfl ?_
              refine lq rfl ?_
              refine qm rfl rfl rfl <| qm rfl rfl rfl ?_
              refine cg (A := S2) (.tail (.tail .head)) (fun h' hE hL => ih m (by omega) h' (l ++ [⟨k, t.day + j⟩]) S2 _ _ v2 (hf.ext hE) (hs.ext hE) hS2 (by simp; omega) hPb) (fun v A' hv => ?_)
              obtain ⟨O2, us2, B2, hO2, hB2, hsb2⟩ := hv
              obtain ⟨u2a, u2c, rfl⟩ := hO2.isSl
              have hul2 : us2.length ≤ 2197 := by rw [hB2.len]; exact Nat.le_trans (plansF_len hall m _ (by simp; omega)) h13
              refine Ops.sb (.cons (.cons (hsb2.app .refl))) ?_
              refine oe rfl wn rfl rfl (e_append (row := rowS) (l' := us2) rfl rfl rfl hN (.tail (.tail (.app (.app .head)))) (fun h2 _ hl => hO2.sl fun b o hb => hl b o (.tail _ (.tail _ (List.mem_append_left _ (List.mem_append_left _ hb))))) (by omega) (by decide) rfl (fun v3 N3 hN3 => ?_))
              obtain ⟨na3, nc3, rfl⟩ := hN3.isSl
              refine qs rfl rfl rfl <| Ops.nil <| blk_n <| thn_n <| W.region rfl <| qm rfl rfl rfl ?_
              refine pq rfl ?_
              refine qs rfl rfl rfl <| nn ?_
              have hff : fullL fs ss (l ++ [⟨k, t.day + j⟩]) k = false := by simpa using c87
              refine ⟨rfl, (j + 1, us ++ us2, na3, nc3, N3, B ++ B2), ⟨by simp only; omega, hN3, ?_⟩, by simp only; omega, ⟨lk rfl (show I _ = I _ by congr 1; omega), rfl, rfl, rfl, rfl, rfl, rfl, trivial⟩, ?_⟩
              · dsimp only
                rw [hday, ← List.append_assoc]
                refine hC.append ?_
                rw [stepG, hff, if_neg (by decide)]
                exact hB2
              · dsimp only
                refine .cons (.skip rfl ⟨O2, perm_cnt fun y => ?_, hO2.shut⟩)
                simp only [List.count_append, List.count_cons, List.count_nil]; omega
            · refine W.skip <| blk_n <| thn_n <| W.region rfl <| qm rfl rfl rfl ?_
              refine pq rfl ?_
              refine qs rfl rfl rfl <| nn ?_
              have hff : fullL fs ss (l ++ [⟨k, t.day + j⟩]) k = true := by simpa using c87
              refine ⟨rfl, (j + 1, us, ua, uc, O, B), ⟨by simp only; omega, hN, ?_⟩, by simp only; omega, ⟨lk rfl (show I _ = I _ by congr 1; omega), rfl, rfl, rfl, rfl, rfl, rfl, trivial⟩, .cons (.skip rfl (Sb.left .refl hS2.shut))⟩
              dsimp only
              rw [hday, stepG, if_pos hff, List.append_nil]
              exact hC
          · refine W.exit <| thn_x <| thn_x <| blk_x <| blk_n <| thn_n <| W.region rfl <| qm rfl rfl rfl ?_
            refine pq rfl ?_
            refine qs rfl rfl rfl <| nn ?_
            have hje : j = (t.wa + 1).toNat := by omega
            subst hje
            refine ⟨rfl, (k + 1, us, ua, uc, O, B), ⟨by simp only; omega, hN, ?_⟩, by simp only; omega, ⟨rfl, rfl, rfl, rfl, rfl, rfl, trivial⟩, .refl⟩
            dsimp only
            rw [floorsFrom_snoc, Int.zero_add]
            exact hC
        · have hke : k = fs.length := by omega
          subst hke
          refine W.exit <| thn_x <| thn_x <| blk_x <| thn_n <| W.seq <| W.region rfl <| qm rfl rfl rfl <| qs rfl rfl rfl <| Ops.nil ?_
          refine thn_n <| W.ret ?_
          exact lvt (vs := [_]) ⟨O, us, B, hN, hC, .skip rfl (Sb.left .refl hO.shut)⟩
    · refine oq (y_move rfl rfl) rfl (want_some rfl rfl rfl) rfl rfl ?_
      refine oq (y_move rfl rfl) rfl (want_some rfl rfl rfl) rfl rfl ?_
      refine oq (y_gtr rfl rfl rfl) rfl (want_some rfl rfl rfl) rfl rfl ?_
      refine o1 (y_pickF rfl rfl rfl) rfl ?_
      refine nn ?_
      refine W.condp rfl (fun c27 => ?_) (fun c27 => ?_)
      · --thn
        refine W.mono (Q := (fun e ρ' ds' F' => e = .normal ∧ ds' = [] ∧ ∃ (O : Frag) (us : List Sv) (B : Frag) (ua : Option Addr) (uc : Nat), Sub [(8, .slice ua us.length uc), (7, I l.length), (3, .pointer (some ⟨β3, 0, none⟩)), (2, .slice al l.length lc), (1, I u)] ρ' ∧ Os t_sl_Berth rowS (.slice ua us.length uc) us O ∧ Oss t_Berth Be.row us (plansF fs ss u m (l ++ [bnone])) B ∧ Sb ((β3, .cells #[.slice a fs.length cap, .slice a' ss.length cap'] t_Plant (0, 0)) :: (S ++ (O ++ B))) F')) ?_ ?_
        · refine W.drawL [(β3, .cells #[.slice a fs.length cap, .slice a' ss.length cap'] t_Plant (0, 0))] (n := 10) rfl ?_
          refine a1 0 (yldW rfl rfl) rfl ?_
          refine a1 1 (y_move rfl rfl) rfl ?_
          refine a1 3 (y_move rfl rfl) rfl ?_
          refine a1 5 (y_build (parts := [⟨_, _⟩]) (cs := #[I (-1), I 0]) rfl rfl rfl) rfl ?_
          refine Any.eff2 (i := 2) (j := 6) (by kernel_rfl) (nthO_get rfl) (nthO_get rfl) an an rfl rfl rfl rfl ?_ ?_
          · refine e_buildSlice0 rfl fun β30 _ _ => ⟨.inr (Keeps.one (by repeat (first | exact List.Mem.head _ | apply List.Mem.tail | apply List.mem_append_right)) Keeps.nil), ?_⟩
            have hO30 : Os t_Berth Be.row (.slice (some ⟨β30, 0, none⟩) 0 0) ([] : List Be) [(β30, .cells #[] t_Berth (0, 0))] := .inr ⟨β30, #[], 0, [], rfl, rfl, rfl, Nat.le_refl _, Part.all [], .nil⟩
            refine Any.eff2 (i := 4) (j := 6) (by kernel_rfl) (nthO_get rfl) (nthO_get rfl) an an rfl rfl rfl rfl ?_ ?_
            · refine e_append (row := Be.row) (l := []) (l' := l) rfl rfl rfl hO30 .head (fun h2 hE hL => hO.sl fun b o hb => hL b o (.tail _ hb)) (by simp; omega) (by decide) rfl (fun v4 S4 hO4 => ⟨.inr (Keeps.one (by repeat (first | exact List.Mem.head _ | apply List.Mem.tail | apply List.mem_append_right)) Keeps.nil), ?_⟩)
              rw [List.nil_append] at hO4
              refine abl (i := 6) (s := 2) (cs := #[I (-1), I 0]) (fun β34 => ?_) (hk := Keeps.one (by repeat (first | exact List.Mem.head _ | apply List.Mem.tail | apply List.mem_append_right)) Keeps.nil) (hf := by kernel_rfl)
              refine ae (i := 7) rfl an rfl rfl (e_append (row := Be.row) (l' := [bnone]) rfl rfl rfl hO4 (.tail .head) (fun h2 _ hl => Sl.mk (hl β34 _ (.head _)) rfl (Part.all (Be.row bnone))) (by simp; omega) (by decide) rfl (fun v7 S7 hO7 => ⟨.inr (Keeps.one (by repeat (first | exact List.Mem.head _ | apply List.Mem.tail | apply List.mem_append_right)) Keeps.nil), ?_⟩))
              refine ae (i := 8) rfl an rfl rfl (e_call (A := S7) (args := [_, _, _]) (vs := [.agg #[.slice a fs.length cap, .slice a' ss.length cap'], I u, v7]) rfl rfl (.tail .head) (fun h' hE hL => ih m (by omega) h' (l ++ [bnone]) S7 _ _ _ (hf.ext hE) (hs.ext hE) hO7 (by simp; omega) (hpb _ h0)) (fun v A' hv => ?_))
              obtain ⟨O, us, B, hOO, hBB, hsb⟩ := hv
              obtain ⟨ua, uc, rfl⟩ := hOO.isSl
              refine ⟨.inr (Keeps.one (by repeat (first | exact List.Mem.head _ | apply List.Mem.tail | apply List.mem_append_right)) Keeps.nil), ?_⟩
              refine a1 9 (y_assign rfl rfl) rfl ?_ (hS := Keeps.one (by repeat (first | exact List.Mem.head _ | apply List.Mem.tail | apply List.mem_append_right)) Keeps.nil)
              refine az ?_
              exact ⟨rfl, rfl, O, us, B, ua, uc, ⟨rfl, rfl, rfl, rfl, rfl, trivial⟩, hOO, hBB, .skip rfl (Sb.trans (.of_perm (List.perm_append_comm (l₁ := (β3, .cells #[.slice a fs.length cap, .slice a' ss.length cap'] t_Plant (0, 0)) :: S) (l₂ := O ++ B))) (hsb.app .refl))⟩
            · refine (e_buildSlice (cs := #[I (-1), I 0]) rfl rfl (by decide) (by decide) (by kernel_rfl) fun β34 _ _ => ⟨.inr (Keeps.one (by repeat (first | exact List.Mem.head _ | apply List.Mem.tail | apply List.mem_append_right)) Keeps.nil), ?_⟩)
              refine ae (i := 4) rfl an rfl rfl (e_append (row := Be.row) (l := []) (l' := l) rfl rfl rfl hO30 (.tail .head) (fun h2 hE hL => hO.sl fun b o hb => hL b o (.tail _ (.tail _ hb))) (by simp; omega) (by decide) rfl (fun v4 S4 hO4 => ⟨.inr (Keeps.one (by repeat (first | exact List.Mem.head _ | apply List.Mem.tail | apply List.mem_append_right)) Keeps.nil), ?_⟩))
              rw [List.nil_append] at hO4
              refine ae (i := 7) rfl an rfl rfl (e_append (row := Be.row) (l' := [bnone]) rfl rfl rfl hO4 (.tail .head) (fun h2 _ hl => Sl.mk (hl β34 _ (.head _)) rfl (Part.all (Be.row bnone))) (by simp; omega) (by decide) rfl (fun v7 S7 hO7 => ⟨.inr (Keeps.one (by repeat (first | exact List.Mem.head _ | apply List.Mem.tail | apply List.mem_append_right)) Keeps.nil), ?_⟩))
              refine ae (i := 8) rfl an rfl rfl (e_call (A := S7) (args := [_, _, _]) (vs := [.agg #[.slice a fs.length cap, .slice a' ss.length cap'], I u, v7]) rfl rfl (.tail .head) (fun h' hE hL => ih m (by omega) h' (l ++ [bnone]) S7 _ _ _ (hf.ext hE) (hs.ext hE) hO7 (by simp; omega) (hpb _ h0)) (fun v A' hv => ?_))
              obtain ⟨O, us, B, hOO, hBB, hsb⟩ := hv
              obtain ⟨ua, uc, rfl⟩ := hOO.isSl
              refine ⟨.inr (Keeps.one (by repeat (first | exact List.Mem.head _ | apply List.Mem.tail | apply List.mem_append_right)) Keeps.nil), ?_⟩
              refine a1 9 (y_assign rfl rfl) rfl ?_ (hS := Keeps.one (by repeat (first | exact List.Mem.head _ | apply List.Mem.tail | apply List.mem_append_right)) Keeps.nil)
              refine az ?_
              exact ⟨rfl, rfl, O, us, B, ua, uc, ⟨rfl, rfl, rfl, rfl, rfl, trivial⟩, hOO, hBB, .skip rfl (Sb.trans (.of_perm (List.perm_append_comm (l₁ := (β3, .cells #[.slice a fs.length cap, .slice a' ss.length cap'] t_Plant (0, 0)) :: S) (l₂ := O ++ B))) (hsb.app .refl))⟩
          · refine (e_buildSlice (cs := #[I (-1), I 0]) rfl rfl (by decide) (by decide) (by kernel_rfl) fun β34 _ _ => ⟨.inr (Keeps.one (by repeat (first | exact List.Mem.head _ | apply List.Mem.tail | apply List.mem_append_right)) Keeps.nil), ?_⟩)
            refine ae (i := 2) rfl an rfl rfl (e_buildSlice0 rfl fun β30 _ _ => ⟨.inr (Keeps.one (by repeat (first | exact List.Mem.head _ | apply List.Mem.tail | apply List.mem_append_right)) Keeps.nil), ?_⟩)
            have hO30 : Os t_Berth Be.row (.slice (some ⟨β30, 0, none⟩) 0 0) ([] : List Be) [(β30, .cells #[] t_Berth (0, 0))] := .inr ⟨β30, #[], 0, [], rfl, rfl, rfl, Nat.le_refl _, Part.all [], .nil⟩
            refine ae (i := 4) rfl an rfl rfl (e_append (row := Be.row) (l := []) (l' := l) rfl rfl rfl hO30 .head (fun h2 hE hL => hO.sl fun b o hb => hL b o (.tail _ (.tail _ hb))) (by simp; omega) (by decide) rfl (fun v4 S4 hO4 => ⟨.inr (Keeps.one (by repeat (first | exact List.Mem.head _ | apply List.Mem.tail | apply List.mem_append_right)) Keeps.nil), ?_⟩))
            rw [List.nil_append] at hO4
            refine Any.sb (F' := (β34, .cells #[I (-1), I 0] t_Berth (0, 0)) :: (S4 ++ ((β3, .cells #[.slice a fs.length cap, .slice a' ss.length cap'] t_Plant (0, 0)) :: S))) (.of_perm (List.perm_middle (a := _) (l₁ := S4)).symm) ?_
            refine ae (i := 7) rfl an rfl rfl (e_append (row := Be.row) (l' := [bnone]) rfl rfl rfl hO4 (.tail .head) (fun h2 _ hl => Sl.mk (hl β34 _ (.head _)) rfl (Part.all (Be.row bnone))) (by simp; omega) (by decide) rfl (fun v7 S7 hO7 => ⟨.inr (Keeps.one (by repeat (first | exact List.Mem.head _ | apply List.Mem.tail | apply List.mem_append_right)) Keeps.nil), ?_⟩))
            refine ae (i := 8) rfl an rfl rfl (e_call (A := S7) (args := [_, _, _]) (vs := [.agg #[.slice a fs.length cap, .slice a' ss.length cap'], I u, v7]) rfl rfl (.tail .head) (fun h' hE hL => ih m (by omega) h' (l ++ [bnone]) S7 _ _ _ (hf.ext hE) (hs.ext hE) hO7 (by simp; omega) (hpb _ h0)) (fun v A' hv => ?_))
            obtain ⟨O, us, B, hOO, hBB, hsb⟩ := hv
            obtain ⟨ua, uc, rfl⟩ := hOO.isSl
            refine ⟨.inr (Keeps.one (by repeat (first | exact List.Mem.head _ | apply List.Mem.tail | apply List.mem_append_right)) Keeps.nil), ?_⟩
            refine a1 9 (y_assign rfl rfl) rfl ?_ (hS := Keeps.one (by repeat (first | exact List.Mem.head _ | apply List.Mem.tail | apply List.mem_append_right)) Keeps.nil)
            refine az ?_
            exact ⟨rfl, rfl, O, us, B, ua, uc, ⟨rfl, rfl, rfl, rfl, rfl, trivial⟩, hOO, hBB, .skip rfl (Sb.trans (.of_perm (List.perm_append_comm (l₁ := (β3, .cells #[.slice a fs.length cap, .slice a' ss.length cap'] t_Plant (0, 0)) :: S) (l₂ := O ++ B))) (hsb.app .refl))⟩
        rintro e ρ' ds' F' ⟨rfl, rfl, O, us, B, ua, uc, hE0, hOO, hBB, hsb0⟩
        refine thn_n (W.env hE0 (W.sb hsb0 ?_))
        refine W.seq <| W.seq <| W.region rfl <| qm rfl rfl rfl ?_
        refine o1 (y_geq rfl rfl rfl) rfl ?_
        refine qm rfl rfl rfl ?_
        refine Ops.ask (fun a7_3 => ?_) (fun a7_3 => ?_)
        · refine oq (y_move rfl rfl) rfl (want_some rfl rfl rfl) rfl rfl ?_
          refine oq (y_move rfl rfl) rfl (want_some rfl rfl rfl) rfl rfl ?_
          refine oq (y_gtr rfl rfl rfl) rfl (want_some rfl rfl rfl) rfl rfl ?_
          refine o1 (y_pickT rfl rfl rfl) rfl ?_
          refine nn ?_
          refine W.condp rfl (fun c43 => ?_) (fun c43 => ?_)
          · refine W.seq <| W.region rfl <| qm rfl rfl rfl <| qs rfl rfl rfl <| nn <| W.ret <| thn_r ?_
            first
            | (exfalso; omega)
            | (rw [if_pos (by omega), if_pos (by omega), List.append_nil]
               exact lvt (vs := [_]) ⟨O, us, B, hOO, hBB, .skip rfl (Sb.left .refl hO.shut)⟩)
          · refine W.skip <| thn_n <| W.seq <| W.seq <| W.region rfl <| qs rfl rfl rfl <| nn <| W.block ?_
            first
            | refine W.loop (σ := Nat × List Sv × Option Addr × Nat × Frag × Frag) (fun q => q.1 ≤ fs.length ∧ Os t_sl_Berth rowS (.slice q.2.2.1 q.2.1.length q.2.2.2.1) q.2.1 q.2.2.2.2.1 ∧ Oss t_Berth Be.row q.2.1 ((if u < 0 ∨ u < l.length then plansF fs ss u m (l ++ [bnone]) else []) ++ (floorsFrom t 0 q.1).flatMap (stepG fs ss u m l)) q.2.2.2.2.2) (fun q => [(9, I q.1), (8, .slice q.2.2.1 q.2.1.length q.2.2.2.1), (7, I l.length), (3, .pointer (some ⟨β3, 0, none⟩)), (2, .slice al l.length lc), (1, I u)]) (fun q => (β3, .cells #[.slice a fs.length cap, .slice a' ss.length cap'] t_Plant (0, 0)) :: (S ++ (q.2.2.2.2.1 ++ q.2.2.2.2.2))) (fun q => fs.length - q.1) (0, us, ua, uc, O, B) ⟨Nat.zero_le _, hOO, by rw [if_pos (by omega)]; simpa [floorsFrom] using hBB⟩ ⟨rfl, rfl, rfl, rfl, rfl, rfl, trivial⟩ .refl ?_
            | refine W.loop (σ := Nat × List Sv × Option Addr × Nat × Frag × Frag) (fun q => q.1 ≤ fs.length ∧ Os t_sl_Berth rowS (.slice q.2.2.1 q.2.1.length q.2.2.2.1) q.2.1 q.2.2.2.2.1 ∧ Oss t_Berth Be.row q.2.1 ((if u < 0 ∨ u < l.length then plansF fs ss u m (l ++ [bnone]) else []) ++ (floorsFrom t 0 q.1).flatMap (stepG fs ss u m l)) q.2.2.2.2.2) (fun q => [(9, I q.1), (8, .slice q.2.2.1 q.2.1.length q.2.2.2.1), (7, I l.length), (3, .pointer (some ⟨β3, 0, none⟩)), (2, .slice al l.length lc), (1, I u)]) (fun q => (β3, .cells #[.slice a fs.length cap, .slice a' ss.length cap'] t_Plant (0, 0)) :: (S ++ (q.2.2.2.2.1 ++ q.2.2.2.2.2))) (fun q => fs.length - q.1) (0, [], none, 0, [], []) ⟨Nat.zero_le _, .nil .nil, by rw [if_neg (by omega)]; exact .nil⟩ ⟨rfl, rfl, rfl, rfl, rfl, rfl, trivial⟩ (by simp only [List.append_nil]; exact .refl) ?_
            rintro ⟨k, us, ua, uc, O, B⟩ ⟨hk0, hN, hC⟩
            dsimp only at *
            rw [if_neg (show ¬ (0 ≤ u ∧ u < l.length) by omega)]
            obtain ⟨X0, hX0⟩ : ∃ X, (if u < 0 ∨ u < (l.length : Int) then plansF fs ss u m (l ++ [bnone]) else []) = X := ⟨_, rfl⟩
            have hX0l : X0.length ≤ 13 ^ m := by
              rw [← hX0]
              split
              · exact plansF_len hall m _ (by simp; omega)
              · simp
            rw [hX0] at hC ⊢
            refine W.seq <| W.seq <| W.region rfl <| qm rfl rfl rfl ?_
            refine fq rfl ?_
            refine dq rfl ?_
            refine o1 (y_len rfl rfl) rfl ?_
            refine o1 (y_lss rfl rfl rfl) rfl ?_
            refine nn ?_
            refine W.condp rfl (fun c49 => ?_) (fun c49 => ?_)
            · have hk1 : k < fs.length := by omega
              obtain ⟨bs, offs, cs, Es, fzs, rfl, hbs, -, hys, hzs⟩ := hs.at ht0
              have hsd : cs[offs + l.length * 3 + 0]? = some (I t.day) := hzs 0 (by decide)
              have hsw : cs[offs + l.length * 3 + 2]? = some (I t.wa) := hzs 2 (by decide)
              clear hzs
              refine W.skip <| thn_n <| W.seq <| W.block <| W.seq <| W.region rfl ?_
              refine fq rfl ?_
              refine dq rfl ?_
              refine qm rfl rfl rfl ?_
              refine xq rfl ?_
              refine fq rfl ?_
              refine dq rfl ?_
              refine qs rfl rfl rfl <| nn <| W.block ?_
              refine W.loop (σ := Nat × List Sv × Option Addr × Nat × Frag × Frag) (fun q => q.1 ≤ (t.wa + 1).toNat ∧ Os t_sl_Berth rowS (.slice q.2.2.1 q.2.1.length q.2.2.2.1) q.2.1 q.2.2.2.2.1 ∧ Oss t_Berth Be.row q.2.1 (X0 ++ (floorsFrom t 0 k ++ daysFrom k t.day q.1).flatMap (stepG fs ss u m l)) q.2.2.2.2.2) (fun q => [(10, I (t.day + q.1)), (9, I k), (8, .slice q.2.2.1 q.2.1.length q.2.2.2.1), (7, I l.length), (3, .pointer (some ⟨β3, 0, none⟩)), (2, .slice al l.length lc), (1, I u)]) (fun q => (β3, .cells #[.slice a fs.length cap, .slice _ ss.length cap'] t_Plant (0, 0)) :: (S ++ (q.2.2.2.2.1 ++ q.2.2.2.2.2))) (fun q => (t.wa + 1).toNat - q.1) (0, us, ua, uc, O, B) ⟨Nat.zero_le _, hN, by simpa [daysFrom] using hC⟩ ⟨lk rfl (show I _ = I _ by congr 1; omega), rfl, rfl, rfl, rfl, rfl, rfl, trivial⟩ .refl ?_
              clear hN hC
              rintro ⟨j, us, ua, uc, O, B⟩ ⟨hj, hN, hC⟩
              dsimp only at *
              refine W.seq <| W.seq ?_
              refine W.drawF (n := 15) rfl ?_
              refine a1 0 (y_move rfl rfl) rfl ?_
              refine a1 1 (y_fieldAddr rfl rfl) rfl ?_
              refine a1 2 (yld rfl rfl) rfl ?_
              refine a1 3 (y_move rfl rfl) rfl ?_
              first | refine a1 4 (yix rfl rfl rfl) rfl ?_ | refine a1 4 (yixI rfl rfl rfl) rfl ?_
              refine a1 5 (y_fieldAddr rfl rfl) rfl ?_
              refine a1 6 (yld rfl rfl) rfl ?_
              refine a1 7 (y_fieldAddr rfl rfl) rfl ?_
              refine a1 8 (yld rfl rfl) rfl ?_
              refine a1 9 (y_move rfl rfl) rfl ?_
              first | refine a1 10 (yix rfl rfl rfl) rfl ?_ | refine a1 10 (yixI rfl rfl rfl) rfl ?_
              refine a1 11 (y_fieldAddr rfl rfl) rfl ?_
              refine a1 12 (yld rfl rfl) rfl ?_
              first | refine a1 13 (yadd rfl rfl rfl) rfl ?_ | refine a1 13 (y_addw rfl rfl rfl) rfl ?_
              refine a1 14 (y_leq rfl rfl rfl) rfl ?_
              refine az ?_
              refine thn_n ?_
              refine W.condp rfl (fun c72 => ?_) (fun c72 => ?_)
              · have hj1 : j < (t.wa + 1).toNat := by omega
                have hbm : (⟨k, t.day + j⟩ : Be) ∈ floorsFrom t 0 fs.length := by
                  have := mem_berths (fs := fs) (ss := ss) (may := freeM) (k := l.length) (b := ⟨k, t.day + j⟩)
                  rw [hbe, hta] at this
                  have h2 := this.2 (.inr ⟨rfl, by simp only; omega, by simp only; omega, by simp only; omega, by simp only; omega⟩)
                  rcases List.mem_cons.1 h2 with h3 | h3
                  · exact absurd (congrArg Be.fl h3) (by simp only [bnone]; omega)
                  · exact h3
                have hPb := hpb _ (hmf _ hbm)
                have hL20 : (floorsFrom t 0 k ++ daysFrom k t.day j).length ≤ 20 := by
                  have := floors_le (s := t) (m := k) (f := 0) (by omega) (by omega)
                  rw [List.length_append, daysFrom_len]; omega
                have hul : us.length ≤ 60000 := by
                  have h1 := fm_len (l := floorsFrom t 0 k ++ daysFrom k t.day j) (f := stepG fs ss u m l) (n := 13 ^ m) fun b _ => by
                    unfold stepG
                    split
                    · simp
                    · exact plansF_len hall m _ (by simp; omega)
                  have h2 := Nat.mul_le_mul hL20 h13
                  rw [hC.len, List.length_append]
                  omega
                have hday : (floorsFrom t 0 k ++ daysFrom k t.day (j + 1)).flatMap (stepG fs ss u m l) = (floorsFrom t 0 k ++ daysFrom k t.day j).flatMap (stepG fs ss u m l) ++ stepG fs ss u m l ⟨k, t.day + j⟩ := by
                  rw [daysFrom_snoc, ← List.append_assoc, List.flatMap_append]; simp
                refine W.skip <| thn_n <| W.seq <| W.block <| W.seq <| W.region rfl ?_
                refine Ops.bsl0 (fun β75 => ?_)
                refine qm rfl rfl rfl ?_
                have hO75 : Os t_Berth Be.row (.slice (some ⟨β75, 0, none⟩) 0 0) ([] : List Be) [(β75, .cells #[] t_Berth (0, 0))] := .inr ⟨β75, #[], 0, [], rfl, rfl, rfl, Nat.le_refl _, Part.all [], .nil⟩
                refine oe rfl wn rfl rfl (e_append (row := Be.row) (l := []) (l' := l) rfl rfl rfl hO75 .head (fun h2 hE hL => hO.sl fun b o hb => hL b o (.tail _ (List.mem_append_left _ hb))) (by simp; omega) (by decide) rfl (fun v1 S1 hS1 => ?_))
                rw [List.nil_append] at hS1
                refine qm rfl rfl rfl <| qm rfl rfl rfl ?_
                refine o1 (y_build (parts := [⟨_, _⟩, ⟨_, _⟩]) (cs := #[I k, I (t.day + j)]) rfl rfl rfl) rfl ?_
                refine Ops.bsl (cs := #[I k, I (t.day + j)]) (fun β81 => ?_) rfl (hf := by kernel_rfl)
                refine oe rfl wn rfl rfl (e_append (row := Be.row) (l' := [(⟨k, t.day + j⟩ : Be)]) rfl rfl rfl hS1 (.tail .head) (fun h2 _ hl => Sl.mk (hl β81 _ (.head _)) rfl (Part.all (Be.row ⟨k, t.day + j⟩))) (by simp; omega) (by decide) rfl (fun v2 S2 hS2 => ?_))
                refine qs rfl rfl rfl <| nn ?_
                refine W.sb (.of_perm ((List.Perm.swap _ _ _).trans (List.Perm.cons _ (List.perm_middle (l₁ := S2)).symm))) ?_
                refine W.seq <| W.region rfl ?_
                refine lq rfl ?_
                refine qm rfl rfl rfl <| qm rfl rfl rfl ?_
                refine cp (u := .bool (fullL fs ss (l ++ [⟨k, t.day + j⟩]) k)) (fun h' hE hL => Rfull_fn _ h' fs ss (l ++ [⟨k, t.day + j⟩]) k _ _ v2 (hf.ext hE) (hs.ext hE) (hS2.sl fun b o hb => hL b o (.tail _ (.tail _ (List.mem_append_left _ hb)))) hall hPb (by simp; omega) hk1) ?_
                refine o1 (y_not rfl rfl) rfl ?_
                refine nn ?_
                refine W.cond rfl (fun c87 => ?_) (fun c87 => ?_)
                · refine W.region rfl <| qm rfl rfl rfl ?_
                  refine lq rfl ?_
                  refine qm rfl rfl rfl <| qm rfl rfl rfl ?_
                  refine cg (A := S2) (.tail (.tail .head)) (fun h' hE hL => ih m (by omega) h' (l ++ [⟨k, t.day + j⟩]) S2 _ _ v2 (hf.ext hE) (hs.ext hE) hS2 (by simp; omega) hPb) (fun v A' hv => ?_)
                  obtain ⟨O2, us2, B2, hO2, hB2, hsb2⟩ := hv
                  obtain ⟨u2a, u2c, rfl⟩ := hO2.isSl
                  have hul2 : us2.length ≤ 2197 := by rw [hB2.len]; exact Nat.le_trans (plansF_len hall m _ (by simp; omega)) h13
                  refine Ops.sb (.cons (.cons (hsb2.app .refl))) ?_
                  refine oe rfl wn rfl rfl (e_append (row := rowS) (l' := us2) rfl rfl rfl hN (.tail (.tail (.app (.app .head)))) (fun h2 _ hl => hO2.sl fun b o hb => hl b o (.tail _ (.tail _ (List.mem_append_left _ (List.mem_append_left _ hb))))) (by omega) (by decide) rfl (fun v3 N3 hN3 => ?_))
                  obtain ⟨na3, nc3, rfl⟩ := hN3.isSl
                  refine qs rfl rfl rfl <| Ops.nil <| blk_n <| thn_n <| W.region rfl <| qm rfl rfl rfl ?_
                  refine pq rfl ?_
                  refine qs rfl rfl rfl <| nn ?_
                  have hff : fullL fs ss (l ++ [⟨k, t.day + j⟩]) k = false := by simpa using c87
                  refine ⟨rfl, (j + 1, us ++ us2, na3, nc3, N3, B ++ B2), ⟨by simp only; omega, hN3, ?_⟩, by simp only; omega, ⟨lk rfl (show I _ = I _ by congr 1; omega), rfl, rfl, rfl, rfl, rfl, rfl, trivial⟩, ?_⟩
                  · dsimp only
                    rw [hday, ← List.append_assoc]
                    refine hC.append ?_
                    rw [stepG, hff, if_neg (by decide)]
                    exact hB2
                  · dsimp only
                    refine .cons (.skip rfl ⟨O2, perm_cnt fun y => ?_, hO2.shut⟩)
                    simp only [List.count_append, List.count_cons, List.count_nil]; omega
                · refine W.skip <| blk_n <| thn_n <| W.region rfl <| qm rfl rfl rfl ?_
                  refine pq rfl ?_
                  refine qs rfl rfl rfl <| nn ?_
                  have hff : fullL fs ss (l ++ [⟨k, t.day + j⟩]) k = true := by simpa using c87
                  refine ⟨rfl, (j + 1, us, ua, uc, O, B), ⟨by simp only; omega, hN, ?_⟩, by simp only; omega, ⟨lk rfl (show I _ = I _ by congr 1; omega), rfl, rfl, rfl, rfl, rfl, rfl, trivial⟩, .cons (.skip rfl (Sb.left .refl hS2.shut))⟩
                  dsimp only
                  rw [hday, stepG, if_pos hff, List.append_nil]
                  exact hC
              · refine W.exit <| thn_x <| thn_x <| blk_x <| blk_n <| thn_n <| W.region rfl <| qm rfl rfl rfl ?_
                refine pq rfl ?_
                refine qs rfl rfl rfl <| nn ?_
                have hje : j = (t.wa + 1).toNat := by omega
                subst hje
                refine ⟨rfl, (k + 1, us, ua, uc, O, B), ⟨by simp only; omega, hN, ?_⟩, by simp only; omega, ⟨rfl, rfl, rfl, rfl, rfl, rfl, trivial⟩, .refl⟩
                dsimp only
                rw [floorsFrom_snoc, Int.zero_add]
                exact hC
            · have hke : k = fs.length := by omega
              subst hke
              refine W.exit <| thn_x <| thn_x <| blk_x <| thn_n <| W.seq <| W.region rfl <| qm rfl rfl rfl <| qs rfl rfl rfl <| Ops.nil ?_
              refine thn_n <| W.ret ?_
              exact lvt (vs := [_]) ⟨O, us, B, hN, hC, .skip rfl (Sb.left .refl hO.shut)⟩
        · refine Ops.no ?_
          refine Ops.no ?_
          refine Ops.no ?_
          refine o1 (y_pickF rfl rfl rfl) rfl ?_
          refine nn ?_
          refine W.condF ?_
          refine W.skip <| thn_n <| W.seq <| W.seq <| W.region rfl <| qs rfl rfl rfl <| nn <| W.block ?_
          first
          | refine W.loop (σ := Nat × List Sv × Option Addr × Nat × Frag × Frag) (fun q => q.1 ≤ fs.length ∧ Os t_sl_Berth rowS (.slice q.2.2.1 q.2.1.length q.2.2.2.1) q.2.1 q.2.2.2.2.1 ∧ Oss t_Berth Be.row q.2.1 ((if u < 0 ∨ u < l.length then plansF fs ss u m (l ++ [bnone]) else []) ++ (floorsFrom t 0 q.1).flatMap (stepG fs ss u m l)) q.2.2.2.2.2) (fun q => [(9, I q.1), (8, .slice q.2.2.1 q.2.1.length q.2.2.2.1), (7, I l.length), (3, .pointer (some ⟨β3, 0, none⟩)), (2, .slice al l.length lc), (1, I u)]) (fun q => (β3, .cells #[.slice a fs.length cap, .slice a' ss.length cap'] t_Plant (0, 0)) :: (S ++ (q.2.2.2.2.1 ++ q.2.2.2.2.2))) (fun q => fs.length - q.1) (0, us, ua, uc, O, B) ⟨Nat.zero_le _, hOO, by rw [if_pos (by omega)]; simpa [floorsFrom] using hBB⟩ ⟨rfl, rfl, rfl, rfl, rfl, rfl, trivial⟩ .refl ?_
          | refine W.loop (σ := Nat × List Sv × Option Addr × Nat × Frag × Frag) (fun q => q.1 ≤ fs.length ∧ Os t_sl_Berth rowS (.slice q.2.2.1 q.2.1.length q.2.2.2.1) q.2.1 q.2.2.2.2.1 ∧ Oss t_Berth Be.row q.2.1 ((if u < 0 ∨ u < l.length then plansF fs ss u m (l ++ [bnone]) else []) ++ (floorsFrom t 0 q.1).flatMap (stepG fs ss u m l)) q.2.2.2.2.2) (fun q => [(9, I q.1), (8, .slice q.2.2.1 q.2.1.length q.2.2.2.1), (7, I l.length), (3, .pointer (some ⟨β3, 0, none⟩)), (2, .slice al l.length lc), (1, I u)]) (fun q => (β3, .cells #[.slice a fs.length cap, .slice a' ss.length cap'] t_Plant (0, 0)) :: (S ++ (q.2.2.2.2.1 ++ q.2.2.2.2.2))) (fun q => fs.length - q.1) (0, [], none, 0, [], []) ⟨Nat.zero_le _, .nil .nil, by rw [if_neg (by omega)]; exact .nil⟩ ⟨rfl, rfl, rfl, rfl, rfl, rfl, trivial⟩ (by simp only [List.append_nil]; exact .refl) ?_
          rintro ⟨k, us, ua, uc, O, B⟩ ⟨hk0, hN, hC⟩
          dsimp only at *
          rw [if_neg (show ¬ (0 ≤ u ∧ u < l.length) by omega)]
          obtain ⟨X0, hX0⟩ : ∃ X, (if u < 0 ∨ u < (l.length : Int) then plansF fs ss u m (l ++ [bnone]) else []) = X := ⟨_, rfl⟩
          have hX0l : X0.length ≤ 13 ^ m := by
            rw [← hX0]
            split
            · exact plansF_len hall m _ (by simp; omega)
            · simp
          rw [hX0] at hC ⊢
          refine W.seq <| W.seq <| W.region rfl <| qm rfl rfl rfl ?_
          refine fq rfl ?_
          refine dq rfl ?_
          refine o1 (y_len rfl rfl) rfl ?_
          refine o1 (y_lss rfl rfl rfl) rfl ?_
          refine nn ?_
          refine W.condp rfl (fun c49 => ?_) (fun c49 => ?_)
          · have hk1 : k < fs.length := by omega
            obtain ⟨bs, offs, cs, Es, fzs, rfl, hbs, -, hys, hzs⟩ := hs.at ht0
            have hsd : cs[offs + l.length * 3 + 0]? = some (I t.day) := hzs 0 (by decide)
            have hsw : cs[offs + l.length * 3 + 2]? = some (I t.wa) := hzs 2 (by decide)
            clear hzs
            refine W.skip <| thn_n <| W.seq <| W.block <| W.seq <| W.region rfl ?_
            refine fq rfl ?_
            refine dq rfl ?_
            refine qm rfl rfl rfl ?_
            refine xq rfl ?_
            refine fq rfl ?_
            refine dq rfl ?_
            refine qs rfl rfl rfl <| nn <| W.block ?_
            refine W.loop (σ := Nat × List Sv × Option Addr × Nat × Frag × Frag) (fun q => q.1 ≤ (t.wa + 1).toNat ∧ Os t_sl_Berth rowS (.slice q.2.2.1 q.2.1.length q.2.2.2.1) q.2.1 q.2.2.2.2.1 ∧ Oss t_Berth Be.row q.2.1 (X0 ++ (floorsFrom t 0 k ++ daysFrom k t.day q.1).flatMap (stepG fs ss u m l)) q.2.2.2.2.2) (fun q => [(10, I (t.day + q.1)), (9, I k), (8, .slice q.2.2.1 q.2.1.length q.2.2.2.1), (7, I l.length), (3, .pointer (some ⟨β3, 0, none⟩)), (2, .slice al l.length lc), (1, I u)]) (fun q => (β3, .cells #[.slice a fs.length cap, .slice _ ss.length cap'] t_Plant (0, 0)) :: (S ++ (q.2.2.2.2.1 ++ q.2.2.2.2.2))) (fun q => (t.wa + 1).toNat - q.1) (0, us, ua, uc, O, B) ⟨Nat.zero_le _, hN, by simpa [daysFrom] using hC⟩ ⟨lk rfl (show I _ = I _ by congr 1; omega), rfl, rfl, rfl, rfl, rfl, rfl, trivial⟩ .refl ?_
            clear hN hC
            rintro ⟨j, us, ua, uc, O, B⟩ ⟨hj, hN, hC⟩
            dsimp only at *
            refine W.seq <| W.seq ?_
            refine W.drawF (n := 15) rfl ?_
            refine a1 0 (y_move rfl rfl) rfl ?_
            refine a1 1 (y_fieldAddr rfl rfl) rfl ?_
            refine a1 2 (yld rfl rfl) rfl ?_
            refine a1 3 (y_move rfl rfl) rfl ?_
            first | refine a1 4 (yix rfl rfl rfl) rfl ?_ | refine a1 4 (yixI rfl rfl rfl) rfl ?_
            refine a1 5 (y_fieldAddr rfl rfl) rfl ?_
            refine a1 6 (yld rfl rfl) rfl ?_
            refine a1 7 (y_fieldAddr rfl rfl) rfl ?_
            refine a1 8 (yld rfl rfl) rfl ?_
            refine a1 9 (y_move rfl rfl) rfl ?_
            first | refine a1 10 (yix rfl rfl rfl) rfl ?_ | refine a1 10 (yixI rfl rfl rfl) rfl ?_
            refine a1 11 (y_fieldAddr rfl rfl) rfl ?_
            refine a1 12 (yld rfl rfl) rfl ?_
            first | refine a1 13 (yadd rfl rfl rfl) rfl ?_ | refine a1 13 (y_addw rfl rfl rfl) rfl ?_
            refine a1 14 (y_leq rfl rfl rfl) rfl ?_
            refine az ?_
            refine thn_n ?_
            refine W.condp rfl (fun c72 => ?_) (fun c72 => ?_)
            · have hj1 : j < (t.wa + 1).toNat := by omega
              have hbm : (⟨k, t.day + j⟩ : Be) ∈ floorsFrom t 0 fs.length := by
                have := mem_berths (fs := fs) (ss := ss) (may := freeM) (k := l.length) (b := ⟨k, t.day + j⟩)
                rw [hbe, hta] at this
                have h2 := this.2 (.inr ⟨rfl, by simp only; omega, by simp only; omega, by simp only; omega, by simp only; omega⟩)
                rcases List.mem_cons.1 h2 with h3 | h3
                · exact absurd (congrArg Be.fl h3) (by simp only [bnone]; omega)
                · exact h3
              have hPb := hpb _ (hmf _ hbm)
              have hL20 : (floorsFrom t 0 k ++ daysFrom k t.day j).length ≤ 20 := by
                have := floors_le (s := t) (m := k) (f := 0) (by omega) (by omega)
                rw [List.length_append, daysFrom_len]; omega
              have hul : us.length ≤ 60000 := by
                have h1 := fm_len (l := floorsFrom t 0 k ++ daysFrom k t.day j) (f := stepG fs ss u m l) (n := 13 ^ m) fun b _ => by
                  unfold stepG
                  split
                  · simp
                  · exact plansF_len hall m _ (by simp; omega)
                have h2 := Nat.mul_le_mul hL20 h13
                rw [hC.len, List.length_append]
                omega
              have hday : (floorsFrom t 0 k ++ daysFrom k t.day (j + 1)).flatMap (stepG fs ss u m l) = (floorsFrom t 0 k ++ daysFrom k t.day j).flatMap (stepG fs ss u m l) ++ stepG fs ss u m l ⟨k, t.day + j⟩ := by
                rw [daysFrom_snoc, ← List.append_assoc, List.flatMap_append]; simp
              refine W.skip <| thn_n <| W.seq <| W.block <| W.seq <| W.region rfl ?_
              refine Ops.bsl0 (fun β75 => ?_)
              refine qm rfl rfl rfl ?_
              have hO75 : Os t_Berth Be.row (.slice (some ⟨β75, 0, none⟩) 0 0) ([] : List Be) [(β75, .cells #[] t_Berth (0, 0))] := .inr ⟨β75, #[], 0, [], rfl, rfl, rfl, Nat.le_refl _, Part.all [], .nil⟩
              refine oe rfl wn rfl rfl (e_append (row := Be.row) (l := []) (l' := l) rfl rfl rfl hO75 .head (fun h2 hE hL => hO.sl fun b o hb => hL b o (.tail _ (List.mem_append_left _ hb))) (by simp; omega) (by decide) rfl (fun v1 S1 hS1 => ?_))
              rw [List.nil_append] at hS1
              refine qm rfl rfl rfl <| qm rfl rfl rfl ?_
              refine o1 (y_build (parts := [⟨_, _⟩, ⟨_, _⟩]) (cs := #[I k, I (t.day + j)]) rfl rfl rfl) rfl ?_
              refine Ops.bsl (cs := #[I k, I (t.day + j)]) (fun β81 => ?_) rfl (hf := by kernel_rfl)
              refine oe rfl wn rfl rfl (e_append (row := Be.row) (l' := [(⟨k, t.day + j⟩ : Be)]) rfl rfl rfl hS1 (.tail .head) (fun h2 _ hl => Sl.mk (hl β81 _ (.head _)) rfl (Part.all (Be.row ⟨k, t.day + j⟩))) (by simp; omega) (by decide) rfl (fun v2 S2 hS2 => ?_))
              refine qs rfl rfl rfl <| nn ?_
              refine W.sb (.of_perm ((List.Perm.swap _ _ _).trans (List.Perm.cons _ (List.perm_middle (l₁ := S2)).symm))) ?_
              refine W.seq <| W.region rfl ?_
              refine lq rfl ?_
              refine qm rfl rfl rfl <| qm rfl rfl rfl ?_
              refine cp (u := .bool (fullL fs ss (l ++ [⟨k, t.day + j⟩]) k)) (fun h' hE hL => Rfull_fn _ h' fs ss (l ++ [⟨k, t.day + j⟩]) k _ _ v2 (hf.ext hE) (hs.ext hE) (hS2.sl fun b o hb => hL b o (.tail _ (.tail _ (List.mem_append_left _ hb)))) hall hPb (by simp; omega) hk1) ?_
              refine o1 (y_not rfl rfl) rfl ?_
              refine nn ?_
              refine W.cond rfl (fun c87 => ?_) (fun c87 => ?_)
              · refine W.region rfl <| qm rfl rfl rfl ?_
                refine lq rfl ?_
                refine qm rfl rfl rfl <| qm rfl rfl rfl ?_
                refine cg (A := S2) (.tail (.tail .head)) (fun h' hE hL => ih m (by omega) h' (l ++ [⟨k, t.day + j⟩]) S2 _ _ v2 (hf.ext hE) (hs.ext hE) hS2 (by simp; omega) hPb) (fun v A' hv => ?_)
                obtain ⟨O2, us2, B2, hO2, hB2, hsb2⟩ := hv
                obtain ⟨u2a, u2c, rfl⟩ := hO2.isSl
                have hul2 : us2.length ≤ 2197 := by rw [hB2.len]; exact Nat.le_trans (plansF_len hall m _ (by simp; omega)) h13
                refine Ops.sb (.cons (.cons (hsb2.app .refl))) ?_
                refine oe rfl wn rfl rfl (e_append (row := rowS) (l' := us2) rfl rfl rfl hN (.tail (.tail (.app (.app .head)))) (fun h2 _ hl => hO2.sl fun b o hb => hl b o (.tail _ (.tail _ (List.mem_append_left _ (List.mem_append_left _ hb))))) (by omega) (by decide) rfl (fun v3 N3 hN3 => ?_))
                obtain ⟨na3, nc3, rfl⟩ := hN3.isSl
                refine qs rfl rfl rfl <| Ops.nil <| blk_n <| thn_n <| W.region rfl <| qm rfl rfl rfl ?_
                refine pq rfl ?_
                refine qs rfl rfl rfl <| nn ?_
                have hff : fullL fs ss (l ++ [⟨k, t.day + j⟩]) k = false := by simpa using c87
                refine ⟨rfl, (j + 1, us ++ us2, na3, nc3, N3, B ++ B2), ⟨by simp only; omega, hN3, ?_⟩, by simp only; omega, ⟨lk rfl (show I _ = I _ by congr 1; omega), rfl, rfl, rfl, rfl, rfl, rfl, trivial⟩, ?_⟩
                · dsimp only
                  rw [hday, ← List.append_assoc]
                  refine hC.append ?_
                  rw [stepG, hff, if_neg (by decide)]
                  exact hB2
                · dsimp only
                  refine .cons (.skip rfl ⟨O2, perm_cnt fun y => ?_, hO2.shut⟩)
                  simp only [List.count_append, List.count_cons, List.count_nil]; omega
              · refine W.skip <| blk_n <| thn_n <| W.region rfl <| qm rfl rfl rfl ?_
                refine pq rfl ?_
                refine qs rfl rfl rfl <| nn ?_
                have hff : fullL fs ss (l ++ [⟨k, t.day + j⟩]) k = true := by simpa using c87
                refine ⟨rfl, (j + 1, us, ua, uc, O, B), ⟨by simp only; omega, hN, ?_⟩, by simp only; omega, ⟨lk rfl (show I _ = I _ by congr 1; omega), rfl, rfl, rfl, rfl, rfl, rfl, trivial⟩, .cons (.skip rfl (Sb.left .refl hS2.shut))⟩
                dsimp only
                rw [hday, stepG, if_pos hff, List.append_nil]
                exact hC
            · refine W.exit <| thn_x <| thn_x <| blk_x <| blk_n <| thn_n <| W.region rfl <| qm rfl rfl rfl ?_
              refine pq rfl ?_
              refine qs rfl rfl rfl <| nn ?_
              have hje : j = (t.wa + 1).toNat := by omega
              subst hje
              refine ⟨rfl, (k + 1, us, ua, uc, O, B), ⟨by simp only; omega, hN, ?_⟩, by simp only; omega, ⟨rfl, rfl, rfl, rfl, rfl, rfl, trivial⟩, .refl⟩
              dsimp only
              rw [floorsFrom_snoc, Int.zero_add]
              exact hC
          · have hke : k = fs.length := by omega
            subst hke
            refine W.exit <| thn_x <| thn_x <| blk_x <| thn_n <| W.seq <| W.region rfl <| qm rfl rfl rfl <| qs rfl rfl rfl <| Ops.nil ?_
            refine thn_n <| W.ret ?_
            exact lvt (vs := [_]) ⟨O, us, B, hN, hC, .skip rfl (Sb.left .refl hO.shut)⟩
      · have hu2 : 0 ≤ u ∧ ¬ u < l.length := by omega
        refine W.skip <| thn_n <| W.seq <| W.seq <| W.region rfl <| qm rfl rfl rfl ?_
        refine o1 (y_geq rfl rfl rfl) rfl ?_
        refine qm rfl rfl rfl ?_
        refine Ops.ask (fun a7_3 => ?_) (fun a7_3 => ?_)
        · refine oq (y_move rfl rfl) rfl (want_some rfl rfl rfl) rfl rfl ?_
          refine oq (y_move rfl rfl) rfl (want_some rfl rfl rfl) rfl rfl ?_
          refine oq (y_gtr rfl rfl rfl) rfl (want_some rfl rfl rfl) rfl rfl ?_
          refine o1 (y_pickT rfl rfl rfl) rfl ?_
          refine nn ?_
          refine W.condp rfl (fun c43 => ?_) (fun c43 => ?_)
          · refine W.seq <| W.region rfl <| qm rfl rfl rfl <| qs rfl rfl rfl <| nn <| W.ret <| thn_r ?_
            first
            | (exfalso; omega)
            | (rw [if_pos (by omega), if_pos (by omega), List.append_nil]
               exact lvt (vs := [_]) ⟨O, us, B, hOO, hBB, .skip rfl (Sb.left .refl hO.shut)⟩)
          · refine W.skip <| thn_n <| W.seq <| W.seq <| W.region rfl <| qs rfl rfl rfl <| nn <| W.block ?_
            first
            | refine W.loop (σ := Nat × List Sv × Option Addr × Nat × Frag × Frag) (fun q => q.1 ≤ fs.length ∧ Os t_sl_Berth rowS (.slice q.2.2.1 q.2.1.length q.2.2.2.1) q.2.1 q.2.2.2.2.1 ∧ Oss t_Berth Be.row q.2.1 ((if u < 0 ∨ u < l.length then plansF fs ss u m (l ++ [bnone]) else []) ++ (floorsFrom t 0 q.1).flatMap (stepG fs ss u m l)) q.2.2.2.2.2) (fun q => [(9, I q.1), (8, .slice q.2.2.1 q.2.1.length q.2.2.2.1), (7, I l.length), (3, .pointer (some ⟨β3, 0, none⟩)), (2, .slice al l.length lc), (1, I u)]) (fun q => (β3, .cells #[.slice a fs.length cap, .slice a' ss.length cap'] t_Plant (0, 0)) :: (S ++ (q.2.2.2.2.1 ++ q.2.2.2.2.2))) (fun q => fs.length - q.1) (0, us, ua, uc, O, B) ⟨Nat.zero_le _, hOO, by rw [if_pos (by omega)]; simpa [floorsFrom] using hBB⟩ ⟨rfl, rfl, rfl, rfl, rfl, rfl, trivial⟩ .refl ?_
            | refine W.loop (σ := Nat × List Sv × Option Addr × Nat × Frag × Frag) (fun q => q.1 ≤ fs.length ∧ Os t_sl_Berth rowS (.slice q.2.2.1 q.2.1.length q.2.2.2.1) q.2.1 q.2.2.2.2.1 ∧ Oss t_Berth Be.row q.2.1 ((if u < 0 ∨ u < l.length then plansF fs ss u m (l ++ [bnone]) else []) ++ (floorsFrom t 0 q.1).flatMap (stepG fs ss u m l)) q.2.2.2.2.2) (fun q => [(9, I q.1), (8, .slice q.2.2.1 q.2.1.length q.2.2.2.1), (7, I l.length), (3, .pointer (some ⟨β3, 0, none⟩)), (2, .slice al l.length lc), (1, I u)]) (fun q => (β3, .cells #[.slice a fs.length cap, .slice a' ss.length cap'] t_Plant (0, 0)) :: (S ++ (q.2.2.2.2.1 ++ q.2.2.2.2.2))) (fun q => fs.length - q.1) (0, [], none, 0, [], []) ⟨Nat.zero_le _, .nil .nil, by rw [if_neg (by omega)]; exact .nil⟩ ⟨rfl, rfl, rfl, rfl, rfl, rfl, trivial⟩ (by simp only [List.append_nil]; exact .refl) ?_
            rintro ⟨k, us, ua, uc, O, B⟩ ⟨hk0, hN, hC⟩
            dsimp only at *
            rw [if_neg (show ¬ (0 ≤ u ∧ u < l.length) by omega)]
            obtain ⟨X0, hX0⟩ : ∃ X, (if u < 0 ∨ u < (l.length : Int) then plansF fs ss u m (l ++ [bnone]) else []) = X := ⟨_, rfl⟩
            have hX0l : X0.length ≤ 13 ^ m := by
              rw [← hX0]
              split
              · exact plansF_len hall m _ (by simp; omega)
              · simp
            rw [hX0] at hC ⊢
            refine W.seq <| W.seq <| W.region rfl <| qm rfl rfl rfl ?_
            refine fq rfl ?_
            refine dq rfl ?_
            refine o1 (y_len rfl rfl) rfl ?_
            refine o1 (y_lss rfl rfl rfl) rfl ?_
            refine nn ?_
            refine W.condp rfl (fun c49 => ?_) (fun c49 => ?_)
            · have hk1 : k < fs.length := by omega
              obtain ⟨bs, offs, cs, Es, fzs, rfl, hbs, -, hys, hzs⟩ := hs.at ht0
              have hsd : cs[offs + l.length * 3 + 0]? = some (I t.day) := hzs 0 (by decide)
              have hsw : cs[offs + l.length * 3 + 2]? = some (I t.wa) := hzs 2 (by decide)
              clear hzs
              refine W.skip <| thn_n <| W.seq <| W.block <| W.seq <| W.region rfl ?_
              refine fq rfl ?_
              refine dq rfl ?_
              refine qm rfl rfl rfl ?_
              refine xq rfl ?_
              refine fq rfl ?_
              refine dq rfl ?_
              refine qs rfl rfl rfl <| nn <| W.block ?_
              refine W.loop (σ := Nat × List Sv × Option Addr × Nat × Frag × Frag) (fun q => q.1 ≤ (t.wa + 1).toNat ∧ Os t_sl_Berth rowS (.slice q.2.2.1 q.2.1.length q.2.2.2.1) q.2.1 q.2.2.2.2.1 ∧ Oss t_Berth Be.row q.2.1 (X0 ++ (floorsFrom t 0 k ++ daysFrom k t.day q.1).flatMap (stepG fs ss u m l)) q.2.2.2.2.2) (fun q => [(10, I (t.day + q.1)), (9, I k), (8, .slice q.2.2.1 q.2.1.length q.2.2.2.1), (7, I l.length), (3, .pointer (some ⟨β3, 0, none⟩)), (2, .slice al l.length lc), (1, I u)]) (fun q => (β3, .cells #[.slice a fs.length cap, .slice _ ss.length cap'] t_Plant (0, 0)) :: (S ++ (q.2.2.2.2.1 ++ q.2.2.2.2.2))) (fun q => (t.wa + 1).toNat - q.1) (0, us, ua, uc, O, B) ⟨Nat.zero_le _, hN, by simpa [daysFrom] using hC⟩ ⟨lk rfl (show I _ = I _ by congr 1; omega), rfl, rfl, rfl, rfl, rfl, rfl, trivial⟩ .refl ?_
              clear hN hC
              rintro ⟨j, us, ua, uc, O, B⟩ ⟨hj, hN, hC⟩
              dsimp only at *
              refine W.seq <| W.seq ?_
              refine W.drawF (n := 15) rfl ?_
              refine a1 0 (y_move rfl rfl) rfl ?_
              refine a1 1 (y_fieldAddr rfl rfl) rfl ?_
              refine a1 2 (yld rfl rfl) rfl ?_
              refine a1 3 (y_move rfl rfl) rfl ?_
              first | refine a1 4 (yix rfl rfl rfl) rfl ?_ | refine a1 4 (yixI rfl rfl rfl) rfl ?_
              refine a1 5 (y_fieldAddr rfl rfl) rfl ?_
              refine a1 6 (yld rfl rfl) rfl ?_
              refine a1 7 (y_fieldAddr rfl rfl) rfl ?_
              refine a1 8 (yld rfl rfl) rfl ?_
              refine a1 9 (y_move rfl rfl) rfl ?_
              first | refine a1 10 (yix rfl rfl rfl) rfl ?_ | refine a1 10 (yixI rfl rfl rfl) rfl ?_
              refine a1 11 (y_fieldAddr rfl rfl) rfl ?_
              refine a1 12 (yld rfl rfl) rfl ?_
              first | refine a1 13 (yadd rfl rfl rfl) rfl ?_ | refine a1 13 (y_addw rfl rfl rfl) rfl ?_
              refine a1 14 (y_leq rfl rfl rfl) rfl ?_
              refine az ?_
              refine thn_n ?_
              refine W.condp rfl (fun c72 => ?_) (fun c72 => ?_)
              · have hj1 : j < (t.wa + 1).toNat := by omega
                have hbm : (⟨k, t.day + j⟩ : Be) ∈ floorsFrom t 0 fs.length := by
                  have := mem_berths (fs := fs) (ss := ss) (may := freeM) (k := l.length) (b := ⟨k, t.day + j⟩)
                  rw [hbe, hta] at this
                  have h2 := this.2 (.inr ⟨rfl, by simp only; omega, by simp only; omega, by simp only; omega, by simp only; omega⟩)
                  rcases List.mem_cons.1 h2 with h3 | h3
                  · exact absurd (congrArg Be.fl h3) (by simp only [bnone]; omega)
                  · exact h3
                have hPb := hpb _ (hmf _ hbm)
                have hL20 : (floorsFrom t 0 k ++ daysFrom k t.day j).length ≤ 20 := by
                  have := floors_le (s := t) (m := k) (f := 0) (by omega) (by omega)
                  rw [List.length_append, daysFrom_len]; omega
                have hul : us.length ≤ 60000 := by
                  have h1 := fm_len (l := floorsFrom t 0 k ++ daysFrom k t.day j) (f := stepG fs ss u m l) (n := 13 ^ m) fun b _ => by
                    unfold stepG
                    split
                    · simp
                    · exact plansF_len hall m _ (by simp; omega)
                  have h2 := Nat.mul_le_mul hL20 h13
                  rw [hC.len, List.length_append]
                  omega
                have hday : (floorsFrom t 0 k ++ daysFrom k t.day (j + 1)).flatMap (stepG fs ss u m l) = (floorsFrom t 0 k ++ daysFrom k t.day j).flatMap (stepG fs ss u m l) ++ stepG fs ss u m l ⟨k, t.day + j⟩ := by
                  rw [daysFrom_snoc, ← List.append_assoc, List.flatMap_append]; simp
                refine W.skip <| thn_n <| W.seq <| W.block <| W.seq <| W.region rfl ?_
                refine Ops.bsl0 (fun β75 => ?_)
                refine qm rfl rfl rfl ?_
                have hO75 : Os t_Berth Be.row (.slice (some ⟨β75, 0, none⟩) 0 0) ([] : List Be) [(β75, .cells #[] t_Berth (0, 0))] := .inr ⟨β75, #[], 0, [], rfl, rfl, rfl, Nat.le_refl _, Part.all [], .nil⟩
                refine oe rfl wn rfl rfl (e_append (row := Be.row) (l := []) (l' := l) rfl rfl rfl hO75 .head (fun h2 hE hL => hO.sl fun b o hb => hL b o (.tail _ (List.mem_append_left _ hb))) (by simp; omega) (by decide) rfl (fun v1 S1 hS1 => ?_))
                rw [List.nil_append] at hS1
                refine qm rfl rfl rfl <| qm rfl rfl rfl ?_
                refine o1 (y_build (parts := [⟨_, _⟩, ⟨_, _⟩]) (cs := #[I k, I (t.day + j)]) rfl rfl rfl) rfl ?_
                refine Ops.bsl (cs := #[I k, I (t.day + j)]) (fun β81 => ?_) rfl (hf := by kernel_rfl)
                refine oe rfl wn rfl rfl (e_append (row := Be.row) (l' := [(⟨k, t.day + j⟩ : Be)]) rfl rfl rfl hS1 (.tail .head) (fun h2 _ hl => Sl.mk (hl β81 _ (.head _)) rfl (Part.all (Be.row ⟨k, t.day + j⟩))) (by simp; omega) (by decide) rfl (fun v2 S2 hS2 => ?_))
                refine qs rfl rfl rfl <| nn ?_
                refine W.sb (.of_perm ((List.Perm.swap _ _ _).trans (List.Perm.cons _ (List.perm_middle (l₁ := S2)).symm))) ?_
                refine W.seq <| W.region rfl ?_
                refine lq rfl ?_
                refine qm rfl rfl rfl <| qm rfl rfl rfl ?_
                refine cp (u := .bool (fullL fs ss (l ++ [⟨k, t.day + j⟩]) k)) (fun h' hE hL => Rfull_fn _ h' fs ss (l ++ [⟨k, t.day + j⟩]) k _ _ v2 (hf.ext hE) (hs.ext hE) (hS2.sl fun b o hb => hL b o (.tail _ (.tail _ (List.mem_append_left _ hb)))) hall hPb (by simp; omega) hk1) ?_
                refine o1 (y_not rfl rfl) rfl ?_
                refine nn ?_
                refine W.cond rfl (fun c87 => ?_) (fun c87 => ?_)
                · refine W.region rfl <| qm rfl rfl rfl ?_
                  refine lq rfl ?_
                  refine qm rfl rfl rfl <| qm rfl rfl rfl ?_
                  refine cg (A := S2) (.tail (.tail .head)) (fun h' hE hL => ih m (by omega) h' (l ++ [⟨k, t.day + j⟩]) S2 _ _ v2 (hf.ext hE) (hs.ext hE) hS2 (by simp; omega) hPb) (fun v A' hv => ?_)
                  obtain ⟨O2, us2, B2, hO2, hB2, hsb2⟩ := hv
                  obtain ⟨u2a, u2c, rfl⟩ := hO2.isSl
                  have hul2 : us2.length ≤ 2197 := by rw [hB2.len]; exact Nat.le_trans (plansF_len hall m _ (by simp; omega)) h13
                  refine Ops.sb (.cons (.cons (hsb2.app .refl))) ?_
                  refine oe rfl wn rfl rfl (e_append (row := rowS) (l' := us2) rfl rfl rfl hN (.tail (.tail (.app (.app .head)))) (fun h2 _ hl => hO2.sl fun b o hb => hl b o (.tail _ (.tail _ (List.mem_append_left _ (List.mem_append_left _ hb))))) (by omega) (by decide) rfl (fun v3 N3 hN3 => ?_))
                  obtain ⟨na3, nc3, rfl⟩ := hN3.isSl
                  refine qs rfl rfl rfl <| Ops.nil <| blk_n <| thn_n <| W.region rfl <| qm rfl rfl rfl ?_
                  refine pq rfl ?_
                  refine qs rfl rfl rfl <| nn ?_
                  have hff : fullL fs ss (l ++ [⟨k, t.day + j⟩]) k = false := by simpa using c87
                  refine ⟨rfl, (j + 1, us ++ us2, na3, nc3, N3, B ++ B2), ⟨by simp only; omega, hN3, ?_⟩, by simp only; omega, ⟨lk rfl (show I _ = I _ by congr 1; omega), rfl, rfl, rfl, rfl, rfl, rfl, trivial⟩, ?_⟩
                  · dsimp only
                    rw [hday, ← List.append_assoc]
                    refine hC.append ?_
                    rw [stepG, hff, if_neg (by decide)]
                    exact hB2
                  · dsimp only
                    refine .cons (.skip rfl ⟨O2, perm_cnt fun y => ?_, hO2.shut⟩)
                    simp only [List.count_append, List.count_cons, List.count_nil]; omega
                · refine W.skip <| blk_n <| thn_n <| W.region rfl <| qm rfl rfl rfl ?_
                  refine pq rfl ?_
                  refine qs rfl rfl rfl <| nn ?_
                  have hff : fullL fs ss (l ++ [⟨k, t.day + j⟩]) k = true := by simpa using c87
                  refine ⟨rfl, (j + 1, us, ua, uc, O, B), ⟨by simp only; omega, hN, ?_⟩, by simp only; omega, ⟨lk rfl (show I _ = I _ by congr 1; omega), rfl, rfl, rfl, rfl, rfl, rfl, trivial⟩, .cons (.skip rfl (Sb.left .refl hS2.shut))⟩
                  dsimp only
                  rw [hday, stepG, if_pos hff, List.append_nil]
                  exact hC
              · refine W.exit <| thn_x <| thn_x <| blk_x <| blk_n <| thn_n <| W.region rfl <| qm rfl rfl rfl ?_
                refine pq rfl ?_
                refine qs rfl rfl rfl <| nn ?_
                have hje : j = (t.wa + 1).toNat := by omega
                subst hje
                refine ⟨rfl, (k + 1, us, ua, uc, O, B), ⟨by simp only; omega, hN, ?_⟩, by simp only; omega, ⟨rfl, rfl, rfl, rfl, rfl, rfl, trivial⟩, .refl⟩
                dsimp only
                rw [floorsFrom_snoc, Int.zero_add]
                exact hC
            · have hke : k = fs.length := by omega
              subst hke
              refine W.exit <| thn_x <| thn_x <| blk_x <| thn_n <| W.seq <| W.region rfl <| qm rfl rfl rfl <| qs rfl rfl rfl <| Ops.nil ?_
              refine thn_n <| W.ret ?_
              exact lvt (vs := [_]) ⟨O, us, B, hN, hC, .skip rfl (Sb.left .refl hO.shut)⟩
        · refine Ops.no ?_
          refine Ops.no ?_
          refine Ops.no ?_
          refine o1 (y_pickF rfl rfl rfl) rfl ?_
          refine nn ?_
          refine W.condF ?_
          refine W.skip <| thn_n <| W.seq <| W.seq <| W.region rfl <| qs rfl rfl rfl <| nn <| W.block ?_
          first
          | refine W.loop (σ := Nat × List Sv × Option Addr × Nat × Frag × Frag) (fun q => q.1 ≤ fs.length ∧ Os t_sl_Berth rowS (.slice q.2.2.1 q.2.1.length q.2.2.2.1) q.2.1 q.2.2.2.2.1 ∧ Oss t_Berth Be.row q.2.1 ((if u < 0 ∨ u < l.length then plansF fs ss u m (l ++ [bnone]) else []) ++ (floorsFrom t 0 q.1).flatMap (stepG fs ss u m l)) q.2.2.2.2.2) (fun q => [(9, I q.1), (8, .slice q.2.2.1 q.2.1.length q.2.2.2.1), (7, I l.length), (3, .pointer (some ⟨β3, 0, none⟩)), (2, .slice al l.length lc), (1, I u)]) (fun q => (β3, .cells #[.slice a fs.length cap, .slice a' ss.length cap'] t_Plant (0, 0)) :: (S ++ (q.2.2.2.2.1 ++ q.2.2.2.2.2))) (fun q => fs.length - q.1) (0, us, ua, uc, O, B) ⟨Nat.zero_le _, hOO, by rw [if_pos (by omega)]; simpa [floorsFrom] using hBB⟩ ⟨rfl, rfl, rfl, rfl, rfl, rfl, trivial⟩ .refl ?_
          | refine W.loop (σ := Nat × List Sv × Option Addr × Nat × Frag × Frag) (fun q => q.1 ≤ fs.length ∧ Os t_sl_Berth rowS (.slice q.2.2.1 q.2.1.length q.2.2.2.1) q.2.1 q.2.2.2.2.1 ∧ Oss t_Berth Be.row q.2.1 ((if u < 0 ∨ u < l.length then plansF fs ss u m (l ++ [bnone]) else []) ++ (floorsFrom t 0 q.1).flatMap (stepG fs ss u m l)) q.2.2.2.2.2) (fun q => [(9, I q.1), (8, .slice q.2.2.1 q.2.1.length q.2.2.2.1), (7, I l.length), (3, .pointer (some ⟨β3, 0, none⟩)), (2, .slice al l.length lc), (1, I u)]) (fun q => (β3, .cells #[.slice a fs.length cap, .slice a' ss.length cap'] t_Plant (0, 0)) :: (S ++ (q.2.2.2.2.1 ++ q.2.2.2.2.2))) (fun q => fs.length - q.1) (0, [], none, 0, [], []) ⟨Nat.zero_le _, .nil .nil, by rw [if_neg (by omega)]; exact .nil⟩ ⟨rfl, rfl, rfl, rfl, rfl, rfl, trivial⟩ (by simp only [List.append_nil]; exact .refl) ?_
          rintro ⟨k, us, ua, uc, O, B⟩ ⟨hk0, hN, hC⟩
          dsimp only at *
          rw [if_neg (show ¬ (0 ≤ u ∧ u < l.length) by omega)]
          obtain ⟨X0, hX0⟩ : ∃ X, (if u < 0 ∨ u < (l.length : Int) then plansF fs ss u m (l ++ [bnone]) else []) = X := ⟨_, rfl⟩
          have hX0l : X0.length ≤ 13 ^ m := by
            rw [← hX0]
            split
            · exact plansF_len hall m _ (by simp; omega)
            · simp
          rw [hX0] at hC ⊢
          refine W.seq <| W.seq <| W.region rfl <| qm rfl rfl rfl ?_
          refine fq rfl ?_
          refine dq rfl ?_
          refine o1 (y_len rfl rfl) rfl ?_
          refine o1 (y_lss rfl rfl rfl) rfl ?_
          refine nn ?_
          refine W.condp rfl (fun c49 => ?_) (fun c49 => ?_)
          · have hk1 : k < fs.length := by omega
            obtain ⟨bs, offs, cs, Es, fzs, rfl, hbs, -, hys, hzs⟩ := hs.at ht0
            have hsd : cs[offs + l.length * 3 + 0]? = some (I t.day) := hzs 0 (by decide)
            have hsw : cs[offs + l.length * 3 + 2]? = some (I t.wa) := hzs 2 (by decide)
            clear hzs
            refine W.skip <| thn_n <| W.seq <| W.block <| W.seq <| W.region rfl ?_
            refine fq rfl ?_
            refine dq rfl ?_
            refine qm rfl rfl rfl ?_
            refine xq rfl ?_
            refine fq rfl ?_
            refine dq rfl ?_
            refine qs rfl rfl rfl <| nn <| W.block ?_
            refine W.loop (σ := Nat × List Sv × Option Addr × Nat × Frag × Frag) (fun q => q.1 ≤ (t.wa + 1).toNat ∧ Os t_sl_Berth rowS (.slice q.2.2.1 q.2.1.length q.2.2.2.1) q.2.1 q.2.2.2.2.1 ∧ Oss t_Berth Be.row q.2.1 (X0 ++ (floorsFrom t 0 k ++ daysFrom k t.day q.1).flatMap (stepG fs ss u m l)) q.2.2.2.2.2) (fun q => [(10, I (t.day + q.1)), (9, I k), (8, .slice q.2.2.1 q.2.1.length q.2.2.2.1), (7, I l.length), (3, .pointer (some ⟨β3, 0, none⟩)), (2, .slice al l.length lc), (1, I u)]) (fun q => (β3, .cells #[.slice a fs.length cap, .slice _ ss.length cap'] t_Plant (0, 0)) :: (S ++ (q.2.2.2.2.1 ++ q.2.2.2.2.2))) (fun q => (t.wa + 1).toNat - q.1) (0, us, ua, uc, O, B) ⟨Nat.zero_le _, hN, by simpa [daysFrom] using hC⟩ ⟨lk rfl (show I _ = I _ by congr 1; omega), rfl, rfl, rfl, rfl, rfl, rfl, trivial⟩ .refl ?_
            clear hN hC
            rintro ⟨j, us, ua, uc, O, B⟩ ⟨hj, hN, hC⟩
            dsimp only at *
            refine W.seq <| W.seq ?_
            refine W.drawF (n := 15) rfl ?_
            refine a1 0 (y_move rfl rfl) rfl ?_
            refine a1 1 (y_fieldAddr rfl rfl) rfl ?_
            refine a1 2 (yld rfl rfl) rfl ?_
            refine a1 3 (y_move rfl rfl) rfl ?_
            first | refine a1 4 (yix rfl rfl rfl) rfl ?_ | refine a1 4 (yixI rfl rfl rfl) rfl ?_
            refine a1 5 (y_fieldAddr rfl rfl) rfl ?_
            refine a1 6 (yld rfl rfl) rfl ?_
            refine a1 7 (y_fieldAddr rfl rfl) rfl ?_
            refine a1 8 (yld rfl rfl) rfl ?_
            refine a1 9 (y_move rfl rfl) rfl ?_
            first | refine a1 10 (yix rfl rfl rfl) rfl ?_ | refine a1 10 (yixI rfl rfl rfl) rfl ?_
            refine a1 11 (y_fieldAddr rfl rfl) rfl ?_
            refine a1 12 (yld rfl rfl) rfl ?_
            first | refine a1 13 (yadd rfl rfl rfl) rfl ?_ | refine a1 13 (y_addw rfl rfl rfl) rfl ?_
            refine a1 14 (y_leq rfl rfl rfl) rfl ?_
            refine az ?_
            refine thn_n ?_
            refine W.condp rfl (fun c72 => ?_) (fun c72 => ?_)
            · have hj1 : j < (t.wa + 1).toNat := by omega
              have hbm : (⟨k, t.day + j⟩ : Be) ∈ floorsFrom t 0 fs.length := by
                have := mem_berths (fs := fs) (ss := ss) (may := freeM) (k := l.length) (b := ⟨k, t.day + j⟩)
                rw [hbe, hta] at this
                have h2 := this.2 (.inr ⟨rfl, by simp only; omega, by simp only; omega, by simp only; omega, by simp only; omega⟩)
                rcases List.mem_cons.1 h2 with h3 | h3
                · exact absurd (congrArg Be.fl h3) (by simp only [bnone]; omega)
                · exact h3
              have hPb := hpb _ (hmf _ hbm)
              have hL20 : (floorsFrom t 0 k ++ daysFrom k t.day j).length ≤ 20 := by
                have := floors_le (s := t) (m := k) (f := 0) (by omega) (by omega)
                rw [List.length_append, daysFrom_len]; omega
              have hul : us.length ≤ 60000 := by
                have h1 := fm_len (l := floorsFrom t 0 k ++ daysFrom k t.day j) (f := stepG fs ss u m l) (n := 13 ^ m) fun b _ => by
                  unfold stepG
                  split
                  · simp
                  · exact plansF_len hall m _ (by simp; omega)
                have h2 := Nat.mul_le_mul hL20 h13
                rw [hC.len, List.length_append]
                omega
              have hday : (floorsFrom t 0 k ++ daysFrom k t.day (j + 1)).flatMap (stepG fs ss u m l) = (floorsFrom t 0 k ++ daysFrom k t.day j).flatMap (stepG fs ss u m l) ++ stepG fs ss u m l ⟨k, t.day + j⟩ := by
                rw [daysFrom_snoc, ← List.append_assoc, List.flatMap_append]; simp
              refine W.skip <| thn_n <| W.seq <| W.block <| W.seq <| W.region rfl ?_
              refine Ops.bsl0 (fun β75 => ?_)
              refine qm rfl rfl rfl ?_
              have hO75 : Os t_Berth Be.row (.slice (some ⟨β75, 0, none⟩) 0 0) ([] : List Be) [(β75, .cells #[] t_Berth (0, 0))] := .inr ⟨β75, #[], 0, [], rfl, rfl, rfl, Nat.le_refl _, Part.all [], .nil⟩
              refine oe rfl wn rfl rfl (e_append (row := Be.row) (l := []) (l' := l) rfl rfl rfl hO75 .head (fun h2 hE hL => hO.sl fun b o hb => hL b o (.tail _ (List.mem_append_left _ hb))) (by simp; omega) (by decide) rfl (fun v1 S1 hS1 => ?_))
              rw [List.nil_append] at hS1
              refine qm rfl rfl rfl <| qm rfl rfl rfl ?_
              refine o1 (y_build (parts := [⟨_, _⟩, ⟨_, _⟩]) (cs := #[I k, I (t.day + j)]) rfl rfl rfl) rfl ?_
              refine Ops.bsl (cs := #[I k, I (t.day + j)]) (fun β81 => ?_) rfl (hf := by kernel_rfl)
              refine oe rfl wn rfl rfl (e_append (row := Be.row) (l' := [(⟨k, t.day + j⟩ : Be)]) rfl rfl rfl hS1 (.tail .head) (fun h2 _ hl => Sl.mk (hl β81 _ (.head _)) rfl (Part.all (Be.row ⟨k, t.day + j⟩))) (by simp; omega) (by decide) rfl (fun v2 S2 hS2 => ?_))
              refine qs rfl rfl rfl <| nn ?_
              refine W.sb (.of_perm ((List.Perm.swap _ _ _).trans (List.Perm.cons _ (List.perm_middle (l₁ := S2)).symm))) ?_
              refine W.seq <| W.region rfl ?_
              refine lq rfl ?_
              refine qm rfl rfl rfl <| qm rfl rfl rfl ?_
              refine cp (u := .bool (fullL fs ss (l ++ [⟨k, t.day + j⟩]) k)) (fun h' hE hL => Rfull_fn _ h' fs ss (l ++ [⟨k, t.day + j⟩]) k _ _ v2 (hf.ext hE) (hs.ext hE) (hS2.sl fun b o hb => hL b o (.tail _ (.tail _ (List.mem_append_left _ hb)))) hall hPb (by simp; omega) hk1) ?_
              refine o1 (y_not rfl rfl) rfl ?_
              refine nn ?_
              refine W.cond rfl (fun c87 => ?_) (fun c87 => ?_)
              · refine W.region rfl <| qm rfl rfl rfl ?_
                refine lq rfl ?_
                refine qm rfl rfl rfl <| qm rfl rfl rfl ?_
                refine cg (A := S2) (.tail (.tail .head)) (fun h' hE hL => ih m (by omega) h' (l ++ [⟨k, t.day + j⟩]) S2 _ _ v2 (hf.ext hE) (hs.ext hE) hS2 (by simp; omega) hPb) (fun v A' hv => ?_)
                obtain ⟨O2, us2, B2, hO2, hB2, hsb2⟩ := hv
                obtain ⟨u2a, u2c, rfl⟩ := hO2.isSl
                have hul2 : us2.length ≤ 2197 := by rw [hB2.len]; exact Nat.le_trans (plansF_len hall m _ (by simp; omega)) h13
                refine Ops.sb (.cons (.cons (hsb2.app .refl))) ?_
                refine oe rfl wn rfl rfl (e_append (row := rowS) (l' := us2) rfl rfl rfl hN (.tail (.tail (.app (.app .head)))) (fun h2 _ hl => hO2.sl fun b o hb => hl b o (.tail _ (.tail _ (List.mem_append_left _ (List.mem_append_left _ hb))))) (by omega) (by decide) rfl (fun v3 N3 hN3 => ?_))
                obtain ⟨na3, nc3, rfl⟩ := hN3.isSl
                refine qs rfl rfl rfl <| Ops.nil <| blk_n <| thn_n <| W.region rfl <| qm rfl rfl rfl ?_
                refine pq rfl ?_
                refine qs rfl rfl rfl <| nn ?_
                have hff : fullL fs ss (l ++ [⟨k, t.day + j⟩]) k = false := by simpa using c87
                refine ⟨rfl, (j + 1, us ++ us2, na3, nc3, N3, B ++ B2), ⟨by simp only; omega, hN3, ?_⟩, by simp only; omega, ⟨lk rfl (show I _ = I _ by congr 1; omega), rfl, rfl, rfl, rfl, rfl, rfl, trivial⟩, ?_⟩
                · dsimp only
                  rw [hday, ← List.append_assoc]
                  refine hC.append ?_
                  rw [stepG, hff, if_neg (by decide)]
                  exact hB2
                · dsimp only
                  refine .cons (.skip rfl ⟨O2, perm_cnt fun y => ?_, hO2.shut⟩)
                  simp only [List.count_append, List.count_cons, List.count_nil]; omega
              · refine W.skip <| blk_n <| thn_n <| W.region rfl <| qm rfl rfl rfl ?_
                refine pq rfl ?_
                refine qs rfl rfl rfl <| nn ?_
                have hff : fullL fs ss (l ++ [⟨k, t.day + j⟩]) k = true := by simpa using c87
                refine ⟨rfl, (j + 1, us, ua, uc, O, B), ⟨by simp only; omega, hN, ?_⟩, by simp only; omega, ⟨lk rfl (show I _ = I _ by congr 1; omega), rfl, rfl, rfl, rfl, rfl, rfl, trivial⟩, .cons (.skip rfl (Sb.left .refl hS2.shut))⟩
                dsimp only
                rw [hday, stepG, if_pos hff, List.append_nil]
                exact hC
            · refine W.exit <| thn_x <| thn_x <| blk_x <| blk_n <| thn_n <| W.region rfl <| qm rfl rfl rfl ?_
              refine pq rfl ?_
              refine qs rfl rfl rfl <| nn ?_
              have hje : j = (t.wa + 1).toNat := by omega
              subst hje
              refine ⟨rfl, (k + 1, us, ua, uc, O, B), ⟨by simp only; omega, hN, ?_⟩, by simp only; omega, ⟨rfl, rfl, rfl, rfl, rfl, rfl, trivial⟩, .refl⟩
              dsimp only
              rw [floorsFrom_snoc, Int.zero_add]
              exact hC
          · have hke : k = fs.length := by omega
            subst hke
            refine W.exit <| thn_x <| thn_x <| blk_x <| thn_n <| W.seq <| W.region rfl <| qm rfl rfl rfl <| qs rfl rfl rfl <| Ops.nil ?_
            refine thn_n <| W.ret ?_
            exact lvt (vs := [_]) ⟨O, us, B, hN, hC, .skip rfl (Sb.left .refl hO.shut)⟩
theorem Plans_fn (main : Side) (fs : List Fl) (ss : List St) (u : Int) (hall : HallOK fs ss) : ∀ m, PlansSpec main fs ss u m := fun m => by
  induction m using Nat.strongRecOn with
  | ind m ih => exact Plans_step main fs ss u hall m ih
end Go.Mus

/- The document's best plans. Conditions: none; over the given program. -/
namespace Go.Mus
set_option maxRecDepth 100000
set_option maxHeartbeats 40000000
def SelOf (us us' : List Sv) (ls ls' : List (List Be)) : Prop := us'.length = ls'.length ∧ ∀ (k : Nat) (s : Sv) (l : List Be), us'[k]? = some s → ls'[k]? = some l → ∃ j : Nat, us[j]? = some s ∧ ls[j]? = some l
theorem SelOf.nil {us : List Sv} {ls : List (List Be)} : SelOf us [] ls [] := ⟨rfl, fun k s l h => by simp at h⟩
theorem SelOf.snoc {us us' : List Sv} {ls ls' : List (List Be)} {j : Nat} {s : Sv} {l : List Be} (h : SelOf us us' ls ls') (hs : us[j]? = some s) (hl : ls[j]? = some l) : SelOf us (us' ++ [s]) ls (ls' ++ [l]) := by
 refine ⟨by simp [h.1], fun k s' l' h1 h2 => ?_⟩
 rcases Nat.lt_or_ge k us'.length with hk | hk
 ·rw [List.getElem?_append_left hk] at h1
  rw [List.getElem?_append_left (by have := h.1; omega)] at h2
  exact h.2 k s' l' h1 h2
 ·have hk2 := lt_of_get h1
  simp at hk2
  have e : k = us'.length := by omega
  subst e
  rw [List.getElem?_append_right (Nat.le_refl _), Nat.sub_self] at h1
  rw [List.getElem?_append_right (by have := h.1; omega), h.1, Nat.sub_self] at h2
  simp at h1 h2
  subst h1 h2
  exact ⟨j, hs, hl⟩
theorem plans_sub {fs : List Fl} {ss : List St} {u : Int} : ∀ m l g, g ∈ plansF fs ss u m l → g ∈ extF fs ss m l
 | 0, l, g, h => h
 | m + 1, l, g, h => by
  have e : berthsK fs ss freeM l.length = bnone :: floorsFrom (stAt ss l.length) 0 fs.length := by simp [berthsK, freeM]
  rw [extF, e, List.flatMap_cons]
  rw [plansF] at h
  rcases List.mem_append.1 h with h | h
  ·split at h
   ·exact List.mem_append_left _ (plans_sub m _ g h)
   ·cases h
  ·refine List.mem_append_right _ ?_
   split at h
   ·cases h
   ·obtain ⟨b, hb, hg⟩ := List.mem_flatMap.1 h
    split at hg
    ·cases hg
    ·exact List.mem_flatMap.2 ⟨b, hb, plans_sub m _ g hg⟩

theorem RBests_fn (main : Side) (h : Hp) (fs : List Fl) (ss : List St) (vf vs : Value) (hf : Sl h Fl.row vf fs) (hs : Sl h St.row vs ss) (hck : ckPlant fs ss = 0) : Fnc prog main n_ref_Bests #[.agg #[vf, vs]] h [] (fun v A => ∃ u O2 us' us B BL ls most, v = .tuple #[u, I most] ∧ Os t_sl_Berth rowS u us' O2 ∧ Oss t_Berth Be.row us ls B ∧ SelOf us us' ls BL ∧ BI ss ((listF fs ss ss.length).filter (isR fs ss)) BL most ∧ Sb (O2 ++ B) A) := by
 have hall := hall_ck hck
 have hns := hall.ns
 obtain ⟨a, cap, rfl⟩ := hf.isSl
 obtain ⟨a', cap', rfl⟩ := hs.isSl
 have hpn := pad_nil (ss := ss) hall.nf.1
 have hright := plans_right (u := -1) hall (by decide) ss.length [] (by simp) hpn
 rw [ext_nil] at hright
 have hlen := plansF_len (fs := fs) (ss := ss) (u := -1) hall ss.length [] (by simp)
 have hlen2 := Nat.le_trans hlen (pow13 hns)
 have hmem : ∀ g, g ∈ plansF fs ss (-1) ss.length [] → g ∈ listF fs ss ss.length := fun g hg => by rw [← ext_nil]; exact plans_sub _ _ g hg
 refine Fnc.of_body at_ref_Bests rfl (by show 1 ≤ 52; decide) [(0, .agg #[.slice a fs.length cap, .slice a' ss.length cap'])] ⟨rfl, trivial⟩ ?_
 refine W.seq <| W.region rfl ?_
 refine Ops.box (cs := #[.slice a fs.length cap, .slice a' ss.length cap']) (fun β1 => ?_) rfl rfl rfl
 refine qs rfl rfl rfl <| qs rfl rfl rfl <| nn <| W.seq <| W.region rfl ?_
 refine lq rfl ?_
 refine c0 (fun h' hE hL => Plans_fn main fs ss (-1) hall ss.length h' [] [] _ _ (.slice none 0 0) (hf.ext hE) (hs.ext hE) (.nil .nil) (by simp) hpn) (fun v A' hv => ?_)
 obtain ⟨O, us, B, hO, hB, hsb⟩ := hv
 obtain ⟨ua, uc, rfl⟩ := hO.isSl
 refine Ops.sb (F' := (β1, .cells #[.slice a fs.length cap, .slice a' ss.length cap'] t_Plant (0, 0)) :: (O ++ B)) (Sb.trans (.of_perm (List.perm_append_comm (l₁ := [_]))) (hsb.app .refl)) ?_
 refine qs rfl rfl rfl <| nn <| W.seq <| W.region rfl <| qs rfl rfl rfl <| nn <| W.seq <| W.region rfl ?_
 refine qs rfl rfl rfl <| nn <| W.seq ?_
 have hul := hB.len
 generalize hLL : plansF fs ss (-1) ss.length [] = LL at *
 refine W.freeze (b := β1) rfl (fun g1 hE1 hb1 _ => ?_)
 refine freezeOs hO (fun g2 hE2 hslO _ => ?_)
 have hE0 := hE1.trans hE2
 replace hb1 := hE2.1 _ _ hb1
 refine W.seq <| W.region rfl <| qs rfl rfl rfl <| nn <| W.block ?_
 refine W.loop (σ := Nat × Int × List (List Be) × List Sv × Option Addr × Nat × Frag) (fun q => q.1 ≤ us.length ∧ BI ss ((LL.take q.1).filter (isR fs ss)) q.2.2.1 q.2.1 ∧ SelOf us q.2.2.2.1 LL q.2.2.1 ∧ Os t_sl_Berth rowS (.slice q.2.2.2.2.1 q.2.2.2.1.length q.2.2.2.2.2.1) q.2.2.2.1 q.2.2.2.2.2.2) (fun q => [(7, I q.1), (6, .slice q.2.2.2.2.1 q.2.2.2.1.length q.2.2.2.2.2.1), (5, I q.2.1), (4, .slice ua us.length uc), (1, .pointer (some ⟨β1, 0, none⟩))]) (fun q => B ++ q.2.2.2.2.2.2) (fun q => us.length - q.1) (0, -1, [], [], none, 0, []) ⟨Nat.zero_le _, BI.nil, SelOf.nil, .nil .nil⟩ ⟨rfl, rfl, rfl, rfl, rfl, trivial⟩ (by rw [List.append_nil]; exact .refl) ?_
 rintro ⟨i, most, BL, us2, va, vc, O2⟩ ⟨hi, hBI, hSel, hN⟩
 dsimp only at *
 refine W.seq <| W.seq <| W.region rfl <| qm rfl rfl rfl <| qm rfl rfl rfl ?_
 refine o1 (y_len rfl rfl) rfl ?_
 refine o1 (y_lss rfl rfl rfl) rfl ?_
 refine nn ?_
 refine W.condp rfl (fun c16 => ?_) (fun c16 => ?_)
 ·have hi1 : i < us.length := by omega
  obtain ⟨g, hgk, -⟩ := has (show i < LL.length by omega)
  obtain ⟨s, hs0, -⟩ := has hi1
  obtain ⟨bo, offo, co, Eo, fzo, rfl, hbo, -, hyo, hzo⟩ := hslO.at hs0
  have hcell : co[offo + i * 1 + 0]? = some (.slice s.a s.n s.cap) := hzo 0 (by decide)
  clear hzo
  have hgm := hmem g (List.mem_of_getElem? hgk)
  have hgl := listF_len _ g hgm
  have hcp := list_ck hck hgm
  obtain ⟨wf, wd, hwr, hwi⟩ := wrong_ok hcp
  obtain ⟨wf2, wd2, hwr2, hmin⟩ := wrong_rb hcp
  rw [hwr] at hwr2
  obtain ⟨rfl, hwr3⟩ := Prod.mk.inj hwr2
  have htk := take_next hgk
  have hfk : (LL.take (i + 1)).filter (isR fs ss) = (LL.take i).filter (isR fs ss) ++ if isR fs ss g then [g] else [] := by
   rw [htk, List.filter_append, List.filter_cons]; rfl
  have hBl : BL.length ≤ 28561 := by
   rw [hBI.eq]
   have h1 := List.length_filter_le (fun l => decide (loaL ss l = most)) ((LL.take i).filter (isR fs ss))
   have h2 := List.length_filter_le (isR fs ss) (LL.take i)
   have h3 : (LL.take i).length ≤ LL.length := by rw [List.length_take]; omega
   omega
  have hu2l := hSel.1
  obtain ⟨kk, hkk⟩ : ∃ kk, loaL ss g = kk := ⟨_, rfl⟩
  have hk0 : 0 ≤ kk := by
   rw [← hkk, loaves_sum hall]
   exact (loavesK_eq hall _ (by omega)).2.1
  have hslg : ∀ h', Lent (B ++ O2) h' → Sl h' Be.row s.val g := fun h' hL => hB.sl (fun b o hb => hL b o (List.mem_append_left _ hb)) hs0 hgk
  refine W.skip <| thn_n <| W.seq <| W.block <| W.seq ?_
  refine W.drawL [] (n := 7) rfl ?_
  first | refine a1 0 (yldW rfl rfl) rfl ?_ | refine a1 0 (yldA rfl rfl) rfl ?_
  refine a1 1 (y_move rfl rfl) rfl ?_
  refine a1 2 (y_move rfl rfl) rfl ?_
  first | refine a1 3 (yix rfl rfl rfl) rfl ?_ | refine a1 3 (yixI rfl rfl rfl) rfl ?_
  refine a1 4 (yld rfl rfl) rfl ?_
  refine acp (i := 5) (u := I kk) (vs := [.agg #[.slice a fs.length cap, .slice a' ss.length cap'], s.val]) (fun h' hE hL => by rw [← hkk]; exact Loaves_fn _ h' fs ss g _ _ _ (hs.ext (hE0.trans hE)) (hslg h' hL) hall hgl) ?_ (hS := .inr Keeps.nil)
  refine a1 6 (y_assign rfl rfl) rfl ?_
  refine az ?_
  refine thn_n <| W.seq <| W.seq <| W.region rfl <| qm rfl rfl rfl <| qm rfl rfl rfl ?_
  refine o1 (y_lss rfl rfl rfl) rfl ?_
  refine nn ?_
  refine W.condp rfl (fun c27 => ?_) (fun c27 => ?_)
  ·refine W.exit <| thn_x <| blk_x <| thn_n <| W.region rfl <| qm rfl rfl rfl ?_
   refine pq rfl ?_
   refine qs rfl rfl rfl <| nn ?_
   have hB2 : BI ss ((LL.take (i + 1)).filter (isR fs ss)) BL most := by
    rw [hfk]
    split
    ·exact hBI.less (by omega) (by omega)
    ·rw [List.append_nil]; exact hBI
   exact ⟨rfl, (i + 1, most, BL, us2, va, vc, O2), ⟨by simp only; omega, hB2, hSel, hN⟩, by simp only; omega, ⟨rfl, rfl, rfl, rfl, rfl, trivial⟩, .refl⟩
  ·refine W.skip <| thn_n <| W.seq <| W.seq ?_
   refine W.drawL [] (n := 11) rfl ?_
   first | refine a1 0 (yldW rfl rfl) rfl ?_ | refine a1 0 (yldA rfl rfl) rfl ?_
   refine a1 1 (y_move rfl rfl) rfl ?_
   refine a1 2 (y_move rfl rfl) rfl ?_
   first | refine a1 3 (yix rfl rfl rfl) rfl ?_ | refine a1 3 (yixI rfl rfl rfl) rfl ?_
   refine a1 4 (yld rfl rfl) rfl ?_
   refine ae (i := 5) rfl an rfl rfl (e_call0 (args := [_, _]) (vs := [.agg #[.slice a fs.length cap, .slice a' ss.length cap'], s.val]) rfl rfl (fun h' hE hL => Rwrong_fn _ h' fs ss g _ _ _ (hf.ext (hE0.trans hE)) (hs.ext (hE0.trans hE)) (hslg h' hL) hcp) (fun v A' hv => ?_))
   obtain ⟨x1, x2, rfl, hM, hsh⟩ := hv
   obtain ⟨rfl, rfl⟩ := hM.eq hmin
   refine ⟨.inr Keeps.nil, Any.sb (Sb.left .refl hsh) ?_⟩
   refine a1 6 (y_move rfl rfl) rfl ?_
   refine a1 7 (y_extract rfl rfl rfl) rfl ?_
   refine a1 8 (y_extract rfl rfl rfl) rfl ?_
   refine a1 9 (y_assign rfl rfl) rfl ?_
   refine a1 10 (y_assign rfl rfl) rfl ?_
   refine az ?_
   refine thn_n <| W.seq <| W.region rfl <| qm rfl rfl rfl ?_
   refine o1 (y_geq rfl rfl rfl) rfl ?_
   refine nn ?_
   refine W.condp rfl (fun c38 => ?_) (fun c38 => ?_)
   ·refine W.exit <| thn_x <| blk_x <| thn_n <| W.region rfl <| qm rfl rfl rfl ?_
    refine pq rfl ?_
    refine qs rfl rfl rfl <| nn ?_
    have hR : isR fs ss g = false := by
     cases hx : isR fs ss g with
     | false => rfl
     | true => have := hwi.2 hx; omega
    rw [hR, if_neg (by decide), List.append_nil] at hfk
    exact ⟨rfl, (i + 1, most, BL, us2, va, vc, O2), ⟨by simp only; omega, by simp only; rw [hfk]; exact hBI, hSel, hN⟩, by simp only; omega, ⟨rfl, rfl, rfl, rfl, rfl, trivial⟩, .refl⟩
   ·have hR : isR fs ss g = true := hwi.1 (by omega)
    rw [hR, if_pos rfl] at hfk
    refine W.skip <| thn_n <| W.seq <| W.seq <| W.region rfl <| qm rfl rfl rfl <| qm rfl rfl rfl ?_
    refine o1 (y_gtr rfl rfl rfl) rfl ?_
    refine nn ?_
    refine W.condp rfl (fun c41 => ?_) (fun c41 => ?_)
    ·have hBI2 : BI ss ((LL.take (i + 1)).filter (isR fs ss)) ([] ++ [g]) kk := by rw [hfk, ← hkk]; exact hBI.more (by omega)
     have hSel2 : SelOf us ([] ++ [s]) LL ([] ++ [g]) := SelOf.nil.snoc hs0 hgk
     refine W.sb (F' := B ++ []) (Sb.app .refl (Sb.nil hN.shut)) ?_
     have hN : Os t_sl_Berth rowS (.slice none 0 0) ([] : List Sv) [] := .nil .nil
     have hbd : ([] : List Sv).length ≤ 28561 := by simp
     refine W.region rfl <| qm rfl rfl rfl <| qs rfl rfl rfl <| qs rfl rfl rfl <| nn <| W.region rfl <| qm rfl rfl rfl <| qm rfl rfl rfl <| qm rfl rfl rfl ?_
     refine xq rfl ?_
     refine dq rfl ?_
     refine Ops.bsl (cs := #[.slice s.a s.n s.cap]) (fun β48 => ?_) rfl
     refine oe rfl wn rfl rfl (e_append (row := rowS) (l' := [s]) rfl rfl rfl hN (.tail (.app .all)) (fun h2 _ hl => Sl.mk (hl β48 _ (.head _)) rfl (Part.all (rowS s))) (by simp only [List.length_nil, List.length_cons]; omega) (by decide) rfl (fun v3 N3 hN3 => ?_))
     obtain ⟨na3, nc3, rfl⟩ := hN3.isSl
     refine qs rfl rfl rfl <| Ops.nil <| blk_n <| thn_n <| W.region rfl <| qm rfl rfl rfl ?_
     refine pq rfl ?_
     refine qs rfl rfl rfl <| nn ?_
     exact ⟨rfl, (i + 1, _, _, _, na3, nc3, N3), ⟨by simp only; omega, hBI2, hSel2, hN3⟩, by simp only; omega, ⟨rfl, rfl, rfl, rfl, rfl, trivial⟩, .skip rfl .refl⟩
    ·have hmk : most = kk := by omega
     subst hmk
     have hBI2 : BI ss ((LL.take (i + 1)).filter (isR fs ss)) (BL ++ [g]) most := by rw [hfk]; exact hBI.same hkk (by omega)
     have hSel2 : SelOf us (us2 ++ [s]) LL (BL ++ [g]) := hSel.snoc hs0 hgk
     have hbd : us2.length ≤ 28561 := by omega
     refine W.skip <| thn_n <| W.region rfl <| qm rfl rfl rfl <| qm rfl rfl rfl <| qm rfl rfl rfl ?_
     refine xq rfl ?_
     refine dq rfl ?_
     refine Ops.bsl (cs := #[.slice s.a s.n s.cap]) (fun β48 => ?_) rfl
     refine oe rfl wn rfl rfl (e_append (row := rowS) (l' := [s]) rfl rfl rfl hN (.tail (.app .all)) (fun h2 _ hl => Sl.mk (hl β48 _ (.head _)) rfl (Part.all (rowS s))) (by simp only [List.length_nil, List.length_cons]; omega) (by decide) rfl (fun v3 N3 hN3 => ?_))
     obtain ⟨na3, nc3, rfl⟩ := hN3.isSl
     refine qs rfl rfl rfl <| Ops.nil <| blk_n <| thn_n <| W.region rfl <| qm rfl rfl rfl ?_
     refine pq rfl ?_
     refine qs rfl rfl rfl <| nn ?_
     exact ⟨rfl, (i + 1, _, _, _, na3, nc3, N3), ⟨by simp only; omega, hBI2, hSel2, hN3⟩, by simp only; omega, ⟨rfl, rfl, rfl, rfl, rfl, trivial⟩, .skip rfl .refl⟩
 ·have hie : i = us.length := by omega
  subst hie
  rw [hul, List.take_length, hright] at hBI
  refine W.exit <| thn_x <| thn_x <| blk_x <| thn_n <| W.seq <| W.region rfl <| qm rfl rfl rfl <| qm rfl rfl rfl <| qs rfl rfl rfl ?_
  refine qs rfl rfl rfl <| nn <| W.ret ?_
  exact lvt (vs := [_, _]) ⟨_, O2, us2, us, B, BL, LL, most, rfl, hN, hB, hSel, hBI, .of_perm List.perm_append_comm⟩
end Go.Mus

/- The document's best plan, and how many are as good. Conditions: none; over the given program. -/
namespace Go.Mus
set_option maxRecDepth 100000
set_option maxHeartbeats 40000000
end Go.Mus

/- The plans of the first strikes, as the document lists them: whether one is right. Conditions: none. -/
namespace Go.Mus
def extM (fs : List Fl) (ss : List St) (may : May) : Nat → List Be → List (List Be)
 | 0, l => [l]
 | m + 1, l => (berthsK fs ss may l.length).flatMap fun b => extM fs ss may m (l ++ [b])
theorem may_free {fs : List Fl} {ss : List St} {may : May} {k : Nat} {b : Be} (h : b ∈ berthsK fs ss may k) : b ∈ berthsK fs ss freeM k := by
 simp only [berthsK, freeM, if_true]
 simp only [berthsK] at h
 rcases List.mem_append.1 h with h | h
 ·split at h
  ·exact List.mem_append_left _ h
  ·cases h
 ·split at h
  ·exact List.mem_append_right _ h
  ·cases h
theorem extM_sub {fs : List Fl} {ss : List St} {may : May} : ∀ m l l', l' ∈ extM fs ss may m l → l' ∈ extF fs ss m l
 | 0, l, l', h => h
 | m + 1, l, l', h => by
  obtain ⟨b, hb, hm⟩ := List.mem_flatMap.1 h
  exact List.mem_flatMap.2 ⟨b, may_free hb, extM_sub m _ l' hm⟩
theorem ext_len {fs : List Fl} {ss : List St} : ∀ m l l', l' ∈ extF fs ss m l → l'.length = l.length + m
 | 0, l, l', h => by
  have : l' = l := by simpa [extF] using h
  rw [this]; rfl
 | m + 1, l, l', h => by
  obtain ⟨b, -, hm⟩ := List.mem_flatMap.1 h
  rw [ext_len m _ l' hm]; simp; omega
theorem rights_extM {fs : List Fl} {ss : List St} {may : May} (hall : HallOK fs ss) : ∀ m l, l.length + m = ss.length → PlanOf fs ss (padB l) → rights fs ss may m l.length (padB l) = ((extM fs ss may m l).filter (isR fs ss)).map padB
 | 0, l, _, _ => by
  rw [rights, extM, List.filter_cons]
  unfold isR
  split <;> rfl
 | m + 1, l, hl, hp => by
  have h4 := hall.ns
  rw [rights, extM, List.filter_flatMap, List.map_flatMap]
  refine fm_congr fun b hb => ?_
  rw [padB_set (by omega)]
  have hbk := berth_ok hall (by omega) (may_free hb)
  have hp' : PlanOf fs ss (padB (l ++ [b])) := by
   rw [← padB_set (by omega)]
   exact plan_set hp (by omega) hbk
  have ih := rights_extM (may := may) hall m (l ++ [b]) (by simp; omega) hp'
  rw [List.length_append, List.length_singleton] at ih
  split
  ·rename_i hpr
   have : (extM fs ss may m (l ++ [b])).filter (isR fs ss) = [] := by
    refine List.filter_eq_nil_iff.2 fun l' hl' hr => ?_
    have hl2 := extM_sub _ _ _ hl'
    obtain ⟨r, rfl⟩ := ext_pre m _ l' hl2
    have hq := ext_plan hall m _ _ (by simp; omega) hp' hl2
    have hn : inspF fs ss (padB (l ++ [b] ++ r)) = none := by simpa [isR] using hr
    have := prune_no (b := b) hall hq.ok hp'.ok hbk.2.2.1 hn fun i hi => by
     rw [be_pad, be_pad]
     rcases Nat.lt_or_ge i (l ++ [b]).length with h | h
     ·left; simp only [beAt, List.getD]; rw [List.getElem?_append_left h]
     ·right; rw [be_out h]; simp [bnone]
    rw [hpr] at this; cases this
   rw [this]; rfl
  ·exact ih
theorem plans_late {fs : List Fl} {ss : List St} {n : Nat} (hall : HallOK fs ss) : ∀ m l, l.length + m = ss.length → PlanOf fs ss (padB l) → (plansF fs ss n m l).filter (isR fs ss) = (extM fs ss (lateM n) m l).filter (isR fs ss)
 | 0, l, _, _ => rfl
 | m + 1, l, hl, hp => by
  have h4 := hall.ns
  have hk : l.length < ss.length := by omega
  have hpb : ∀ b, b ∈ berthsK fs ss freeM l.length → PlanOf fs ss (padB (l ++ [b])) := fun b hb => by
   rw [← padB_set (by omega)]
   exact plan_set hp (by omega) (berth_ok hall hk hb)
  have e : berthsK fs ss freeM l.length = bnone :: floorsFrom (stAt ss l.length) 0 fs.length := by simp [berthsK, freeM]
  have hm : ∀ b, b ∈ floorsFrom (stAt ss l.length) 0 fs.length → b ∈ berthsK fs ss freeM l.length := fun b hb => by rw [e]; exact List.mem_cons_of_mem _ hb
  have h0 : bnone ∈ berthsK fs ss freeM l.length := by rw [e]; exact List.mem_cons_self ..
  rw [plansF, extM]
  by_cases hn : n < l.length
  ·have eb : berthsK fs ss (lateM n) l.length = [bnone] := by simp [berthsK, lateM, hn]; omega
   rw [eb, if_pos (.inr (by omega)), if_pos ⟨by omega, by omega⟩, List.append_nil, List.flatMap_cons, List.flatMap_nil, List.append_nil]
   exact plans_late hall m _ (by simp; omega) (hpb _ h0)
  ·have eb : berthsK fs ss (lateM n) l.length = floorsFrom (stAt ss l.length) 0 fs.length := by simp [berthsK, lateM, hn]
   rw [eb, if_neg (by omega), if_neg (by omega), List.nil_append, List.filter_flatMap, List.filter_flatMap]
   refine fm_congr fun b hb => ?_
   split
   ·rename_i hf
    rw [List.filter_nil]
    refine (List.filter_eq_nil_iff.2 fun l' hl' hr => ?_).symm
    have hl2 := extM_sub _ _ _ hl'
    obtain ⟨r, rfl⟩ := ext_pre m _ l' hl2
    have hq := ext_plan hall m _ _ (by simp; omega) (hpb b (hm b hb)) hl2
    have hbf := mem_floorsFrom hb
    have hlen : (l ++ [b] ++ r).length = ss.length := by
     rw [ext_len m _ _ hl2]; simp; omega
    have := full_no hall hq (by omega) (by omega) (by omega) hf
    rw [this] at hr; cases hr
   ·exact plans_late hall m _ (by simp; omega) (hpb b (hm b hb))
/-- ████ Whether the first strikes can be set. -/
theorem late_some {fs : List Fl} {ss : List St} {n : Nat} (hall : HallOK fs ss) : someR fs ss (lateM n) = (plansF fs ss n ss.length []).any (isR fs ss) := by
 have h1 := rights_extM (may := lateM n) hall ss.length [] (by simp) (pad_nil hall.nf.1)
 have h2 := plans_late (n := n) hall ss.length [] (by simp) (pad_nil hall.nf.1)
 rw [← h2] at h1
 have e : rightsOf fs ss (lateM n) [] = rights fs ss (lateM n) ss.length ([] : List Be).length (padB []) := by rw [rightsOf]; rfl
 rw [someR, e, h1]
 cases hx : (plansF fs ss n ss.length []).any (isR fs ss) with
 | false =>
  have : (plansF fs ss n ss.length []).filter (isR fs ss) = [] := List.filter_eq_nil_iff.2 fun l hl hr => by
   have := List.any_eq_true.2 ⟨l, hl, hr⟩
   rw [hx] at this; cases this
  rw [this]; rfl
 | true =>
  obtain ⟨l, hl, hr⟩ := List.any_eq_true.1 hx
  have hm : l ∈ (plansF fs ss n ss.length []).filter (isR fs ss) := List.mem_filter.2 ⟨hl, hr⟩
  cases hy : (plansF fs ss n ss.length []).filter (isR fs ss) with
  | nil => rw [hy] at hm; cases hm
  | cons a r => rfl
end Go.Mus
