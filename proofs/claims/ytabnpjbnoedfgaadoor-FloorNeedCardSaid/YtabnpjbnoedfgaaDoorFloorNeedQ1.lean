/- Strikes that wait longer; with which patience all can be set. Conditions: none; over the given program. (And 4 texts more.) -/
import Derived.Test.YtabnpjbnoedfgaaDoorP15
import Derived.Test.YtabnpjbnoedfgaaDoorP13
set_option linter.unusedVariables false
set_option linter.unusedSimpArgs false

/- Strikes that wait longer; with which patience all can be set. Conditions: none; over the given program. -/
namespace Go.Mus
set_option maxRecDepth 100000
set_option maxHeartbeats 4000000

theorem ckPlant_wait {fs : List Fl} {ss : List St} {n : Int} (h : ckPlant fs ss = 0) (h0 : 0 ≤ n) (hw : ∀ s ∈ ss, s.wa + n ≤ 3) : ckPlant fs (waitS ss n) = 0 := by
  obtain ⟨h1, h2, h3, h4, h5⟩ := ckPlant0 h
  refine ckPlant_mk (by omega) h2 h4 (by simpa [waitS] using h3) ?_
  have key : ∀ (l : List St) (b : Int), ckStrikes b l = 0 → (∀ s ∈ l, s.wa + n ≤ 3) → ckStrikes b (waitS l n) = 0 := by
    intro l
    induction l with
    | nil => intro b _ _; rfl
    | cons s l ih =>
      intro b hb hl
      simp only [waitS, List.map_cons, ckStrikes] at hb ⊢
      split at hb
      · rename_i hc
        have hs := ckStrike0 hc
        have hle := hl s (List.mem_cons_self ..)
        have hc' : ckStrike b (waitSt n s) = 0 := by
          unfold ckStrike waitSt outs
          rw [if_neg (by simp only; omega), if_neg (by simp only; omega)]
        rw [if_pos hc']
        exact ih _ hb fun t ht => hl t (List.mem_cons_of_mem _ ht)
      · rename_i hc; exact absurd hb hc
  exact key ss 0 h5 hw

theorem Ops.freezeOs {x : Cx} {ops : Array Oper} {td : List Nat} {Q : Post} {ρ : Env} {ds : List Deferred} {A F : Frag} {α : Type} {row : α → List Value} {w : Nat} [Rw row w] {E : TypeId} {v : Value} {l : List α} (hs : Os E row v l A)
    (H : ∀ h', Ext x.h h' → Sl h' row v l → Zs h' v → Ops { x with h := h' } ops td Q ρ ds F) : Ops x ops td Q ρ ds (A ++ F) := by
  rcases hs with ⟨rfl, rfl, hsh⟩ | ⟨β, cc, cap, J, rfl, rfl, h1, h2, h3, hsh⟩
  · exact Ops.sb (Sb.left .refl hsh) (H x.h ⟨fun _ _ q => q, fun _ q => q⟩ .nil (fun b off n cap e => by cases e))
  · refine Ops.freeze (b := β) rfl fun h' hE hb hz => ?_
    refine Ops.sb (F' := F) (Sb.left .refl hsh) (H h' hE (.mk hb rfl h3) (fun b off n cap e => by cases e; exact hz))
theorem Waiting_fn (main : Side) (h : Hp) (fs : List Fl) (ss : List St) (n : Int) (vf vs : Value) (hf : Sl h Fl.row vf fs) (hs : Sl h St.row vs ss) (hck : ckPlant fs ss = 0) (hn0 : 0 ≤ n) (hn2 : n ≤ 2) : Fnc prog main n_ref_Waiting #[.agg #[vf, vs], I n] h [] (fun v A => ∃ vs' S, v = .agg #[vf, vs'] ∧ Os t_Strike St.row vs' (waitS ss n) S ∧ Sb S A) := by
  have hn4 := (hall_ck hck).ns
  obtain ⟨a, cap, rfl⟩ := hf.isSl
  obtain ⟨a', cap', rfl⟩ := hs.isSl
  refine Fnc.of_body at_ref_Waiting rfl (by show 2 ≤ 32; decide) [(0, .agg #[.slice a fs.length cap, .slice a' ss.length cap']), (1, I n)] ⟨rfl, rfl, trivial⟩ ?_
  refine W.seq ?_
  refine W.region rfl ?_
  refine Ops.box (fun β2 => ?_) rfl rfl (show (Value.agg #[.slice a fs.length cap, .slice a' ss.length cap']).cells = #[.slice a fs.length cap, .slice a' ss.length cap'] from rfl)
  refine Ops.new (fun β4 => ?_)
  refine Ops.nil ?_
  refine thn_n ?_
  refine W.seq ?_
  refine W.region rfl ?_
  refine Ops.bsl0 (fun β6 => ?_)
  refine oq (y_fieldAddr rfl rfl) rfl wn rfl rfl ?_
  refine oq (yld rfl rfl) rfl wn rfl rfl ?_
  have hO : Os t_Strike St.row (.slice (some ⟨β6, 0, none⟩) 0 0) ([] : List St) [(β6, .cells #[] t_Strike (0, 0))] := .inr ⟨β6, #[], 0, [], rfl, rfl, rfl, Nat.le_refl _, Part.all [], .nil⟩
  refine oe rfl wn rfl rfl (e_append (row := St.row) (l := []) (l' := ss) rfl rfl rfl hO .head (fun h2 hE hl => hs.ext hE) (by simp; omega) (by decide) rfl (fun v' S hS => ?_))
  rw [List.nil_append] at hS
  obtain ⟨a3, cap3, rfl⟩ := hS.isSl
  refine Ops.perm (List.perm_append_comm (l₁ := [_, _])) ?_
  refine oq (y_fieldAddr rfl rfl) rfl wn rfl rfl ?_
  refine Ops.sto ?_
  refine Ops.nil ?_
  refine thn_n ?_
  refine W.seq ?_
  refine W.seq ?_
  refine W.region rfl ?_
  refine oq (y_assign rfl rfl) rfl wn rfl rfl ?_
  refine Ops.nil ?_
  refine thn_n ?_
  refine W.block ?_
  have hS0 : Os t_Strike St.row (.slice a3 ss.length cap3) (waitK ss n 0) S := by simpa [waitK] using hS
  refine W.loop2 (fun (k : Nat) (S' : Frag) => k ≤ ss.length ∧ Os t_Strike St.row (.slice a3 ss.length cap3) (waitK ss n k) S') (fun k S' => [(5, I k), (4, .pointer (some ⟨β4, 0, none⟩)), (2, .pointer (some ⟨β2, 0, none⟩)), (1, I n)]) (fun k S' => (β4, .cells #[.slice none 0 0, .slice none 0 0] t_Plant (0, 0)) :: (β2, .cells #[.slice a fs.length cap, .slice a3 ss.length cap3] t_Plant (0, 0)) :: S') (fun k _ => ss.length - k) 0 S ⟨Nat.zero_le _, hS0⟩ ⟨rfl, rfl, rfl, rfl, trivial⟩ .refl ?_
  rintro k S' ⟨hk, hS'⟩
  refine W.seq ?_
  refine W.seq ?_
  refine W.region rfl ?_
  refine oq (y_move rfl rfl) rfl wn rfl rfl ?_
  refine oq (y_fieldAddr rfl rfl) rfl wn rfl rfl ?_
  refine oq (yld rfl rfl) rfl wn rfl rfl ?_
  refine oq (y_len rfl rfl) rfl wn rfl rfl ?_
  refine oq (y_lss rfl rfl rfl) rfl wn rfl rfl ?_
  refine Ops.nil ?_
  refine thn_n ?_
  refine W.condp rfl (fun c15 => ?_) (fun c15 => ?_)
  · obtain ⟨s, hsk, -⟩ := has (show k < ss.length by omega)
    have hwk := waitK_at (n := n) hsk
    have hso := strike_ok hck hsk
    rcases hS' with ⟨hnil, _, _⟩ | ⟨β, c, cp, J, hv, rfl, hc1, hc2, hP, hJ⟩
    · rw [hnil] at hwk; simp at hwk
    obtain ⟨rfl, rfl⟩ : a3 = some ⟨β, 0, none⟩ ∧ cap3 = cp := by injection hv with e1 e2 e3; exact ⟨e1, e3⟩
    have hw2 : c[0 + k * 3 + 2]? = some (I s.wa) := hP.rowG hwk 2 (by decide)
    have hsz := (hP.rowE hwk).2
    refine W.skip ?_
    refine thn_n ?_
    refine W.seq ?_
    refine W.block ?_
    refine W.drawF (n := 14) rfl ?_
    refine aq (i := 0) (y_fieldAddr rfl rfl) rfl an rfl rfl ?_
    refine aq (i := 1) (yld rfl rfl) rfl an rfl rfl ?_
    refine aq (i := 2) (y_move rfl rfl) rfl an rfl rfl ?_
    refine aq (i := 3) (y_fieldAddr rfl rfl) rfl an rfl rfl ?_
    refine aq (i := 4) (yld rfl rfl) rfl an rfl rfl ?_
    refine aq (i := 5) (y_move rfl rfl) rfl an rfl rfl ?_
    first | refine aq (i := 6) (yix rfl rfl rfl) rfl an rfl rfl ?_ | refine aq (i := 6) (yixI rfl rfl rfl) rfl an rfl rfl ?_
    refine aq (i := 7) (y_fieldAddr rfl rfl) rfl an rfl rfl ?_
    refine aq (i := 8) (yld rfl rfl) rfl an rfl rfl ?_
    refine aq (i := 9) (y_move rfl rfl) rfl an rfl rfl ?_
    refine aq (i := 10) (yadd rfl rfl rfl) rfl an rfl rfl ?_
    first | refine aq (i := 11) (yix rfl rfl rfl) rfl an rfl rfl ?_ | refine aq (i := 11) (yixI rfl rfl rfl) rfl an rfl rfl ?_
    refine aq (i := 12) (y_fieldAddr rfl rfl) rfl an rfl rfl ?_
    refine ae (i := 13) rfl an rfl rfl (eS rfl rfl rfl ?_)
    refine ⟨.inl (by kernel_rfl), ?_⟩
    refine az ?_
    refine blk_n ?_
    refine thn_n ?_
    refine W.region rfl ?_
    refine oq (y_move rfl rfl) rfl wn rfl rfl ?_
    first | refine oq (yadd rfl rfl rfl) rfl wn rfl rfl ?_ | refine oq (y_addw rfl rfl rfl) rfl wn rfl rfl ?_
    refine oq (y_assign rfl rfl) rfl wn rfl rfl ?_
    refine Ops.nil ?_
    refine thn_n ?_
    refine ⟨rfl, k + 1, _, ⟨by omega, .inr ⟨β, _, cap3, J, by rw [waitK_len (by omega)], rfl, by rw [Array.size_setIfInBounds]; exact hc1, by rw [waitK_len (by omega)]; rw [waitK_len (by omega)] at hc2; exact hc2, ?_, hJ⟩⟩, by omega, ⟨rfl, rfl, rfl, rfl, trivial⟩, .refl⟩
    have := hP.setS (x := s.wa + n) hwk
    rw [show (⟨s.day, s.co, s.wa + n⟩ : St) = waitSt n s from rfl, waitK_succ hsk] at this
    exact this
  · have hkl : k = ss.length := by omega
    subst hkl
    have hS2 : Os t_Strike St.row (.slice a3 ss.length cap3) (waitS ss n) S' := by simpa [waitK, waitS] using hS'
    refine W.exit ?_
    refine thn_x ?_
    refine thn_x ?_
    refine blk_x ?_
    refine thn_n ?_
    refine W.seq ?_
    refine W.region rfl ?_
    first | refine oq (yldW rfl rfl) rfl wn rfl rfl ?_ | refine oq (yldA rfl rfl) rfl wn rfl rfl ?_
    first | refine Ops.stoW ?_ | refine Ops.stoA ?_
    refine Ops.nil ?_
    refine thn_n ?_
    refine W.ret ?_
    exact lvc (hv := rAgg rNil) ⟨_, S', rfl, hS2, .skip rfl (.skip rfl .refl)⟩

theorem nums_find {q : Int → Bool} : ((nums 0 2).find? q = none ↔ q 0 = false ∧ q 1 = false ∧ q 2 = false) ∧ (q 0 = true → (nums 0 2).find? q = some 0) ∧ (q 0 = false → q 1 = true → (nums 0 2).find? q = some 1) ∧ (q 0 = false → q 1 = false → q 2 = true → (nums 0 2).find? q = some 2) := by
  have e : nums 0 2 = [0, 1, 2] := rfl
  rw [e]
  cases h0 : q 0 <;> cases h1 : q 1 <;> cases h2 : q 2 <;> simp [List.find?, h0, h1, h2]
theorem pat_at {fs : List Fl} {ss : List St} {k : Nat} (hck : ckPlant fs ss = 0) (hk : k ≤ 2) (h : someR fs (waitS ss (k : Int)) boundM = true) (hall : ∀ i : Nat, i < k → someR fs (waitS ss (i : Int)) boundM = false) : patV fs ss = ((k : Int), 0) := by
  obtain ⟨-, h0, h1, h2⟩ := nums_find (q := fun n => someR fs (waitS ss n) boundM)
  have e : patF fs ss = some (k : Int) := by
    rcases (by omega : k = 0 ∨ k = 1 ∨ k = 2) with rfl | rfl | rfl
    · exact h0 h
    · exact h1 (hall 0 (by omega)) h
    · exact h2 (hall 0 (by omega)) (hall 1 (by omega)) h
  simp only [patV]; rw [if_neg (by simp [hck]), e]
theorem pat_no {fs : List Fl} {ss : List St} (hck : ckPlant fs ss = 0) (hall : ∀ i : Nat, i < 3 → someR fs (waitS ss (i : Int)) boundM = false) : patV fs ss = (0, 11) := by
  have e : patF fs ss = none := nums_find.1.2 ⟨hall 0 (by omega), hall 1 (by omega), hall 2 (by omega)⟩
  simp only [patV]; rw [if_neg (by simp [hck]), e]

theorem FloorPatience_top (main : Side) (hS : ∀ S, main.ok S → ∃ Fin, S = Mn prog Fin) (hmb : main.b = true) (h : Hp) (nums : List Int) (lv : Value) (Eg : TypeId) (zg : Nat × Nat) (hl : Sl h rowI lv nums) (hg : h 0 = some (.cells #[rtV t_error] Eg zg)) (z0 : h.z 0) : TopV prog main n_law_FloorPatience #[lv] h (.bool true) := by
  refine TopV.of_body at_law_FloorPatience rfl (by show 1 ≤ 50; decide) [(0, lv)] ⟨rfl, trivial⟩ ?_
  refine W.seq ?_
  refine W.region rfl ?_
  refine oq (y_assign rfl rfl) rfl wn rfl rfl ?_
  refine Ops.nil ?_
  refine thn_n ?_
  refine W.seq ?_
  refine W.region rfl ?_
  refine oq (y_move rfl rfl) rfl wn rfl rfl ?_
  refine c0 (fun h' hE hL => NewHat_fn _ h' nums lv (hl.ext hE)) (fun v A' hv => ?_)
  obtain ⟨bh, s0, rfl, rfl⟩ := hv
  refine cg (A := [(bh, _)]) .head (fun h' hE hL => PlantOf_fn _ h' nums lv bh s0 3 1 (hl.ext hE) (by decide) (by decide)) (fun v A' hv => ?_)
  obtain ⟨vf, vs, fs, ss, Sf, Ss, k1, s1, rfl, ⟨hOf, hOs⟩, ⟨hck, hn4, hw⟩, -, hsb⟩ := hv
  refine Ops.sb (F' := Sf ++ Ss) ((Sb.skip rfl .refl).trans (hsb.trans (Sb.right .refl .nil))) ?_
  obtain ⟨a, cap, rfl⟩ := hOf.isSl
  obtain ⟨a', cap', rfl⟩ := hOs.isSl
  refine Ops.new (fun β3 => ?_)
  first | refine Ops.stoW ?_ | refine Ops.stoA ?_
  refine Ops.nil ?_
  refine thn_n ?_
  refine W.seq ?_
  refine W.region rfl ?_
  first | refine oq (yldW rfl rfl) rfl wn rfl rfl ?_ | refine oq (yldA rfl rfl) rfl wn rfl rfl ?_
  refine cp (fun h' hE hL => Patience_fn main h' fs ss _ _ Eg zg (hOf.sl fun b o hb => hL b o (.tail _ (List.mem_append_left _ hb))) (hOs.sl fun b o hb => hL b o (.tail _ (List.mem_append_right _ hb))) (hE.1 _ _ hg)) ?_
  refine oq (y_move rfl rfl) rfl wn rfl rfl ?_
  refine oq (y_extract rfl rfl rfl) rfl wn rfl rfl ?_
  refine oq (y_extract rfl rfl rfl) rfl wn rfl rfl ?_
  refine oq (y_assign rfl rfl) rfl wn rfl rfl ?_
  refine oq (y_assign rfl rfl) rfl wn rfl rfl ?_
  refine Ops.nil ?_
  refine thn_n ?_
  refine W.seq ?_
  refine W.sb (F' := Sf ++ (Ss ++ [(β3, .cells #[.slice a fs.length cap, .slice a' ss.length cap'] t_Plant (0, 0))])) (.of_perm (by rw [← List.append_assoc]; exact List.perm_append_singleton _ _)) ?_
  refine freezeOs hOf (fun hx hEx hslf hzf => ?_)
  refine freezeOs hOs (fun hy hEy hsls hzs => ?_)
  refine W.seq ?_
  refine W.region rfl ?_
  refine oq (y_assign rfl rfl) rfl wn rfl rfl ?_
  refine Ops.nil ?_
  refine thn_n ?_
  refine W.block ?_
  refine W.loop (σ := Nat) (fun k => k ≤ 3 ∧ ∀ i : Nat, i < k → someR fs (waitS ss (i : Int)) boundM = false) (fun k => [(6, I k), (5, I (patV fs ss).2), (4, I (patV fs ss).1), (3, .pointer (some ⟨β3, 0, none⟩))]) (fun _ => [(β3, .cells #[.slice a fs.length cap, .slice a' ss.length cap'] t_Plant (0, 0))]) (fun k => 3 - k) 0 ⟨by omega, fun i hi => by omega⟩ ⟨rfl, rfl, rfl, rfl, trivial⟩ .refl ?_
  rintro k ⟨hk3, hall⟩
  refine W.seq ?_
  refine W.seq ?_
  refine W.region rfl ?_
  refine oq (y_move rfl rfl) rfl wn rfl rfl ?_
  refine oq (y_leq rfl rfl rfl) rfl wn rfl rfl ?_
  refine Ops.nil ?_
  refine thn_n ?_
  refine W.condp rfl (fun c18 => ?_) (fun c18 => ?_)
  · refine W.skip ?_
    refine thn_n ?_
    refine W.seq ?_
    refine W.block ?_
    refine W.seq ?_
    refine W.region rfl ?_
    first | refine oq (yldW rfl rfl) rfl wn rfl rfl ?_ | refine oq (yldA rfl rfl) rfl wn rfl rfl ?_
    refine oq (y_move rfl rfl) rfl wn rfl rfl ?_
    refine c0 (fun h' hE hL => Waiting_fn _ h' fs ss k _ _ (hslf.ext ((hEy).trans hE)) (hsls.ext hE) hck (by omega) (by omega)) (fun v A' hv => ?_)
    obtain ⟨vs2, Ss2, rfl, hOs2, hsb⟩ := hv
    obtain ⟨a3, cap3, rfl⟩ := hOs2.isSl
    have hckw := ckPlant_wait (n := (k : Int)) hck (by omega) (fun s hs => by have := hw s hs; omega)
    refine Ops.sb (hsb.app .refl) ?_
    refine Ops.freezeOs hOs2 (fun hz hEz hslz hzz => ?_)
    refine cp (fun h' hE hL => served_fn _ hS hmb h' fs (waitS ss k) (.slice a fs.length cap) (.slice a3 (waitS ss k).length cap3) Eg zg (hslf.ext ((hEy.trans hEz).trans hE)) (hslz.ext hE) (hzf.ext ((hEy.trans hEz).trans hE)) (hzz.ext hE) hckw ((((hEx.trans hEy).trans hEz).trans hE).1 _ _ hg) ((((hEx.trans hEy).trans hEz).trans hE).2 _ z0)) ?_
    refine oq (y_move rfl rfl) rfl wn rfl rfl ?_
    refine oq (y_extract rfl rfl rfl) rfl wn rfl rfl ?_
    refine oq (y_extract rfl rfl rfl) rfl wn rfl rfl ?_
    refine oq (y_assign rfl rfl) rfl wn rfl rfl ?_
    refine oq (y_assign rfl rfl) rfl wn rfl rfl ?_
    refine Ops.nil ?_
    refine thn_n ?_
    refine W.seq ?_
    refine W.seq ?_
    refine W.region rfl ?_
    refine oq (y_move rfl rfl) rfl wn rfl rfl ?_
    --abs F
    refine oq ((y_not rfl rfl).eq (u := .bool false) rfl) rfl wn rfl rfl ?_
    refine Ops.nil ?_
    refine thn_n ?_
    refine W.condF ?_
    refine W.skip ?_
    refine thn_n ?_
    refine W.seq ?_
    refine W.region rfl ?_
    refine oq (y_move rfl rfl) rfl wn rfl rfl ?_
    refine Ops.nil ?_
    refine thn_n ?_
    refine W.cond rfl (fun c30 => ?_) (fun c30 => ?_)
    · have hpat := pat_at hck (by omega) c30 hall
      refine W.seq ?_
      refine W.region rfl ?_
      refine oq (y_move rfl rfl) rfl wn rfl rfl ?_
      --abs T
      refine oq ((y_eql rfl rfl rfl).eq (u := .bool true) (congrArg Value.bool (decide_eq_true (by rw [hpat])))) rfl wn rfl rfl ?_
      refine oq (y_move rfl rfl) rfl wn rfl rfl ?_
      refine oq (y_move rfl rfl) rfl (want_some rfl rfl rfl) rfl rfl ?_
      refine oq (y_move rfl rfl) rfl (want_some rfl rfl rfl) rfl rfl ?_
      --abs T
      refine oq ((y_eql rfl rfl rfl).eq (u := .bool true) (congrArg Value.bool (decide_eq_true (by rw [hpat])))) rfl (want_some rfl rfl rfl) rfl rfl ?_
      refine oq (y_pickT rfl rfl rfl) rfl wn rfl rfl ?_
      refine oq (y_move rfl rfl) rfl wn rfl rfl ?_
      --abs T
      refine cp (fun h' hE hL => exs_fn _ hS hmb h' Eg zg (((hEx.trans hEy).trans hE).1 _ _ hg) (((hEx.trans hEy).trans hE).2 _ z0)) ?_ (hw := want_some rfl rfl rfl)
      refine oq (y_pickT rfl rfl rfl) rfl wn rfl rfl ?_
      refine oq (y_assign rfl rfl) rfl wn rfl rfl ?_
      refine Ops.nil ?_
      refine thn_n ?_
      refine W.ret ?_
      refine blk_r ?_
      refine thn_r ?_
      refine thn_r ?_
      refine blk_r ?_
      refine thn_r ?_
      exact lvq rfl
    · refine W.skip ?_
      refine blk_n ?_
      refine thn_n ?_
      refine W.region rfl ?_
      refine oq (y_move rfl rfl) rfl wn rfl rfl ?_
      first | refine oq (yadd rfl rfl rfl) rfl wn rfl rfl ?_ | refine oq (y_addw rfl rfl rfl) rfl wn rfl rfl ?_
      refine oq (y_assign rfl rfl) rfl wn rfl rfl ?_
      refine Ops.nil ?_
      refine thn_n ?_
      refine ⟨rfl, k + 1, ⟨by omega, fun j hj => ?_⟩, by omega, ⟨rfl, rfl, rfl, rfl, trivial⟩, .refl⟩
      by_cases e : j = k
      · subst e; exact c30
      · exact hall j (by omega)
  · have hpat := pat_no hck (fun i hi => hall i (by omega))
    refine W.exit ?_
    refine thn_x ?_
    refine thn_x ?_
    refine blk_x ?_
    refine thn_n ?_
    refine W.seq ?_
    refine W.region rfl ?_
    refine oq (y_move rfl rfl) rfl wn rfl rfl ?_
    --abs T
    refine oq ((y_eql rfl rfl rfl).eq (u := .bool true) (congrArg Value.bool (decide_eq_true (by rw [hpat])))) rfl wn rfl rfl ?_
    refine oq (y_move rfl rfl) rfl wn rfl rfl ?_
    refine oq (y_move rfl rfl) rfl (want_some rfl rfl rfl) rfl rfl ?_
    --abs T
    refine oq ((y_eql rfl rfl rfl).eq (u := .bool true) (congrArg Value.bool (decide_eq_true (by rw [hpat])))) rfl (want_some rfl rfl rfl) rfl rfl ?_
    refine oq (y_pickT rfl rfl rfl) rfl wn rfl rfl ?_
    refine oq (y_move rfl rfl) rfl wn rfl rfl ?_
    --abs T
    refine cp (fun h' hE hL => exs_fn _ hS hmb h' Eg zg (hE.1 _ _ hg) (hE.2 _ z0)) ?_ (hw := want_some rfl rfl rfl)
    refine oq (y_pickT rfl rfl rfl) rfl wn rfl rfl ?_
    refine oq (y_assign rfl rfl) rfl wn rfl rfl ?_
    refine Ops.nil ?_
    refine thn_n ?_
    refine W.ret ?_
    exact lvq rfl
end Go.Mus

/- A floor with other places; how many it needs. Conditions: none; over the given program. -/
namespace Go.Mus
set_option maxRecDepth 100000
set_option maxHeartbeats 4000000

theorem cloneF_fn (main : Side) (h : Hp) (fs : List Fl) (vs : Value) (hs : Sl h Fl.row vs fs) (hn : fs.length ≤ 1000) : Fnc prog main n_slices_Clone_Floor #[vs] h [] (fun v A => ∃ S, Os t_Floor Fl.row v fs S ∧ Sb S A) := by
  obtain ⟨a, cap, rfl⟩ := hs.isSl
  refine Fnc.of_body at_slices_Clone_Floor rfl (by show 1 ≤ 8; decide) [(0, .slice a fs.length cap)] ⟨rfl, trivial⟩ ?_
  refine W.seq ?_
  refine W.region rfl ?_
  refine oq (y_assign rfl rfl) rfl wn rfl rfl ?_
  refine Ops.nil ?_
  refine thn_n ?_
  refine W.seq ?_
  refine W.seq ?_
  refine W.region rfl ?_
  refine oq (y_move rfl rfl) rfl wn rfl rfl ?_
  --abs B
  refine oq (y_slNil rfl rfl) rfl wn rfl rfl ?_
  refine Ops.nil ?_
  refine thn_n ?_
  refine W.cond rfl (fun c4 => ?_) (fun c4 => ?_)
  · refine W.seq ?_
    refine W.region rfl ?_
    refine oq (y_assign rfl rfl) rfl wn rfl rfl ?_
    refine Ops.nil ?_
    refine thn_n ?_
    refine W.ret ?_
    refine thn_r ?_
    have : fs = [] := by
      cases a with
      | some a => cases c4
      | none =>
        rcases hss : fs with _ | ⟨x, r⟩
        · rfl
        · obtain ⟨b, off, c, E, fz, e, _⟩ := hs.at (i := 0) (p := x) (by rw [hss]; rfl)
          cases e
    subst this
    exact lvt (vs := [.slice none 0 0]) ⟨[], .nil .nil, .refl⟩
  · refine W.skip ?_
    refine thn_n ?_
    refine W.seq ?_
    refine W.region rfl ?_
    refine Ops.bsl0 (fun β5 => ?_) rfl
    refine oq (y_move rfl rfl) rfl wn rfl rfl ?_
    have hO : Os t_Floor Fl.row (.slice (some ⟨β5, 0, none⟩) 0 0) ([] : List Fl) [(β5, .cells #[] t_Floor (0, 0))] := .inr ⟨β5, #[], 0, [], rfl, rfl, rfl, Nat.le_refl _, Part.all [], .nil⟩
    refine oe rfl wn rfl rfl (e_append (row := Fl.row) (l := []) (l' := fs) rfl rfl rfl hO .all (fun h2 hE hl => hs.ext hE) (by simp; omega) (by decide) rfl (fun v' S' hS' => ?_))
    rw [List.nil_append] at hS'
    refine oq (y_assign rfl rfl) rfl wn rfl rfl ?_
    refine Ops.nil ?_
    refine thn_n ?_
    refine W.ret ?_
    exact lvt (vs := [v']) ⟨S', hS', .refl⟩

/-- A floor's cells. -/
theorem Part.setR {α : Type} {row : α → List Value} {w : Nat} [Rw row w] {c : Array Value} {l : List α} {j : Nat} {p : α} (q : α) (k : Nat) (x : Value) (hk : k < w) (h : Part c 0 (flat row l)) (hj : l[j]? = some p) (hq : row q = (row p).set k x) : Part (c.setIfInBounds (j * w + k) x) 0 (flat row (l.set j q)) := by
  obtain ⟨pre, post, h1, h2⟩ := h
  have : pre = [] := List.length_eq_zero_iff.1 h2
  subst this
  refine ⟨[], post, ?_, rfl⟩
  have hlt : j < l.length := lt_of_get hj
  have hlen : j * w + k < (flat row l).length := by
    rw [flat_len]
    have : (j + 1) * w ≤ l.length * w := Nat.mul_le_mul_right _ hlt
    rw [Nat.succ_mul] at this; omega
  simp only [Array.toList_setIfInBounds, h1, List.nil_append]
  rw [List.set_append_left _ _ hlen]
  congr 1
  clear h1 h2 hlen
  induction l generalizing j with
  | nil => simp at hj
  | cons a l ih =>
    cases j with
    | zero =>
      simp only [List.getElem?_cons_zero, Option.some.injEq] at hj
      subst hj
      simp only [flat_cons, List.set_cons_zero, Nat.zero_mul, Nat.zero_add]
      rw [List.set_append_left _ _ (by rw [Rw.len]; exact hk), hq]
    | succ j =>
      have := ih (j := j) (by simpa using hj) (by simpa using hlt)
      simp only [List.set_cons_succ, flat_cons]
      rw [← this, List.set_append_right _ _ (by rw [Rw.len, Nat.succ_mul]; omega)]
      congr 2
      rw [Rw.len, Nat.succ_mul]; omega

theorem begin_fn (main : Side) (h : Hp) (fs : List Fl) (ss : List St) (f : Int) (vf vs : Value) (hf : Sl h Fl.row vf fs) (hs : Sl h St.row vs ss) (hck : ckPlant fs ss = 0) (hf0 : 0 ≤ f ∧ f < fs.length) : Pu prog main n_floor_begin #[.agg #[vf, vs], I f] h (I 0) := by
  have hn := (hall_ck hck).nf
  obtain ⟨a, cap, rfl⟩ := hf.isSl
  obtain ⟨a', cap', rfl⟩ := hs.isSl
  refine Fnc.of_body at_floor_begin rfl (by show 2 ≤ 17; decide) [(0, .agg #[.slice a fs.length cap, .slice a' ss.length cap']), (1, I f)] ⟨rfl, rfl, trivial⟩ ?_
  refine W.seq ?_
  refine W.region rfl ?_
  refine Ops.box (fun β2 => ?_)
  refine oq (y_assign rfl rfl) rfl wn rfl rfl ?_
  refine Ops.nil ?_
  refine thn_n ?_
  refine W.seq ?_
  refine W.seq ?_
  refine W.region rfl ?_
  first | refine oq (yldW rfl rfl) rfl wn rfl rfl ?_ | refine oq (yldA rfl rfl) rfl wn rfl rfl ?_
  refine cp (u := I 0) (fun h' hE hL => by have := Check_fn main h' fs ss _ _ (hf.ext hE) (hs.ext hE); rw [hck] at this; exact this) ?_
  refine oq (y_assign rfl rfl) rfl wn rfl rfl ?_
  refine Ops.nil ?_
  refine thn_n ?_
  refine W.seq ?_
  refine W.region rfl ?_
  refine oq (y_move rfl rfl) rfl wn rfl rfl ?_
  --abs F
  refine oq ((y_neq rfl rfl rfl).eq (u := .bool false) rfl) rfl wn rfl rfl ?_
  refine Ops.nil ?_
  refine thn_n ?_
  refine W.condF ?_
  refine W.skip ?_
  refine thn_n ?_
  refine W.seq ?_
  refine W.seq ?_
  refine W.region rfl ?_
  refine oq (y_move rfl rfl) rfl wn rfl rfl ?_
  refine oq (y_fieldAddr rfl rfl) rfl wn rfl rfl ?_
  refine oq (yld rfl rfl) rfl wn rfl rfl ?_
  refine oq (y_len rfl rfl) rfl wn rfl rfl ?_
  first | refine oq (ysub rfl rfl rfl) rfl wn rfl rfl ?_ | refine oq (y_subw rfl rfl rfl) rfl wn rfl rfl ?_
  --abs F
  refine cp (u := .bool false) (fun h' hE hL => ?_) ?_
  · have := outside_fn main h' f 0 ((fs.length : Int) - 1)
    rw [decide_eq_false (show ¬ outs f 0 ((fs.length : Int) - 1) by unfold outs; omega)] at this
    exact this
  refine Ops.nil ?_
  refine thn_n ?_
  refine W.condF ?_
  refine W.skip ?_
  refine thn_n ?_
  refine W.seq ?_
  refine W.region rfl ?_
  refine oq (y_assign rfl rfl) rfl wn rfl rfl ?_
  refine Ops.nil ?_
  refine thn_n ?_
  refine W.ret ?_
  exact lvp rfl

/-- What a change of a floor comes to. -/
def ChgV (main : Side) (fv : Value) (upd : Fl → Fl) (h : Hp) : Prop :=
  ∀ h', Ext h h' → ∀ (b : Nat) (c : Array Value) (l : List Fl) (i : Nat) (f : Fl), l[i]? = some f → Part c 0 (flat Fl.row l) → CallV prog main fv [.pointer (some ⟨b, 0 + i * 4, none⟩)] h' [(b, .cells c t_Floor (0, 0))] (fun _ A => ∃ c', c'.size = c.size ∧ Part c' 0 (flat Fl.row (l.set i (upd f))) ∧ Sb [(b, .cells c' t_Floor (0, 0))] A)

theorem changed_fn (main : Side) (h : Hp) (fs : List Fl) (ss : List St) (f : Int) (x : Fl) (vf vs fv : Value) (upd : Fl → Fl) (hf : Sl h Fl.row vf fs) (hs : Sl h St.row vs ss) (hfn : one fv = true) (hn : fs.length ≤ 2) (hf0 : 0 ≤ f) (hx : fs[f.toNat]? = some x) (hc : ChgV main fv upd h) : Fnc prog main n_floor_changed #[.agg #[vf, vs], I f, fv] h [] (fun v A => ∃ vf' S, v = .agg #[vf', vs] ∧ Os t_Floor Fl.row vf' (fs.set f.toNat (upd x)) S ∧ Sb S A) := by
  obtain ⟨a, cap, rfl⟩ := hf.isSl
  obtain ⟨a', cap', rfl⟩ := hs.isSl
  refine Fnc.of_body at_floor_changed rfl (by show 3 ≤ 18; decide) [(0, .agg #[.slice a fs.length cap, .slice a' ss.length cap']), (1, I f), (2, fv)] ⟨rfl, rfl, rfl, trivial⟩ ?_
  refine W.seq ?_
  refine W.region rfl ?_
  refine Ops.box (cs := #[.slice a fs.length cap, .slice a' ss.length cap']) (fun β3 => ?_) rfl rfl rfl
  refine Ops.new (fun β6 => ?_)
  refine Ops.nil ?_
  refine thn_n ?_
  refine W.seq ?_
  refine W.region rfl ?_
  refine oq (y_fieldAddr rfl rfl) rfl wn rfl rfl ?_
  refine oq (yld rfl rfl) rfl wn rfl rfl ?_
  refine c0 (fun h' hE hL => cloneF_fn _ h' fs _ (hf.ext hE) (by omega)) (fun v A' hv => ?_)
  obtain ⟨S, hS, hsb⟩ := hv
  refine Ops.sb (hsb.app .refl) ?_
  refine Ops.perm (List.perm_append_comm (l₁ := [_, _])) ?_
  obtain ⟨a3, cap3, rfl⟩ := hS.isSl
  rcases hS with ⟨hnil, _, _⟩ | ⟨β, c, cp, J, hv, rfl, hc1, hc2, hP, hJ⟩
  · rw [hnil] at hx; simp at hx
  obtain ⟨rfl, rfl⟩ : a3 = some ⟨β, 0, none⟩ ∧ cap3 = cp := by injection hv with e1 e2 e3; exact ⟨e1, e3⟩
  obtain ⟨k, rfl⟩ : ∃ k : Nat, f = k := ⟨f.toNat, by omega⟩
  rw [Int.toNat_natCast] at hx
  have hk := lt_of_get hx
  refine oq (y_fieldAddr rfl rfl) rfl wn rfl rfl ?_
  refine Ops.sto ?_
  refine Ops.nil ?_
  refine thn_n ?_
  refine W.seq ?_
  refine W.region rfl ?_
  refine oq (y_move rfl rfl) rfl wn rfl rfl ?_
  refine oq (y_fieldAddr rfl rfl) rfl wn rfl rfl ?_
  refine oq (yld rfl rfl) rfl wn rfl rfl ?_
  refine oq (y_move rfl rfl) rfl wn rfl rfl ?_
  first | refine oq (yix rfl rfl rfl) rfl wn rfl rfl ?_ | refine oq (yixI rfl rfl rfl) rfl wn rfl rfl ?_
  refine oe rfl wn rfl rfl (e_callV (A := [(β, .cells c t_Floor (0, 0))]) (args := [_]) rfl rfl rfl (.tail (.tail .head)) (fun h' hE hL => hc h' hE β c fs k x hx hP) (fun v A' hv => ?_))
  obtain ⟨c', hs', hP', hsb'⟩ := hv
  refine Ops.sb (.cons (.cons (hsb'.app .refl))) ?_
  refine Ops.nil ?_
  refine thn_n ?_
  refine W.seq ?_
  refine W.region rfl ?_
  first | refine oq (yldW rfl rfl) rfl wn rfl rfl ?_ | refine oq (yldA rfl rfl) rfl wn rfl rfl ?_
  first | refine Ops.stoW ?_ | refine Ops.stoA ?_
  refine Ops.nil ?_
  refine thn_n ?_
  refine W.ret ?_
  refine lvc (hv := rAgg rNil) ⟨_, (β, .cells c' t_Floor (0, 0)) :: J, rfl, .inr ⟨β, c', cap3, J, ?_, rfl, by rw [hs']; exact hc1, by simpa using hc2, by simpa using hP', hJ⟩, .skip rfl (.skip rfl .refl)⟩
  simp

/-! Places -/
def plF (n : Int) (f : Fl) : Fl := ⟨n, f.lo, f.hi, f.co⟩
def flS (fs : List Fl) (f : Int) (g : Fl → Fl) : List Fl := fs.set f.toNat (g (flAt fs f))
theorem need11_fn (main : Side) (h : Hp) (n : Int) (b3 : Nat) (E3 : TypeId) (z3 : Nat × Nat) (hb : h b3 = some (.cells #[I n] E3 z3)) : ChgV main (.func (.func n_floor_Need_1_1) #[] #[.pointer (some ⟨b3, 0, none⟩)]) (plF n) h := by
  intro h' hE b c l i f hi hP
  have hb' := hE.1 _ _ hb
  have hsz := (hP.rowE hi).2
  refine CallV.of_fn (f := n_floor_Need_1_1) (fi := []) (args := [_]) (ca := [.pointer (some ⟨b3, 0, none⟩)]) ?_
  refine Fnc.of_body at_floor_Need_1_1 rfl (by show 2 ≤ 7; decide) [(0, .pointer (some ⟨b, 0 + i * 4, none⟩)), (1, .pointer (some ⟨b3, 0, none⟩))] ⟨rfl, rfl, trivial⟩ ?_
  refine W.region rfl ?_
  refine oq (y_move rfl rfl) rfl wn rfl rfl ?_
  refine oq (yld rfl rfl) rfl wn rfl rfl ?_
  first | refine oq (y_nilCheck rfl rfl) rfl wn rfl rfl ?_ | refine oq (y_nilCheckF rfl rfl) rfl wn rfl rfl ?_
  refine oq (y_fieldAddr rfl rfl) rfl wn rfl rfl ?_
  refine Ops.sto ?_
  refine Ops.nil ?_
  refine lvt (vs := []) ⟨_, Array.size_setIfInBounds .., ?_, .refl⟩
  have := hP.setR (plF n f) 0 (I n) (by decide) hi rfl
  simpa using this
end Go.Mus

/- How many places a floor needs. Conditions: none; over the given program. -/
namespace Go.Mus
set_option maxRecDepth 100000
set_option maxHeartbeats 4000000

theorem find_numsN_none {q : Int → Bool} {lo : Int} : ∀ (m : Nat), (∀ i : Nat, i < m → q (lo + i) = false) → (numsN lo m).find? q = none
  | 0, _ => rfl
  | m + 1, hn => by
    rw [numsN, List.find?_append, find_numsN_none m fun i hi => hn i (by omega)]
    simp [hn m (by omega)]
theorem find_numsN {q : Int → Bool} {lo : Int} : ∀ (m k : Nat), k < m → q (lo + k) = true → (∀ i : Nat, i < k → q (lo + i) = false) → (numsN lo m).find? q = some (lo + k)
  | 0, k, h, _, _ => by omega
  | m + 1, k, h, hq, hn => by
    rw [numsN, List.find?_append]
    by_cases e : k = m
    · subst e
      rw [find_numsN_none k hn]
      simp [hq]
    · rw [find_numsN m k (by omega) hq hn]; rfl

theorem ckFloors_set : ∀ {fs : List Fl} {i : Nat} {g : Fl}, ckFloors fs = 0 → ckFloor g = 0 → ckFloors (fs.set i g) = 0
  | [], i, g, _, _ => by simp [ckFloors]
  | a :: fs, 0, g, h, hg => by
    simp only [List.set_cons_zero, ckFloors] at h ⊢
    split at h
    · rw [if_pos hg]; exact h
    · rename_i h1; exact absurd h h1
  | a :: fs, i + 1, g, h, hg => by
    simp only [List.set_cons_succ, ckFloors] at h ⊢
    split at h
    · rename_i h1; rw [if_pos h1]; exact ckFloors_set h hg
    · rename_i h1; exact absurd h h1
theorem ckPlant_fl {fs : List Fl} {ss : List St} {i : Nat} {g : Fl} (h : ckPlant fs ss = 0) (hg : ckFloor g = 0) : ckPlant (fs.set i g) ss = 0 := by
  obtain ⟨h1, h2, h3, h4, h5⟩ := ckPlant0 h
  exact ckPlant_mk (by simp; omega) (by simpa using h2) (ckFloors_set h4 hg) h3 h5
theorem flAt_some {fs : List Fl} {f : Int} (h0 : 0 ≤ f) (h1 : f < fs.length) : fs[f.toNat]? = some (flAt fs f) := by
  obtain ⟨x, hx, -⟩ := has (show f.toNat < fs.length by omega)
  simp [flAt, List.getD, hx]
theorem ck_pl {fs : List Fl} {ss : List St} {f n : Int} (h : ckPlant fs ss = 0) (h0 : 0 ≤ f) (h1 : f < fs.length) (hn : 1 ≤ n ∧ n ≤ 9) : ckPlant (flS fs f (plF n)) ss = 0 := by
  have hfl := fl_ok (hall_ck h) h0 h1
  exact ckPlant_fl h (ckFloor_ok (by simp only [plF]; omega) (by simp only [plF]; omega) (by simp only [plF]; omega) (by simp only [plF]; omega))

def needF (fs : List Fl) (ss : List St) (f : Int) : Option Int := (nums 1 9).find? fun n => someR (flS fs f (plF n)) ss boundM
def needV (fs : List Fl) (ss : List St) (f : Int) : Int × Int := match needF fs ss f with | none => (0, 11) | some n => (n, 0)

theorem need1_fn (main : Side) (h : Hp) (fs : List Fl) (ss : List St) (f n : Int) (vf vs : Value) (b1 b2 : Nat) (E1 E2 Eg : TypeId) (z1 z2 zg : Nat × Nat) (hf : Sl h Fl.row vf fs) (hs : Sl h St.row vs ss) (hck : ckPlant fs ss = 0) (hf0 : 0 ≤ f ∧ f < fs.length) (hn : 1 ≤ n ∧ n ≤ 9) (hb1 : h b1 = some (.cells #[vf, vs] E1 z1)) (hb2 : h b2 = some (.cells #[I f] E2 z2)) (hg : h 0 = some (.cells #[rtV t_error] Eg zg)) :
    PuV prog main (.func (.func n_floor_Need_1) #[] #[.pointer (some ⟨b1, 0, none⟩), .pointer (some ⟨b2, 0, none⟩)]) [I n] h (.bool (someR (flS fs f (plF n)) ss boundM)) := by
  refine CallV.of_fn (f := n_floor_Need_1) (fi := []) (args := [_]) (ca := [.pointer (some ⟨b1, 0, none⟩), .pointer (some ⟨b2, 0, none⟩)]) ?_
  have hall := hall_ck (ck_pl hck hf0.1 hf0.2 hn)
  have hnf := (hall_ck hck).nf
  have hx := flAt_some hf0.1 hf0.2
  obtain ⟨a, cap, rfl⟩ := hf.isSl
  obtain ⟨a', cap', rfl⟩ := hs.isSl
  refine Fnc.of_body at_floor_Need_1 rfl (by show 3 ≤ 14; decide) [(0, I n), (1, .pointer (some ⟨b1, 0, none⟩)), (2, .pointer (some ⟨b2, 0, none⟩))] ⟨rfl, rfl, rfl, trivial⟩ ?_
  refine W.seq ?_
  refine W.region rfl ?_
  refine Ops.box (fun β3 => ?_)
  refine oq (y_assign rfl rfl) rfl wn rfl rfl ?_
  refine Ops.nil ?_
  refine thn_n ?_
  refine W.seq ?_
  refine W.region rfl ?_
  first | refine oq (yldW rfl rfl) rfl wn rfl rfl ?_ | refine oq (yldA rfl rfl) rfl wn rfl rfl ?_
  refine oq (yld rfl rfl) rfl wn rfl rfl ?_
  refine oq (y_func rfl rfl rfl) rfl wn rfl rfl ?_
  refine c0 (fun h' hE hL => changed_fn _ h' fs ss f _ _ _ (.func (.func n_floor_Need_1_1) #[] #[.pointer (some ⟨β3, 0, none⟩)]) (plF n) (hf.ext hE) (hs.ext hE) rfl hnf.2 hf0.1 hx (need11_fn _ h' n β3 _ _ (hL β3 _ (.head _)))) (fun v A' hv => ?_)
  obtain ⟨vf2, S, rfl, hS, hsb⟩ := hv
  obtain ⟨a3, cap3, rfl⟩ := hS.isSl
  refine Ops.sb (F' := (β3, .cells #[I n] t_int (0, 0)) :: S) (.trans (.of_perm (List.perm_append_singleton _ _).symm) (hsb.app .refl)) ?_
  refine Ops.new (fun β5 => ?_)
  first | refine Ops.stoW ?_ | refine Ops.stoA ?_
  refine Ops.nil ?_
  refine thn_n ?_
  refine W.seq ?_
  refine W.region rfl ?_
  first | refine oq (yldW rfl rfl) rfl wn rfl rfl ?_ | refine oq (yldA rfl rfl) rfl wn rfl rfl ?_
  refine oq (y_build (cs := #[.slice a3 (fs.set f.toNat (plF n (flAt fs f))).length cap3, .slice a' ss.length cap']) rfl rfl rfl) rfl wn rfl rfl ?_
  refine oq (y_build (cs := #[.slice a3 (fs.set f.toNat (plF n (flAt fs f))).length cap3, .slice a' ss.length cap', .func (.func n_floor_bound) #[] #[]]) rfl rfl rfl) rfl wn rfl rfl ?_
  refine cp (fun h' hE hL => some_fn _ h' (flS fs f (plF n)) ss boundM (.slice a3 (fs.set f.toNat (plF n (flAt fs f))).length cap3) (.slice a' ss.length cap') (.func (.func n_floor_bound) #[] #[]) _ _ (hS.sl fun b o hb => hL b o (.tail _ (.tail _ hb))) (hs.ext hE) rfl hall (bound_may _ h') (hE.1 _ _ hg)) ?_
  refine oq (y_assign rfl rfl) rfl wn rfl rfl ?_
  refine Ops.nil ?_
  refine thn_n ?_
  refine W.ret ?_
  exact lvp (hs := .cons rfl (.cons rfl hS.shut)) rfl

theorem Need_fn (main : Side) (h : Hp) (fs : List Fl) (ss : List St) (f : Int) (vf vs : Value) (Eg : TypeId) (zg : Nat × Nat) (hf : Sl h Fl.row vf fs) (hs : Sl h St.row vs ss) (hck : ckPlant fs ss = 0) (hf0 : 0 ≤ f ∧ f < fs.length) (hg : h 0 = some (.cells #[rtV t_error] Eg zg)) :
    Pu prog main n_floor_Need #[.agg #[vf, vs], I f] h (.tuple #[I (needV fs ss f).1, I (needV fs ss f).2]) := by
  obtain ⟨a, cap, rfl⟩ := hf.isSl
  obtain ⟨a', cap', rfl⟩ := hs.isSl
  refine Fnc.of_body at_floor_Need rfl (by show 2 ≤ 24; decide) [(0, .agg #[.slice a fs.length cap, .slice a' ss.length cap']), (1, I f)] ⟨rfl, rfl, trivial⟩ ?_
  refine W.seq ?_
  refine W.region rfl ?_
  refine Ops.box (cs := #[.slice a fs.length cap, .slice a' ss.length cap']) (fun β2 => ?_) rfl rfl rfl
  refine Ops.box (fun β3 => ?_)
  refine oq (y_assign rfl rfl) rfl wn rfl rfl ?_
  refine oq (y_assign rfl rfl) rfl wn rfl rfl ?_
  refine Ops.nil ?_
  refine thn_n ?_
  refine W.seq ?_
  refine W.seq ?_
  refine W.region rfl ?_
  first | refine oq (yldW rfl rfl) rfl wn rfl rfl ?_ | refine oq (yldA rfl rfl) rfl wn rfl rfl ?_
  refine oq (yld rfl rfl) rfl wn rfl rfl ?_
  refine cp (fun h' hE hL => begin_fn _ h' fs ss f _ _ (hf.ext hE) (hs.ext hE) hck hf0) ?_
  refine oq (y_assign rfl rfl) rfl wn rfl rfl ?_
  refine Ops.nil ?_
  refine thn_n ?_
  refine W.seq ?_
  refine W.region rfl ?_
  refine oq (y_move rfl rfl) rfl wn rfl rfl ?_
  --abs F
  refine oq ((y_neq rfl rfl rfl).eq (u := .bool false) rfl) rfl wn rfl rfl ?_
  refine Ops.nil ?_
  refine thn_n ?_
  refine W.condF ?_
  refine W.skip ?_
  refine thn_n ?_
  refine W.seq ?_
  refine W.region rfl ?_
  refine c0 (fun h' hE hL => numbers_fn _ h' 1 9 (by decide) (by decide) (by decide)) (fun v A' hv => ?_)
  obtain ⟨S, hS, hsb⟩ := hv
  refine Ops.sb (hsb.app .refl) ?_
  refine oq (y_func rfl rfl rfl) rfl wn rfl rfl ?_
  refine cp (u := firstV (needF fs ss f)) (fun h' hE hL => first_fn _ h' (nums 1 9) v _ (fun n => someR (flS fs f (plF n)) ss boundM) (hS.sl fun b o hb => hL b o (List.mem_append_left _ hb)) (by rw [nums, numsN_len]; decide) (fun h2 e n hn => ?_)) ?_
  · have hnr : 1 ≤ n ∧ n ≤ 9 := by simp [nums, numsN] at hn; omega
    exact need1_fn _ h2 fs ss f n _ _ β2 β3 _ _ Eg _ _ zg ((hf.ext hE).ext e) ((hs.ext hE).ext e) hck hf0 hnr (e.1 _ _ (hL β2 _ (List.mem_append_right _ (.tail _ (.head _))))) (e.1 _ _ (hL β3 _ (List.mem_append_right _ (.head _)))) (e.1 _ _ (hE.1 _ _ hg))
  refine oq (y_move rfl rfl) rfl wn rfl rfl ?_
  refine oq (y_extract rfl rfl rfl) rfl wn rfl rfl ?_
  --abs B
  refine oq (y_extract rfl rfl rfl) rfl wn rfl rfl ?_
  refine oq (y_assign rfl rfl) rfl wn rfl rfl ?_
  refine oq (y_assign rfl rfl) rfl wn rfl rfl ?_
  refine Ops.nil ?_
  refine thn_n ?_
  refine W.seq ?_
  refine W.seq ?_
  refine W.region rfl ?_
  refine oq (y_move rfl rfl) rfl wn rfl rfl ?_
  refine oq (y_not rfl rfl) rfl wn rfl rfl ?_
  refine Ops.nil ?_
  refine thn_n ?_
  refine W.cond rfl (fun c22 => ?_) (fun c22 => ?_)
  · refine W.seq ?_
    refine W.region rfl ?_
    refine oq (y_assign rfl rfl) rfl wn rfl rfl ?_
    refine oq (y_assign rfl rfl) rfl wn rfl rfl ?_
    refine Ops.nil ?_
    refine thn_n ?_
    refine W.ret ?_
    refine thn_r ?_
    refine lvp (hs := hS.shut.app (.cons rfl (.cons rfl .nil))) ?_
    have : needF fs ss f = none := by simpa using c22
    rw [needV, this]; rfl
  · refine W.skip ?_
    refine thn_n ?_
    refine W.seq ?_
    refine W.region rfl ?_
    refine oq (y_move rfl rfl) rfl wn rfl rfl ?_
    refine oq (y_assign rfl rfl) rfl wn rfl rfl ?_
    refine oq (y_assign rfl rfl) rfl wn rfl rfl ?_
    refine Ops.nil ?_
    refine thn_n ?_
    refine W.ret ?_
    refine lvp (hs := hS.shut.app (.cons rfl (.cons rfl .nil))) ?_
    obtain ⟨n, hn⟩ : ∃ n, needF fs ss f = some n := by
      cases hp : needF fs ss f with
      | none => rw [hp] at c22; simp at c22
      | some n => exact ⟨n, rfl⟩
    rw [needV, hn]; rfl
end Go.Mus

/- With which places all can be set. Conditions: none; over the given program. -/
namespace Go.Mus
set_option maxRecDepth 100000
set_option maxHeartbeats 4000000

theorem need_at {fs : List Fl} {ss : List St} {f : Int} {k : Nat} (hk : k < 9) (h : someR (flS fs f (plF (1 + (k : Int)))) ss boundM = true) (hall : ∀ i : Nat, i < k → someR (flS fs f (plF (1 + (i : Int)))) ss boundM = false) : needV fs ss f = (1 + (k : Int), 0) := by
  have e : needF fs ss f = some (1 + (k : Int)) := find_numsN (q := fun n => someR (flS fs f (plF n)) ss boundM) (lo := 1) 9 k hk h hall
  rw [needV, e]
theorem need_no {fs : List Fl} {ss : List St} {f : Int} (hall : ∀ i : Nat, i < 9 → someR (flS fs f (plF (1 + (i : Int)))) ss boundM = false) : needV fs ss f = (0, 11) := by
  have e : needF fs ss f = none := find_numsN_none (q := fun n => someR (flS fs f (plF n)) ss boundM) (lo := 1) 9 hall
  rw [needV, e]

theorem FloorNeed_top (main : Side) (hS : ∀ S, main.ok S → ∃ Fin, S = Mn prog Fin) (hmb : main.b = true) (h : Hp) (nums : List Int) (lv : Value) (Eg : TypeId) (zg : Nat × Nat) (hl : Sl h rowI lv nums) (hg : h 0 = some (.cells #[rtV t_error] Eg zg)) (z0 : h.z 0) : TopV prog main n_law_FloorNeed #[lv] h (.bool true) := by
  refine TopV.of_body at_law_FloorNeed rfl (by show 1 ≤ 67; decide) [(0, lv)] ⟨rfl, trivial⟩ ?_
  refine W.seq ?_
  refine W.region rfl ?_
  refine oq (y_assign rfl rfl) rfl wn rfl rfl ?_
  refine Ops.nil ?_
  refine thn_n ?_
  refine W.seq ?_
  refine W.region rfl ?_
  refine oq (y_move rfl rfl) rfl wn rfl rfl ?_
  refine c0 (fun h' hE hL => NewHat_fn _ h' nums lv (hl.ext hE)) (fun v A' hv => ?_)
  obtain ⟨bh, s0, rfl, rfl⟩ := hv
  refine oq (y_assign rfl rfl) rfl wn rfl rfl ?_
  refine Ops.nil ?_
  refine thn_n ?_
  refine W.seq ?_
  refine W.region rfl ?_
  refine oq (y_move rfl rfl) rfl wn rfl rfl ?_
  refine cg (A := [(bh, _)]) .head (fun h' hE hL => PlantOf_fn _ h' nums lv bh s0 3 1 (hl.ext hE) (by decide) (by decide)) (fun v A' hv => ?_)
  obtain ⟨vf, vs, fs, ss, Sf, Ss, k1, s1, rfl, ⟨hOf, hOs⟩, ⟨hck, hn4, hw⟩, hk100, hsb⟩ := hv
  refine Ops.sb (F' := (bh, hatO lv k1 s1) :: (Sf ++ Ss)) (hsb.trans (Sb.right .refl .nil)) ?_
  obtain ⟨a, cap, rfl⟩ := hOf.isSl
  obtain ⟨a', cap', rfl⟩ := hOs.isSl
  have hnf := (hall_ck hck).nf
  refine Ops.new (fun β4 => ?_)
  first | refine Ops.stoW ?_ | refine Ops.stoA ?_
  refine Ops.nil ?_
  refine thn_n ?_
  refine W.seq ?_
  refine W.region rfl ?_
  refine oq (y_move rfl rfl) rfl wn rfl rfl ?_
  refine oq (y_fieldAddr rfl rfl) rfl wn rfl rfl ?_
  refine oq (yld rfl rfl) rfl wn rfl rfl ?_
  refine oq (y_len rfl rfl) rfl wn rfl rfl ?_
  first | refine oq (ysub rfl rfl rfl) rfl wn rfl rfl ?_ | refine oq (y_subw rfl rfl rfl) rfl wn rfl rfl ?_
  refine cg (A := [(bh, _)]) (.tail .head) (fun h' hE hL => To_fn _ h' nums lv bh k1 s1 ((fs.length : Int) - 1) (hl.ext hE) (by omega) (by omega)) (fun v A' hv => ?_)
  obtain ⟨f, s2, rfl, hf0, hsb2⟩ := hv
  refine Ops.sb (F' := (β4, .cells #[.slice a fs.length cap, .slice a' ss.length cap'] t_Plant (0, 0)) :: (Sf ++ Ss)) (.cons (.trans (.skip rfl .refl) (hsb2.app .refl))) ?_
  have hf1 : 0 ≤ f ∧ f < fs.length := by omega
  have hx := flAt_some hf1.1 hf1.2
  refine oq (y_assign rfl rfl) rfl wn rfl rfl ?_
  refine Ops.nil ?_
  refine thn_n ?_
  refine W.seq ?_
  refine W.region rfl ?_
  first | refine oq (yldW rfl rfl) rfl wn rfl rfl ?_ | refine oq (yldA rfl rfl) rfl wn rfl rfl ?_
  refine oq (y_move rfl rfl) rfl wn rfl rfl ?_
  refine cp (fun h' hE hL => Need_fn main h' fs ss f _ _ Eg zg (hOf.sl fun b o hb => hL b o (.tail _ (List.mem_append_left _ hb))) (hOs.sl fun b o hb => hL b o (.tail _ (List.mem_append_right _ hb))) hck hf1 (hE.1 _ _ hg)) ?_
  refine oq (y_move rfl rfl) rfl wn rfl rfl ?_
  refine oq (y_extract rfl rfl rfl) rfl wn rfl rfl ?_
  refine oq (y_extract rfl rfl rfl) rfl wn rfl rfl ?_
  refine oq (y_assign rfl rfl) rfl wn rfl rfl ?_
  refine oq (y_assign rfl rfl) rfl wn rfl rfl ?_
  refine Ops.nil ?_
  refine thn_n ?_
  refine W.seq ?_
  refine W.seq ?_
  refine W.region rfl ?_
  refine oq (y_assign rfl rfl) rfl wn rfl rfl ?_
  refine Ops.nil ?_
  refine thn_n ?_
  refine W.block ?_
  refine W.loop (σ := Nat) (fun k => k ≤ 9 ∧ ∀ i : Nat, i < k → someR (flS fs f (plF (1 + (i : Int)))) ss boundM = false) (fun k => [(8, I (1 + (k : Int))), (7, I (needV fs ss f).2), (6, I (needV fs ss f).1), (5, I f), (4, .pointer (some ⟨β4, 0, none⟩))]) (fun _ => (β4, .cells #[.slice a fs.length cap, .slice a' ss.length cap'] t_Plant (0, 0)) :: (Sf ++ Ss)) (fun k => 9 - k) 0 ⟨by omega, fun i hi => by omega⟩ ⟨rfl, rfl, rfl, rfl, rfl, trivial⟩ .refl ?_
  rintro k ⟨hk9, hall⟩
  refine W.seq ?_
  refine W.seq ?_
  refine W.region rfl ?_
  refine oq (y_move rfl rfl) rfl wn rfl rfl ?_
  refine oq (y_leq rfl rfl rfl) rfl wn rfl rfl ?_
  refine Ops.nil ?_
  refine thn_n ?_
  refine W.condp rfl (fun c29 => ?_) (fun c29 => ?_)
  · have hk8 : k < 9 := by omega
    refine W.skip ?_
    refine thn_n ?_
    refine W.seq ?_
    refine W.block ?_
    refine W.seq ?_
    refine W.region rfl ?_
    first | refine oq (yldW rfl rfl) rfl wn rfl rfl ?_ | refine oq (yldA rfl rfl) rfl wn rfl rfl ?_
    refine c0 (fun h' hE hL => DupPlant_fn _ h' fs ss _ _ (hOf.sl fun b o hb => hL b o (.tail _ (List.mem_append_left _ hb))) (hOs.sl fun b o hb => hL b o (.tail _ (List.mem_append_right _ hb))) (by omega)) (fun v A' hv => ?_)
    obtain ⟨vf2, vs2, Sf2, Ss2, rfl, ⟨hOf2, hOs2⟩, hsb3⟩ := hv
    refine Ops.sb (F' := Sf2 ++ (Ss2 ++ ((β4, .cells #[.slice a fs.length cap, .slice a' ss.length cap'] t_Plant (0, 0)) :: (Sf ++ Ss)))) (by rw [← List.append_assoc]; exact hsb3.app .refl) ?_
    obtain ⟨a2, cap2, rfl⟩ := hOf2.isSl
    obtain ⟨a3, cap3, rfl⟩ := hOs2.isSl
    rcases hOf2 with ⟨hnil, _, _⟩ | ⟨β, c, cp, J, hv, rfl, hc1, hc2, hP, hJ⟩
    · rw [hnil] at hnf; simp at hnf
    obtain ⟨rfl, rfl⟩ : a2 = some ⟨β, 0, none⟩ ∧ cap2 = cp := by injection hv with e1 e2 e3; exact ⟨e1, e3⟩
    obtain ⟨fn, rfl⟩ : ∃ fn : Nat, f = fn := ⟨f.toNat, by omega⟩
    rw [Int.toNat_natCast] at hx
    have hsz := (hP.rowE hx).2
    refine Ops.new (fun β9 => ?_)
    first | refine Ops.stoW ?_ | refine Ops.stoA ?_
    refine Ops.nil ?_
    refine thn_n ?_
    refine W.seq ?_
    refine W.region rfl ?_
    refine oq (y_fieldAddr rfl rfl) rfl wn rfl rfl ?_
    refine oq (yld rfl rfl) rfl wn rfl rfl ?_
    refine oq (y_move rfl rfl) rfl wn rfl rfl ?_
    refine oq (y_move rfl rfl) rfl wn rfl rfl ?_
    first | refine oq (yix rfl rfl rfl) rfl wn rfl rfl ?_ | refine oq (yixI rfl rfl rfl) rfl wn rfl rfl ?_
    refine oq (y_fieldAddr rfl rfl) rfl wn rfl rfl ?_
    refine Ops.sto ?_
    refine Ops.nil ?_
    refine thn_n ?_
    have hOf3 : Os t_Floor Fl.row (.slice (some ⟨β, 0, none⟩) fs.length cap2) (flS fs fn (plF (1 + (k : Int)))) ((β, .cells (c.setIfInBounds (0 + fn * 4 + 0) (I (1 + (k : Int)))) t_Floor (0, 0)) :: J) := by
      refine .inr ⟨β, _, cap2, J, by simp [flS], rfl, by rw [Array.size_setIfInBounds]; exact hc1, by simpa [flS] using hc2, ?_, hJ⟩
      have := hP.setR (plF (1 + (k : Int)) (flAt fs fn)) 0 (I (1 + (k : Int))) (by decide) hx rfl
      simpa [flS] using this
    refine W.sb (F' := ((β, .cells (c.setIfInBounds (0 + fn * 4 + 0) (I (1 + (k : Int)))) t_Floor (0, 0)) :: J) ++ (Ss2 ++ ((β9, .cells #[.slice (some ⟨β, 0, none⟩) fs.length cap2, .slice a3 ss.length cap3] t_Plant (0, 0)) :: (β4, .cells #[.slice a fs.length cap, .slice a' ss.length cap'] t_Plant (0, 0)) :: (Sf ++ Ss)))) (Sb.of_perm ?_) ?_
    · have := List.perm_middle (a := (β9, Obj.cells #[.slice (some ⟨β, 0, none⟩) fs.length cap2, .slice a3 ss.length cap3] t_Plant (0, 0))) (l₁ := ((β, .cells (c.setIfInBounds (0 + fn * 4 + 0) (I (1 + (k : Int)))) t_Floor (0, 0)) :: J) ++ Ss2) (l₂ := (β4, .cells #[.slice a fs.length cap, .slice a' ss.length cap'] t_Plant (0, 0)) :: (Sf ++ Ss))
      rw [List.append_assoc, List.append_assoc] at this
      exact this
    refine freezeOs hOf3 (fun hx hEx hslf hzf => ?_)
    refine freezeOs hOs2 (fun hy hEy hsls hzs => ?_)
    refine W.seq ?_
    refine W.region rfl ?_
    first | refine oq (yldW rfl rfl) rfl wn rfl rfl ?_ | refine oq (yldA rfl rfl) rfl wn rfl rfl ?_
    refine cp (fun h' hE hL => served_fn _ hS hmb h' (flS fs fn (plF (1 + (k : Int)))) ss (.slice (some ⟨β, 0, none⟩) fs.length cap2) (.slice a3 ss.length cap3) Eg zg (hslf.ext (hEy.trans hE)) (hsls.ext hE) (hzf.ext (hEy.trans hE)) (hzs.ext hE) (ck_pl hck hf1.1 hf1.2 (by omega)) (((hEx.trans hEy).trans hE).1 _ _ hg) (((hEx.trans hEy).trans hE).2 _ z0)) ?_
    refine oq (y_move rfl rfl) rfl wn rfl rfl ?_
    refine oq (y_extract rfl rfl rfl) rfl wn rfl rfl ?_
    refine oq (y_extract rfl rfl rfl) rfl wn rfl rfl ?_
    refine oq (y_assign rfl rfl) rfl wn rfl rfl ?_
    refine oq (y_assign rfl rfl) rfl wn rfl rfl ?_
    refine Ops.nil ?_
    refine thn_n ?_
    refine W.seq ?_
    refine W.seq ?_
    refine W.region rfl ?_
    refine oq (y_move rfl rfl) rfl wn rfl rfl ?_
    --abs F
    refine oq ((y_not rfl rfl).eq (u := .bool false) rfl) rfl wn rfl rfl ?_
    refine Ops.nil ?_
    refine thn_n ?_
    refine W.condF ?_
    refine W.skip ?_
    refine thn_n ?_
    refine W.seq ?_
    refine W.region rfl ?_
    refine oq (y_move rfl rfl) rfl wn rfl rfl ?_
    refine Ops.nil ?_
    refine thn_n ?_
    refine W.cond rfl (fun c47 => ?_) (fun c47 => ?_)
    · have hpat := need_at hk8 c47 hall
      refine W.seq ?_
      refine W.region rfl ?_
      refine oq (y_move rfl rfl) rfl wn rfl rfl ?_
      --abs T
      refine oq ((y_eql rfl rfl rfl).eq (u := .bool true) (congrArg Value.bool (decide_eq_true (by rw [hpat])))) rfl wn rfl rfl ?_
      refine oq (y_move rfl rfl) rfl wn rfl rfl ?_
      refine oq (y_move rfl rfl) rfl (want_some rfl rfl rfl) rfl rfl ?_
      refine oq (y_move rfl rfl) rfl (want_some rfl rfl rfl) rfl rfl ?_
      --abs T
      refine oq ((y_eql rfl rfl rfl).eq (u := .bool true) (congrArg Value.bool (decide_eq_true (by rw [hpat])))) rfl (want_some rfl rfl rfl) rfl rfl ?_
      refine oq (y_pickT rfl rfl rfl) rfl wn rfl rfl ?_
      refine oq (y_move rfl rfl) rfl wn rfl rfl ?_
      --abs T
      refine cp (fun h' hE hL => exs_fn _ hS hmb h' Eg zg (((hEx.trans hEy).trans hE).1 _ _ hg) (((hEx.trans hEy).trans hE).2 _ z0)) ?_ (hw := want_some rfl rfl rfl)
      refine oq (y_pickT rfl rfl rfl) rfl wn rfl rfl ?_
      refine oq (y_assign rfl rfl) rfl wn rfl rfl ?_
      refine Ops.nil ?_
      refine thn_n ?_
      refine W.ret ?_
      refine blk_r ?_
      refine thn_r ?_
      refine thn_r ?_
      refine blk_r ?_
      refine thn_r ?_
      exact lvq (hs := .cons rfl (.cons rfl (hOf.shut.app hOs.shut))) rfl
    · refine W.skip ?_
      refine blk_n ?_
      refine thn_n ?_
      refine W.region rfl ?_
      refine oq (y_move rfl rfl) rfl wn rfl rfl ?_
      first | refine oq (yadd rfl rfl rfl) rfl wn rfl rfl ?_ | refine oq (y_addw rfl rfl rfl) rfl wn rfl rfl ?_
      refine oq (y_assign rfl rfl) rfl wn rfl rfl ?_
      refine Ops.nil ?_
      refine thn_n ?_
      refine ⟨rfl, k + 1, ⟨by omega, fun j hj => ?_⟩, by omega, ⟨lk rfl (show I _ = I _ by congr 1), rfl, rfl, rfl, rfl, trivial⟩, .skip rfl .refl⟩
      by_cases e : j = k
      · subst e; exact c47
      · exact hall j (by omega)
  · have hpat := need_no (fun i hi => hall i (by omega))
    refine W.exit ?_
    refine thn_x ?_
    refine thn_x ?_
    refine blk_x ?_
    refine thn_n ?_
    refine W.seq ?_
    refine W.region rfl ?_
    refine oq (y_move rfl rfl) rfl wn rfl rfl ?_
    --abs T
    refine oq ((y_eql rfl rfl rfl).eq (u := .bool true) (congrArg Value.bool (decide_eq_true (by rw [hpat])))) rfl wn rfl rfl ?_
    refine oq (y_move rfl rfl) rfl wn rfl rfl ?_
    refine oq (y_move rfl rfl) rfl (want_some rfl rfl rfl) rfl rfl ?_
    --abs T
    refine oq ((y_eql rfl rfl rfl).eq (u := .bool true) (congrArg Value.bool (decide_eq_true (by rw [hpat])))) rfl (want_some rfl rfl rfl) rfl rfl ?_
    refine oq (y_pickT rfl rfl rfl) rfl wn rfl rfl ?_
    refine oq (y_move rfl rfl) rfl wn rfl rfl ?_
    --abs T
    refine cp (fun h' hE hL => exs_fn _ hS hmb h' Eg zg (hE.1 _ _ hg) (hE.2 _ z0)) ?_ (hw := want_some rfl rfl rfl)
    refine oq (y_pickT rfl rfl rfl) rfl wn rfl rfl ?_
    refine oq (y_assign rfl rfl) rfl wn rfl rfl ?_
    refine Ops.nil ?_
    refine thn_n ?_
    refine W.ret ?_
    exact lvq (hs := .cons rfl (hOf.shut.app hOs.shut)) rfl
end Go.Mus

/- FloorNeed's card. Conditions: as the card says; over the given program. -/
namespace Go.Proofs.YtabnpjbnoedfgaaDoor
open Go Go.Mus
set_option maxRecDepth 100000
set_option maxHeartbeats 4000000

theorem floorNeed_row : Rows.FloorNeedSaid :=
  OpenClaim.holds_of_wide_leaving n_law_FloorNeed F_law_FloorNeed rfl rfl rfl rfl rfl rfl rfl ⟨rfl, rfl, rfl, rfl, rfl⟩ rfl rfl rfl rfl rfl (by kernel_rfl) at_law_FloorNeed (by kernel_rfl)
    (of_decide_eq_true (by kernel_rfl)) (by unfold Func.isWrapper; first | (rw [if_pos (by decide +kernel)]; kernel_rfl) | (rw [if_neg (by decide +kernel)]; exact ⟨rfl, rfl⟩))
    (fun os started H enc _ => lift1 (s := Rows.floorNeedSpec) os started H enc at_law_FloorNeed (by kernel_rfl) (by kernel_rfl) (by kernel_rfl) (by kernel_rfl) (by kernel_rfl) rfl (fun _ => rfl)
      (ChangeSpec.witness_at (enc := enc) (C := Tryd.checked) (os := os) (X := fun w _ => laidMetH prog laid0 w) false (laidWorld os) #[.slice none 0 0] 8 rfl (by kernel_rfl) (by kernel_rfl) (by kernel_rfl) (by kernel_rfl) (by kernel_rfl) (laidWorld_met os _))
      (fun main hS hmb h nums lv Eg zg hl hg z0 => FloorNeed_top main hS hmb h nums lv Eg zg hl hg z0))

theorem FloorNeed_card : Rows.FloorNeedCardSaid :=
  tied_goes .later [] [.handle] true (true, "2e2133920f864db8286a366f85eb0bf56b29bab96a3561a4e902e110205c3504") true
    floorNeed_row (fun _ h => by cases h) (by kernel_rfl) (fun _ h => by cases h) floorNeed_row_tie rfl ⟨rfl, rfl⟩ (by kernel_rfl) rfl
    (fun f fn hf hfn => by
      obtain rfl : f = n_law_FloorNeed := (Option.some.inj ((show prog.funcNamed Rows.floorNeedRow.func = some n_law_FloorNeed by kernel_rfl).symm.trans hf)).symm
      obtain rfl : fn = F_law_FloorNeed := (Option.some.inj (at_law_FloorNeed.symm.trans hfn)).symm
      exact ⟨by kernel_rfl, fun j t ht => by
        rw [show (F_law_FloorNeed).params = #[t_sl_int] by kernel_rfl] at ht
        have h3 : t = t_sl_int := by
          rcases j with _ | j
          · simpa using ht.symm
          · simp at ht
        subst h3
        exact (show prog.wantsStandIn t_sl_int = false by kernel_rfl)⟩)
    (by kernel_rfl)
#print axioms FloorNeed_card
end Go.Proofs.YtabnpjbnoedfgaaDoor
