/- Strikes that wait longer; with which patience all can be set. Conditions: none; over the given program. (And 1 texts more.) -/
import Derived.Test.YtabnpjbnoedfgaaDoorP15
import Derived.Test.YtabnpjbnoedfgaaDoorP13
set_option linter.unusedVariables false
set_option linter.unusedSimpArgs false

/- Strikes that wait longer; with which patience all can be set. Conditions: none; over the given program. -/
namespace Go.Mus
set_option maxRecDepth 100000
set_option maxHeartbeats 4000000

theorem ckPlant_wait {fs : List Fl} {ss : List St} {n : Int} (h : ckPlant fs ss = 0) (h0 : 0 ≤ n) (hw : ∀ s ∈ ss, s.wa + n ≤ 3) : ckPlant fs (waitS ss n) = 0 := by
  obtain ⟨h1, h2, h3, h4, h5⟩ := ckPlant0 h
  refine ckPlant_mk (by omega) h2 h4 (by simpa [waitS] using h3) ?_
  have key : ∀ (l : List St) (b : Int), ckStrikes b l = 0 → (∀ s ∈ l, s.wa + n ≤ 3) → ckStrikes b (waitS l n) = 0 := by
    intro l
    induction l with
    | nil => intro b _ _; rfl
    | cons s l ih =>
      intro b hb hl
      simp only [waitS, List.map_cons, ckStrikes] at hb ⊢
      split at hb
      · rename_i hc
        have hs := ckStrike0 hc
        have hle := hl s (List.mem_cons_self ..)
        have hc' : ckStrike b (waitSt n s) = 0 := by
          unfold ckStrike waitSt outs
          rw [if_neg (by simp only; omega), if_neg (by simp only; omega)]
        rw [if_pos hc']
        exact ih _ hb fun t ht => hl t (List.mem_cons_of_mem _ ht)
      · rename_i hc; exact absurd hb hc
  exact key ss 0 h5 hw

theorem Ops.freezeOs {x : Cx} {ops : Array Oper} {td : List Nat} {Q : Post} {ρ : Env} {ds : List Deferred} {A F : Frag} {α : Type} {row : α → List Value} {w : Nat} [Rw row w] {E : TypeId} {v : Value} {l : List α} (hs : Os E row v l A)
    (H : ∀ h', Ext x.h h' → Sl h' row v l → Zs h' v → Ops { x with h := h' } ops td Q ρ ds F) : Ops x ops td Q ρ ds (A ++ F) := by
  rcases hs with ⟨rfl, rfl, hsh⟩ | ⟨β, cc, cap, J, rfl, rfl, h1, h2, h3, hsh⟩
  · exact Ops.sb (Sb.left .refl hsh) (H x.h ⟨fun _ _ q => q, fun _ q => q⟩ .nil (fun b off n cap e => by cases e))
  · refine Ops.freeze (b := β) rfl fun h' hE hb hz => ?_
    refine Ops.sb (F' := F) (Sb.left .refl hsh) (H h' hE (.mk hb rfl h3) (fun b off n cap e => by cases e; exact hz))
theorem Waiting_fn (main : Side) (h : Hp) (fs : List Fl) (ss : List St) (n : Int) (vf vs : Value) (hf : Sl h Fl.row vf fs) (hs : Sl h St.row vs ss) (hck : ckPlant fs ss = 0) (hn0 : 0 ≤ n) (hn2 : n ≤ 2) : Fnc prog main n_ref_Waiting #[.agg #[vf, vs], I n] h [] (fun v A => ∃ vs' S, v = .agg #[vf, vs'] ∧ Os t_Strike St.row vs' (waitS ss n) S ∧ Sb S A) := by
  have hn4 := (hall_ck hck).ns
  obtain ⟨a, cap, rfl⟩ := hf.isSl
  obtain ⟨a', cap', rfl⟩ := hs.isSl
  refine Fnc.of_body at_ref_Waiting rfl (by show 2 ≤ 32; decide) [(0, .agg #[.slice a fs.length cap, .slice a' ss.length cap']), (1, I n)] ⟨rfl, rfl, trivial⟩ ?_
  refine W.seq ?_
  refine W.region rfl ?_
  refine Ops.box (fun β2 => ?_) rfl rfl (show (Value.agg #[.slice a fs.length cap, .slice a' ss.length cap']).cells = #[.slice a fs.length cap, .slice a' ss.length cap'] from rfl)
  refine Ops.new (fun β4 => ?_)
  refine Ops.nil ?_
  refine thn_n ?_
  refine W.seq ?_
  refine W.region rfl ?_
  refine Ops.bsl0 (fun β6 => ?_)
  refine oq (y_fieldAddr rfl rfl) rfl wn rfl rfl ?_
  refine oq (yld rfl rfl) rfl wn rfl rfl ?_
  have hO : Os t_Strike St.row (.slice (some ⟨β6, 0, none⟩) 0 0) ([] : List St) [(β6, .cells #[] t_Strike (0, 0))] := .inr ⟨β6, #[], 0, [], rfl, rfl, rfl, Nat.le_refl _, Part.all [], .nil⟩
  refine oe rfl wn rfl rfl (e_append (row := St.row) (l := []) (l' := ss) rfl rfl rfl hO .head (fun h2 hE hl => hs.ext hE) (by simp; omega) (by decide) rfl (fun v' S hS => ?_))
  rw [List.nil_append] at hS
  obtain ⟨a3, cap3, rfl⟩ := hS.isSl
  refine Ops.perm (List.perm_append_comm (l₁ := [_, _])) ?_
  refine oq (y_fieldAddr rfl rfl) rfl wn rfl rfl ?_
  refine Ops.sto ?_
  refine Ops.nil ?_
  refine thn_n ?_
  refine W.seq ?_
  refine W.seq ?_
  refine W.region rfl ?_
  refine oq (y_assign rfl rfl) rfl wn rfl rfl ?_
  refine Ops.nil ?_
  refine thn_n ?_
  refine W.block ?_
  have hS0 : Os t_Strike St.row (.slice a3 ss.length cap3) (waitK ss n 0) S := by simpa [waitK] using hS
  refine W.loop2 (fun (k : Nat) (S' : Frag) => k ≤ ss.length ∧ Os t_Strike St.row (.slice a3 ss.length cap3) (waitK ss n k) S') (fun k S' => [(5, I k), (4, .pointer (some ⟨β4, 0, none⟩)), (2, .pointer (some ⟨β2, 0, none⟩)), (1, I n)]) (fun k S' => (β4, .cells #[.slice none 0 0, .slice none 0 0] t_Plant (0, 0)) :: (β2, .cells #[.slice a fs.length cap, .slice a3 ss.length cap3] t_Plant (0, 0)) :: S') (fun k _ => ss.length - k) 0 S ⟨Nat.zero_le _, hS0⟩ ⟨rfl, rfl, rfl, rfl, trivial⟩ .refl ?_
  rintro k S' ⟨hk, hS'⟩
  refine W.seq ?_
  refine W.seq ?_
  refine W.region rfl ?_
  refine oq (y_move rfl rfl) rfl wn rfl rfl ?_
  refine oq (y_fieldAddr rfl rfl) rfl wn rfl rfl ?_
  refine oq (yld rfl rfl) rfl wn rfl rfl ?_
  refine oq (y_len rfl rfl) rfl wn rfl rfl ?_
  refine oq (y_lss rfl rfl rfl) rfl wn rfl rfl ?_
  refine Ops.nil ?_
  refine thn_n ?_
  refine W.condp rfl (fun c15 => ?_) (fun c15 => ?_)
  · obtain ⟨s, hsk, -⟩ := has (show k < ss.length by omega)
    have hwk := waitK_at (n := n) hsk
    have hso := strike_ok hck hsk
    rcases hS' with ⟨hnil, _, _⟩ | ⟨β, c, cp, J, hv, rfl, hc1, hc2, hP, hJ⟩
    · rw [hnil] at hwk; simp at hwk
    obtain ⟨rfl, rfl⟩ : a3 = some ⟨β, 0, none⟩ ∧ cap3 = cp := by injection hv with e1 e2 e3; exact ⟨e1, e3⟩
    have hw2 : c[0 + k * 3 + 2]? = some (I s.wa) := hP.rowG hwk 2 (by decide)
    have hsz := (hP.rowE hwk).2
    refine W.skip ?_
    refine thn_n ?_
    refine W.seq ?_
    refine W.block ?_
    refine W.drawF (n := 14) rfl ?_
    refine aq (i := 0) (y_fieldAddr rfl rfl) rfl an rfl rfl ?_
    refine aq (i := 1) (yld rfl rfl) rfl an rfl rfl ?_
    refine aq (i := 2) (y_move rfl rfl) rfl an rfl rfl ?_
    refine aq (i := 3) (y_fieldAddr rfl rfl) rfl an rfl rfl ?_
    refine aq (i := 4) (yld rfl rfl) rfl an rfl rfl ?_
    refine aq (i := 5) (y_move rfl rfl) rfl an rfl rfl ?_
    first | refine aq (i := 6) (yix rfl rfl rfl) rfl an rfl rfl ?_ | refine aq (i := 6) (yixI rfl rfl rfl) rfl an rfl rfl ?_
    refine aq (i := 7) (y_fieldAddr rfl rfl) rfl an rfl rfl ?_
    refine aq (i := 8) (yld rfl rfl) rfl an rfl rfl ?_
    refine aq (i := 9) (y_move rfl rfl) rfl an rfl rfl ?_
    refine aq (i := 10) (yadd rfl rfl rfl) rfl an rfl rfl ?_
    first | refine aq (i := 11) (yix rfl rfl rfl) rfl an rfl rfl ?_ | refine aq (i := 11) (yixI rfl rfl rfl) rfl an rfl rfl ?_
    refine aq (i := 12) (y_fieldAddr rfl rfl) rfl an rfl rfl ?_
    refine ae (i := 13) rfl an rfl rfl (eS rfl rfl rfl ?_)
    refine ⟨.inl (by kernel_rfl), ?_⟩
    refine az ?_
    refine blk_n ?_
    refine thn_n ?_
    refine W.region rfl ?_
    refine oq (y_move rfl rfl) rfl wn rfl rfl ?_
    first | refine oq (yadd rfl rfl rfl) rfl wn rfl rfl ?_ | refine oq (y_addw rfl rfl rfl) rfl wn rfl rfl ?_
    refine oq (y_assign rfl rfl) rfl wn rfl rfl ?_
    refine Ops.nil ?_
    refine thn_n ?_
    refine ⟨rfl, k + 1, _, ⟨by omega, .inr ⟨β, _, cap3, J, by rw [waitK_len (by omega)], rfl, by rw [Array.size_setIfInBounds]; exact hc1, by rw [waitK_len (by omega)]; rw [waitK_len (by omega)] at hc2; exact hc2, ?_, hJ⟩⟩, by omega, ⟨rfl, rfl, rfl, rfl, trivial⟩, .refl⟩
    have := hP.setS (x := s.wa + n) hwk
    rw [show (⟨s.day, s.co, s.wa + n⟩ : St) = waitSt n s from rfl, waitK_succ hsk] at this
    exact this
  · have hkl : k = ss.length := by omega
    subst hkl
    have hS2 : Os t_Strike St.row (.slice a3 ss.length cap3) (waitS ss n) S' := by simpa [waitK, waitS] using hS'
    refine W.exit ?_
    refine thn_x ?_
    refine thn_x ?_
    refine blk_x ?_
    refine thn_n ?_
    refine W.seq ?_
    refine W.region rfl ?_
    first | refine oq (yldW rfl rfl) rfl wn rfl rfl ?_ | refine oq (yldA rfl rfl) rfl wn rfl rfl ?_
    first | refine Ops.stoW ?_ | refine Ops.stoA ?_
    refine Ops.nil ?_
    refine thn_n ?_
    refine W.ret ?_
    exact lvc (hv := rAgg rNil) ⟨_, S', rfl, hS2, .skip rfl (.skip rfl .refl)⟩

theorem nums_find {q : Int → Bool} : ((nums 0 2).find? q = none ↔ q 0 = false ∧ q 1 = false ∧ q 2 = false) ∧ (q 0 = true → (nums 0 2).find? q = some 0) ∧ (q 0 = false → q 1 = true → (nums 0 2).find? q = some 1) ∧ (q 0 = false → q 1 = false → q 2 = true → (nums 0 2).find? q = some 2) := by
  have e : nums 0 2 = [0, 1, 2] := rfl
  rw [e]
  cases h0 : q 0 <;> cases h1 : q 1 <;> cases h2 : q 2 <;> simp [List.find?, h0, h1, h2]
theorem pat_at {fs : List Fl} {ss : List St} {k : Nat} (hck : ckPlant fs ss = 0) (hk : k ≤ 2) (h : someR fs (waitS ss (k : Int)) boundM = true) (hall : ∀ i : Nat, i < k → someR fs (waitS ss (i : Int)) boundM = false) : patV fs ss = ((k : Int), 0) := by
  obtain ⟨-, h0, h1, h2⟩ := nums_find (q := fun n => someR fs (waitS ss n) boundM)
  have e : patF fs ss = some (k : Int) := by
    rcases (by omega : k = 0 ∨ k = 1 ∨ k = 2) with rfl | rfl | rfl
    · exact h0 h
    · exact h1 (hall 0 (by omega)) h
    · exact h2 (hall 0 (by omega)) (hall 1 (by omega)) h
  simp only [patV]; rw [if_neg (by simp [hck]), e]
theorem pat_no {fs : List Fl} {ss : List St} (hck : ckPlant fs ss = 0) (hall : ∀ i : Nat, i < 3 → someR fs (waitS ss (i : Int)) boundM = false) : patV fs ss = (0, 11) := by
  have e : patF fs ss = none := nums_find.1.2 ⟨hall 0 (by omega), hall 1 (by omega), hall 2 (by omega)⟩
  simp only [patV]; rw [if_neg (by simp [hck]), e]

theorem FloorPatience_top (main : Side) (hS : ∀ S, main.ok S → ∃ Fin, S = Mn prog Fin) (hmb : main.b = true) (h : Hp) (nums : List Int) (lv : Value) (Eg : TypeId) (zg : Nat × Nat) (hl : Sl h rowI lv nums) (hg : h 0 = some (.cells #[rtV t_error] Eg zg)) (z0 : h.z 0) : TopV prog main n_law_FloorPatience #[lv] h (.bool true) := by
  refine TopV.of_body at_law_FloorPatience rfl (by show 1 ≤ 50; decide) [(0, lv)] ⟨rfl, trivial⟩ ?_
  refine W.seq ?_
  refine W.region rfl ?_
  refine oq (y_assign rfl rfl) rfl wn rfl rfl ?_
  refine Ops.nil ?_
  refine thn_n ?_
  refine W.seq ?_
  refine W.region rfl ?_
  refine oq (y_move rfl rfl) rfl wn rfl rfl ?_
  refine c0 (fun h' hE hL => NewHat_fn _ h' nums lv (hl.ext hE)) (fun v A' hv => ?_)
  obtain ⟨bh, s0, rfl, rfl⟩ := hv
  refine cg (A := [(bh, _)]) .head (fun h' hE hL => PlantOf_fn _ h' nums lv bh s0 3 1 (hl.ext hE) (by decide) (by decide)) (fun v A' hv => ?_)
  obtain ⟨vf, vs, fs, ss, Sf, Ss, k1, s1, rfl, ⟨hOf, hOs⟩, ⟨hck, hn4, hw⟩, -, hsb⟩ := hv
  refine Ops.sb (F' := Sf ++ Ss) ((Sb.skip rfl .refl).trans (hsb.trans (Sb.right .refl .nil))) ?_
  obtain ⟨a, cap, rfl⟩ := hOf.isSl
  obtain ⟨a', cap', rfl⟩ := hOs.isSl
  refine Ops.new (fun β3 => ?_)
  first | refine Ops.stoW ?_ | refine Ops.stoA ?_
  refine Ops.nil ?_
  refine thn_n ?_
  refine W.seq ?_
  refine W.region rfl ?_
  first | refine oq (yldW rfl rfl) rfl wn rfl rfl ?_ | refine oq (yldA rfl rfl) rfl wn rfl rfl ?_
  refine cp (fun h' hE hL => Patience_fn main h' fs ss _ _ Eg zg (hOf.sl fun b o hb => hL b o (.tail _ (List.mem_append_left _ hb))) (hOs.sl fun b o hb => hL b o (.tail _ (List.mem_append_right _ hb))) (hE.1 _ _ hg)) ?_
  refine oq (y_move rfl rfl) rfl wn rfl rfl ?_
  refine oq (y_extract rfl rfl rfl) rfl wn rfl rfl ?_
  refine oq (y_extract rfl rfl rfl) rfl wn rfl rfl ?_
  refine oq (y_assign rfl rfl) rfl wn rfl rfl ?_
  refine oq (y_assign rfl rfl) rfl wn rfl rfl ?_
  refine Ops.nil ?_
  refine thn_n ?_
  refine W.seq ?_
  refine W.sb (F' := Sf ++ (Ss ++ [(β3, .cells #[.slice a fs.length cap, .slice a' ss.length cap'] t_Plant (0, 0))])) (.of_perm (by rw [← List.append_assoc]; exact List.perm_append_singleton _ _)) ?_
  refine freezeOs hOf (fun hx hEx hslf hzf => ?_)
  refine freezeOs hOs (fun hy hEy hsls hzs => ?_)
  refine W.seq ?_
  refine W.region rfl ?_
  refine oq (y_assign rfl rfl) rfl wn rfl rfl ?_
  refine Ops.nil ?_
  refine thn_n ?_
  refine W.block ?_
  refine W.loop (σ := Nat) (fun k => k ≤ 3 ∧ ∀ i : Nat, i < k → someR fs (waitS ss (i : Int)) boundM = false) (fun k => [(6, I k), (5, I (patV fs ss).2), (4, I (patV fs ss).1), (3, .pointer (some ⟨β3, 0, none⟩))]) (fun _ => [(β3, .cells #[.slice a fs.length cap, .slice a' ss.length cap'] t_Plant (0, 0))]) (fun k => 3 - k) 0 ⟨by omega, fun i hi => by omega⟩ ⟨rfl, rfl, rfl, rfl, trivial⟩ .refl ?_
  rintro k ⟨hk3, hall⟩
  refine W.seq ?_
  refine W.seq ?_
  refine W.region rfl ?_
  refine oq (y_move rfl rfl) rfl wn rfl rfl ?_
  refine oq (y_leq rfl rfl rfl) rfl wn rfl rfl ?_
  refine Ops.nil ?_
  refine thn_n ?_
  refine W.condp rfl (fun c18 => ?_) (fun c18 => ?_)
  · refine W.skip ?_
    refine thn_n ?_
    refine W.seq ?_
    refine W.block ?_
    refine W.seq ?_
    refine W.region rfl ?_
    first | refine oq (yldW rfl rfl) rfl wn rfl rfl ?_ | refine oq (yldA rfl rfl) rfl wn rfl rfl ?_
    refine oq (y_move rfl rfl) rfl wn rfl rfl ?_
    refine c0 (fun h' hE hL => Waiting_fn _ h' fs ss k _ _ (hslf.ext ((hEy).trans hE)) (hsls.ext hE) hck (by omega) (by omega)) (fun v A' hv => ?_)
    obtain ⟨vs2, Ss2, rfl, hOs2, hsb⟩ := hv
    obtain ⟨a3, cap3, rfl⟩ := hOs2.isSl
    have hckw := ckPlant_wait (n := (k : Int)) hck (by omega) (fun s hs => by have := hw s hs; omega)
    refine Ops.sb (hsb.app .refl) ?_
    refine Ops.freezeOs hOs2 (fun hz hEz hslz hzz => ?_)
    refine cp (fun h' hE hL => served_fn _ hS hmb h' fs (waitS ss k) (.slice a fs.length cap) (.slice a3 (waitS ss k).length cap3) Eg zg (hslf.ext ((hEy.trans hEz).trans hE)) (hslz.ext hE) (hzf.ext ((hEy.trans hEz).trans hE)) (hzz.ext hE) hckw ((((hEx.trans hEy).trans hEz).trans hE).1 _ _ hg) ((((hEx.trans hEy).trans hEz).trans hE).2 _ z0)) ?_
    refine oq (y_move rfl rfl) rfl wn rfl rfl ?_
    refine oq (y_extract rfl rfl rfl) rfl wn rfl rfl ?_
    refine oq (y_extract rfl rfl rfl) rfl wn rfl rfl ?_
    refine oq (y_assign rfl rfl) rfl wn rfl rfl ?_
    refine oq (y_assign rfl rfl) rfl wn rfl rfl ?_
    refine Ops.nil ?_
    refine thn_n ?_
    refine W.seq ?_
    refine W.seq ?_
    refine W.region rfl ?_
    refine oq (y_move rfl rfl) rfl wn rfl rfl ?_
    --abs F
    refine oq ((y_not rfl rfl).eq (u := .bool false) rfl) rfl wn rfl rfl ?_
    refine Ops.nil ?_
    refine thn_n ?_
    refine W.condF ?_
    refine W.skip ?_
    refine thn_n ?_
    refine W.seq ?_
    refine W.region rfl ?_
    refine oq (y_move rfl rfl) rfl wn rfl rfl ?_
    refine Ops.nil ?_
    refine thn_n ?_
    refine W.cond rfl (fun c30 => ?_) (fun c30 => ?_)
    · have hpat := pat_at hck (by omega) c30 hall
      refine W.seq ?_
      refine W.region rfl ?_
      refine oq (y_move rfl rfl) rfl wn rfl rfl ?_
      --abs T
      refine oq ((y_eql rfl rfl rfl).eq (u := .bool true) (congrArg Value.bool (decide_eq_true (by rw [hpat])))) rfl wn rfl rfl ?_
      refine oq (y_move rfl rfl) rfl wn rfl rfl ?_
      refine oq (y_move rfl rfl) rfl (want_some rfl rfl rfl) rfl rfl ?_
      refine oq (y_move rfl rfl) rfl (want_some rfl rfl rfl) rfl rfl ?_
      --abs T
      refine oq ((y_eql rfl rfl rfl).eq (u := .bool true) (congrArg Value.bool (decide_eq_true (by rw [hpat])))) rfl (want_some rfl rfl rfl) rfl rfl ?_
      refine oq (y_pickT rfl rfl rfl) rfl wn rfl rfl ?_
      refine oq (y_move rfl rfl) rfl wn rfl rfl ?_
      --abs T
      refine cp (fun h' hE hL => exs_fn _ hS hmb h' Eg zg (((hEx.trans hEy).trans hE).1 _ _ hg) (((hEx.trans hEy).trans hE).2 _ z0)) ?_ (hw := want_some rfl rfl rfl)
      refine oq (y_pickT rfl rfl rfl) rfl wn rfl rfl ?_
      refine oq (y_assign rfl rfl) rfl wn rfl rfl ?_
      refine Ops.nil ?_
      refine thn_n ?_
      refine W.ret ?_
      refine blk_r ?_
      refine thn_r ?_
      refine thn_r ?_
      refine blk_r ?_
      refine thn_r ?_
      exact lvq rfl
    · refine W.skip ?_
      refine blk_n ?_
      refine thn_n ?_
      refine W.region rfl ?_
      refine oq (y_move rfl rfl) rfl wn rfl rfl ?_
      first | refine oq (yadd rfl rfl rfl) rfl wn rfl rfl ?_ | refine oq (y_addw rfl rfl rfl) rfl wn rfl rfl ?_
      refine oq (y_assign rfl rfl) rfl wn rfl rfl ?_
      refine Ops.nil ?_
      refine thn_n ?_
      refine ⟨rfl, k + 1, ⟨by omega, fun j hj => ?_⟩, by omega, ⟨rfl, rfl, rfl, rfl, trivial⟩, .refl⟩
      by_cases e : j = k
      · subst e; exact c30
      · exact hall j (by omega)
  · have hpat := pat_no hck (fun i hi => hall i (by omega))
    refine W.exit ?_
    refine thn_x ?_
    refine thn_x ?_
    refine blk_x ?_
    refine thn_n ?_
    refine W.seq ?_
    refine W.region rfl ?_
    refine oq (y_move rfl rfl) rfl wn rfl rfl ?_
    --abs T
    refine oq ((y_eql rfl rfl rfl).eq (u := .bool true) (congrArg Value.bool (decide_eq_true (by rw [hpat])))) rfl wn rfl rfl ?_
    refine oq (y_move rfl rfl) rfl wn rfl rfl ?_
    refine oq (y_move rfl rfl) rfl (want_some rfl rfl rfl) rfl rfl ?_
    --abs T
    refine oq ((y_eql rfl rfl rfl).eq (u := .bool true) (congrArg Value.bool (decide_eq_true (by rw [hpat])))) rfl (want_some rfl rfl rfl) rfl rfl ?_
    refine oq (y_pickT rfl rfl rfl) rfl wn rfl rfl ?_
    refine oq (y_move rfl rfl) rfl wn rfl rfl ?_
    --abs T
    refine cp (fun h' hE hL => exs_fn _ hS hmb h' Eg zg (hE.1 _ _ hg) (hE.2 _ z0)) ?_ (hw := want_some rfl rfl rfl)
    refine oq (y_pickT rfl rfl rfl) rfl wn rfl rfl ?_
    refine oq (y_assign rfl rfl) rfl wn rfl rfl ?_
    refine Ops.nil ?_
    refine thn_n ?_
    refine W.ret ?_
    exact lvq rfl
end Go.Mus

/- FloorPatience's card. Conditions: as the card says; over the given program. -/
namespace Go.Proofs.YtabnpjbnoedfgaaDoor
open Go Go.Mus
set_option maxRecDepth 100000
set_option maxHeartbeats 4000000

theorem floorPatience_row : Rows.FloorPatienceSaid :=
  OpenClaim.holds_of_wide_leaving n_law_FloorPatience F_law_FloorPatience rfl rfl rfl rfl rfl rfl rfl ⟨rfl, rfl, rfl, rfl, rfl⟩ rfl rfl rfl rfl rfl (by kernel_rfl) at_law_FloorPatience (by kernel_rfl)
    (of_decide_eq_true (by kernel_rfl)) (by unfold Func.isWrapper; first | (rw [if_pos (by decide +kernel)]; kernel_rfl) | (rw [if_neg (by decide +kernel)]; exact ⟨rfl, rfl⟩))
    (fun os started H enc _ => lift1 (s := Rows.floorPatienceSpec) os started H enc at_law_FloorPatience (by kernel_rfl) (by kernel_rfl) (by kernel_rfl) (by kernel_rfl) (by kernel_rfl) rfl (fun _ => rfl)
      (ChangeSpec.witness_at (enc := enc) (C := Tryd.checked) (os := os) (X := fun w _ => laidMetH prog laid0 w) false (laidWorld os) #[.slice none 0 0] 8 rfl (by kernel_rfl) (by kernel_rfl) (by kernel_rfl) (by kernel_rfl) (by kernel_rfl) (laidWorld_met os _))
      (fun main hS hmb h nums lv Eg zg hl hg z0 => FloorPatience_top main hS hmb h nums lv Eg zg hl hg z0))

theorem FloorPatience_card : Rows.FloorPatienceCardSaid :=
  tied_goes .later [] [.handle] true (true, "2e2133920f864db8286a366f85eb0bf56b29bab96a3561a4e902e110205c3504") true
    floorPatience_row (fun _ h => by cases h) (by kernel_rfl) (fun _ h => by cases h) floorPatience_row_tie rfl ⟨rfl, rfl⟩ (by kernel_rfl) rfl
    (fun f fn hf hfn => by
      obtain rfl : f = n_law_FloorPatience := (Option.some.inj ((show prog.funcNamed Rows.floorPatienceRow.func = some n_law_FloorPatience by kernel_rfl).symm.trans hf)).symm
      obtain rfl : fn = F_law_FloorPatience := (Option.some.inj (at_law_FloorPatience.symm.trans hfn)).symm
      exact ⟨by kernel_rfl, fun j t ht => by
        rw [show (F_law_FloorPatience).params = #[t_sl_int] by kernel_rfl] at ht
        have h3 : t = t_sl_int := by
          rcases j with _ | j
          · simpa using ht.symm
          · simp at ht
        subst h3
        exact (show prog.wantsStandIn t_sl_int = false by kernel_rfl)⟩)
    (by kernel_rfl)
#print axioms FloorPatience_card
end Go.Proofs.YtabnpjbnoedfgaaDoor
