/- Strikes that wait longer; with which patience all can be set. Conditions: none; over the given program. (And 6 texts more.) -/
import Derived.Test.YtabnpjbnoedfgaaDoorP15
set_option linter.unusedVariables false
set_option linter.unusedSimpArgs false

/- Strikes that wait longer; with which patience all can be set. Conditions: none; over the given program. -/
namespace Go.Mus
set_option maxRecDepth 100000
set_option maxHeartbeats 4000000

theorem ckPlant_wait {fs : List Fl} {ss : List St} {n : Int} (h : ckPlant fs ss = 0) (h0 : 0 ≤ n) (hw : ∀ s ∈ ss, s.wa + n ≤ 3) : ckPlant fs (waitS ss n) = 0 := by
  obtain ⟨h1, h2, h3, h4, h5⟩ := ckPlant0 h
  refine ckPlant_mk (by omega) h2 h4 (by simpa [waitS] using h3) ?_
  have key : ∀ (l : List St) (b : Int), ckStrikes b l = 0 → (∀ s ∈ l, s.wa + n ≤ 3) → ckStrikes b (waitS l n) = 0 := by
    intro l
    induction l with
    | nil => intro b _ _; rfl
    | cons s l ih =>
      intro b hb hl
      simp only [waitS, List.map_cons, ckStrikes] at hb ⊢
      split at hb
      · rename_i hc
        have hs := ckStrike0 hc
        have hle := hl s (List.mem_cons_self ..)
        have hc' : ckStrike b (waitSt n s) = 0 := by
          unfold ckStrike waitSt outs
          rw [if_neg (by simp only; omega), if_neg (by simp only; omega)]
        rw [if_pos hc']
        exact ih _ hb fun t ht => hl t (List.mem_cons_of_mem _ ht)
      · rename_i hc; exact absurd hb hc
  exact key ss 0 h5 hw

theorem Ops.freezeOs {x : Cx} {ops : Array Oper} {td : List Nat} {Q : Post} {ρ : Env} {ds : List Deferred} {A F : Frag} {α : Type} {row : α → List Value} {w : Nat} [Rw row w] {E : TypeId} {v : Value} {l : List α} (hs : Os E row v l A)
    (H : ∀ h', Ext x.h h' → Sl h' row v l → Zs h' v → Ops { x with h := h' } ops td Q ρ ds F) : Ops x ops td Q ρ ds (A ++ F) := by
  rcases hs with ⟨rfl, rfl, hsh⟩ | ⟨β, cc, cap, J, rfl, rfl, h1, h2, h3, hsh⟩
  · exact Ops.sb (Sb.left .refl hsh) (H x.h ⟨fun _ _ q => q, fun _ q => q⟩ .nil (fun b off n cap e => by cases e))
  · refine Ops.freeze (b := β) rfl fun h' hE hb hz => ?_
    refine Ops.sb (F' := F) (Sb.left .refl hsh) (H h' hE (.mk hb rfl h3) (fun b off n cap e => by cases e; exact hz))
theorem Waiting_fn (main : Side) (h : Hp) (fs : List Fl) (ss : List St) (n : Int) (vf vs : Value) (hf : Sl h Fl.row vf fs) (hs : Sl h St.row vs ss) (hck : ckPlant fs ss = 0) (hn0 : 0 ≤ n) (hn2 : n ≤ 2) : Fnc prog main n_ref_Waiting #[.agg #[vf, vs], I n] h [] (fun v A => ∃ vs' S, v = .agg #[vf, vs'] ∧ Os t_Strike St.row vs' (waitS ss n) S ∧ Sb S A) := by
  have hn4 := (hall_ck hck).ns
  obtain ⟨a, cap, rfl⟩ := hf.isSl
  obtain ⟨a', cap', rfl⟩ := hs.isSl
  refine Fnc.of_body at_ref_Waiting rfl (by show 2 ≤ 32; decide) [(0, .agg #[.slice a fs.length cap, .slice a' ss.length cap']), (1, I n)] ⟨rfl, rfl, trivial⟩ ?_
  refine W.seq ?_
  refine W.region rfl ?_
  refine Ops.box (fun β2 => ?_) rfl rfl (show (Value.agg #[.slice a fs.length cap, .slice a' ss.length cap']).cells = #[.slice a fs.length cap, .slice a' ss.length cap'] from rfl)
  refine Ops.new (fun β4 => ?_)
  refine Ops.nil ?_
  refine thn_n ?_
  refine W.seq ?_
  refine W.region rfl ?_
  refine Ops.bsl0 (fun β6 => ?_)
  refine oq (y_fieldAddr rfl rfl) rfl wn rfl rfl ?_
  refine oq (yld rfl rfl) rfl wn rfl rfl ?_
  have hO : Os t_Strike St.row (.slice (some ⟨β6, 0, none⟩) 0 0) ([] : List St) [(β6, .cells #[] t_Strike (0, 0))] := .inr ⟨β6, #[], 0, [], rfl, rfl, rfl, Nat.le_refl _, Part.all [], .nil⟩
  refine oe rfl wn rfl rfl (e_append (row := St.row) (l := []) (l' := ss) rfl rfl rfl hO .head (fun h2 hE hl => hs.ext hE) (by simp; omega) (by decide) rfl (fun v' S hS => ?_))
  rw [List.nil_append] at hS
  obtain ⟨a3, cap3, rfl⟩ := hS.isSl
  refine Ops.perm (List.perm_append_comm (l₁ := [_, _])) ?_
  refine oq (y_fieldAddr rfl rfl) rfl wn rfl rfl ?_
  refine Ops.sto ?_
  refine Ops.nil ?_
  refine thn_n ?_
  refine W.seq ?_
  refine W.seq ?_
  refine W.region rfl ?_
  refine oq (y_assign rfl rfl) rfl wn rfl rfl ?_
  refine Ops.nil ?_
  refine thn_n ?_
  refine W.block ?_
  have hS0 : Os t_Strike St.row (.slice a3 ss.length cap3) (waitK ss n 0) S := by simpa [waitK] using hS
  refine W.loop2 (fun (k : Nat) (S' : Frag) => k ≤ ss.length ∧ Os t_Strike St.row (.slice a3 ss.length cap3) (waitK ss n k) S') (fun k S' => [(5, I k), (4, .pointer (some ⟨β4, 0, none⟩)), (2, .pointer (some ⟨β2, 0, none⟩)), (1, I n)]) (fun k S' => (β4, .cells #[.slice none 0 0, .slice none 0 0] t_Plant (0, 0)) :: (β2, .cells #[.slice a fs.length cap, .slice a3 ss.length cap3] t_Plant (0, 0)) :: S') (fun k _ => ss.length - k) 0 S ⟨Nat.zero_le _, hS0⟩ ⟨rfl, rfl, rfl, rfl, trivial⟩ .refl ?_
  rintro k S' ⟨hk, hS'⟩
  refine W.seq ?_
  refine W.seq ?_
  refine W.region rfl ?_
  refine oq (y_move rfl rfl) rfl wn rfl rfl ?_
  refine oq (y_fieldAddr rfl rfl) rfl wn rfl rfl ?_
  refine oq (yld rfl rfl) rfl wn rfl rfl ?_
  refine oq (y_len rfl rfl) rfl wn rfl rfl ?_
  refine oq (y_lss rfl rfl rfl) rfl wn rfl rfl ?_
  refine Ops.nil ?_
  refine thn_n ?_
  refine W.condp rfl (fun c15 => ?_) (fun c15 => ?_)
  · obtain ⟨s, hsk, -⟩ := has (show k < ss.length by omega)
    have hwk := waitK_at (n := n) hsk
    have hso := strike_ok hck hsk
    rcases hS' with ⟨hnil, _, _⟩ | ⟨β, c, cp, J, hv, rfl, hc1, hc2, hP, hJ⟩
    · rw [hnil] at hwk; simp at hwk
    obtain ⟨rfl, rfl⟩ : a3 = some ⟨β, 0, none⟩ ∧ cap3 = cp := by injection hv with e1 e2 e3; exact ⟨e1, e3⟩
    have hw2 : c[0 + k * 3 + 2]? = some (I s.wa) := hP.rowG hwk 2 (by decide)
    have hsz := (hP.rowE hwk).2
    refine W.skip ?_
    refine thn_n ?_
    refine W.seq ?_
    refine W.block ?_
    refine W.drawF (n := 14) rfl ?_
    refine aq (i := 0) (y_fieldAddr rfl rfl) rfl an rfl rfl ?_
    refine aq (i := 1) (yld rfl rfl) rfl an rfl rfl ?_
    refine aq (i := 2) (y_move rfl rfl) rfl an rfl rfl ?_
    refine aq (i := 3) (y_fieldAddr rfl rfl) rfl an rfl rfl ?_
    refine aq (i := 4) (yld rfl rfl) rfl an rfl rfl ?_
    refine aq (i := 5) (y_move rfl rfl) rfl an rfl rfl ?_
    first | refine aq (i := 6) (yix rfl rfl rfl) rfl an rfl rfl ?_ | refine aq (i := 6) (yixI rfl rfl rfl) rfl an rfl rfl ?_
    refine aq (i := 7) (y_fieldAddr rfl rfl) rfl an rfl rfl ?_
    refine aq (i := 8) (yld rfl rfl) rfl an rfl rfl ?_
    refine aq (i := 9) (y_move rfl rfl) rfl an rfl rfl ?_
    refine aq (i := 10) (yadd rfl rfl rfl) rfl an rfl rfl ?_
    first | refine aq (i := 11) (yix rfl rfl rfl) rfl an rfl rfl ?_ | refine aq (i := 11) (yixI rfl rfl rfl) rfl an rfl rfl ?_
    refine aq (i := 12) (y_fieldAddr rfl rfl) rfl an rfl rfl ?_
    refine ae (i := 13) rfl an rfl rfl (eS rfl rfl rfl ?_)
    refine ⟨.inl (by kernel_rfl), ?_⟩
    refine az ?_
    refine blk_n ?_
    refine thn_n ?_
    refine W.region rfl ?_
    refine oq (y_move rfl rfl) rfl wn rfl rfl ?_
    first | refine oq (yadd rfl rfl rfl) rfl wn rfl rfl ?_ | refine oq (y_addw rfl rfl rfl) rfl wn rfl rfl ?_
    refine oq (y_assign rfl rfl) rfl wn rfl rfl ?_
    refine Ops.nil ?_
    refine thn_n ?_
    refine ⟨rfl, k + 1, _, ⟨by omega, .inr ⟨β, _, cap3, J, by rw [waitK_len (by omega)], rfl, by rw [Array.size_setIfInBounds]; exact hc1, by rw [waitK_len (by omega)]; rw [waitK_len (by omega)] at hc2; exact hc2, ?_, hJ⟩⟩, by omega, ⟨rfl, rfl, rfl, rfl, trivial⟩, .refl⟩
    have := hP.setS (x := s.wa + n) hwk
    rw [show (⟨s.day, s.co, s.wa + n⟩ : St) = waitSt n s from rfl, waitK_succ hsk] at this
    exact this
  · have hkl : k = ss.length := by omega
    subst hkl
    have hS2 : Os t_Strike St.row (.slice a3 ss.length cap3) (waitS ss n) S' := by simpa [waitK, waitS] using hS'
    refine W.exit ?_
    refine thn_x ?_
    refine thn_x ?_
    refine blk_x ?_
    refine thn_n ?_
    refine W.seq ?_
    refine W.region rfl ?_
    first | refine oq (yldW rfl rfl) rfl wn rfl rfl ?_ | refine oq (yldA rfl rfl) rfl wn rfl rfl ?_
    first | refine Ops.stoW ?_ | refine Ops.stoA ?_
    refine Ops.nil ?_
    refine thn_n ?_
    refine W.ret ?_
    exact lvc (hv := rAgg rNil) ⟨_, S', rfl, hS2, .skip rfl (.skip rfl .refl)⟩

theorem nums_find {q : Int → Bool} : ((nums 0 2).find? q = none ↔ q 0 = false ∧ q 1 = false ∧ q 2 = false) ∧ (q 0 = true → (nums 0 2).find? q = some 0) ∧ (q 0 = false → q 1 = true → (nums 0 2).find? q = some 1) ∧ (q 0 = false → q 1 = false → q 2 = true → (nums 0 2).find? q = some 2) := by
  have e : nums 0 2 = [0, 1, 2] := rfl
  rw [e]
  cases h0 : q 0 <;> cases h1 : q 1 <;> cases h2 : q 2 <;> simp [List.find?, h0, h1, h2]
theorem pat_at {fs : List Fl} {ss : List St} {k : Nat} (hck : ckPlant fs ss = 0) (hk : k ≤ 2) (h : someR fs (waitS ss (k : Int)) boundM = true) (hall : ∀ i : Nat, i < k → someR fs (waitS ss (i : Int)) boundM = false) : patV fs ss = ((k : Int), 0) := by
  obtain ⟨-, h0, h1, h2⟩ := nums_find (q := fun n => someR fs (waitS ss n) boundM)
  have e : patF fs ss = some (k : Int) := by
    rcases (by omega : k = 0 ∨ k = 1 ∨ k = 2) with rfl | rfl | rfl
    · exact h0 h
    · exact h1 (hall 0 (by omega)) h
    · exact h2 (hall 0 (by omega)) (hall 1 (by omega)) h
  simp only [patV]; rw [if_neg (by simp [hck]), e]
theorem pat_no {fs : List Fl} {ss : List St} (hck : ckPlant fs ss = 0) (hall : ∀ i : Nat, i < 3 → someR fs (waitS ss (i : Int)) boundM = false) : patV fs ss = (0, 11) := by
  have e : patF fs ss = none := nums_find.1.2 ⟨hall 0 (by omega), hall 1 (by omega), hall 2 (by omega)⟩
  simp only [patV]; rw [if_neg (by simp [hck]), e]

theorem FloorPatience_top (main : Side) (hS : ∀ S, main.ok S → ∃ Fin, S = Mn prog Fin) (hmb : main.b = true) (h : Hp) (nums : List Int) (lv : Value) (Eg : TypeId) (zg : Nat × Nat) (hl : Sl h rowI lv nums) (hg : h 0 = some (.cells #[rtV t_error] Eg zg)) (z0 : h.z 0) : TopV prog main n_law_FloorPatience #[lv] h (.bool true) := by
  refine TopV.of_body at_law_FloorPatience rfl (by show 1 ≤ 50; decide) [(0, lv)] ⟨rfl, trivial⟩ ?_
  refine W.seq ?_
  refine W.region rfl ?_
  refine oq (y_assign rfl rfl) rfl wn rfl rfl ?_
  refine Ops.nil ?_
  refine thn_n ?_
  refine W.seq ?_
  refine W.region rfl ?_
  refine oq (y_move rfl rfl) rfl wn rfl rfl ?_
  refine c0 (fun h' hE hL => NewHat_fn _ h' nums lv (hl.ext hE)) (fun v A' hv => ?_)
  obtain ⟨bh, s0, rfl, rfl⟩ := hv
  refine cg (A := [(bh, _)]) .head (fun h' hE hL => PlantOf_fn _ h' nums lv bh s0 3 1 (hl.ext hE) (by decide) (by decide)) (fun v A' hv => ?_)
  obtain ⟨vf, vs, fs, ss, Sf, Ss, k1, s1, rfl, ⟨hOf, hOs⟩, ⟨hck, hn4, hw⟩, -, hsb⟩ := hv
  refine Ops.sb (F' := Sf ++ Ss) ((Sb.skip rfl .refl).trans (hsb.trans (Sb.right .refl .nil))) ?_
  obtain ⟨a, cap, rfl⟩ := hOf.isSl
  obtain ⟨a', cap', rfl⟩ := hOs.isSl
  refine Ops.new (fun β3 => ?_)
  first | refine Ops.stoW ?_ | refine Ops.stoA ?_
  refine Ops.nil ?_
  refine thn_n ?_
  refine W.seq ?_
  refine W.region rfl ?_
  first | refine oq (yldW rfl rfl) rfl wn rfl rfl ?_ | refine oq (yldA rfl rfl) rfl wn rfl rfl ?_
  refine cp (fun h' hE hL => Patience_fn main h' fs ss _ _ Eg zg (hOf.sl fun b o hb => hL b o (.tail _ (List.mem_append_left _ hb))) (hOs.sl fun b o hb => hL b o (.tail _ (List.mem_append_right _ hb))) (hE.1 _ _ hg)) ?_
  refine oq (y_move rfl rfl) rfl wn rfl rfl ?_
  refine oq (y_extract rfl rfl rfl) rfl wn rfl rfl ?_
  refine oq (y_extract rfl rfl rfl) rfl wn rfl rfl ?_
  refine oq (y_assign rfl rfl) rfl wn rfl rfl ?_
  refine oq (y_assign rfl rfl) rfl wn rfl rfl ?_
  refine Ops.nil ?_
  refine thn_n ?_
  refine W.seq ?_
  refine W.sb (F' := Sf ++ (Ss ++ [(β3, .cells #[.slice a fs.length cap, .slice a' ss.length cap'] t_Plant (0, 0))])) (.of_perm (by rw [← List.append_assoc]; exact List.perm_append_singleton _ _)) ?_
  refine freezeOs hOf (fun hx hEx hslf hzf => ?_)
  refine freezeOs hOs (fun hy hEy hsls hzs => ?_)
  refine W.seq ?_
  refine W.region rfl ?_
  refine oq (y_assign rfl rfl) rfl wn rfl rfl ?_
  refine Ops.nil ?_
  refine thn_n ?_
  refine W.block ?_
  refine W.loop (σ := Nat) (fun k => k ≤ 3 ∧ ∀ i : Nat, i < k → someR fs (waitS ss (i : Int)) boundM = false) (fun k => [(6, I k), (5, I (patV fs ss).2), (4, I (patV fs ss).1), (3, .pointer (some ⟨β3, 0, none⟩))]) (fun _ => [(β3, .cells #[.slice a fs.length cap, .slice a' ss.length cap'] t_Plant (0, 0))]) (fun k => 3 - k) 0 ⟨by omega, fun i hi => by omega⟩ ⟨rfl, rfl, rfl, rfl, trivial⟩ .refl ?_
  rintro k ⟨hk3, hall⟩
  refine W.seq ?_
  refine W.seq ?_
  refine W.region rfl ?_
  refine oq (y_move rfl rfl) rfl wn rfl rfl ?_
  refine oq (y_leq rfl rfl rfl) rfl wn rfl rfl ?_
  refine Ops.nil ?_
  refine thn_n ?_
  refine W.condp rfl (fun c18 => ?_) (fun c18 => ?_)
  · refine W.skip ?_
    refine thn_n ?_
    refine W.seq ?_
    refine W.block ?_
    refine W.seq ?_
    refine W.region rfl ?_
    first | refine oq (yldW rfl rfl) rfl wn rfl rfl ?_ | refine oq (yldA rfl rfl) rfl wn rfl rfl ?_
    refine oq (y_move rfl rfl) rfl wn rfl rfl ?_
    refine c0 (fun h' hE hL => Waiting_fn _ h' fs ss k _ _ (hslf.ext ((hEy).trans hE)) (hsls.ext hE) hck (by omega) (by omega)) (fun v A' hv => ?_)
    obtain ⟨vs2, Ss2, rfl, hOs2, hsb⟩ := hv
    obtain ⟨a3, cap3, rfl⟩ := hOs2.isSl
    have hckw := ckPlant_wait (n := (k : Int)) hck (by omega) (fun s hs => by have := hw s hs; omega)
    refine Ops.sb (hsb.app .refl) ?_
    refine Ops.freezeOs hOs2 (fun hz hEz hslz hzz => ?_)
    refine cp (fun h' hE hL => served_fn _ hS hmb h' fs (waitS ss k) (.slice a fs.length cap) (.slice a3 (waitS ss k).length cap3) Eg zg (hslf.ext ((hEy.trans hEz).trans hE)) (hslz.ext hE) (hzf.ext ((hEy.trans hEz).trans hE)) (hzz.ext hE) hckw ((((hEx.trans hEy).trans hEz).trans hE).1 _ _ hg) ((((hEx.trans hEy).trans hEz).trans hE).2 _ z0)) ?_
    refine oq (y_move rfl rfl) rfl wn rfl rfl ?_
    refine oq (y_extract rfl rfl rfl) rfl wn rfl rfl ?_
    refine oq (y_extract rfl rfl rfl) rfl wn rfl rfl ?_
    refine oq (y_assign rfl rfl) rfl wn rfl rfl ?_
    refine oq (y_assign rfl rfl) rfl wn rfl rfl ?_
    refine Ops.nil ?_
    refine thn_n ?_
    refine W.seq ?_
    refine W.seq ?_
    refine W.region rfl ?_
    refine oq (y_move rfl rfl) rfl wn rfl rfl ?_
    --abs F
    refine oq ((y_not rfl rfl).eq (u := .bool false) rfl) rfl wn rfl rfl ?_
    refine Ops.nil ?_
    refine thn_n ?_
    refine W.condF ?_
    refine W.skip ?_
    refine thn_n ?_
    refine W.seq ?_
    refine W.region rfl ?_
    refine oq (y_move rfl rfl) rfl wn rfl rfl ?_
    refine Ops.nil ?_
    refine thn_n ?_
    refine W.cond rfl (fun c30 => ?_) (fun c30 => ?_)
    · have hpat := pat_at hck (by omega) c30 hall
      refine W.seq ?_
      refine W.region rfl ?_
      refine oq (y_move rfl rfl) rfl wn rfl rfl ?_
      --abs T
      refine oq ((y_eql rfl rfl rfl).eq (u := .bool true) (congrArg Value.bool (decide_eq_true (by rw [hpat])))) rfl wn rfl rfl ?_
      refine oq (y_move rfl rfl) rfl wn rfl rfl ?_
      refine oq (y_move rfl rfl) rfl (want_some rfl rfl rfl) rfl rfl ?_
      refine oq (y_move rfl rfl) rfl (want_some rfl rfl rfl) rfl rfl ?_
      --abs T
      refine oq ((y_eql rfl rfl rfl).eq (u := .bool true) (congrArg Value.bool (decide_eq_true (by rw [hpat])))) rfl (want_some rfl rfl rfl) rfl rfl ?_
      refine oq (y_pickT rfl rfl rfl) rfl wn rfl rfl ?_
      refine oq (y_move rfl rfl) rfl wn rfl rfl ?_
      --abs T
      refine cp (fun h' hE hL => exs_fn _ hS hmb h' Eg zg (((hEx.trans hEy).trans hE).1 _ _ hg) (((hEx.trans hEy).trans hE).2 _ z0)) ?_ (hw := want_some rfl rfl rfl)
      refine oq (y_pickT rfl rfl rfl) rfl wn rfl rfl ?_
      refine oq (y_assign rfl rfl) rfl wn rfl rfl ?_
      refine Ops.nil ?_
      refine thn_n ?_
      refine W.ret ?_
      refine blk_r ?_
      refine thn_r ?_
      refine thn_r ?_
      refine blk_r ?_
      refine thn_r ?_
      exact lvq rfl
    · refine W.skip ?_
      refine blk_n ?_
      refine thn_n ?_
      refine W.region rfl ?_
      refine oq (y_move rfl rfl) rfl wn rfl rfl ?_
      first | refine oq (yadd rfl rfl rfl) rfl wn rfl rfl ?_ | refine oq (y_addw rfl rfl rfl) rfl wn rfl rfl ?_
      refine oq (y_assign rfl rfl) rfl wn rfl rfl ?_
      refine Ops.nil ?_
      refine thn_n ?_
      refine ⟨rfl, k + 1, ⟨by omega, fun j hj => ?_⟩, by omega, ⟨rfl, rfl, rfl, rfl, trivial⟩, .refl⟩
      by_cases e : j = k
      · subst e; exact c30
      · exact hall j (by omega)
  · have hpat := pat_no hck (fun i hi => hall i (by omega))
    refine W.exit ?_
    refine thn_x ?_
    refine thn_x ?_
    refine blk_x ?_
    refine thn_n ?_
    refine W.seq ?_
    refine W.region rfl ?_
    refine oq (y_move rfl rfl) rfl wn rfl rfl ?_
    --abs T
    refine oq ((y_eql rfl rfl rfl).eq (u := .bool true) (congrArg Value.bool (decide_eq_true (by rw [hpat])))) rfl wn rfl rfl ?_
    refine oq (y_move rfl rfl) rfl wn rfl rfl ?_
    refine oq (y_move rfl rfl) rfl (want_some rfl rfl rfl) rfl rfl ?_
    --abs T
    refine oq ((y_eql rfl rfl rfl).eq (u := .bool true) (congrArg Value.bool (decide_eq_true (by rw [hpat])))) rfl (want_some rfl rfl rfl) rfl rfl ?_
    refine oq (y_pickT rfl rfl rfl) rfl wn rfl rfl ?_
    refine oq (y_move rfl rfl) rfl wn rfl rfl ?_
    --abs T
    refine cp (fun h' hE hL => exs_fn _ hS hmb h' Eg zg (hE.1 _ _ hg) (hE.2 _ z0)) ?_ (hw := want_some rfl rfl rfl)
    refine oq (y_pickT rfl rfl rfl) rfl wn rfl rfl ?_
    refine oq (y_assign rfl rfl) rfl wn rfl rfl ?_
    refine Ops.nil ?_
    refine thn_n ?_
    refine W.ret ?_
    exact lvq rfl
end Go.Mus

/- A floor with other places; how many it needs. Conditions: none; over the given program. -/
namespace Go.Mus
set_option maxRecDepth 100000
set_option maxHeartbeats 4000000

theorem cloneF_fn (main : Side) (h : Hp) (fs : List Fl) (vs : Value) (hs : Sl h Fl.row vs fs) (hn : fs.length ≤ 1000) : Fnc prog main n_slices_Clone_Floor #[vs] h [] (fun v A => ∃ S, Os t_Floor Fl.row v fs S ∧ Sb S A) := by
  obtain ⟨a, cap, rfl⟩ := hs.isSl
  refine Fnc.of_body at_slices_Clone_Floor rfl (by show 1 ≤ 8; decide) [(0, .slice a fs.length cap)] ⟨rfl, trivial⟩ ?_
  refine W.seq ?_
  refine W.region rfl ?_
  refine oq (y_assign rfl rfl) rfl wn rfl rfl ?_
  refine Ops.nil ?_
  refine thn_n ?_
  refine W.seq ?_
  refine W.seq ?_
  refine W.region rfl ?_
  refine oq (y_move rfl rfl) rfl wn rfl rfl ?_
  --abs B
  refine oq (y_slNil rfl rfl) rfl wn rfl rfl ?_
  refine Ops.nil ?_
  refine thn_n ?_
  refine W.cond rfl (fun c4 => ?_) (fun c4 => ?_)
  · refine W.seq ?_
    refine W.region rfl ?_
    refine oq (y_assign rfl rfl) rfl wn rfl rfl ?_
    refine Ops.nil ?_
    refine thn_n ?_
    refine W.ret ?_
    refine thn_r ?_
    have : fs = [] := by
      cases a with
      | some a => cases c4
      | none =>
        rcases hss : fs with _ | ⟨x, r⟩
        · rfl
        · obtain ⟨b, off, c, E, fz, e, _⟩ := hs.at (i := 0) (p := x) (by rw [hss]; rfl)
          cases e
    subst this
    exact lvt (vs := [.slice none 0 0]) ⟨[], .nil .nil, .refl⟩
  · refine W.skip ?_
    refine thn_n ?_
    refine W.seq ?_
    refine W.region rfl ?_
    refine Ops.bsl0 (fun β5 => ?_) rfl
    refine oq (y_move rfl rfl) rfl wn rfl rfl ?_
    have hO : Os t_Floor Fl.row (.slice (some ⟨β5, 0, none⟩) 0 0) ([] : List Fl) [(β5, .cells #[] t_Floor (0, 0))] := .inr ⟨β5, #[], 0, [], rfl, rfl, rfl, Nat.le_refl _, Part.all [], .nil⟩
    refine oe rfl wn rfl rfl (e_append (row := Fl.row) (l := []) (l' := fs) rfl rfl rfl hO .all (fun h2 hE hl => hs.ext hE) (by simp; omega) (by decide) rfl (fun v' S' hS' => ?_))
    rw [List.nil_append] at hS'
    refine oq (y_assign rfl rfl) rfl wn rfl rfl ?_
    refine Ops.nil ?_
    refine thn_n ?_
    refine W.ret ?_
    exact lvt (vs := [v']) ⟨S', hS', .refl⟩

/-- A floor's cells. -/
theorem Part.setR {α : Type} {row : α → List Value} {w : Nat} [Rw row w] {c : Array Value} {l : List α} {j : Nat} {p : α} (q : α) (k : Nat) (x : Value) (hk : k < w) (h : Part c 0 (flat row l)) (hj : l[j]? = some p) (hq : row q = (row p).set k x) : Part (c.setIfInBounds (j * w + k) x) 0 (flat row (l.set j q)) := by
  obtain ⟨pre, post, h1, h2⟩ := h
  have : pre = [] := List.length_eq_zero_iff.1 h2
  subst this
  refine ⟨[], post, ?_, rfl⟩
  have hlt : j < l.length := lt_of_get hj
  have hlen : j * w + k < (flat row l).length := by
    rw [flat_len]
    have : (j + 1) * w ≤ l.length * w := Nat.mul_le_mul_right _ hlt
    rw [Nat.succ_mul] at this; omega
  simp only [Array.toList_setIfInBounds, h1, List.nil_append]
  rw [List.set_append_left _ _ hlen]
  congr 1
  clear h1 h2 hlen
  induction l generalizing j with
  | nil => simp at hj
  | cons a l ih =>
    cases j with
    | zero =>
      simp only [List.getElem?_cons_zero, Option.some.injEq] at hj
      subst hj
      simp only [flat_cons, List.set_cons_zero, Nat.zero_mul, Nat.zero_add]
      rw [List.set_append_left _ _ (by rw [Rw.len]; exact hk), hq]
    | succ j =>
      have := ih (j := j) (by simpa using hj) (by simpa using hlt)
      simp only [List.set_cons_succ, flat_cons]
      rw [← this, List.set_append_right _ _ (by rw [Rw.len, Nat.succ_mul]; omega)]
      congr 2
      rw [Rw.len, Nat.succ_mul]; omega

theorem begin_fn (main : Side) (h : Hp) (fs : List Fl) (ss : List St) (f : Int) (vf vs : Value) (hf : Sl h Fl.row vf fs) (hs : Sl h St.row vs ss) (hck : ckPlant fs ss = 0) (hf0 : 0 ≤ f ∧ f < fs.length) : Pu prog main n_floor_begin #[.agg #[vf, vs], I f] h (I 0) := by
  have hn := (hall_ck hck).nf
  obtain ⟨a, cap, rfl⟩ := hf.isSl
  obtain ⟨a', cap', rfl⟩ := hs.isSl
  refine Fnc.of_body at_floor_begin rfl (by show 2 ≤ 17; decide) [(0, .agg #[.slice a fs.length cap, .slice a' ss.length cap']), (1, I f)] ⟨rfl, rfl, trivial⟩ ?_
  refine W.seq ?_
  refine W.region rfl ?_
  refine Ops.box (fun β2 => ?_)
  refine oq (y_assign rfl rfl) rfl wn rfl rfl ?_
  refine Ops.nil ?_
  refine thn_n ?_
  refine W.seq ?_
  refine W.seq ?_
  refine W.region rfl ?_
  first | refine oq (yldW rfl rfl) rfl wn rfl rfl ?_ | refine oq (yldA rfl rfl) rfl wn rfl rfl ?_
  refine cp (u := I 0) (fun h' hE hL => by have := Check_fn main h' fs ss _ _ (hf.ext hE) (hs.ext hE); rw [hck] at this; exact this) ?_
  refine oq (y_assign rfl rfl) rfl wn rfl rfl ?_
  refine Ops.nil ?_
  refine thn_n ?_
  refine W.seq ?_
  refine W.region rfl ?_
  refine oq (y_move rfl rfl) rfl wn rfl rfl ?_
  --abs F
  refine oq ((y_neq rfl rfl rfl).eq (u := .bool false) rfl) rfl wn rfl rfl ?_
  refine Ops.nil ?_
  refine thn_n ?_
  refine W.condF ?_
  refine W.skip ?_
  refine thn_n ?_
  refine W.seq ?_
  refine W.seq ?_
  refine W.region rfl ?_
  refine oq (y_move rfl rfl) rfl wn rfl rfl ?_
  refine oq (y_fieldAddr rfl rfl) rfl wn rfl rfl ?_
  refine oq (yld rfl rfl) rfl wn rfl rfl ?_
  refine oq (y_len rfl rfl) rfl wn rfl rfl ?_
  first | refine oq (ysub rfl rfl rfl) rfl wn rfl rfl ?_ | refine oq (y_subw rfl rfl rfl) rfl wn rfl rfl ?_
  --abs F
  refine cp (u := .bool false) (fun h' hE hL => ?_) ?_
  · have := outside_fn main h' f 0 ((fs.length : Int) - 1)
    rw [decide_eq_false (show ¬ outs f 0 ((fs.length : Int) - 1) by unfold outs; omega)] at this
    exact this
  refine Ops.nil ?_
  refine thn_n ?_
  refine W.condF ?_
  refine W.skip ?_
  refine thn_n ?_
  refine W.seq ?_
  refine W.region rfl ?_
  refine oq (y_assign rfl rfl) rfl wn rfl rfl ?_
  refine Ops.nil ?_
  refine thn_n ?_
  refine W.ret ?_
  exact lvp rfl

/-- What a change of a floor comes to. -/
def ChgV (main : Side) (fv : Value) (upd : Fl → Fl) (h : Hp) : Prop :=
  ∀ h', Ext h h' → ∀ (b : Nat) (c : Array Value) (l : List Fl) (i : Nat) (f : Fl), l[i]? = some f → Part c 0 (flat Fl.row l) → CallV prog main fv [.pointer (some ⟨b, 0 + i * 4, none⟩)] h' [(b, .cells c t_Floor (0, 0))] (fun _ A => ∃ c', c'.size = c.size ∧ Part c' 0 (flat Fl.row (l.set i (upd f))) ∧ Sb [(b, .cells c' t_Floor (0, 0))] A)

theorem changed_fn (main : Side) (h : Hp) (fs : List Fl) (ss : List St) (f : Int) (x : Fl) (vf vs fv : Value) (upd : Fl → Fl) (hf : Sl h Fl.row vf fs) (hs : Sl h St.row vs ss) (hfn : one fv = true) (hn : fs.length ≤ 2) (hf0 : 0 ≤ f) (hx : fs[f.toNat]? = some x) (hc : ChgV main fv upd h) : Fnc prog main n_floor_changed #[.agg #[vf, vs], I f, fv] h [] (fun v A => ∃ vf' S, v = .agg #[vf', vs] ∧ Os t_Floor Fl.row vf' (fs.set f.toNat (upd x)) S ∧ Sb S A) := by
  obtain ⟨a, cap, rfl⟩ := hf.isSl
  obtain ⟨a', cap', rfl⟩ := hs.isSl
  refine Fnc.of_body at_floor_changed rfl (by show 3 ≤ 18; decide) [(0, .agg #[.slice a fs.length cap, .slice a' ss.length cap']), (1, I f), (2, fv)] ⟨rfl, rfl, rfl, trivial⟩ ?_
  refine W.seq ?_
  refine W.region rfl ?_
  refine Ops.box (cs := #[.slice a fs.length cap, .slice a' ss.length cap']) (fun β3 => ?_) rfl rfl rfl
  refine Ops.new (fun β6 => ?_)
  refine Ops.nil ?_
  refine thn_n ?_
  refine W.seq ?_
  refine W.region rfl ?_
  refine oq (y_fieldAddr rfl rfl) rfl wn rfl rfl ?_
  refine oq (yld rfl rfl) rfl wn rfl rfl ?_
  refine c0 (fun h' hE hL => cloneF_fn _ h' fs _ (hf.ext hE) (by omega)) (fun v A' hv => ?_)
  obtain ⟨S, hS, hsb⟩ := hv
  refine Ops.sb (hsb.app .refl) ?_
  refine Ops.perm (List.perm_append_comm (l₁ := [_, _])) ?_
  obtain ⟨a3, cap3, rfl⟩ := hS.isSl
  rcases hS with ⟨hnil, _, _⟩ | ⟨β, c, cp, J, hv, rfl, hc1, hc2, hP, hJ⟩
  · rw [hnil] at hx; simp at hx
  obtain ⟨rfl, rfl⟩ : a3 = some ⟨β, 0, none⟩ ∧ cap3 = cp := by injection hv with e1 e2 e3; exact ⟨e1, e3⟩
  obtain ⟨k, rfl⟩ : ∃ k : Nat, f = k := ⟨f.toNat, by omega⟩
  rw [Int.toNat_natCast] at hx
  have hk := lt_of_get hx
  refine oq (y_fieldAddr rfl rfl) rfl wn rfl rfl ?_
  refine Ops.sto ?_
  refine Ops.nil ?_
  refine thn_n ?_
  refine W.seq ?_
  refine W.region rfl ?_
  refine oq (y_move rfl rfl) rfl wn rfl rfl ?_
  refine oq (y_fieldAddr rfl rfl) rfl wn rfl rfl ?_
  refine oq (yld rfl rfl) rfl wn rfl rfl ?_
  refine oq (y_move rfl rfl) rfl wn rfl rfl ?_
  first | refine oq (yix rfl rfl rfl) rfl wn rfl rfl ?_ | refine oq (yixI rfl rfl rfl) rfl wn rfl rfl ?_
  refine oe rfl wn rfl rfl (e_callV (A := [(β, .cells c t_Floor (0, 0))]) (args := [_]) rfl rfl rfl (.tail (.tail .head)) (fun h' hE hL => hc h' hE β c fs k x hx hP) (fun v A' hv => ?_))
  obtain ⟨c', hs', hP', hsb'⟩ := hv
  refine Ops.sb (.cons (.cons (hsb'.app .refl))) ?_
  refine Ops.nil ?_
  refine thn_n ?_
  refine W.seq ?_
  refine W.region rfl ?_
  first | refine oq (yldW rfl rfl) rfl wn rfl rfl ?_ | refine oq (yldA rfl rfl) rfl wn rfl rfl ?_
  first | refine Ops.stoW ?_ | refine Ops.stoA ?_
  refine Ops.nil ?_
  refine thn_n ?_
  refine W.ret ?_
  refine lvc (hv := rAgg rNil) ⟨_, (β, .cells c' t_Floor (0, 0)) :: J, rfl, .inr ⟨β, c', cap3, J, ?_, rfl, by rw [hs']; exact hc1, by simpa using hc2, by simpa using hP', hJ⟩, .skip rfl (.skip rfl .refl)⟩
  simp

/-! Places -/
def plF (n : Int) (f : Fl) : Fl := ⟨n, f.lo, f.hi, f.co⟩
def flS (fs : List Fl) (f : Int) (g : Fl → Fl) : List Fl := fs.set f.toNat (g (flAt fs f))
theorem need11_fn (main : Side) (h : Hp) (n : Int) (b3 : Nat) (E3 : TypeId) (z3 : Nat × Nat) (hb : h b3 = some (.cells #[I n] E3 z3)) : ChgV main (.func (.func n_floor_Need_1_1) #[] #[.pointer (some ⟨b3, 0, none⟩)]) (plF n) h := by
  intro h' hE b c l i f hi hP
  have hb' := hE.1 _ _ hb
  have hsz := (hP.rowE hi).2
  refine CallV.of_fn (f := n_floor_Need_1_1) (fi := []) (args := [_]) (ca := [.pointer (some ⟨b3, 0, none⟩)]) ?_
  refine Fnc.of_body at_floor_Need_1_1 rfl (by show 2 ≤ 7; decide) [(0, .pointer (some ⟨b, 0 + i * 4, none⟩)), (1, .pointer (some ⟨b3, 0, none⟩))] ⟨rfl, rfl, trivial⟩ ?_
  refine W.region rfl ?_
  refine oq (y_move rfl rfl) rfl wn rfl rfl ?_
  refine oq (yld rfl rfl) rfl wn rfl rfl ?_
  first | refine oq (y_nilCheck rfl rfl) rfl wn rfl rfl ?_ | refine oq (y_nilCheckF rfl rfl) rfl wn rfl rfl ?_
  refine oq (y_fieldAddr rfl rfl) rfl wn rfl rfl ?_
  refine Ops.sto ?_
  refine Ops.nil ?_
  refine lvt (vs := []) ⟨_, Array.size_setIfInBounds .., ?_, .refl⟩
  have := hP.setR (plF n f) 0 (I n) (by decide) hi rfl
  simpa using this
end Go.Mus

/- How many places a floor needs. Conditions: none; over the given program. -/
namespace Go.Mus
set_option maxRecDepth 100000
set_option maxHeartbeats 4000000

theorem find_numsN_none {q : Int → Bool} {lo : Int} : ∀ (m : Nat), (∀ i : Nat, i < m → q (lo + i) = false) → (numsN lo m).find? q = none
  | 0, _ => rfl
  | m + 1, hn => by
    rw [numsN, List.find?_append, find_numsN_none m fun i hi => hn i (by omega)]
    simp [hn m (by omega)]
theorem find_numsN {q : Int → Bool} {lo : Int} : ∀ (m k : Nat), k < m → q (lo + k) = true → (∀ i : Nat, i < k → q (lo + i) = false) → (numsN lo m).find? q = some (lo + k)
  | 0, k, h, _, _ => by omega
  | m + 1, k, h, hq, hn => by
    rw [numsN, List.find?_append]
    by_cases e : k = m
    · subst e
      rw [find_numsN_none k hn]
      simp [hq]
    · rw [find_numsN m k (by omega) hq hn]; rfl

theorem ckFloors_set : ∀ {fs : List Fl} {i : Nat} {g : Fl}, ckFloors fs = 0 → ckFloor g = 0 → ckFloors (fs.set i g) = 0
  | [], i, g, _, _ => by simp [ckFloors]
  | a :: fs, 0, g, h, hg => by
    simp only [List.set_cons_zero, ckFloors] at h ⊢
    split at h
    · rw [if_pos hg]; exact h
    · rename_i h1; exact absurd h h1
  | a :: fs, i + 1, g, h, hg => by
    simp only [List.set_cons_succ, ckFloors] at h ⊢
    split at h
    · rename_i h1; rw [if_pos h1]; exact ckFloors_set h hg
    · rename_i h1; exact absurd h h1
theorem ckPlant_fl {fs : List Fl} {ss : List St} {i : Nat} {g : Fl} (h : ckPlant fs ss = 0) (hg : ckFloor g = 0) : ckPlant (fs.set i g) ss = 0 := by
  obtain ⟨h1, h2, h3, h4, h5⟩ := ckPlant0 h
  exact ckPlant_mk (by simp; omega) (by simpa using h2) (ckFloors_set h4 hg) h3 h5
theorem flAt_some {fs : List Fl} {f : Int} (h0 : 0 ≤ f) (h1 : f < fs.length) : fs[f.toNat]? = some (flAt fs f) := by
  obtain ⟨x, hx, -⟩ := has (show f.toNat < fs.length by omega)
  simp [flAt, List.getD, hx]
theorem ck_pl {fs : List Fl} {ss : List St} {f n : Int} (h : ckPlant fs ss = 0) (h0 : 0 ≤ f) (h1 : f < fs.length) (hn : 1 ≤ n ∧ n ≤ 9) : ckPlant (flS fs f (plF n)) ss = 0 := by
  have hfl := fl_ok (hall_ck h) h0 h1
  exact ckPlant_fl h (ckFloor_ok (by simp only [plF]; omega) (by simp only [plF]; omega) (by simp only [plF]; omega) (by simp only [plF]; omega))

def needF (fs : List Fl) (ss : List St) (f : Int) : Option Int := (nums 1 9).find? fun n => someR (flS fs f (plF n)) ss boundM
def needV (fs : List Fl) (ss : List St) (f : Int) : Int × Int := match needF fs ss f with | none => (0, 11) | some n => (n, 0)

theorem need1_fn (main : Side) (h : Hp) (fs : List Fl) (ss : List St) (f n : Int) (vf vs : Value) (b1 b2 : Nat) (E1 E2 Eg : TypeId) (z1 z2 zg : Nat × Nat) (hf : Sl h Fl.row vf fs) (hs : Sl h St.row vs ss) (hck : ckPlant fs ss = 0) (hf0 : 0 ≤ f ∧ f < fs.length) (hn : 1 ≤ n ∧ n ≤ 9) (hb1 : h b1 = some (.cells #[vf, vs] E1 z1)) (hb2 : h b2 = some (.cells #[I f] E2 z2)) (hg : h 0 = some (.cells #[rtV t_error] Eg zg)) :
    PuV prog main (.func (.func n_floor_Need_1) #[] #[.pointer (some ⟨b1, 0, none⟩), .pointer (some ⟨b2, 0, none⟩)]) [I n] h (.bool (someR (flS fs f (plF n)) ss boundM)) := by
  refine CallV.of_fn (f := n_floor_Need_1) (fi := []) (args := [_]) (ca := [.pointer (some ⟨b1, 0, none⟩), .pointer (some ⟨b2, 0, none⟩)]) ?_
  have hall := hall_ck (ck_pl hck hf0.1 hf0.2 hn)
  have hnf := (hall_ck hck).nf
  have hx := flAt_some hf0.1 hf0.2
  obtain ⟨a, cap, rfl⟩ := hf.isSl
  obtain ⟨a', cap', rfl⟩ := hs.isSl
  refine Fnc.of_body at_floor_Need_1 rfl (by show 3 ≤ 14; decide) [(0, I n), (1, .pointer (some ⟨b1, 0, none⟩)), (2, .pointer (some ⟨b2, 0, none⟩))] ⟨rfl, rfl, rfl, trivial⟩ ?_
  refine W.seq ?_
  refine W.region rfl ?_
  refine Ops.box (fun β3 => ?_)
  refine oq (y_assign rfl rfl) rfl wn rfl rfl ?_
  refine Ops.nil ?_
  refine thn_n ?_
  refine W.seq ?_
  refine W.region rfl ?_
  first | refine oq (yldW rfl rfl) rfl wn rfl rfl ?_ | refine oq (yldA rfl rfl) rfl wn rfl rfl ?_
  refine oq (yld rfl rfl) rfl wn rfl rfl ?_
  refine oq (y_func rfl rfl rfl) rfl wn rfl rfl ?_
  refine c0 (fun h' hE hL => changed_fn _ h' fs ss f _ _ _ (.func (.func n_floor_Need_1_1) #[] #[.pointer (some ⟨β3, 0, none⟩)]) (plF n) (hf.ext hE) (hs.ext hE) rfl hnf.2 hf0.1 hx (need11_fn _ h' n β3 _ _ (hL β3 _ (.head _)))) (fun v A' hv => ?_)
  obtain ⟨vf2, S, rfl, hS, hsb⟩ := hv
  obtain ⟨a3, cap3, rfl⟩ := hS.isSl
  refine Ops.sb (F' := (β3, .cells #[I n] t_int (0, 0)) :: S) (.trans (.of_perm (List.perm_append_singleton _ _).symm) (hsb.app .refl)) ?_
  refine Ops.new (fun β5 => ?_)
  first | refine Ops.stoW ?_ | refine Ops.stoA ?_
  refine Ops.nil ?_
  refine thn_n ?_
  refine W.seq ?_
  refine W.region rfl ?_
  first | refine oq (yldW rfl rfl) rfl wn rfl rfl ?_ | refine oq (yldA rfl rfl) rfl wn rfl rfl ?_
  refine oq (y_build (cs := #[.slice a3 (fs.set f.toNat (plF n (flAt fs f))).length cap3, .slice a' ss.length cap']) rfl rfl rfl) rfl wn rfl rfl ?_
  refine oq (y_build (cs := #[.slice a3 (fs.set f.toNat (plF n (flAt fs f))).length cap3, .slice a' ss.length cap', .func (.func n_floor_bound) #[] #[]]) rfl rfl rfl) rfl wn rfl rfl ?_
  refine cp (fun h' hE hL => some_fn _ h' (flS fs f (plF n)) ss boundM (.slice a3 (fs.set f.toNat (plF n (flAt fs f))).length cap3) (.slice a' ss.length cap') (.func (.func n_floor_bound) #[] #[]) _ _ (hS.sl fun b o hb => hL b o (.tail _ (.tail _ hb))) (hs.ext hE) rfl hall (bound_may _ h') (hE.1 _ _ hg)) ?_
  refine oq (y_assign rfl rfl) rfl wn rfl rfl ?_
  refine Ops.nil ?_
  refine thn_n ?_
  refine W.ret ?_
  exact lvp (hs := .cons rfl (.cons rfl hS.shut)) rfl

theorem Need_fn (main : Side) (h : Hp) (fs : List Fl) (ss : List St) (f : Int) (vf vs : Value) (Eg : TypeId) (zg : Nat × Nat) (hf : Sl h Fl.row vf fs) (hs : Sl h St.row vs ss) (hck : ckPlant fs ss = 0) (hf0 : 0 ≤ f ∧ f < fs.length) (hg : h 0 = some (.cells #[rtV t_error] Eg zg)) :
    Pu prog main n_floor_Need #[.agg #[vf, vs], I f] h (.tuple #[I (needV fs ss f).1, I (needV fs ss f).2]) := by
  obtain ⟨a, cap, rfl⟩ := hf.isSl
  obtain ⟨a', cap', rfl⟩ := hs.isSl
  refine Fnc.of_body at_floor_Need rfl (by show 2 ≤ 24; decide) [(0, .agg #[.slice a fs.length cap, .slice a' ss.length cap']), (1, I f)] ⟨rfl, rfl, trivial⟩ ?_
  refine W.seq ?_
  refine W.region rfl ?_
  refine Ops.box (cs := #[.slice a fs.length cap, .slice a' ss.length cap']) (fun β2 => ?_) rfl rfl rfl
  refine Ops.box (fun β3 => ?_)
  refine oq (y_assign rfl rfl) rfl wn rfl rfl ?_
  refine oq (y_assign rfl rfl) rfl wn rfl rfl ?_
  refine Ops.nil ?_
  refine thn_n ?_
  refine W.seq ?_
  refine W.seq ?_
  refine W.region rfl ?_
  first | refine oq (yldW rfl rfl) rfl wn rfl rfl ?_ | refine oq (yldA rfl rfl) rfl wn rfl rfl ?_
  refine oq (yld rfl rfl) rfl wn rfl rfl ?_
  refine cp (fun h' hE hL => begin_fn _ h' fs ss f _ _ (hf.ext hE) (hs.ext hE) hck hf0) ?_
  refine oq (y_assign rfl rfl) rfl wn rfl rfl ?_
  refine Ops.nil ?_
  refine thn_n ?_
  refine W.seq ?_
  refine W.region rfl ?_
  refine oq (y_move rfl rfl) rfl wn rfl rfl ?_
  --abs F
  refine oq ((y_neq rfl rfl rfl).eq (u := .bool false) rfl) rfl wn rfl rfl ?_
  refine Ops.nil ?_
  refine thn_n ?_
  refine W.condF ?_
  refine W.skip ?_
  refine thn_n ?_
  refine W.seq ?_
  refine W.region rfl ?_
  refine c0 (fun h' hE hL => numbers_fn _ h' 1 9 (by decide) (by decide) (by decide)) (fun v A' hv => ?_)
  obtain ⟨S, hS, hsb⟩ := hv
  refine Ops.sb (hsb.app .refl) ?_
  refine oq (y_func rfl rfl rfl) rfl wn rfl rfl ?_
  refine cp (u := firstV (needF fs ss f)) (fun h' hE hL => first_fn _ h' (nums 1 9) v _ (fun n => someR (flS fs f (plF n)) ss boundM) (hS.sl fun b o hb => hL b o (List.mem_append_left _ hb)) (by rw [nums, numsN_len]; decide) (fun h2 e n hn => ?_)) ?_
  · have hnr : 1 ≤ n ∧ n ≤ 9 := by simp [nums, numsN] at hn; omega
    exact need1_fn _ h2 fs ss f n _ _ β2 β3 _ _ Eg _ _ zg ((hf.ext hE).ext e) ((hs.ext hE).ext e) hck hf0 hnr (e.1 _ _ (hL β2 _ (List.mem_append_right _ (.tail _ (.head _))))) (e.1 _ _ (hL β3 _ (List.mem_append_right _ (.head _)))) (e.1 _ _ (hE.1 _ _ hg))
  refine oq (y_move rfl rfl) rfl wn rfl rfl ?_
  refine oq (y_extract rfl rfl rfl) rfl wn rfl rfl ?_
  --abs B
  refine oq (y_extract rfl rfl rfl) rfl wn rfl rfl ?_
  refine oq (y_assign rfl rfl) rfl wn rfl rfl ?_
  refine oq (y_assign rfl rfl) rfl wn rfl rfl ?_
  refine Ops.nil ?_
  refine thn_n ?_
  refine W.seq ?_
  refine W.seq ?_
  refine W.region rfl ?_
  refine oq (y_move rfl rfl) rfl wn rfl rfl ?_
  refine oq (y_not rfl rfl) rfl wn rfl rfl ?_
  refine Ops.nil ?_
  refine thn_n ?_
  refine W.cond rfl (fun c22 => ?_) (fun c22 => ?_)
  · refine W.seq ?_
    refine W.region rfl ?_
    refine oq (y_assign rfl rfl) rfl wn rfl rfl ?_
    refine oq (y_assign rfl rfl) rfl wn rfl rfl ?_
    refine Ops.nil ?_
    refine thn_n ?_
    refine W.ret ?_
    refine thn_r ?_
    refine lvp (hs := hS.shut.app (.cons rfl (.cons rfl .nil))) ?_
    have : needF fs ss f = none := by simpa using c22
    rw [needV, this]; rfl
  · refine W.skip ?_
    refine thn_n ?_
    refine W.seq ?_
    refine W.region rfl ?_
    refine oq (y_move rfl rfl) rfl wn rfl rfl ?_
    refine oq (y_assign rfl rfl) rfl wn rfl rfl ?_
    refine oq (y_assign rfl rfl) rfl wn rfl rfl ?_
    refine Ops.nil ?_
    refine thn_n ?_
    refine W.ret ?_
    refine lvp (hs := hS.shut.app (.cons rfl (.cons rfl .nil))) ?_
    obtain ⟨n, hn⟩ : ∃ n, needF fs ss f = some n := by
      cases hp : needF fs ss f with
      | none => rw [hp] at c22; simp at c22
      | some n => exact ⟨n, rfl⟩
    rw [needV, hn]; rfl
end Go.Mus

/- What makes plans right more easily, and so the loaves no fewer. Conditions: none. -/
namespace Go.Mus

/-- Where each right plan has one that is as good, the best are as good. -/
theorem best_le {fs fs' : List Fl} {ss ss' : List St} (hall : HallOK fs ss) (hall' : HallOK fs' ss') (H : ∀ p, Valid fs ss freeM p → inspF fs ss p = none → ∃ p', Valid fs' ss' freeM p' ∧ inspF fs' ss' p' = none ∧ loavesF ss p ≤ loavesF ss' p') : (bestF fs ss).1 ≤ (bestF fs' ss').1 := by
  obtain ⟨⟨q, hq, hql⟩, -, -⟩ := best_spec hall
  obtain ⟨-, htop, -⟩ := best_spec hall'
  obtain ⟨hv, hi⟩ := (mem_allF hall).1 hq
  obtain ⟨p', h1, h2, h3⟩ := H q hv hi
  have := htop p' ((mem_allF hall').2 ⟨h1, h2⟩)
  omega
/-- Floors on which more is right. -/
def Easier (fs fs' : List Fl) : Prop := fs'.length = fs.length ∧ ∀ f : Int, 0 ≤ f → f < fs.length → (flAt fs f).pl ≤ (flAt fs' f).pl ∧ (flAt fs' f).hi ≤ (flAt fs f).hi ∧ (flAt fs f).lo + (flAt fs f).co ≤ (flAt fs' f).lo + (flAt fs' f).co
theorem right_mono {fs fs' : List Fl} {ss : List St} {p : List Be} (hall : HallOK fs ss) (hall' : HallOK fs' ss) (hp : PlOK p) (he : Easier fs fs') (h : inspF fs ss p = none) : inspF fs' ss p = none := by
  rw [insp_none hall hp] at h
  rw [insp_none hall' hp]
  intro f h0 h1 n hb
  obtain ⟨e1, e2, e3⟩ := he.2 f h0 (by rw [← he.1]; exact h1)
  rcases hb with ⟨b0, b1, b2⟩ | ⟨a, ha, rfl, ⟨b, hb, hlt⟩, hno⟩
  · refine h f h0 (by rw [← he.1]; exact h1) n (.inl ⟨b0, b1, ?_⟩)
    have : hiAt fs' ss p f n ≤ hiAt fs ss p f n := sumK_le fun i hi => by
      have hc := (co_ok hall i).1
      simp only [hiG]
      by_cases hc1 : (beAt p i).fl = f ∧ (beAt p i).day ≤ n ∧ n < (beAt p i).day + (flAt fs' f).hi
      · rw [if_pos hc1, if_pos (by omega)]; exact Int.le_refl _
      · rw [if_neg hc1]; split <;> omega
    omega
  · refine h f h0 (by rw [← he.1]; exact h1) (a + (flAt fs f).lo + (flAt fs f).co) (.inr ⟨a, ha, rfl, ⟨b, hb, by omega⟩, fun c hc => ?_⟩)
    rcases hno c hc with h | h
    · exact .inl h
    · exact .inr (by omega)
theorem valid_floors {fs fs' : List Fl} {ss : List St} {may : May} {p : List Be} (he : fs'.length = fs.length) (h : Valid fs ss may p) : Valid fs' ss may p := by
  refine ⟨h.len, fun i hi => ?_, h.out⟩
  have := h.at_ i hi
  rw [mem_berths] at this ⊢
  rw [he]; exact this
theorem best_easier {fs fs' : List Fl} {ss : List St} (hall : HallOK fs ss) (hall' : HallOK fs' ss) (he : Easier fs fs') : (bestF fs ss).1 ≤ (bestF fs' ss).1 :=
  best_le hall hall' fun p hv hi => ⟨p, valid_floors he.1 hv, right_mono hall hall' (valid_plan hall hv).ok he hi, Int.le_refl _⟩
theorem flAt_set {fs : List Fl} {i : Nat} {g : Fl} {f : Int} (hi : i < fs.length) (h0 : 0 ≤ f) : flAt (fs.set i g) f = if f.toNat = i then g else flAt fs f := by
  simp only [flAt, List.getD]
  by_cases e : f.toNat = i
  · rw [if_pos e, e, List.getElem?_set_self hi]; rfl
  · rw [if_neg e, List.getElem?_set_ne (Ne.symm e)]
theorem easier_set {fs : List Fl} {i : Nat} {g x : Fl} (hx : fs[i]? = some x) (h1 : x.pl ≤ g.pl) (h2 : g.hi ≤ x.hi) (h3 : x.lo + x.co ≤ g.lo + g.co) : Easier fs (fs.set i g) := by
  have hi := lt_of_get hx
  refine ⟨by simp, fun f h0 hf => ?_⟩
  rw [flAt_set hi h0]
  split
  · rename_i e
    have : flAt fs f = x := by simp [flAt, List.getD, e, hx]
    rw [this]; exact ⟨h1, h2, h3⟩
  · exact ⟨Int.le_refl _, Int.le_refl _, Int.le_refl _⟩

/-- A strike that may wait longer. -/
theorem best_wait {fs : List Fl} {ss ss' : List St} (hall : HallOK fs ss) (hall' : HallOK fs ss') (hl : ss'.length = ss.length) (h : ∀ i, (stAt ss' i).day = (stAt ss i).day ∧ (stAt ss' i).co = (stAt ss i).co ∧ (stAt ss i).wa ≤ (stAt ss' i).wa) : (bestF fs ss).1 ≤ (bestF fs ss').1 := by
  refine best_le hall hall' fun p hv hi => ⟨p, ⟨hv.len, fun i hi => ?_, fun i hi => hv.out i (by omega)⟩, ?_, ?_⟩
  · have := hv.at_ i (by omega)
    rw [mem_berths] at this ⊢
    rw [(h i).1]
    have hw := (h i).2.2
    rcases this with h1 | ⟨h1, h2, h3, h4, h5⟩
    · exact .inl h1
    · exact .inr ⟨h1, h2, h3, h4, by omega⟩
  · exact (insp_cong hall hall' (valid_plan hall hv).ok fun i _ _ => ((h i).2.1).symm).1 hi
  · rw [loavesF_eq hall, loavesF_eq hall', hl]
    exact sumK_le fun i _ => by simp only [coG, (h i).2.1]; exact Int.le_refl _

/-! Without a strike -/
def insB (p : List Be) (s : Nat) : List Be := p.take s ++ bnone :: (p.drop s).take (3 - s)
theorem insB_at {p : List Be} {s i : Nat} (hp : p.length = 4) (hs : s ≤ 3) (hi : i < 4) : beAt (insB p s) i = if i < s then beAt p i else if i = s then bnone else beAt p (i - 1) := by
  obtain ⟨a, b, c, d, rfl⟩ := four hp
  rcases (by omega : s = 0 ∨ s = 1 ∨ s = 2 ∨ s = 3) with rfl | rfl | rfl | rfl <;> rcases (by omega : i = 0 ∨ i = 1 ∨ i = 2 ∨ i = 3) with rfl | rfl | rfl | rfl <;> rfl
theorem insB_len {p : List Be} {s : Nat} (hp : p.length = 4) (hs : s ≤ 3) : (insB p s).length = 4 := by
  simp [insB]; omega
def delS (ss : List St) (s : Nat) : List St := ss.take s ++ ss.drop (s + 1)
theorem delS_at {ss : List St} {s i : Nat} (hs : s < ss.length) : stAt (delS ss s) i = if i < s then stAt ss i else stAt ss (i + 1) := by
  simp only [stAt, List.getD, delS]
  by_cases h : i < s
  · rw [if_pos h, List.getElem?_append_left (by simp; omega), List.getElem?_take, if_pos h]
  · rw [if_neg h, List.getElem?_append_right (by simp; omega), List.getElem?_drop]
    have e : s + 1 + (i - (ss.take s).length) = i + 1 := by
      rw [List.length_take, Nat.min_eq_left (by omega)]; omega
    rw [e]
theorem delS_len {ss : List St} {s : Nat} (hs : s < ss.length) : (delS ss s).length = ss.length - 1 := by simp [delS]; omega
theorem sumK_split {g g' : Nat → Int} {s : Nat} (h0 : ∀ i, i < s → g i = g' i) (h1 : g s = 0) (h2 : ∀ i, s < i → g i = g' (i - 1)) : ∀ k, s < k → sumK g k = sumK g' (k - 1)
  | 0, h => by omega
  | k + 1, h => by
    by_cases e : k = s
    · subst e
      rw [sumK, h1, Nat.add_sub_cancel, sumK_congr h0]; omega
    · rw [sumK, sumK_split h0 h1 h2 k (by omega), h2 k (by omega), Nat.add_sub_cancel]
      obtain ⟨m, rfl⟩ : ∃ m, k = m + 1 := ⟨k - 1, by omega⟩
      rw [Nat.add_sub_cancel, sumK]
theorem best_less {fs : List Fl} {ss : List St} {s : Nat} (hall : HallOK fs ss) (hall' : HallOK fs (delS ss s)) (hs : s < ss.length) : (bestF fs (delS ss s)).1 ≤ (bestF fs ss).1 := by
  have hns := hall.ns
  have hdl := delS_len hs
  refine best_le hall' hall fun p hv hi => ?_
  have h4 := hv.len
  have hpo := valid_plan hall' hv
  have hat : ∀ i, i < 4 → beAt (insB p s) i = if i < s then beAt p i else if i = s then bnone else beAt p (i - 1) := fun i hi => insB_at h4 (by omega) hi
  have hlast : ∀ i, 3 ≤ i → beAt p i = bnone := fun i hi => hv.out i (by omega)
  have hval : Valid fs ss freeM (insB p s) := by
    refine ⟨insB_len h4 (by omega), fun i hi => ?_, fun i hi => ?_⟩
    · rw [hat i (by omega)]
      split
      · rename_i h
        have := hv.at_ i (by omega)
        rw [mem_berths] at this ⊢
        rw [delS_at hs, if_pos h] at this
        exact this
      · split
        · rw [mem_berths]; exact .inl ⟨rfl, rfl⟩
        · rename_i h1 h2
          have := hv.at_ (i - 1) (by omega)
          rw [mem_berths] at this ⊢
          rw [delS_at hs, if_neg (by omega), show i - 1 + 1 = i by omega] at this
          exact this
    · rcases Nat.lt_or_ge i 4 with h | h
      · rw [hat i h, if_neg (by omega), if_neg (by omega)]
        exact hv.out _ (by omega)
      · simp [beAt, List.getD, List.getElem?_eq_none (show (insB p s).length ≤ i by rw [insB_len h4 (by omega)]; exact h)]
  have hpo2 := valid_plan hall hval
  refine ⟨insB p s, hval, ?_, ?_⟩
  · rw [insp_none hall' hpo.ok] at hi
    rw [insp_none hall hpo2.ok]
    intro f h0 h1 n hb
    have hon : ∀ a, OnDay (insB p s) f a ↔ OnDay p f a := fun a => by
      constructor
      · rintro ⟨i, hi4, h2, h3⟩
        rw [hat i hi4] at h2 h3
        split at h2
        · rename_i hlt; rw [if_pos hlt] at h3; exact ⟨i, hi4, h2, h3⟩
        · rename_i hlt
          split at h2
          · simp [bnone] at h2; omega
          · rename_i hne; rw [if_neg hlt, if_neg hne] at h3; exact ⟨i - 1, by omega, h2, h3⟩
      · rintro ⟨i, hi4, h2, h3⟩
        by_cases hlt : i < s
        · exact ⟨i, hi4, by rw [hat i hi4, if_pos hlt]; exact h2, by rw [hat i hi4, if_pos hlt]; exact h3⟩
        · have hi3 : i < 3 := by
            rcases Nat.lt_or_ge i 3 with h | h
            · exact h
            · rw [hlast i h] at h2; simp [bnone] at h2; omega
          refine ⟨i + 1, by omega, ?_, ?_⟩
          · rw [hat (i + 1) (by omega), if_neg (by omega), if_neg (by omega), Nat.add_sub_cancel]; exact h2
          · rw [hat (i + 1) (by omega), if_neg (by omega), if_neg (by omega), Nat.add_sub_cancel]; exact h3
    have hsum : hiAt fs ss (insB p s) f n = hiAt fs (delS ss s) p f n := by
      have e : hiAt fs ss (insB p s) f n = sumK (fun i => if i < 4 then hiG fs ss (insB p s) f n i else hiG fs (delS ss s) p f n (i - 1)) 4 := sumK_congr fun i hi => by rw [if_pos hi]
      rw [e, sumK_split (g' := hiG fs (delS ss s) p f n) (s := s) (fun i hi => ?_) ?_ (fun i hi => ?_) 4 (by omega)]
      · show sumK _ 3 = sumK _ 4
        have : hiG fs (delS ss s) p f n 3 = 0 := by
          simp only [hiG, hlast 3 (Nat.le_refl _)]
          rw [if_neg]; simp [bnone]; omega
        simp only [sumK, this]; omega
      · rw [if_pos (by omega)]
        simp only [hiG, hat s (by omega), if_neg (Nat.lt_irrefl s), if_true]
        rw [if_neg]; simp [bnone]; omega
      · rw [if_pos (by omega)]
        simp only [hiG, hat i (by omega), if_pos hi, delS_at hs]
      · by_cases h4' : i < 4
        · rw [if_pos h4']
          simp only [hiG, hat i h4', if_neg (show ¬ i < s by omega), if_neg (show ¬ i = s by omega), delS_at hs, if_neg (show ¬ i - 1 < s by omega), show i - 1 + 1 = i by omega]
        · rw [if_neg h4']
    refine hi f h0 h1 n ?_
    rcases hb with ⟨b0, b1, b2⟩ | ⟨a, ha, rfl, ⟨b, hb, hlt⟩, hno⟩
    · exact .inl ⟨b0, b1, by rw [← hsum]; exact b2⟩
    · exact .inr ⟨a, (hon a).1 ha, rfl, ⟨b, (hon b).1 hb, hlt⟩, fun c hc => hno c ((hon c).2 hc)⟩
  · rw [loavesF_eq hall', loavesF_eq hall, hdl]
    rw [sumK_split (g := coG ss (insB p s)) (g' := fun i => if i < 4 then coG (delS ss s) p i else coG ss (insB p s) (i + 1)) (s := s) (fun i hi => ?_) ?_ (fun i hi => ?_) ss.length hs]
    · exact sumK_le fun i hi => by rw [if_pos (by omega)]; exact Int.le_refl _
    · simp only [coG, hat s (by omega), if_neg (Nat.lt_irrefl s), if_true]
      rw [if_neg]; simp [bnone]
    · rw [if_pos (by omega)]
      simp only [coG, hat i (by omega), if_pos hi, delS_at hs]
    · by_cases h4' : i < 4
      · rw [if_pos (by omega)]
        simp only [coG, hat i h4', if_neg (show ¬ i < s by omega), if_neg (show ¬ i = s by omega), delS_at hs, if_neg (show ¬ i - 1 < s by omega), show i - 1 + 1 = i by omega]
      · by_cases h5 : i - 1 < 4
        · have : i = 4 := by omega
          subst this
          rw [if_pos (by omega)]
          simp only [coG]
          rw [if_neg (by rw [show beAt (insB p s) 4 = bnone by simp [beAt, List.getD, List.getElem?_eq_none (show (insB p s).length ≤ 4 by rw [insB_len h4 (by omega)]; exact Nat.le_refl _)]]; simp [bnone]), if_neg (by rw [hlast 3 (Nat.le_refl _)]; simp [bnone])]
        · rw [if_neg h5, show i - 1 + 1 = i by omega]
end Go.Mus

/- How much slower a floor may be. Conditions: none; over the given program. -/
namespace Go.Mus
set_option maxRecDepth 100000
set_option maxHeartbeats 4000000

theorem lawloaves_fn (main : Side) (hS : ∀ S, main.ok S → ∃ Fin, S = Mn prog Fin) (hmb : main.b = true) (h : Hp) (fs : List Fl) (ss : List St) (vf vs : Value) (Eg : TypeId) (zg : Nat × Nat) (hf : Sl h Fl.row vf fs) (hs : Sl h St.row vs ss) (zf : Zs h vf) (zs : Zs h vs) (hck : ckPlant fs ss = 0)
    (hg : h 0 = some (.cells #[rtV t_error] Eg zg)) (z0 : h.z 0) : Pu prog main n_law_loaves #[.agg #[vf, vs]] h (.tuple #[I (bestF fs ss).1, .bool true]) := by
  obtain ⟨a, cap, rfl⟩ := hf.isSl
  obtain ⟨a', cap', rfl⟩ := hs.isSl
  obtain ⟨hbe, hbl⟩ := bestB_ok hck
  obtain ⟨l, hl⟩ : ∃ l, (bestB fs ss).1 = l := ⟨_, rfl⟩
  rw [hl] at hbe hbl
  refine Fnc.of_body at_law_loaves rfl (by show 1 ≤ 24; decide) [(0, .agg #[.slice a fs.length cap, .slice a' ss.length cap'])] ⟨rfl, trivial⟩ ?_
  refine W.seq ?_
  refine W.region rfl ?_
  refine Ops.box (cs := #[.slice a fs.length cap, .slice a' ss.length cap']) (fun β1 => ?_) rfl rfl rfl
  refine oq (y_assign rfl rfl) rfl wn rfl rfl ?_
  refine oq (y_assign rfl rfl) rfl wn rfl rfl ?_
  refine Ops.nil ?_
  refine thn_n ?_
  refine W.seq ?_
  refine W.region rfl ?_
  first | refine oq (yldW rfl rfl) rfl wn rfl rfl ?_ | refine oq (yldA rfl rfl) rfl wn rfl rfl ?_
  refine c0 (fun h' hE hL => Best_fn _ hS hmb h' fs ss (.slice a fs.length cap) (.slice a' ss.length cap') Eg zg (hf.ext hE) (hs.ext hE) (zf.ext hE) (zs.ext hE) (hE.1 _ _ hg) (hE.2 _ z0)) (fun v A' hv => ?_)
  rw [hbe] at hv
  obtain ⟨u, S, rfl, hO, hsb⟩ := hv
  have hOl : Os t_Berth Be.row u l S := hO
  obtain ⟨ua, uc, rfl⟩ := hOl.isSl
  refine Ops.sb (F' := (β1, .cells #[.slice a fs.length cap, .slice a' ss.length cap'] t_Plant (0, 0)) :: S) (.trans (.of_perm (List.perm_append_singleton _ _).symm) (hsb.app .refl)) ?_
  refine oq (y_move rfl rfl) rfl wn rfl rfl ?_
  refine oq (y_extract rfl rfl rfl) rfl wn rfl rfl ?_
  refine oq (y_extract rfl rfl rfl) rfl wn rfl rfl ?_
  refine oq (y_extract rfl rfl rfl) rfl wn rfl rfl ?_
  refine oq (y_assign rfl rfl) rfl wn rfl rfl ?_
  refine oq (y_assign rfl rfl) rfl wn rfl rfl ?_
  refine oq (y_assign rfl rfl) rfl wn rfl rfl ?_
  refine Ops.nil ?_
  refine thn_n ?_
  refine W.seq ?_
  refine W.drawF (n := 13) rfl ?_
  refine aq (i := 0) (y_move rfl rfl) rfl an rfl rfl ?_
  refine aq (i := 1) (y_move rfl rfl) rfl an rfl rfl ?_
  --abs T
  refine aq (i := 2) ((y_eql rfl rfl rfl).eq (u := .bool true) rfl) rfl an rfl rfl ?_
  refine aq (i := 3) (y_move rfl rfl) rfl an rfl rfl ?_
  refine aq (i := 4) (y_move rfl rfl) rfl (wantε_some rfl rfl rfl rfl) rfl rfl ?_
  refine aq (i := 5) (y_len rfl rfl) rfl (wantε_some rfl rfl rfl rfl) rfl rfl ?_
  refine aq (i := 6) (y_fieldAddr rfl rfl) rfl (wantε_some rfl rfl rfl rfl) rfl rfl ?_
  refine aq (i := 7) (yld rfl rfl) rfl (wantε_some rfl rfl rfl rfl) rfl rfl ?_
  refine aq (i := 8) (y_len rfl rfl) rfl (wantε_some rfl rfl rfl rfl) rfl rfl ?_
  --abs T
  refine aq (i := 9) ((y_eql rfl rfl rfl).eq (u := .bool true) (congrArg Value.bool (decide_eq_true (by omega)))) rfl (wantε_some rfl rfl rfl rfl) rfl rfl ?_
  refine aq (i := 10) (y_pickT rfl rfl rfl) rfl an rfl rfl ?_
  refine aq (i := 11) (y_assign rfl rfl) rfl an rfl rfl ?_
  refine aq (i := 12) (y_assign rfl rfl) rfl an rfl rfl ?_
  refine az ?_
  refine thn_n ?_
  refine W.ret ?_
  exact lvp (hs := .cons rfl hOl.shut) rfl

/-! Turning a list round -/
def revK (l : List Int) (k : Nat) : List Int := (l.reverse.take k) ++ ((l.drop k).take (l.length - 2 * k)) ++ (l.reverse.drop (l.length - k))
theorem revK_zero (l : List Int) : revK l 0 = l := by simp [revK]
theorem rev_get {l : List Int} {i : Nat} (hi : i < l.length) : l.reverse[i]? = l[l.length - 1 - i]? := by
  rw [List.getElem?_reverse hi]
theorem revK_len {l : List Int} {k : Nat} (hk : 2 * k ≤ l.length) : (revK l k).length = l.length := by simp [revK]; omega
theorem revK_get {l : List Int} {k i : Nat} (hk : 2 * k ≤ l.length) (hi : i < l.length) : (revK l k)[i]? = if i < k ∨ l.length - k ≤ i then l[l.length - 1 - i]? else l[i]? := by
  unfold revK
  by_cases h1 : i < k
  · rw [if_pos (.inl h1), List.append_assoc, List.getElem?_append_left (by simp; omega), List.getElem?_take, if_pos h1, rev_get hi]
  · by_cases h2 : l.length - k ≤ i
    · rw [if_pos (.inr h2), List.getElem?_append_right (by simp; omega), List.getElem?_drop]
      have e : l.length - k + (i - (l.reverse.take k ++ (l.drop k).take (l.length - 2 * k)).length) = i := by simp; omega
      rw [e, rev_get hi]
    · rw [if_neg (by omega), List.getElem?_append_left (by simp; omega), List.getElem?_append_right (by simp; omega), List.getElem?_take, if_pos (by simp; omega), List.getElem?_drop]
      congr 1
      simp; omega
theorem revK_step {l : List Int} {k : Nat} {x y : Int} (hk : 2 * k + 2 ≤ l.length) (hx : l[k]? = some x) (hy : l[l.length - 1 - k]? = some y) : ((revK l k).set k y).set (l.length - 1 - k) x = revK l (k + 1) := by
  apply List.ext_getElem?
  intro i
  have hl := revK_len (l := l) (k := k) (by omega)
  have hl' := revK_len (l := l) (k := k + 1) (by omega)
  rcases Nat.lt_or_ge i l.length with hi | hi
  · rw [revK_get (by omega) hi, List.getElem?_set, List.getElem?_set]
    by_cases e1 : l.length - 1 - k = i
    · rw [if_pos e1, if_pos (by simp; omega), if_pos (by omega)]
      rw [show l.length - 1 - i = k by omega, hx]
    · rw [if_neg e1]
      by_cases e2 : k = i
      · rw [if_pos e2, if_pos (by omega), if_pos (by omega), ← e2, hy]
      · rw [if_neg e2, revK_get (by omega) hi]
        by_cases h1 : i < k ∨ l.length - k ≤ i
        · rw [if_pos h1, if_pos (by omega)]
        · rw [if_neg h1, if_neg (by omega)]
  · rw [List.getElem?_eq_none (by simp; omega), List.getElem?_eq_none (by omega)]
theorem revK_end {l : List Int} {k : Nat} (h1 : 2 * k ≤ l.length) (h2 : l.length ≤ 2 * k + 1) : revK l k = l.reverse := by
  apply List.ext_getElem?
  intro i
  rcases Nat.lt_or_ge i l.length with hi | hi
  · rw [revK_get h1 hi, rev_get hi]
    by_cases h : i < k ∨ l.length - k ≤ i
    · rw [if_pos h]
    · rw [if_neg h]
      congr 1; omega
  · rw [List.getElem?_eq_none (by rw [revK_len h1]; exact hi), List.getElem?_eq_none (by simp; omega)]

theorem Reverse_fn (main : Side) (h : Hp) (b cap : Nat) (c : Array Value) (l : List Int) (hP : Part c 0 (flat rowI l)) (hl : l.length ≤ 1000) : Fnc prog main n_slices_Reverse_int #[.slice (some ⟨b, 0, none⟩) l.length cap] h [(b, .cells c t_int (0, 0))] (fun _ A => ∃ c', c'.size = c.size ∧ Part c' 0 (flat rowI l.reverse) ∧ Sb [(b, .cells c' t_int (0, 0))] A) := by
  refine Fnc.of_body at_slices_Reverse_int rfl (by show 1 ≤ 28; decide) [(0, .slice (some ⟨b, 0, none⟩) l.length cap)] ⟨rfl, trivial⟩ ?_
  refine W.seq ?_
  refine W.region rfl ?_
  refine oq (y_move rfl rfl) rfl wn rfl rfl ?_
  refine oq (y_len rfl rfl) rfl wn rfl rfl ?_
  first | refine oq (ysub rfl rfl rfl) rfl wn rfl rfl ?_ | refine oq (y_subw rfl rfl rfl) rfl wn rfl rfl ?_
  refine oq (y_assign rfl rfl) rfl wn rfl rfl ?_
  refine oq (y_assign rfl rfl) rfl wn rfl rfl ?_
  refine Ops.nil ?_
  refine thn_n ?_
  refine W.block ?_
  refine W.loop2 (fun (k : Nat) (c' : Array Value) => (2 * k ≤ l.length) ∧ c'.size = c.size ∧ Part c' 0 (flat rowI (revK l k))) (fun k _ => [(2, I k), (3, I ((l.length : Int) - 1 - k)), (0, .slice (some ⟨b, 0, none⟩) l.length cap)]) (fun _ c' => [(b, .cells c' t_int (0, 0))]) (fun k _ => l.length - k) 0 c ⟨by omega, rfl, by rw [revK_zero]; exact hP⟩ ⟨rfl, lk rfl (show I _ = I _ by congr 1; omega), rfl, trivial⟩ .refl ?_
  rintro k c1 ⟨hk, hsz, hP1⟩
  refine W.seq ?_
  refine W.seq ?_
  refine W.region rfl ?_
  refine oq (y_move rfl rfl) rfl wn rfl rfl ?_
  refine oq (y_move rfl rfl) rfl wn rfl rfl ?_
  refine oq (y_lss rfl rfl rfl) rfl wn rfl rfl ?_
  refine Ops.nil ?_
  refine thn_n ?_
  refine W.condp rfl (fun c9 => ?_) (fun c9 => ?_)
  · have hk2 : 2 * k + 2 ≤ l.length := by omega
    have hlen := revK_len (l := l) (k := k) hk
    obtain ⟨x, hx, -⟩ := has (show k < l.length by omega)
    obtain ⟨y, hy, -⟩ := has (show l.length - 1 - k < l.length by omega)
    have hx1 : (revK l k)[k]? = some x := by rw [revK_get hk (by omega), if_neg (by omega)]; exact hx
    have hy1 : (revK l k)[l.length - 1 - k]? = some y := by rw [revK_get hk (by omega), if_neg (by omega)]; exact hy
    have hx2 := hP1.getI hx1
    have hy2 := hP1.getI hy1
    have hj : (l.length : Int) - 1 - k = ((l.length - 1 - k : Nat) : Int) := by omega
    have hsz2 := hP1.len
    rw [flat_len, hlen] at hsz2
    rw [hj]
    have hP2 := hP1.setI (j := k) (a := y) (by omega)
    have hP3 := hP2.setI (j := l.length - 1 - k) (a := x) (by simp; omega)
    rw [revK_step hk2 hx hy] at hP3
    refine W.skip ?_
    refine thn_n ?_
    refine W.seq ?_
    refine W.block ?_
    refine W.drawL [] (n := 16) rfl ?_
    refine aq (i := 0) (y_move rfl rfl) rfl an rfl rfl ?_
    refine aq (i := 1) (y_move rfl rfl) rfl an rfl rfl ?_
    refine aq (i := 2) (y_move rfl rfl) rfl an rfl rfl ?_
    refine aq (i := 3) (y_move rfl rfl) rfl an rfl rfl ?_
    refine aq (i := 4) (y_move rfl rfl) rfl an rfl rfl ?_
    refine aq (i := 5) (y_move rfl rfl) rfl an rfl rfl ?_
    refine aq (i := 6) (yix rfl rfl rfl) rfl an rfl rfl ?_
    refine aq (i := 8) (y_move rfl rfl) rfl an rfl rfl ?_
    refine aq (i := 9) (y_move rfl rfl) rfl an rfl rfl ?_
    refine aq (i := 10) (yix rfl rfl rfl) rfl an rfl rfl ?_
    refine a2 (i := 7) (j := 11) rfl rfl (yld rfl rfl) (yld rfl rfl) (yld rfl rfl) (yld rfl rfl) an an an an rfl rfl rfl rfl ?_
    refine aq (i := 12) (yix rfl rfl rfl) rfl an rfl rfl ?_
    refine ae (i := 13) rfl an rfl rfl (eS rfl rfl rfl ?_)
    refine ⟨.inr (fun _ h => by cases h), ?_⟩
    refine aq (i := 14) (yix rfl rfl rfl) rfl an rfl rfl ?_
    refine ae (i := 15) rfl an rfl rfl (eS rfl rfl rfl ?_ (hc := by rw [Array.size_setIfInBounds]; omega))
    refine ⟨.inr (fun _ h => by cases h), ?_⟩
    refine az ?_
    refine blk_n ?_
    refine thn_n ?_
    refine W.region rfl ?_
    refine oq (y_move rfl rfl) rfl wn rfl rfl ?_
    first | refine oq (yadd rfl rfl rfl) rfl wn rfl rfl ?_ | refine oq (y_addw rfl rfl rfl) rfl wn rfl rfl ?_
    refine oq (y_move rfl rfl) rfl wn rfl rfl ?_
    first | refine oq (ysub rfl rfl rfl) rfl wn rfl rfl ?_ | refine oq (y_subw rfl rfl rfl) rfl wn rfl rfl ?_
    refine oq (y_assign rfl rfl) rfl wn rfl rfl ?_
    refine oq (y_assign rfl rfl) rfl wn rfl rfl ?_
    refine Ops.nil ?_
    refine thn_n ?_
    have e1 : 0 + k * 1 = k := by omega
    have e2 : 0 + (l.length - 1 - k) * 1 = l.length - 1 - k := by omega
    have hP4 : Part ((c1.setIfInBounds (0 + k * 1) (I y)).setIfInBounds (0 + (l.length - 1 - k) * 1) (I x)) 0 (flat rowI (revK l (k + 1))) := by rw [e1, e2]; exact hP3
    exact ⟨rfl, k + 1, _, ⟨by omega, by simp [hsz], hP4⟩, by omega, ⟨rfl, lk rfl (show I _ = I _ by congr 1; omega), rfl, trivial⟩, .refl⟩
  · refine W.exit ?_
    refine thn_x ?_
    refine thn_x ?_
    refine blk_x ?_
    refine lvt (vs := []) ⟨c1, hsz, ?_, .refl⟩
    rw [← revK_end (k := k) (by omega) (by omega)]; exact hP1
end Go.Mus

/- Whether a strike is in the best plans. Conditions: none; over the given program. -/
namespace Go.Mus
set_option maxRecDepth 100000
set_option maxHeartbeats 4000000

/-- In how many plans a strike is set. -/
def cntF (s : Nat) (l : List (List Be)) : Nat := l.countP fun p => decide (0 ≤ (beAt p s).fl)
def verdF (fs : List Fl) (ss : List St) (s : Nat) : Int := if 0 < cntF s (bestF fs ss).2 ∧ cntF s (bestF fs ss).2 < (bestF fs ss).2.length then 3 else if cntF s (bestF fs ss).2 = 0 then 2 else 1
theorem cntF_next {s i : Nat} {l : List (List Be)} {p : List Be} (h : l[i]? = some p) : cntF s (l.take (i + 1)) = cntF s (l.take i) + if 0 ≤ (beAt p s).fl then 1 else 0 := by
  rw [cntF, take_next h, List.countP_append]
  congr 1
  simp [List.countP_cons]
theorem cntF_le {s i : Nat} {l : List (List Be)} : cntF s (l.take i) ≤ i := Nat.le_trans List.countP_le_length (by simp; omega)

theorem Verdict_fn (main : Side) (hS : ∀ S, main.ok S → ∃ Fin, S = Mn prog Fin) (hmb : main.b = true) (h : Hp) (fs : List Fl) (ss : List St) (s : Nat) (vf vs : Value) (Eg : TypeId) (zg : Nat × Nat) (hf : Sl h Fl.row vf fs) (hs : Sl h St.row vs ss) (zf : Zs h vf) (zs : Zs h vs) (hck : ckPlant fs ss = 0) (hs0 : s < ss.length) (hg : h 0 = some (.cells #[rtV t_error] Eg zg)) (z0 : h.z 0) :
    Pu prog main n_floor_Verdict #[.agg #[vf, vs], I s] h (.tuple #[I (verdF fs ss s), I 0]) := by
  have hall := hall_ck hck
  have hns := hall.ns
  obtain ⟨a, cap, rfl⟩ := hf.isSl
  obtain ⟨a', cap', rfl⟩ := hs.isSl
  obtain ⟨bs, hbs⟩ : ∃ bs, (bestF fs ss).2 = bs := ⟨_, rfl⟩
  have hb4 : ∀ p ∈ bs, p.length = 4 := fun p hp => allF4 (bestF_mem (hbs ▸ hp))
  have hpo : ∀ p ∈ bs, PlanOf fs ss p := fun p hp => allF_PlanOf hall (bestF_mem (hbs ▸ hp))
  have hbl : bs.length ≤ 28561 := by
    rw [← hbs, (best_spec hall).2.2]
    exact Nat.le_trans (List.length_filter_le _ _) (allF_len hall)
  refine Fnc.of_body at_floor_Verdict rfl (by show 2 ≤ 61; decide) [(0, .agg #[.slice a fs.length cap, .slice a' ss.length cap']), (1, I s)] ⟨rfl, rfl, trivial⟩ ?_
  refine W.seq ?_
  refine W.region rfl ?_
  refine Ops.box (cs := #[.slice a fs.length cap, .slice a' ss.length cap']) (fun β2 => ?_) rfl rfl rfl
  refine oq (y_assign rfl rfl) rfl wn rfl rfl ?_
  refine oq (y_assign rfl rfl) rfl wn rfl rfl ?_
  refine Ops.nil ?_
  refine thn_n ?_
  refine W.seq ?_
  refine W.seq ?_
  refine W.region rfl ?_
  first | refine oq (yldW rfl rfl) rfl wn rfl rfl ?_ | refine oq (yldA rfl rfl) rfl wn rfl rfl ?_
  refine cp (u := I 0) (fun h' hE hL => by have := Check_fn main h' fs ss _ _ (hf.ext hE) (hs.ext hE); rw [hck] at this; exact this) ?_
  refine oq (y_assign rfl rfl) rfl wn rfl rfl ?_
  refine Ops.nil ?_
  refine thn_n ?_
  refine W.seq ?_
  refine W.region rfl ?_
  refine oq (y_move rfl rfl) rfl wn rfl rfl ?_
  --abs F
  refine oq ((y_neq rfl rfl rfl).eq (u := .bool false) rfl) rfl wn rfl rfl ?_
  refine Ops.nil ?_
  refine thn_n ?_
  refine W.condF ?_
  refine W.skip ?_
  refine thn_n ?_
  refine W.seq ?_
  refine W.seq ?_
  refine W.region rfl ?_
  refine oq (y_move rfl rfl) rfl wn rfl rfl ?_
  refine oq (y_fieldAddr rfl rfl) rfl wn rfl rfl ?_
  refine oq (yld rfl rfl) rfl wn rfl rfl ?_
  refine oq (y_len rfl rfl) rfl wn rfl rfl ?_
  first | refine oq (ysub rfl rfl rfl) rfl wn rfl rfl ?_ | refine oq (y_subw rfl rfl rfl) rfl wn rfl rfl ?_
  --abs F
  refine cp (u := .bool false) (fun h' hE hL => ?_) ?_
  · have := outside_fn main h' s 0 ((ss.length : Int) - 1)
    rw [decide_eq_false (show ¬ outs s 0 ((ss.length : Int) - 1) by unfold outs; omega)] at this
    exact this
  refine Ops.nil ?_
  refine thn_n ?_
  refine W.condF ?_
  refine W.skip ?_
  refine thn_n ?_
  refine W.seq ?_
  refine W.region rfl ?_
  first | refine oq (yldW rfl rfl) rfl wn rfl rfl ?_ | refine oq (yldA rfl rfl) rfl wn rfl rfl ?_
  refine oq (y_build (cs := #[.slice a fs.length cap, .slice a' ss.length cap']) rfl rfl rfl) rfl wn rfl rfl ?_
  refine c0 (fun h' hE hL => best_fn _ hS hmb h' fs ss (.slice a fs.length cap) (.slice a' ss.length cap') Eg zg (hf.ext hE) (hs.ext hE) (zf.ext hE) (zs.ext hE) hall (hE.1 _ _ hg) (hE.2 _ z0)) (fun v A' hv => ?_)
  rw [hbs] at hv
  obtain ⟨u, S, rfl, hO, hsb⟩ := hv
  obtain ⟨ua, uc, rfl⟩ := hO.isSl
  refine Ops.sb (F' := S ++ [(β2, .cells #[.slice a fs.length cap, .slice a' ss.length cap'] t_Plant (0, 0))]) (hsb.app .refl) ?_
  refine Ops.new (fun β7 => ?_)
  first | refine Ops.stoW ?_ | refine Ops.stoA ?_
  refine Ops.nil ?_
  refine thn_n ?_
  refine W.sb (F' := S ++ [(β7, .cells #[I (bestF fs ss).1, .slice ua bs.length uc] t_most (0, 0)), (β2, .cells #[.slice a fs.length cap, .slice a' ss.length cap'] t_Plant (0, 0))]) (.of_perm List.perm_middle) ?_
  refine freezeOs hO (fun hx hEx hsl hzl => ?_)
  refine W.seq ?_
  refine W.region rfl ?_
  refine oq (y_assign rfl rfl) rfl wn rfl rfl ?_
  refine Ops.nil ?_
  refine thn_n ?_
  refine W.seq ?_
  refine W.seq ?_
  refine W.region rfl ?_
  refine oq (y_fieldAddr rfl rfl) rfl wn rfl rfl ?_
  refine oq (yld rfl rfl) rfl wn rfl rfl ?_
  refine oq (y_len rfl rfl) rfl wn rfl rfl ?_
  refine oq (y_move rfl rfl) rfl wn rfl rfl ?_
  refine Ops.nil ?_
  refine thn_n ?_
  refine W.block ?_
  refine W.loop (σ := Nat) (fun k => k ≤ bs.length) (fun k => [(29, I k), (28, I bs.length), (27, .slice ua bs.length uc), (8, I (cntF s (bs.take k))), (7, .pointer (some ⟨β7, 0, none⟩)), (1, I s)]) (fun _ => [(β7, .cells #[I (bestF fs ss).1, .slice ua bs.length uc] t_most (0, 0))]) (fun k => bs.length - k) 0 (Nat.zero_le _) ⟨rfl, rfl, rfl, lk rfl (by simp [cntF]), rfl, rfl, trivial⟩ (.cons (.skip rfl .refl)) ?_
  rintro k hk
  have hck' := cntF_le (s := s) (i := k) (l := bs)
  refine W.seq ?_
  refine W.region rfl ?_
  refine oq (y_lss rfl rfl rfl) rfl wn rfl rfl ?_
  refine Ops.nil ?_
  refine thn_n ?_
  refine W.seq ?_
  refine W.condp rfl (fun c30 => ?_) (fun c30 => ?_)
  · obtain ⟨p, hp, -⟩ := has (show k < bs.length by omega)
    have hp4 := hb4 p (List.mem_of_getElem? hp)
    have hpk := (hpo p (List.mem_of_getElem? hp)).ok
    obtain ⟨b, off, c, E, fz, rfl, hb, hx1, hy1, hz1⟩ := hsl.at hp
    have hx2 : c.extract (off + k * 8) (off + k * 8 + 8) = (flat Be.row p).toArray := by rw [hx1, rowP_eq hp4]
    clear hx1 hz1
    have hsz := plan_sz hpk
    have hon : ones (flat Be.row p).toArray.toList = true := plan_ones
    have hpa : (flat Be.row p).toArray[0 + s * 2 + 0]? = some (I (beAt p s).fl) := by simpa using (plan_at hpk (show s < 4 by omega)).1
    have hnx := cntF_next (s := s) hp
    refine W.skip ?_
    refine thn_n ?_
    refine W.seq ?_
    refine W.block ?_
    refine W.seq ?_
    refine W.region rfl ?_
    first | refine oq (yix rfl rfl rfl) rfl wn rfl rfl ?_ | refine oq (yixI rfl rfl rfl) rfl wn rfl rfl ?_
    first | refine oq (yldW rfl rfl) rfl wn rfl rfl ?_ | refine oq (yldA rfl rfl) rfl wn rfl rfl ?_
    refine Ops.new (fun β10 => ?_)
    first | refine Ops.stoW ?_ | refine Ops.stoA ?_
    refine Ops.nil ?_
    refine thn_n ?_
    refine W.seq ?_
    refine W.region rfl ?_
    refine oq (y_move rfl rfl) rfl wn rfl rfl ?_
    first | refine oq (yixA rfl rfl rfl) rfl wn rfl rfl ?_ | refine oq (yixAI rfl rfl rfl) rfl wn rfl rfl ?_
    refine oq (y_fieldAddr rfl rfl) rfl wn rfl rfl ?_
    refine oq (yld rfl rfl) rfl wn rfl rfl ?_
    refine oq (y_geq rfl rfl rfl) rfl wn rfl rfl ?_
    refine Ops.nil ?_
    refine thn_n ?_
    refine W.condp rfl (fun c37 => ?_) (fun c37 => ?_)
    · refine W.region rfl ?_
      refine oq (y_move rfl rfl) rfl wn rfl rfl ?_
      first | refine oq (yadd rfl rfl rfl) rfl wn rfl rfl ?_ | refine oq (y_addw rfl rfl rfl) rfl wn rfl rfl ?_
      refine oq (y_assign rfl rfl) rfl wn rfl rfl ?_
      refine Ops.nil ?_
      refine blk_n ?_
      refine thn_n ?_
      refine W.region rfl ?_
      first | refine oq (yadd rfl rfl rfl) rfl wn rfl rfl ?_ | refine oq (y_addw rfl rfl rfl) rfl wn rfl rfl ?_
      refine oq (y_move rfl rfl) rfl wn rfl rfl ?_
      refine Ops.nil ?_
      refine thn_n ?_
      first
      | exact ⟨rfl, k + 1, by omega, by omega, ⟨rfl, rfl, rfl, lk rfl (show I _ = I _ by congr 1; rw [hnx, if_pos c37]; omega), rfl, rfl, trivial⟩, .skip rfl .refl⟩
      | exact ⟨rfl, k + 1, by omega, by omega, ⟨rfl, rfl, rfl, lk rfl (show I _ = I _ by congr 1; rw [hnx, if_neg c37]; omega), rfl, rfl, trivial⟩, .skip rfl .refl⟩
    · refine W.skip ?_
      refine blk_n ?_
      refine thn_n ?_
      refine W.region rfl ?_
      first | refine oq (yadd rfl rfl rfl) rfl wn rfl rfl ?_ | refine oq (y_addw rfl rfl rfl) rfl wn rfl rfl ?_
      refine oq (y_move rfl rfl) rfl wn rfl rfl ?_
      refine Ops.nil ?_
      refine thn_n ?_
      first
      | exact ⟨rfl, k + 1, by omega, by omega, ⟨rfl, rfl, rfl, lk rfl (show I _ = I _ by congr 1; rw [hnx, if_pos c37]; omega), rfl, rfl, trivial⟩, .skip rfl .refl⟩
      | exact ⟨rfl, k + 1, by omega, by omega, ⟨rfl, rfl, rfl, lk rfl (show I _ = I _ by congr 1; rw [hnx, if_neg c37]; omega), rfl, rfl, trivial⟩, .skip rfl .refl⟩
  · have hkl : k = bs.length := by omega
    subst hkl
    rw [List.take_length] at hck' ⊢
    have hvd : verdF fs ss s = if 0 < cntF s bs ∧ cntF s bs < bs.length then 3 else if cntF s bs = 0 then 2 else 1 := by rw [verdF, hbs]
    obtain ⟨n, hn⟩ : ∃ n, cntF s bs = n := ⟨_, rfl⟩
    rw [hn] at hck' hvd ⊢
    refine W.exit ?_
    refine thn_x ?_
    refine thn_x ?_
    refine blk_x ?_
    refine thn_n ?_
    refine W.seq ?_
    refine W.region rfl ?_
    refine oq (y_assign rfl rfl) rfl wn rfl rfl ?_
    refine Ops.nil ?_
    refine thn_n ?_
    refine W.seq ?_
    refine W.block ?_
    refine W.seq ?_
    refine W.block ?_
    refine W.seq ?_
    refine W.block ?_
    refine W.seq ?_
    refine W.block ?_
    refine W.seq ?_
    refine W.seq ?_
    refine W.seq ?_
    refine W.region rfl ?_
    refine oq (y_move rfl rfl) rfl wn rfl rfl ?_
    refine oq (y_gtr rfl rfl rfl) rfl wn rfl rfl ?_
    refine oq (y_move rfl rfl) rfl wn rfl rfl ?_
    refine Ops.ask (fun a15_3 => ?_) (fun a15_3 => ?_)
    · refine oq (y_move rfl rfl) rfl (want_some rfl rfl rfl) rfl rfl ?_
      refine oq (y_fieldAddr rfl rfl) rfl (want_some rfl rfl rfl) rfl rfl ?_
      refine oq (yld rfl rfl) rfl (want_some rfl rfl rfl) rfl rfl ?_
      refine oq (y_len rfl rfl) rfl (want_some rfl rfl rfl) rfl rfl ?_
      refine oq (y_lss rfl rfl rfl) rfl (want_some rfl rfl rfl) rfl rfl ?_
      refine oq (y_pickT rfl rfl rfl) rfl wn rfl rfl ?_
      refine oq (y_assign rfl rfl) rfl wn rfl rfl ?_
      refine Ops.nil ?_
      refine thn_n ?_
      refine W.condp rfl (fun c41 => ?_) (fun c41 => ?_)
      · refine W.exit ?_
        refine thn_x ?_
        refine thn_x ?_
        refine blk_x ?_
        refine thn_n ?_
        refine W.region rfl ?_
        refine oq (y_move rfl rfl) rfl wn rfl rfl ?_
        first | refine oq (yadd rfl rfl rfl) rfl wn rfl rfl ?_ | refine oq (y_addw rfl rfl rfl) rfl wn rfl rfl ?_
        refine oq (y_assign rfl rfl) rfl wn rfl rfl ?_
        refine Ops.nil ?_
        refine blk_n ?_
        refine thn_n ?_
        refine W.region rfl ?_
        refine oq (y_move rfl rfl) rfl wn rfl rfl ?_
        first | refine oq (yadd rfl rfl rfl) rfl wn rfl rfl ?_ | refine oq (y_addw rfl rfl rfl) rfl wn rfl rfl ?_
        refine oq (y_assign rfl rfl) rfl wn rfl rfl ?_
        refine Ops.nil ?_
        refine blk_n ?_
        refine thn_n ?_
        refine W.seq ?_
        refine W.region rfl ?_
        refine oq (y_move rfl rfl) rfl wn rfl rfl ?_
        first | refine oq (yadd rfl rfl rfl) rfl wn rfl rfl ?_ | refine oq (y_addw rfl rfl rfl) rfl wn rfl rfl ?_
        refine oq (y_assign rfl rfl) rfl wn rfl rfl ?_
        refine Ops.nil ?_
        refine thn_n ?_
        refine W.exit ?_
        refine blk_x ?_
        refine thn_n ?_
        refine W.seq ?_
        refine W.region rfl ?_
        refine oq (y_move rfl rfl) rfl wn rfl rfl ?_
        refine oq (y_assign rfl rfl) rfl wn rfl rfl ?_
        refine oq (y_assign rfl rfl) rfl wn rfl rfl ?_
        refine Ops.nil ?_
        refine thn_n ?_
        refine W.ret ?_
        refine lvp ?_
        rw [hvd]
        first
        | (rw [if_pos (by omega)]; rfl)
        | (rw [if_neg (by omega), if_pos (by omega)]; rfl)
        | (rw [if_neg (by omega), if_neg (by omega)]; rfl)
      · refine W.skip ?_
        refine thn_n ?_
        refine W.seq ?_
        refine W.region rfl ?_
        refine oq (y_move rfl rfl) rfl wn rfl rfl ?_
        refine oq (y_eql rfl rfl rfl) rfl wn rfl rfl ?_
        refine oq (y_assign rfl rfl) rfl wn rfl rfl ?_
        refine Ops.nil ?_
        refine thn_n ?_
        refine W.condp rfl (fun c51 => ?_) (fun c51 => ?_)
        · refine W.exit ?_
          refine thn_x ?_
          refine blk_o ?_
          refine thn_x ?_
          refine blk_x ?_
          refine thn_n ?_
          refine W.region rfl ?_
          refine oq (y_move rfl rfl) rfl wn rfl rfl ?_
          first | refine oq (yadd rfl rfl rfl) rfl wn rfl rfl ?_ | refine oq (y_addw rfl rfl rfl) rfl wn rfl rfl ?_
          refine oq (y_assign rfl rfl) rfl wn rfl rfl ?_
          refine Ops.nil ?_
          refine blk_n ?_
          refine thn_n ?_
          refine W.seq ?_
          refine W.region rfl ?_
          refine oq (y_move rfl rfl) rfl wn rfl rfl ?_
          first | refine oq (yadd rfl rfl rfl) rfl wn rfl rfl ?_ | refine oq (y_addw rfl rfl rfl) rfl wn rfl rfl ?_
          refine oq (y_assign rfl rfl) rfl wn rfl rfl ?_
          refine Ops.nil ?_
          refine thn_n ?_
          refine W.exit ?_
          refine blk_x ?_
          refine thn_n ?_
          refine W.seq ?_
          refine W.region rfl ?_
          refine oq (y_move rfl rfl) rfl wn rfl rfl ?_
          refine oq (y_assign rfl rfl) rfl wn rfl rfl ?_
          refine oq (y_assign rfl rfl) rfl wn rfl rfl ?_
          refine Ops.nil ?_
          refine thn_n ?_
          refine W.ret ?_
          refine lvp ?_
          rw [hvd]
          first
          | (rw [if_pos (by omega)]; rfl)
          | (rw [if_neg (by omega), if_pos (by omega)]; rfl)
          | (rw [if_neg (by omega), if_neg (by omega)]; rfl)
        · refine W.skip ?_
          refine thn_n ?_
          refine W.exit ?_
          refine blk_o ?_
          refine thn_x ?_
          refine blk_o ?_
          refine thn_x ?_
          refine blk_x ?_
          refine thn_n ?_
          refine W.seq ?_
          refine W.region rfl ?_
          refine oq (y_move rfl rfl) rfl wn rfl rfl ?_
          first | refine oq (yadd rfl rfl rfl) rfl wn rfl rfl ?_ | refine oq (y_addw rfl rfl rfl) rfl wn rfl rfl ?_
          refine oq (y_assign rfl rfl) rfl wn rfl rfl ?_
          refine Ops.nil ?_
          refine thn_n ?_
          refine W.exit ?_
          refine blk_x ?_
          refine thn_n ?_
          refine W.seq ?_
          refine W.region rfl ?_
          refine oq (y_move rfl rfl) rfl wn rfl rfl ?_
          refine oq (y_assign rfl rfl) rfl wn rfl rfl ?_
          refine oq (y_assign rfl rfl) rfl wn rfl rfl ?_
          refine Ops.nil ?_
          refine thn_n ?_
          refine W.ret ?_
          refine lvp ?_
          rw [hvd]
          first
          | (rw [if_pos (by omega)]; rfl)
          | (rw [if_neg (by omega), if_pos (by omega)]; rfl)
          | (rw [if_neg (by omega), if_neg (by omega)]; rfl)
    · refine Ops.no ?_
      refine Ops.no ?_
      refine Ops.no ?_
      refine Ops.no ?_
      refine Ops.no ?_
      refine oq (y_pickF rfl rfl rfl) rfl wn rfl rfl ?_
      refine oq (y_assign rfl rfl) rfl wn rfl rfl ?_
      refine Ops.nil ?_
      refine thn_n ?_
      refine W.condF ?_
      refine W.skip ?_
      refine thn_n ?_
      refine W.seq ?_
      refine W.region rfl ?_
      refine oq (y_move rfl rfl) rfl wn rfl rfl ?_
      refine oq (y_eql rfl rfl rfl) rfl wn rfl rfl ?_
      refine oq (y_assign rfl rfl) rfl wn rfl rfl ?_
      refine Ops.nil ?_
      refine thn_n ?_
      refine W.condp rfl (fun c51 => ?_) (fun c51 => ?_)
      · refine W.exit ?_
        refine thn_x ?_
        refine blk_o ?_
        refine thn_x ?_
        refine blk_x ?_
        refine thn_n ?_
        refine W.region rfl ?_
        refine oq (y_move rfl rfl) rfl wn rfl rfl ?_
        first | refine oq (yadd rfl rfl rfl) rfl wn rfl rfl ?_ | refine oq (y_addw rfl rfl rfl) rfl wn rfl rfl ?_
        refine oq (y_assign rfl rfl) rfl wn rfl rfl ?_
        refine Ops.nil ?_
        refine blk_n ?_
        refine thn_n ?_
        refine W.seq ?_
        refine W.region rfl ?_
        refine oq (y_move rfl rfl) rfl wn rfl rfl ?_
        first | refine oq (yadd rfl rfl rfl) rfl wn rfl rfl ?_ | refine oq (y_addw rfl rfl rfl) rfl wn rfl rfl ?_
        refine oq (y_assign rfl rfl) rfl wn rfl rfl ?_
        refine Ops.nil ?_
        refine thn_n ?_
        refine W.exit ?_
        refine blk_x ?_
        refine thn_n ?_
        refine W.seq ?_
        refine W.region rfl ?_
        refine oq (y_move rfl rfl) rfl wn rfl rfl ?_
        refine oq (y_assign rfl rfl) rfl wn rfl rfl ?_
        refine oq (y_assign rfl rfl) rfl wn rfl rfl ?_
        refine Ops.nil ?_
        refine thn_n ?_
        refine W.ret ?_
        refine lvp ?_
        rw [hvd]
        first
        | (rw [if_pos (by omega)]; rfl)
        | (rw [if_neg (by omega), if_pos (by omega)]; rfl)
        | (rw [if_neg (by omega), if_neg (by omega)]; rfl)
      · refine W.skip ?_
        refine thn_n ?_
        refine W.exit ?_
        refine blk_o ?_
        refine thn_x ?_
        refine blk_o ?_
        refine thn_x ?_
        refine blk_x ?_
        refine thn_n ?_
        refine W.seq ?_
        refine W.region rfl ?_
        refine oq (y_move rfl rfl) rfl wn rfl rfl ?_
        first | refine oq (yadd rfl rfl rfl) rfl wn rfl rfl ?_ | refine oq (y_addw rfl rfl rfl) rfl wn rfl rfl ?_
        refine oq (y_assign rfl rfl) rfl wn rfl rfl ?_
        refine Ops.nil ?_
        refine thn_n ?_
        refine W.exit ?_
        refine blk_x ?_
        refine thn_n ?_
        refine W.seq ?_
        refine W.region rfl ?_
        refine oq (y_move rfl rfl) rfl wn rfl rfl ?_
        refine oq (y_assign rfl rfl) rfl wn rfl rfl ?_
        refine oq (y_assign rfl rfl) rfl wn rfl rfl ?_
        refine Ops.nil ?_
        refine thn_n ?_
        refine W.ret ?_
        refine lvp ?_
        rw [hvd]
        first
        | (rw [if_pos (by omega)]; rfl)
        | (rw [if_neg (by omega), if_pos (by omega)]; rfl)
        | (rw [if_neg (by omega), if_neg (by omega)]; rfl)
end Go.Mus

/- Whether two plants have the same answers. Conditions: none; over the given program. -/
namespace Go.Mus
set_option maxRecDepth 100000
set_option maxHeartbeats 4000000

theorem same_fn (main : Side) (hS : ∀ S, main.ok S → ∃ Fin, S = Mn prog Fin) (hmb : main.b = true) (h : Hp) (fs fs' : List Fl) (ss ss' : List St) (vf vs vf' vs' : Value) (Eg : TypeId) (zg : Nat × Nat) (hf : Sl h Fl.row vf fs) (hs : Sl h St.row vs ss) (zf : Zs h vf) (zs : Zs h vs) (hf' : Sl h Fl.row vf' fs') (hs' : Sl h St.row vs' ss') (zf' : Zs h vf') (zs' : Zs h vs') (hck : ckPlant fs ss = 0) (hck' : ckPlant fs' ss' = 0)
    (hn : ss'.length = ss.length) (e1 : (bestF fs' ss').2.length = (bestF fs ss).2.length) (e2 : lateF fs' ss' = lateF fs ss) (e3 : ∀ i, i < ss.length → verdF fs' ss' i = verdF fs ss i) (hg : h 0 = some (.cells #[rtV t_error] Eg zg)) (z0 : h.z 0) :
    Pu prog main n_law_same #[.agg #[vf, vs], .agg #[vf', vs']] h (.bool true) := by
  have hns := (hall_ck hck).ns
  obtain ⟨a, cap, rfl⟩ := hf.isSl
  obtain ⟨a', cap', rfl⟩ := hs.isSl
  obtain ⟨b, bcap, rfl⟩ := hf'.isSl
  obtain ⟨b', bcap', rfl⟩ := hs'.isSl
  refine Fnc.of_body at_law_same rfl (by show 2 ≤ 92; decide) [(0, .agg #[.slice a fs.length cap, .slice a' ss.length cap']), (1, .agg #[.slice b fs'.length bcap, .slice b' ss'.length bcap'])] ⟨rfl, rfl, trivial⟩ ?_
  refine W.seq ?_
  refine W.region rfl ?_
  refine Ops.box (cs := #[.slice a fs.length cap, .slice a' ss.length cap']) (fun β2 => ?_) rfl rfl rfl
  refine Ops.box (cs := #[.slice b fs'.length bcap, .slice b' ss'.length bcap']) (fun β3 => ?_) rfl rfl rfl
  refine oq (y_assign rfl rfl) rfl wn rfl rfl ?_
  refine Ops.nil ?_
  refine thn_n ?_
  refine W.seq ?_
  refine W.region rfl ?_
  first | refine oq (yldW rfl rfl) rfl wn rfl rfl ?_ | refine oq (yldA rfl rfl) rfl wn rfl rfl ?_
  refine cp (u := .tuple #[I (bestF fs ss).2.length, I 0]) (fun h' hE hL => ?_) ?_
  · have := Count_fn main hS hmb h' fs ss _ _ Eg zg (hf.ext hE) (hs.ext hE) (zf.ext hE) (zs.ext hE) (hE.1 _ _ hg) (hE.2 _ z0)
    rw [countB, if_neg (by simp [hck])] at this
    exact this
  refine oq (y_move rfl rfl) rfl wn rfl rfl ?_
  refine oq (y_extract rfl rfl rfl) rfl wn rfl rfl ?_
  refine oq (y_extract rfl rfl rfl) rfl wn rfl rfl ?_
  refine oq (y_assign rfl rfl) rfl wn rfl rfl ?_
  refine oq (y_assign rfl rfl) rfl wn rfl rfl ?_
  refine Ops.nil ?_
  refine thn_n ?_
  refine W.seq ?_
  refine W.region rfl ?_
  first | refine oq (yldW rfl rfl) rfl wn rfl rfl ?_ | refine oq (yldA rfl rfl) rfl wn rfl rfl ?_
  refine cp (u := .tuple #[I (bestF fs' ss').2.length, I 0]) (fun h' hE hL => ?_) ?_
  · have := Count_fn main hS hmb h' fs' ss' _ _ Eg zg (hf'.ext hE) (hs'.ext hE) (zf'.ext hE) (zs'.ext hE) (hE.1 _ _ hg) (hE.2 _ z0)
    rw [countB, if_neg (by simp [hck'])] at this
    exact this
  refine oq (y_move rfl rfl) rfl wn rfl rfl ?_
  refine oq (y_extract rfl rfl rfl) rfl wn rfl rfl ?_
  refine oq (y_extract rfl rfl rfl) rfl wn rfl rfl ?_
  refine oq (y_assign rfl rfl) rfl wn rfl rfl ?_
  refine oq (y_assign rfl rfl) rfl wn rfl rfl ?_
  refine Ops.nil ?_
  refine thn_n ?_
  refine W.seq ?_
  refine W.region rfl ?_
  first | refine oq (yldW rfl rfl) rfl wn rfl rfl ?_ | refine oq (yldA rfl rfl) rfl wn rfl rfl ?_
  refine cp (u := .tuple #[I (lateF fs ss), I 0]) (fun h' hE hL => ?_) ?_
  · have := Late_fn main h' fs ss _ _ Eg zg (hf.ext hE) (hs.ext hE) (hE.1 _ _ hg)
    rw [hck, if_neg (by decide)] at this
    exact this
  refine oq (y_move rfl rfl) rfl wn rfl rfl ?_
  refine oq (y_extract rfl rfl rfl) rfl wn rfl rfl ?_
  refine oq (y_extract rfl rfl rfl) rfl wn rfl rfl ?_
  refine oq (y_assign rfl rfl) rfl wn rfl rfl ?_
  refine oq (y_assign rfl rfl) rfl wn rfl rfl ?_
  refine Ops.nil ?_
  refine thn_n ?_
  refine W.seq ?_
  refine W.region rfl ?_
  first | refine oq (yldW rfl rfl) rfl wn rfl rfl ?_ | refine oq (yldA rfl rfl) rfl wn rfl rfl ?_
  refine cp (u := .tuple #[I (lateF fs' ss'), I 0]) (fun h' hE hL => ?_) ?_
  · have := Late_fn main h' fs' ss' _ _ Eg zg (hf'.ext hE) (hs'.ext hE) (hE.1 _ _ hg)
    rw [hck', if_neg (by decide)] at this
    exact this
  refine oq (y_move rfl rfl) rfl wn rfl rfl ?_
  refine oq (y_extract rfl rfl rfl) rfl wn rfl rfl ?_
  refine oq (y_extract rfl rfl rfl) rfl wn rfl rfl ?_
  refine oq (y_assign rfl rfl) rfl wn rfl rfl ?_
  refine oq (y_assign rfl rfl) rfl wn rfl rfl ?_
  refine Ops.nil ?_
  refine thn_n ?_
  refine W.seq ?_
  refine W.seq ?_
  refine W.region rfl ?_
  refine oq (y_move rfl rfl) rfl wn rfl rfl ?_
  --abs F
  refine oq ((y_neq rfl rfl rfl).eq (u := .bool false) rfl) rfl wn rfl rfl ?_
  refine oq (y_move rfl rfl) rfl wn rfl rfl ?_
  refine oq (y_move rfl rfl) rfl (want_some rfl rfl rfl) rfl rfl ?_
  --abs F
  refine oq ((y_neq rfl rfl rfl).eq (u := .bool false) rfl) rfl (want_some rfl rfl rfl) rfl rfl ?_
  refine oq (y_pickF rfl rfl rfl) rfl wn rfl rfl ?_
  refine oq (y_move rfl rfl) rfl wn rfl rfl ?_
  refine oq (y_move rfl rfl) rfl (want_some rfl rfl rfl) rfl rfl ?_
  --abs F
  refine oq ((y_neq rfl rfl rfl).eq (u := .bool false) rfl) rfl (want_some rfl rfl rfl) rfl rfl ?_
  refine oq (y_pickF rfl rfl rfl) rfl wn rfl rfl ?_
  refine oq (y_move rfl rfl) rfl wn rfl rfl ?_
  refine oq (y_move rfl rfl) rfl (want_some rfl rfl rfl) rfl rfl ?_
  --abs F
  refine oq ((y_neq rfl rfl rfl).eq (u := .bool false) rfl) rfl (want_some rfl rfl rfl) rfl rfl ?_
  refine oq (y_pickF rfl rfl rfl) rfl wn rfl rfl ?_
  refine oq (y_move rfl rfl) rfl wn rfl rfl ?_
  refine oq (y_move rfl rfl) rfl (want_some rfl rfl rfl) rfl rfl ?_
  refine oq (y_move rfl rfl) rfl (want_some rfl rfl rfl) rfl rfl ?_
  --abs F
  refine oq ((y_neq rfl rfl rfl).eq (u := .bool false) (congrArg Value.bool (decide_eq_false (fun hne => hne (by rw [e1]))))) rfl (want_some rfl rfl rfl) rfl rfl ?_
  refine oq (y_pickF rfl rfl rfl) rfl wn rfl rfl ?_
  refine oq (y_move rfl rfl) rfl wn rfl rfl ?_
  refine oq (y_move rfl rfl) rfl (want_some rfl rfl rfl) rfl rfl ?_
  refine oq (y_move rfl rfl) rfl (want_some rfl rfl rfl) rfl rfl ?_
  --abs F
  refine oq ((y_neq rfl rfl rfl).eq (u := .bool false) (congrArg Value.bool (decide_eq_false (fun hne => hne e2.symm)))) rfl (want_some rfl rfl rfl) rfl rfl ?_
  refine oq (y_pickF rfl rfl rfl) rfl wn rfl rfl ?_
  refine Ops.nil ?_
  refine thn_n ?_
  refine W.condF ?_
  refine W.skip ?_
  refine thn_n ?_
  refine W.seq ?_
  refine W.seq ?_
  refine W.region rfl ?_
  refine oq (y_assign rfl rfl) rfl wn rfl rfl ?_
  refine Ops.nil ?_
  refine thn_n ?_
  refine W.block ?_
  refine W.loop (σ := Nat) (fun k => k ≤ ss.length) (fun k => [(13, I k), (3, .pointer (some ⟨β3, 0, none⟩)), (2, .pointer (some ⟨β2, 0, none⟩))]) (fun _ => [(β3, .cells #[.slice b fs'.length bcap, .slice b' ss'.length bcap'] t_Plant (0, 0)), (β2, .cells #[.slice a fs.length cap, .slice a' ss.length cap'] t_Plant (0, 0))]) (fun k => ss.length - k) 0 (Nat.zero_le _) ⟨rfl, rfl, rfl, trivial⟩ sbA ?_
  rintro k hk
  refine W.seq ?_
  refine W.seq ?_
  refine W.region rfl ?_
  refine oq (y_move rfl rfl) rfl wn rfl rfl ?_
  refine oq (y_fieldAddr rfl rfl) rfl wn rfl rfl ?_
  refine oq (yld rfl rfl) rfl wn rfl rfl ?_
  refine oq (y_len rfl rfl) rfl wn rfl rfl ?_
  refine oq (y_lss rfl rfl rfl) rfl wn rfl rfl ?_
  refine Ops.nil ?_
  refine thn_n ?_
  refine W.condp rfl (fun c66 => ?_) (fun c66 => ?_)
  · have hk1 : k < ss.length := by omega
    refine W.skip ?_
    refine thn_n ?_
    refine W.seq ?_
    refine W.block ?_
    refine W.seq ?_
    refine W.region rfl ?_
    first | refine oq (yldW rfl rfl) rfl wn rfl rfl ?_ | refine oq (yldA rfl rfl) rfl wn rfl rfl ?_
    refine oq (y_move rfl rfl) rfl wn rfl rfl ?_
    refine cp (fun h' hE hL => Verdict_fn main hS hmb h' fs ss k _ _ Eg zg (hf.ext hE) (hs.ext hE) (zf.ext hE) (zs.ext hE) hck hk1 (hE.1 _ _ hg) (hE.2 _ z0)) ?_
    refine oq (y_move rfl rfl) rfl wn rfl rfl ?_
    refine oq (y_extract rfl rfl rfl) rfl wn rfl rfl ?_
    refine oq (y_extract rfl rfl rfl) rfl wn rfl rfl ?_
    refine oq (y_assign rfl rfl) rfl wn rfl rfl ?_
    refine oq (y_assign rfl rfl) rfl wn rfl rfl ?_
    refine Ops.nil ?_
    refine thn_n ?_
    refine W.seq ?_
    refine W.region rfl ?_
    first | refine oq (yldW rfl rfl) rfl wn rfl rfl ?_ | refine oq (yldA rfl rfl) rfl wn rfl rfl ?_
    refine oq (y_move rfl rfl) rfl wn rfl rfl ?_
    refine cp (fun h' hE hL => Verdict_fn main hS hmb h' fs' ss' k _ _ Eg zg (hf'.ext hE) (hs'.ext hE) (zf'.ext hE) (zs'.ext hE) hck' (by omega) (hE.1 _ _ hg) (hE.2 _ z0)) ?_
    refine oq (y_move rfl rfl) rfl wn rfl rfl ?_
    refine oq (y_extract rfl rfl rfl) rfl wn rfl rfl ?_
    refine oq (y_extract rfl rfl rfl) rfl wn rfl rfl ?_
    refine oq (y_assign rfl rfl) rfl wn rfl rfl ?_
    refine oq (y_assign rfl rfl) rfl wn rfl rfl ?_
    refine Ops.nil ?_
    refine thn_n ?_
    refine W.seq ?_
    refine W.region rfl ?_
    refine oq (y_move rfl rfl) rfl wn rfl rfl ?_
    --abs F
    refine oq ((y_neq rfl rfl rfl).eq (u := .bool false) rfl) rfl wn rfl rfl ?_
    refine oq (y_move rfl rfl) rfl wn rfl rfl ?_
    refine oq (y_move rfl rfl) rfl (want_some rfl rfl rfl) rfl rfl ?_
    --abs F
    refine oq ((y_neq rfl rfl rfl).eq (u := .bool false) rfl) rfl (want_some rfl rfl rfl) rfl rfl ?_
    refine oq (y_pickF rfl rfl rfl) rfl wn rfl rfl ?_
    refine oq (y_move rfl rfl) rfl wn rfl rfl ?_
    refine oq (y_move rfl rfl) rfl (want_some rfl rfl rfl) rfl rfl ?_
    refine oq (y_move rfl rfl) rfl (want_some rfl rfl rfl) rfl rfl ?_
    --abs F
    refine oq ((y_neq rfl rfl rfl).eq (u := .bool false) (congrArg Value.bool (decide_eq_false (fun hne => hne (e3 k hk1).symm)))) rfl (want_some rfl rfl rfl) rfl rfl ?_
    refine oq (y_pickF rfl rfl rfl) rfl wn rfl rfl ?_
    refine Ops.nil ?_
    refine thn_n ?_
    refine W.condF ?_
    refine W.skip ?_
    refine blk_n ?_
    refine thn_n ?_
    refine W.region rfl ?_
    refine oq (y_move rfl rfl) rfl wn rfl rfl ?_
    first | refine oq (yadd rfl rfl rfl) rfl wn rfl rfl ?_ | refine oq (y_addw rfl rfl rfl) rfl wn rfl rfl ?_
    refine oq (y_assign rfl rfl) rfl wn rfl rfl ?_
    refine Ops.nil ?_
    refine thn_n ?_
    exact ⟨rfl, k + 1, by omega, by omega, ⟨rfl, rfl, rfl, trivial⟩, .refl⟩
  · refine W.exit ?_
    refine thn_x ?_
    refine thn_x ?_
    refine blk_x ?_
    refine thn_n ?_
    refine W.seq ?_
    refine W.region rfl ?_
    refine oq (y_assign rfl rfl) rfl wn rfl rfl ?_
    refine Ops.nil ?_
    refine thn_n ?_
    refine W.ret ?_
    exact lvp rfl
end Go.Mus
