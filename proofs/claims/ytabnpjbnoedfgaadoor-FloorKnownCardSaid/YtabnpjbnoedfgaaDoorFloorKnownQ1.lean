/- From a law's body to the run of the machine, and to what is claimed of it. Conditions: none; over any program. (And 20 texts more.) -/
import Derived.Test.YtabnpjbnoedfgaaDoorR04
import Derived.Test.YtabnpjbnoedfgaaDoorR05
import Derived.Conc.LeavingOf
import Derived.LaidLaws
import Derived.LaidHandle
import Derived.ChangeSlices
import Derived.WideShapes
import Derived.Carry
import Derived.RowKit
import Derived.Test.YtabnpjbnoedfgaaDoorR10
import Derived.Test.YtabnpjbnoedfgaaDoorCards
import Derived.Test.YtabnpjbnoedfgaaDoorTie
import Derived.SevenTiedAt
import Derived.Test.YtabnpjbnoedfgaaDoorR09
set_option linter.unusedVariables false
set_option linter.unusedSimpArgs false
set_option linter.unusedSectionVars false

/- From a law's body to the run of the machine, and to what is claimed of it. Conditions: none; over any program. -/
namespace Go.Mus
/-- A function that answers u, called from outside. -/
def TopV (P : Program) (main : Side) (f : FuncId) (args : Array Value) (h : Hp) (u : Value) : Prop :=
  ∃ (fn : Func) (c : Code) (ρ : Env), P.funcs[f]? = some fn ∧ fn.body = some c ∧ args.size ≤ fn.ntmps ∧ Argu ρ args ∧ W ⟨P, main, f, fn.ntmps, none, h⟩ c (fun e ρ ds F => ds = [] ∧ Shut F ∧ leave P main fn h (fun v _ => v = u) e ρ [] F) ρ [] []

section
variable {P : Program} {main : Side} {h : Hp}
theorem TopV.of_body {f : FuncId} {fn : Func} {c : Code} {args : Array Value} {u : Value} (hf : P.funcs[f]? = some fn) (hb : fn.body = some c) (ha : args.size ≤ fn.ntmps) (ρ : Env) (hρ : Argu ρ args)
    (H : W ⟨P, main, f, fn.ntmps, none, h⟩ c (fun e ρ ds F => ds = [] ∧ Shut F ∧ leave P main fn h (fun v _ => v = u) e ρ [] F) ρ [] []) : TopV P main f args h u := ⟨fn, c, ρ, hf, hb, ha, hρ, H⟩
variable {fn : Func} {e : Exit} {ρ : Env} {F : Frag}
/-- .. its results. -/
theorem lvq {u : Value} {vs : List Value} (hu : pack vs = u) (he : e = .ret ∨ e = .normal := by first | exact .inl rfl | exact .inr rfl) (hv : resT ρ fn.results.toList = some vs := by rfl) (hs : Shut F := by repeat (first | exact Shut.nil | assumption | refine Shut.cons rfl ?_ | refine Shut.app ?_ ?_)) : ([] : List Deferred) = [] ∧ Shut F ∧ leave P main fn h (fun v _ => v = u) e ρ [] F :=
  ⟨rfl, hs, lvt hu he hv⟩
end
/-- ████ THE RUN OF SUCH A CALL. -/
theorem TopV.run {P : Program} {f : FuncId} {args : Array Value} {W : World} {u : Value} (hi : P.inits.idxOf? f = none) (T : TopV P (mainS P (FinOK P fun v _ => v = u)) f args (atStart W) u) :
    ∃ M last o w' t', runNT P (M + 1) (Conc.solo (Conc.G (Frame.enter P f args .normal) []) W) #[] = (.ended o w', t') ∧ runN P M (Conc.solo (Conc.G (Frame.enter P f args .normal) []) W) = .next last ∧ Go.step P last = .ended o w' ∧ Conc.Good P (fun v w' => v = u ∧ Kept W w') last o w' t' := by
  obtain ⟨fn, c, ρ, h1, h2, h3, h4, h5⟩ := T
  exact Mn.run (Mn.top (R := fun v => v = u) h1 h2 hi h3 ρ h4 atStart_sat (fun b o hb => (atStart_some.1 hb).2) (fun v w hv _ => hv) h5)

theorem Kept.below {w w' : World} (h : Kept w w') : Go.RowKit.Below w.heap.size w w' := ⟨h.os, h.tape, h.output, h.size, h.block⟩

/-- A slice of ints, as it lies in memory. -/
theorem flat_rowZ (l : List Int) : flat rowI l = l.map fun n => .int .i64 n := by
  induction l with
  | nil => rfl
  | cons a l ih => rw [flat_cons, ih]; rfl
theorem Part.of_get {c : Array Value} {off : Nat} {xs : List Value} (h : ∀ j, j < xs.length → c[off + j]? = xs[j]?) (hne : xs ≠ []) : Part c off xs := by
  have hlen : off + xs.length ≤ c.size := by
    have hpos : 0 < xs.length := List.length_pos_iff.2 hne
    have := h (xs.length - 1) (by omega)
    rw [List.getElem?_eq_getElem (by omega)] at this
    rcases Nat.lt_or_ge (off + (xs.length - 1)) c.size with h' | h'
    · omega
    · rw [Array.getElem?_eq_none h'] at this; cases this
  refine ⟨c.toList.take off, c.toList.drop (off + xs.length), ?_, by simp; omega⟩
  apply List.ext_getElem?
  intro i
  have hsz : c.toList.length = c.size := by simp
  rcases Nat.lt_or_ge i off with h1 | h1
  · rw [List.getElem?_append_left (by simp; omega), List.getElem?_take, if_pos h1]
  · rw [List.getElem?_append_right (by simp; omega)]
    have e1 : (c.toList.take off).length = off := by simp; omega
    rw [e1]
    rcases Nat.lt_or_ge (i - off) xs.length with h2 | h2
    · rw [List.getElem?_append_left h2, ← h _ h2]
      simp only [Array.getElem?_toList]
      congr 1; omega
    · rw [List.getElem?_append_right h2, List.getElem?_drop]
      congr 1; omega
theorem Sl.atStart {W : World} {a : Addr} {n cap : Nat} {zs : List Int} (hz : n ≤ zs.length) (h : ∀ i, i < zs.length → W.cell? (a.add i) = some (.int .i64 (zs.getD i 0))) : Sl (atStart W) rowI (.slice (some a) n cap) (zs.take n) := by
  refine ⟨some a, cap, by rw [List.length_take, Nat.min_eq_left hz], fun hne => ?_⟩
  have hpos : 0 < n := by
    rcases Nat.eq_zero_or_pos n with h' | h'
    · subst h'; simp at hne
    · exact h'
  obtain ⟨b, off, spot⟩ := a
  have hsp : spot = none := by
    have := h 0 (by omega)
    cases hs : spot with
    | none => rfl
    | some s =>
      subst hs
      exfalso
      simp only [World.cell?, Addr.add, if_true] at this
      split at this
      · simp at this
      · cases this
  subst hsp
  have cell : ∀ i, i < zs.length → ∃ c E fz, W.heap[b]? = some (.cells c E fz) ∧ c[off + i]? = some (.int .i64 (zs.getD i 0)) := fun i hi => by
    have := h i hi
    rw [show (⟨b, off, none⟩ : Addr).add i = ⟨b, off + i, none⟩ by unfold Addr.add; split <;> simp [*]] at this
    simp only [World.cell?] at this
    split at this
    · rename_i c E fz hb
      exact ⟨c, E, fz, hb, by simpa using this⟩
    · cases this
  obtain ⟨c, E, fz, hb, h0⟩ := cell 0 (by omega)
  refine ⟨b, off, c, E, fz, rfl, atStart_some.2 ⟨hb, rfl⟩, Part.of_get (fun j hj => ?_) ?_⟩
  · rw [flat_rowZ, List.length_map, List.length_take] at hj
    obtain ⟨c', E', fz', hb', hj'⟩ := cell j (by omega)
    rw [hb] at hb'
    cases hb'
    rw [hj', flat_rowZ, List.getElem?_map, List.getElem?_take, if_pos (by omega), List.getElem?_eq_getElem (by omega)]
    simp [List.getD, List.getElem?_eq_getElem (show j < zs.length by omega)]
  · rw [flat_rowZ]
    intro e
    exact hne (List.map_eq_nil_iff.1 e)
end Go.Mus

/- From a law that answers true to its card: the parts that all laws of this seat share. Conditions: as the cards say; over the given program. -/
namespace Go.Mus
open Go.Proofs.YtabnpjbnoedfgaaDoor
set_option maxRecDepth 100000
set_option maxHeartbeats 4000000
theorem own0 : ownKnob prog.godebug = none := by kernel_rfl
theorem et0 : prog.globalNamed "errors.errorType" = some 0 := by kernel_rfl
/-- The name of the type of types. -/
abbrev rtName : String := match (Rows.laid_errors_errorType : DataW Unit) with
  | .iface s _ => s
  | _ => ""
theorem rt0 : (prog.cutTypes.find? (·.1 == rtName)).map (·.2) = some t_reflectlite_rtype := by kernel_rfl
theorem size0 : prog.types.size = 221 := by kernel_rfl
theorem oneRow0 : ((List.range 221).filter fun t => prog.rowNamed t [101, 114, 114, 111, 114]) = [t_error] := by kernel_rfl
theorem under_bool : prog.underlying t_bool = some .bool := by kernel_rfl
abbrev laid0 : List (String × DataW Unit) := [("errors.errorType", Rows.laid_errors_errorType)]
/-- What the condition says of the variable. -/
theorem handle0 {W : World} (h : laidMetH prog laid0 W) : ∃ E z, W.heap[0]? = some (.cells #[rtV t_error] E z) := by
  have h' : laidMet prog [] W ∧ handlesMet prog laid0 W := h
  obtain ⟨name, u, ty, e1, e2, e3, e4, e5⟩ := h'.2 _ (List.mem_singleton.2 rfl)
  have en : name = [101, 114, 114, 111, 114] := (Option.some.inj e1).symm
  subst en
  obtain rfl := Option.some.inj (rt0.symm.trans e2)
  have hm : ty ∈ (List.range 221).filter fun t => prog.rowNamed t [101, 114, 114, 111, 114] := List.mem_filter.2 ⟨List.mem_range.2 (by rw [← size0]; exact e3), e4⟩
  rw [oneRow0] at hm
  obtain rfl := List.mem_singleton.1 hm
  simp only [World.var?] at e5
  rw [et0, Option.bind_some] at e5
  split at e5
  · rename_i cs E z hb
    obtain rfl := Option.some.inj e5
    exact ⟨E, z, hb⟩
  · cases e5

/-- A world that meets the condition. -/
noncomputable def laidWorld (os : Go.Os) : World :=
  let w0 := World.holding prog os ⟨#[], #[], []⟩
  { w0 with heap := w0.heap.modify 0 fun
      | .cells _ t frozen => .cells #[rtV t_error] t frozen
      | o => o }
theorem laidWorld_met (os : Go.Os) (args : Array Value) : laidMetH prog laid0 ((laidWorld os).forCall (fun _ _ => 0) ⟨#[], args, []⟩).memory :=
  laidMetH_of_parts (laidMet_nil _ _) (by kernel_rfl)

theorem laidMetH_heap {P : Program} {l : List (String × DataW Unit)} {w w' : World} (hh : w.heap = w'.heap) (h : laidMetH P l w) : laidMetH P l w' := h.of_heap hh

section
open Go.ChangeShapes Go.WideShapes Go.RowKit
end
/-- A tied card of a row whose call starts goroutines. -/
theorem tied_goes (Lk : Looks) {p : Pinned} {s : OpenSpec} {c : OpenClaim} (al : List (List PathCond)) (kinds : List LaidKind) (tests : Bool) (har : Bool × String) (lk : Bool)
    (hc : c.holds p s) (hal : ∀ D ∈ al, (c.withDomain D).holds p s) (hw : c.wfByText s = true) (hwal : ∀ D ∈ al, (c.withDomain D).wfByText s = true)
    (htie : c.laidByTextAt Lk p kinds tests)
    (hst : c.start = .entering) (hnb : c.noBlocks = false ∧ c.again = false) (hm : p.checked.prog.mainIs = some (har.1, har.2.toList)) (hn : (!har.1 && har.2.isEmpty && !lk) = false)
    (hl : ∀ f fn, p.checked.prog.funcNamed c.func = some f → p.checked.prog.funcs[f]? = some fn → lk = p.checked.prog.looks [] ∧ ∀ (j : Nat) t, fn.params[j]? = some t → p.checked.prog.wantsStandIn t = false)
    (hg : true = c.goesBy p.checked.prog) :
    Claim7.holds p (.plain s) { stood := { row := c, standIns := [], harness := har, looks := lk }, kinds := [], alts := al, goes := true, laidByText := true, laidKinds := kinds, laidTests := tests, laidLooks := Lk } := by
  have h6 : ∀ r : OpenClaim, Claim7.isSixth { stood := { row := r, standIns := [], harness := har, looks := lk }, kinds := [] } = false := fun r => by simpa [Claim7.isSixth] using hn
  refine ⟨Claim7.tied_new_at Lk kinds tests (Claim7.new_of_sixth hc har lk hst hnb hm (h6 c) hl) hw, fun D hD => ?_, htie, (fun h => by cases h), hg⟩
  exact Claim7.tied_new_at Lk kinds tests (Claim7.new_of_sixth (hal D hD) har lk hst hnb hm (h6 _) hl) (hwal D hD)

end Go.Mus

/- Numbers out of a hat. Conditions: none; over the given program. -/
namespace Go.Mus
set_option maxRecDepth 100000
set_option maxHeartbeats 4000000
end Go.Mus

/- Floors, strikes and plants out of a hat. Conditions: none; over the given program. -/
namespace Go.Mus
set_option maxRecDepth 100000
set_option maxHeartbeats 4000000
end Go.Mus

/- Floors out of a hat. Conditions: none; over the given program. -/
namespace Go.Mus
set_option maxRecDepth 100000
set_option maxHeartbeats 4000000
theorem pa (c : Array Value) (l : List Int) (h : c = (flat rowI l).toArray := by rfl) : Part c 0 (flat rowI l) := by
  subst h; exact Part.all _
theorem ckFloor_ok {f : Fl} (h1 : 1 ≤ f.pl ∧ f.pl ≤ 9) (h2 : 1 ≤ f.lo ∧ f.lo ≤ 6) (h3 : f.lo ≤ f.hi ∧ f.hi ≤ 6) (h4 : 0 ≤ f.co ∧ f.co ≤ 9) : ckFloor f = 0 := by
  unfold ckFloor
  rw [if_neg (by unfold outs; omega), if_neg (by omega), if_neg (by unfold outs; omega)]
end Go.Mus

/- Plants out of a hat. Conditions: none; over the given program. -/
namespace Go.Mus
set_option maxRecDepth 100000
set_option maxHeartbeats 4000000
end Go.Mus

/- Copies of plants and plans, whether plans are equal; the plants of the examples. Conditions: none; over the given program. -/
namespace Go.Mus
set_option maxRecDepth 100000
set_option maxHeartbeats 4000000
/-- The first ones of what is read. -/
theorem Sl.take {α : Type} {row : α → List Value} {w : Nat} [Rw row w] {h : Hp} {a : Option Addr} {n cap : Nat} {l : List α} (H : Sl h row (.slice a n cap) l) {m : Nat} (hm : m ≤ l.length) : Sl h row (.slice a m cap) (l.take m) := by
  obtain ⟨a', cap', e, hx⟩ := H
  cases e
  refine ⟨a, cap, by rw [List.length_take, Nat.min_eq_left hm], fun hne => ?_⟩
  obtain ⟨b, off, c, E, fz, rfl, hb, hp⟩ := hx (by rintro rfl; simp at hne)
  refine ⟨b, off, c, E, fz, rfl, hb, ?_⟩
  rw [show flat row l = [] ++ (flat row (l.take m) ++ flat row (l.drop m)) by rw [List.nil_append, ← flat_app, List.take_append_drop]] at hp
  exact hp.sub
theorem Zs.take {h : Hp} {a : Option Addr} {n m cap cap' : Nat} (H : Zs h (.slice a n cap)) : Zs h (.slice a m cap') := fun b off _ _ e => by
  cases e
  exact H b off n cap rfl

theorem be_ne (p q : Be) : (!decide ([p.fl, p.day] = [q.fl, q.day])) = decide (p ≠ q) := by
  obtain ⟨x, y⟩ := p
  obtain ⟨x', y'⟩ := q
  by_cases h : x = x' ∧ y = y'
  · simp [h]
  · simp [h]
theorem EqBerths_fn (main : Side) (h : Hp) (l l' : List Be) (v v' : Value) (hl : Sl h Be.row v l) (hl' : Sl h Be.row v' l') (hn : l.length ≤ 100000) : Pu prog main n_kit_EqBerths #[v, v'] h (.bool (decide (l = l'))) := by
  obtain ⟨a, cap, rfl⟩ := hl.isSl
  obtain ⟨a', cap', rfl⟩ := hl'.isSl
  refine Fnc.of_body at_kit_EqBerths rfl (by show 2 ≤ 32; decide) [(0, .slice a l.length cap), (1, .slice a' l'.length cap')] ⟨rfl, rfl, trivial⟩ ?_
  refine W.seq <| W.region rfl <| qs rfl rfl rfl <| Ops.nil <| thn_n <| W.seq <| W.seq <| W.region rfl <| qs rfl rfl rfl <| Ops.nil ?_
  refine thn_n <| W.block ?_
  refine W.loop (σ := Nat) (fun k => k ≤ l.length ∧ k ≤ l'.length ∧ l.take k = l'.take k) (fun k => [(5, I k), (0, .slice a l.length cap), (1, .slice a' l'.length cap')]) (fun _ => []) (fun k => l.length - k) 0 ⟨Nat.zero_le _, Nat.zero_le _, rfl⟩ ⟨rfl, rfl, rfl, trivial⟩ sbA ?_
  rintro k ⟨hk, hk', he⟩
  refine W.seq <| W.seq <| W.region rfl <| qm rfl rfl rfl <| qm rfl rfl rfl ?_
  refine oq (y_len rfl rfl) rfl wn rfl rfl ?_
  refine oq (y_lss rfl rfl rfl) rfl wn rfl rfl ?_
  refine qm rfl rfl rfl ?_
  refine Ops.ask (fun a2_5 => ?_) (fun a2_5 => ?_)
  · refine oq (y_move rfl rfl) rfl (want_some rfl rfl rfl) rfl rfl ?_
    refine oq (y_move rfl rfl) rfl (want_some rfl rfl rfl) rfl rfl ?_
    refine oq (y_len rfl rfl) rfl (want_some rfl rfl rfl) rfl rfl ?_
    refine oq (y_lss rfl rfl rfl) rfl (want_some rfl rfl rfl) rfl rfl ?_
    refine oq (y_pickT rfl rfl rfl) rfl wn rfl rfl ?_
    refine Ops.nil <| thn_n ?_
    refine W.condp rfl (fun c15 => ?_) (fun c15 => ?_)
    · obtain ⟨p, hp, -⟩ := has (show k < l.length by omega)
      obtain ⟨q, hq, -⟩ := has (show k < l'.length by omega)
      obtain ⟨b, off, c, E, fz, rfl, hb, hx1, hy1, hz1⟩ := hl.at hp
      have hx2 : c.extract (off + k * 2) (off + k * 2 + 2) = #[I p.fl, I p.day] := hx1
      clear hx1 hz1
      obtain ⟨b', off', c', E', fz', rfl, hb', hx1, hy2, hz1⟩ := hl'.at hq
      have hx3 : c'.extract (off' + k * 2) (off' + k * 2 + 2) = #[I q.fl, I q.day] := hx1
      clear hx1 hz1
      refine W.skip <| thn_n <| W.seq <| W.block <| W.seq ?_
      refine W.drawF (n := 9) rfl ?_
      refine aq (i := 0) (y_move rfl rfl) rfl an rfl rfl ?_
      refine aq (i := 1) (y_move rfl rfl) rfl an rfl rfl ?_
      first | refine aq (i := 2) (yix rfl rfl rfl) rfl an rfl rfl ?_ | refine aq (i := 2) (yixI rfl rfl rfl) rfl an rfl rfl ?_
      first | refine aq (i := 3) (yldW rfl rfl) rfl an rfl rfl ?_ | refine aq (i := 3) (yldA rfl rfl) rfl an rfl rfl ?_
      refine aq (i := 4) (y_move rfl rfl) rfl an rfl rfl ?_
      refine aq (i := 5) (y_move rfl rfl) rfl an rfl rfl ?_
      first | refine aq (i := 6) (yix rfl rfl rfl) rfl an rfl rfl ?_ | refine aq (i := 6) (yixI rfl rfl rfl) rfl an rfl rfl ?_
      first | refine aq (i := 7) (yldW rfl rfl) rfl an rfl rfl ?_ | refine aq (i := 7) (yldA rfl rfl) rfl an rfl rfl ?_
      refine aq (i := 8) (Yv.eq (u := .bool (decide (p ≠ q))) (y_neA [p.fl, p.day] [q.fl, q.day] rfl rfl rfl rfl rfl rfl rfl) (congrArg Value.bool (be_ne p q))) rfl an rfl rfl ?_
      refine az ?_
      refine thn_n ?_
      refine W.condp rfl (fun c26 => ?_) (fun c26 => ?_)
      · refine W.seq <| W.region rfl <| qs rfl rfl rfl <| Ops.nil <| thn_n <| W.ret <| blk_r <| thn_r <| thn_r <| blk_r ?_
        refine thn_r ?_
        refine lvp ?_
        refine congrArg Value.bool (decide_eq_false fun e => ?_).symm
        subst e
        rw [hp] at hq
        cases hq
        exact c26 rfl
      · refine W.skip <| blk_n <| thn_n <| W.region rfl <| qm rfl rfl rfl ?_
        first | refine oq (yadd rfl rfl rfl) rfl wn rfl rfl ?_ | refine oq (y_addw rfl rfl rfl) rfl wn rfl rfl ?_
        refine qs rfl rfl rfl <| Ops.nil <| thn_n ?_
        have hpq : p = q := Decidable.byContradiction c26
        subst hpq
        exact ⟨rfl, k + 1, ⟨by omega, by omega, by rw [take_next hp, take_next hq, he]⟩, by omega, ⟨rfl, rfl, rfl, trivial⟩, sbA⟩
    · refine W.exit <| thn_x <| thn_x <| blk_x <| thn_n <| W.seq <| W.region rfl <| qm rfl rfl rfl ?_
      refine oq (y_len rfl rfl) rfl wn rfl rfl ?_
      refine qm rfl rfl rfl ?_
      refine oq (y_len rfl rfl) rfl wn rfl rfl ?_
      refine oq (y_eql rfl rfl rfl) rfl wn rfl rfl ?_
      refine qs rfl rfl rfl <| Ops.nil <| thn_n <| W.ret ?_
      refine lvp ?_
      refine congrArg Value.bool (decide_eq_decide.2 ⟨fun e => ?_, fun e => ?_⟩)
      · have e' : l.length = l'.length := by omega
        have hkl : k = l.length := by omega
        rw [← List.take_length (l := l), ← List.take_length (l := l'), ← e', ← hkl, he]
      · rw [e]
  · refine Ops.no ?_
    refine Ops.no ?_
    refine Ops.no ?_
    refine Ops.no ?_
    refine oq (y_pickF rfl rfl rfl) rfl wn rfl rfl ?_
    refine Ops.nil <| thn_n ?_
    refine W.condF ?_
    refine W.exit <| thn_x <| thn_x <| blk_x <| thn_n <| W.seq <| W.region rfl <| qm rfl rfl rfl ?_
    refine oq (y_len rfl rfl) rfl wn rfl rfl ?_
    refine qm rfl rfl rfl ?_
    refine oq (y_len rfl rfl) rfl wn rfl rfl ?_
    refine oq (y_eql rfl rfl rfl) rfl wn rfl rfl ?_
    refine qs rfl rfl rfl <| Ops.nil <| thn_n <| W.ret ?_
    refine lvp ?_
    refine congrArg Value.bool (decide_eq_decide.2 ⟨fun e => ?_, fun e => ?_⟩)
    · have e' : l.length = l'.length := by omega
      have hkl : k = l.length := by omega
      rw [← List.take_length (l := l), ← List.take_length (l := l'), ← e', ← hkl, he]
    · rw [e]
/-! The examples -/
def exF (cool : Int) : List Fl := [⟨4, 2, 3, cool⟩, ⟨3, 3, 5, 2⟩]
def exS (day : Int) : List St := [⟨0, 3, 0⟩, ⟨1, 2, 1⟩, ⟨3, 4, 1⟩, ⟨day, 2, 0⟩]
def exP : List Be := [⟨0, 0⟩, ⟨1, 1⟩, ⟨0, 3⟩, ⟨0, 6⟩]
theorem plant_fn (main : Side) (h : Hp) (day cool : Int) : Fnc prog main n_law_plant #[I day, I cool] h [] (fun v A => ∃ b1 b2, v = .agg #[.slice (some ⟨b1, 0, none⟩) 2 2, .slice (some ⟨b2, 0, none⟩) 4 4] ∧ Sb [(b1, .cells (flat Fl.row (exF cool)).toArray t_Floor (0, 0)), (b2, .cells (flat St.row (exS day)).toArray t_Strike (0, 0))] A) := by
  refine Fnc.of_body at_law_plant rfl (by show 2 ≤ 18; decide) [(0, I day), (1, I cool)] ⟨rfl, rfl, trivial⟩ ?_
  refine W.seq <| W.region rfl ?_
  refine Ops.new (fun β4 => ?_)
  refine Ops.nil <| thn_n <| W.seq <| W.region rfl ?_
  refine oq (y_build (cs := #[I 2, I 3]) rfl rfl rfl) rfl wn rfl rfl ?_
  refine qm rfl rfl rfl ?_
  refine oq (y_build (cs := #[I 4, I 2, I 3, I cool]) rfl rfl rfl) rfl wn rfl rfl ?_
  refine oq (y_build (cs := #[I 3, I 5]) rfl rfl rfl) rfl wn rfl rfl ?_
  refine oq (y_build (cs := #[I 3, I 3, I 5, I 2]) rfl rfl rfl) rfl wn rfl rfl ?_
  refine Ops.bsl (cs := (flat Fl.row (exF cool)).toArray) (fun β10 => ?_) rfl (hf := by kernel_rfl)
  refine oq (y_build (cs := #[I 0, I 3, I 0]) rfl rfl rfl) rfl wn rfl rfl ?_
  refine oq (y_build (cs := #[I 1, I 2, I 1]) rfl rfl rfl) rfl wn rfl rfl ?_
  refine oq (y_build (cs := #[I 3, I 4, I 1]) rfl rfl rfl) rfl wn rfl rfl ?_
  refine qm rfl rfl rfl ?_
  refine oq (y_build (cs := #[I day, I 2, I 0]) rfl rfl rfl) rfl wn rfl rfl ?_
  refine Ops.bsl (cs := (flat St.row (exS day)).toArray) (fun β16 => ?_) rfl (hf := by kernel_rfl)
  refine oq (y_build (cs := #[.slice (some ⟨β10, 0, none⟩) 2 2, .slice (some ⟨β16, 0, none⟩) 4 4]) rfl rfl rfl) rfl wn rfl rfl ?_
  first | refine Ops.stoW ?_ | refine Ops.stoA ?_
  refine Ops.nil <| thn_n <| W.ret ?_
  refine lvc (hv := rAgg rNil) ⟨β10, β16, rfl, ?_⟩
  exact Sb.trans (.of_perm (List.Perm.swap _ _ _)) (.cons (.cons (.skip rfl .refl)))
theorem plan_fn (main : Side) (h : Hp) : Fnc prog main n_law_plan #[] h [] (fun v A => ∃ b, v = .slice (some ⟨b, 0, none⟩) 4 4 ∧ A = [(b, .cells (flat Be.row exP).toArray t_Berth (0, 0))]) := by
  refine Fnc.of_body at_law_plan rfl (by show 0 ≤ 6; decide) [] trivial ?_
  refine W.seq <| W.region rfl <| qs rfl rfl rfl <| Ops.nil <| thn_n <| W.seq <| W.region rfl ?_
  refine oq (y_build (cs := #[I 0, I 0]) rfl rfl rfl) rfl wn rfl rfl ?_
  refine oq (y_build (cs := #[I 1, I 1]) rfl rfl rfl) rfl wn rfl rfl ?_
  refine oq (y_build (cs := #[I 0, I 3]) rfl rfl rfl) rfl wn rfl rfl ?_
  refine oq (y_build (cs := #[I 0, I 6]) rfl rfl rfl) rfl wn rfl rfl ?_
  refine Ops.bsl (cs := (flat Be.row exP).toArray) (fun β5 => ?_) rfl (hf := by kernel_rfl)
  refine qs rfl rfl rfl <| Ops.nil <| thn_n <| W.ret ?_
  exact lvt (vs := [_]) ⟨_, rfl, rfl⟩
theorem none_fn (main : Side) (h : Hp) : Pu prog main n_law_none #[] h (Be.val ⟨-1, 0⟩) := by
  refine Fnc.of_body at_law_none rfl (by show 0 ≤ 2; decide) [] trivial ?_
  refine W.seq <| W.region rfl ?_
  refine Ops.new (fun β0 => ?_)
  refine Ops.nil <| thn_n <| W.seq <| W.region rfl ?_
  refine oq (y_build (cs := #[I (-1), I 0]) rfl rfl rfl) rfl wn rfl rfl ?_
  first | refine Ops.stoW ?_ | refine Ops.stoA ?_
  refine Ops.nil <| thn_n <| W.ret ?_
  exact lvc (hv := rAgg rNil) ⟨rfl, .cons rfl .nil⟩
end Go.Mus

/- The examples that each statement asks for. Conditions: none; over the given program. -/
namespace Go.Mus
set_option maxRecDepth 100000
set_option maxHeartbeats 4000000
/-- A block that is never written again, inside a region. -/
theorem Ops.freeze {x : Cx} {ops : Array Oper} {l : List Nat} {Q : Post} {ρ : Env} {ds : List Deferred} {F : Frag} {b : Nat} {o : Obj} (ho : opn o = false) (H : ∀ h', Ext x.h h' → h' b = some o → h'.z b → Ops { x with h := h' } ops l Q ρ ds F) : Ops x ops l Q ρ ds ((b, o) :: F) := by
  intro fr k cs Stop tmps hk M h1 h0 h2 h3 h4 h5 hc
  obtain ⟨S, e, hl⟩ := h5.freeze ho
  have hb := (h5.own b o (List.mem_cons_self ..)).2.2
  refine Gos.eased Stop.2.2 _ _ _ _ hl (H _ e (freeze_at _ _ _) (.inl rfl) fr k cs Stop tmps hk _ h1 h0 h2 h3 h4 S fun ex ρ' ds' F' tmps' hk' M' q a1 a2 a3 a4 => hc ex ρ' ds' F' tmps' hk' M' q a1 a2 (a3.thaw hb ho) fun c' hm hF => ?_)
  have hne : c' ≠ b := by rintro rfl; exact hF o (List.mem_cons_self ..)
  exact a4 c' ⟨hm, hne⟩ fun o' ho' => hF o' (List.mem_cons_of_mem _ ho')

/-! What the examples come to -/
theorem ex1 : standsV (exF 1) (exS 6) exP 0 2 = (⟨0, 3⟩, 0) := by decide +kernel
theorem ex2 : wrongV (exF 1) (exS 6) [⟨1, 0⟩, ⟨0, 1⟩, ⟨0, 3⟩, ⟨-1, 0⟩] = (0, 3, 0) := by decide +kernel
theorem ex3 : bestB (exF 1) (exS 6) = (exP, 11, 0) := by decide +kernel
theorem ex4 : countB (exF 1) (exS 4) = (4, 0) := by decide +kernel
theorem ex5 : lateF (exF 0) (exS 6) = 2 := by decide +kernel
theorem ex5c : ckPlant (exF 0) (exS 6) = 0 := by decide +kernel
theorem ex6 : patV (exF 1) (exS 4) = (1, 0) := by decide +kernel
theorem exSl {h : Hp} {α : Type} {row : α → List Value} {w : Nat} [Rw row w] {b n cap : Nat} {E : TypeId} {z : Nat × Nat} {l : List α} (hb : h b = some (.cells (flat row l).toArray E z)) (hn : n = l.length) : Sl h row (.slice (some ⟨b, 0, none⟩) n cap) l := Sl.mk hb hn (Part.all _)
theorem exZ {h : Hp} {b n cap : Nat} (hz : h.z b) : Zs h (.slice (some ⟨b, 0, none⟩) n cap) := fun _ _ _ _ e => by cases e; exact hz

theorem exs_fn (main : Side) (hS : ∀ S, main.ok S → ∃ Fin, S = Mn prog Fin) (hmb : main.b = true) (h : Hp) (Eg : TypeId) (zg : Nat × Nat) (hg : h 0 = some (.cells #[rtV t_error] Eg zg)) (z0 : h.z 0) : Pu prog main n_law_set #[] h (.bool true) := by
  refine Fnc.of_body at_law_set rfl (by show 0 ≤ 109; decide) [] trivial ?_
  refine W.seq <| W.region rfl <| qs rfl rfl rfl <| Ops.nil <| thn_n <| W.seq <| W.region rfl ?_
  refine c0 (fun h' hE hL => plant_fn _ h' _ _) (fun v A' hv => ?_)
  obtain ⟨b1, b2, rfl, hsb⟩ := hv
  refine Ops.sb (hsb.app .refl) ?_
  refine c0 (fun h' hE hL => plan_fn _ h') (fun v A' hv => ?_)
  obtain ⟨b3, rfl, rfl⟩ := hv
  refine cp (u := .tuple #[.agg #[I 0, I 3], I 0]) (fun h' hE hL => ?_) ?_
  · have := Stands_fn main h' (exF 1) (exS 6) exP 0 2 (.slice (some ⟨b1, 0, none⟩) 2 2) (.slice (some ⟨b2, 0, none⟩) 4 4) (.slice (some ⟨b3, 0, none⟩) 4 4) (exSl (hL b1 _ (.tail _ (.head _))) rfl) (exSl (hL b2 _ (.tail _ (.tail _ (.head _)))) rfl) (exSl (hL b3 _ (.head _)) rfl)
    rw [ex1] at this
    exact this
  refine Ops.sb (F' := []) (Sb.skip rfl (Sb.skip rfl (Sb.skip rfl Sb.refl))) ?_
  refine qm rfl rfl rfl <| oq (y_extract rfl rfl rfl) rfl wn rfl rfl <| oq (y_extract rfl rfl rfl) rfl wn rfl rfl ?_
  refine Ops.new (fun β1 => ?_)
  first | refine Ops.stoW ?_ | refine Ops.stoA ?_
  refine qs rfl rfl rfl <| Ops.nil <| thn_n <| W.seq <| W.region rfl ?_
  refine c0 (fun h' hE hL => plant_fn _ h' _ _) (fun v A' hv => ?_)
  obtain ⟨b1, b2, rfl, hsb⟩ := hv
  refine Ops.sb (hsb.app .refl) ?_
  refine oq (y_build (cs := #[I 1, I 0]) rfl rfl rfl) rfl wn rfl rfl ?_
  refine oq (y_build (cs := #[I 0, I 1]) rfl rfl rfl) rfl wn rfl rfl ?_
  refine oq (y_build (cs := #[I 0, I 3]) rfl rfl rfl) rfl wn rfl rfl ?_
  refine cp (fun h' hE hL => none_fn _ h') ?_
  refine Ops.bsl (cs := (flat Be.row [⟨1, 0⟩, ⟨0, 1⟩, ⟨0, 3⟩, ⟨-1, 0⟩]).toArray) (fun β27 => ?_) rfl (hf := by kernel_rfl)
  refine cp (u := .tuple #[I 0, I 3, I 0]) (fun h' hE hL => ?_) ?_
  · have := Wrong_fn main h' (exF 1) (exS 6) [⟨1, 0⟩, ⟨0, 1⟩, ⟨0, 3⟩, ⟨-1, 0⟩] (.slice (some ⟨b1, 0, none⟩) 2 2) (.slice (some ⟨b2, 0, none⟩) 4 4) (.slice (some ⟨β27, 0, none⟩) 4 4) Eg zg (exSl (hL b1 _ (.tail _ (.head _))) rfl) (exSl (hL b2 _ (.tail _ (.tail _ (.head _)))) rfl) (exSl (hL β27 _ (.head _)) rfl) (hE.1 _ _ hg)
    rw [ex2] at this
    exact this
  refine Ops.sb (F' := [(β1, .cells #[I 0, I 3] t_Span (0, 0))]) (Sb.skip rfl (Sb.skip rfl (Sb.skip rfl Sb.refl))) ?_
  refine qm rfl rfl rfl <| oq (y_extract rfl rfl rfl) rfl wn rfl rfl <| oq (y_extract rfl rfl rfl) rfl wn rfl rfl <| oq (y_extract rfl rfl rfl) rfl wn rfl rfl <| qs rfl rfl rfl <| qs rfl rfl rfl <| qs rfl rfl rfl <| Ops.nil <| thn_n <| W.seq ?_
  refine W.region rfl ?_
  refine c0 (fun h' hE hL => plant_fn _ h' _ _) (fun v A' hv => ?_)
  obtain ⟨b1, b2, rfl, hsb⟩ := hv
  refine Ops.sb (hsb.app .refl) ?_
  refine Ops.freeze (b := b1) rfl (fun h1 hE1 hb1 hz1 => ?_)
  refine Ops.freeze (b := b2) rfl (fun h2 hE2 hb2 hz2 => ?_)
  have hE12 := hE1.trans hE2
  refine c0 (fun h' hE hL => Best_fn _ hS hmb h' (exF 1) (exS 6) (.slice (some ⟨b1, 0, none⟩) 2 2) (.slice (some ⟨b2, 0, none⟩) 4 4) Eg zg (exSl ((hE2.trans hE).1 _ _ hb1) rfl) (exSl (hE.1 _ _ hb2) rfl) ((exZ hz1).ext (hE2.trans hE)) ((exZ hz2).ext hE) ((hE12.trans hE).1 _ _ hg) ((hE12.trans hE).2 _ z0)) (fun v A' hv => ?_)
  rw [ex3] at hv
  obtain ⟨u, S, rfl, hO, hsb⟩ := hv
  obtain ⟨ua, uc, rfl⟩ := hO.isSl
  refine Ops.sb (hsb.app .refl) ?_
  refine qm rfl rfl rfl <| oq (y_extract rfl rfl rfl) rfl wn rfl rfl <| oq (y_extract rfl rfl rfl) rfl wn rfl rfl <| oq (y_extract rfl rfl rfl) rfl wn rfl rfl <| qs rfl rfl rfl <| qs rfl rfl rfl <| qs rfl rfl rfl <| Ops.nil <| thn_n <| W.seq ?_
  refine W.region rfl ?_
  refine c0 (fun h' hE hL => plant_fn _ h' _ _) (fun v A' hv => ?_)
  obtain ⟨b1, b2, rfl, hsb⟩ := hv
  refine Ops.sb (hsb.app .refl) ?_
  refine Ops.freeze (b := b1) rfl (fun h1 hE1 hb1 hz1 => ?_)
  refine Ops.freeze (b := b2) rfl (fun h2 hE2 hb2 hz2 => ?_)
  have hE12 := hE1.trans hE2
  refine cp (u := .tuple #[I 4, I 0]) (fun h' hE hL => ?_) ?_
  · have := Count_fn main hS hmb h' (exF 1) (exS 4) (.slice (some ⟨b1, 0, none⟩) 2 2) (.slice (some ⟨b2, 0, none⟩) 4 4) Eg zg (exSl ((hE2.trans hE).1 _ _ hb1) rfl) (exSl (hE.1 _ _ hb2) rfl) ((exZ hz1).ext (hE2.trans hE)) ((exZ hz2).ext hE) ((hE12.trans hE).1 _ _ hg) ((hE12.trans hE).2 _ z0)
    rw [ex4] at this
    exact this
  refine qm rfl rfl rfl <| oq (y_extract rfl rfl rfl) rfl wn rfl rfl <| oq (y_extract rfl rfl rfl) rfl wn rfl rfl <| qs rfl rfl rfl <| qs rfl rfl rfl <| Ops.nil <| thn_n <| W.seq <| W.region rfl ?_
  refine c0 (fun h' hE hL => plant_fn _ h' _ _) (fun v A' hv => ?_)
  obtain ⟨b1, b2, rfl, hsb⟩ := hv
  refine Ops.sb (hsb.app .refl) ?_
  refine cp (u := .tuple #[I 2, I 0]) (fun h' hE hL => ?_) ?_
  · have := Late_fn main h' (exF 0) (exS 6) (.slice (some ⟨b1, 0, none⟩) 2 2) (.slice (some ⟨b2, 0, none⟩) 4 4) Eg zg (exSl (hL b1 _ (.head _)) rfl) (exSl (hL b2 _ (.tail _ (.head _))) rfl) (hE.1 _ _ hg)
    rw [ex5c, ex5] at this
    exact this
  refine Ops.sb (F' := S ++ [(β1, .cells #[I 0, I 3] t_Span (0, 0))]) (Sb.skip rfl (Sb.skip rfl Sb.refl)) ?_
  refine qm rfl rfl rfl <| oq (y_extract rfl rfl rfl) rfl wn rfl rfl <| oq (y_extract rfl rfl rfl) rfl wn rfl rfl <| qs rfl rfl rfl <| qs rfl rfl rfl <| Ops.nil <| thn_n <| W.seq <| W.region rfl ?_
  refine c0 (fun h' hE hL => plant_fn _ h' _ _) (fun v A' hv => ?_)
  obtain ⟨b1, b2, rfl, hsb⟩ := hv
  refine Ops.sb (hsb.app .refl) ?_
  refine cp (u := .tuple #[I 1, I 0]) (fun h' hE hL => ?_) ?_
  · have := Patience_fn main h' (exF 1) (exS 4) (.slice (some ⟨b1, 0, none⟩) 2 2) (.slice (some ⟨b2, 0, none⟩) 4 4) Eg zg (exSl (hL b1 _ (.head _)) rfl) (exSl (hL b2 _ (.tail _ (.head _))) rfl) (hE.1 _ _ hg)
    rw [ex6] at this
    exact this
  refine Ops.sb (F' := (β1, .cells #[I 0, I 3] t_Span (0, 0)) :: S) (Sb.skip rfl (Sb.skip rfl (.of_perm (List.perm_append_singleton _ _).symm))) ?_
  refine qm rfl rfl rfl <| oq (y_extract rfl rfl rfl) rfl wn rfl rfl <| oq (y_extract rfl rfl rfl) rfl wn rfl rfl <| qs rfl rfl rfl <| qs rfl rfl rfl <| Ops.nil <| thn_n <| W.seq <| W.region rfl <| qm rfl rfl rfl ?_
  refine oq ((y_eql rfl rfl rfl).eq (u := .bool true) rfl) rfl wn rfl rfl ?_
  refine qm rfl rfl rfl ?_
  refine oq (y_move rfl rfl) rfl (want_some rfl rfl rfl) rfl rfl ?_
  refine oq ((y_eql rfl rfl rfl).eq (u := .bool true) rfl) rfl (want_some rfl rfl rfl) rfl rfl ?_
  refine oq (y_pickT rfl rfl rfl) rfl wn rfl rfl ?_
  refine qm rfl rfl rfl ?_
  refine oq (y_move rfl rfl) rfl (want_some rfl rfl rfl) rfl rfl ?_
  refine oq ((y_eql rfl rfl rfl).eq (u := .bool true) rfl) rfl (want_some rfl rfl rfl) rfl rfl ?_
  refine oq (y_pickT rfl rfl rfl) rfl wn rfl rfl ?_
  refine qm rfl rfl rfl ?_
  refine oq (y_move rfl rfl) rfl (want_some rfl rfl rfl) rfl rfl ?_
  refine oq ((y_eql rfl rfl rfl).eq (u := .bool true) rfl) rfl (want_some rfl rfl rfl) rfl rfl ?_
  refine oq (y_pickT rfl rfl rfl) rfl wn rfl rfl ?_
  refine qm rfl rfl rfl ?_
  refine oq (y_move rfl rfl) rfl (want_some rfl rfl rfl) rfl rfl ?_
  refine oq ((y_eql rfl rfl rfl).eq (u := .bool true) rfl) rfl (want_some rfl rfl rfl) rfl rfl ?_
  refine oq (y_pickT rfl rfl rfl) rfl wn rfl rfl ?_
  refine qm rfl rfl rfl ?_
  refine oq (y_move rfl rfl) rfl (want_some rfl rfl rfl) rfl rfl ?_
  refine oq ((y_eql rfl rfl rfl).eq (u := .bool true) rfl) rfl (want_some rfl rfl rfl) rfl rfl ?_
  refine oq (y_pickT rfl rfl rfl) rfl wn rfl rfl ?_
  refine qm rfl rfl rfl ?_
  refine oq (yldA (vs := #[I 0, I 3]) rfl rfl) rfl (want_some rfl rfl rfl) rfl rfl ?_
  refine oq (y_build (cs := #[I 0, I 3]) rfl rfl rfl) rfl (want_some rfl rfl rfl) rfl rfl ?_
  refine oq (Yv.eq (u := .bool true) (y_eqA [0, 3] [0, 3] rfl rfl rfl rfl rfl rfl rfl) rfl) rfl (want_some rfl rfl rfl) rfl rfl ?_
  refine oq (y_pickT rfl rfl rfl) rfl wn rfl rfl ?_
  refine qm rfl rfl rfl ?_
  refine oq (y_move rfl rfl) rfl (want_some rfl rfl rfl) rfl rfl ?_
  refine oq ((y_eql rfl rfl rfl).eq (u := .bool true) rfl) rfl (want_some rfl rfl rfl) rfl rfl ?_
  refine oq (y_pickT rfl rfl rfl) rfl wn rfl rfl ?_
  refine qm rfl rfl rfl ?_
  refine oq (y_move rfl rfl) rfl (want_some rfl rfl rfl) rfl rfl ?_
  refine oq ((y_eql rfl rfl rfl).eq (u := .bool true) rfl) rfl (want_some rfl rfl rfl) rfl rfl ?_
  refine oq (y_pickT rfl rfl rfl) rfl wn rfl rfl ?_
  refine qm rfl rfl rfl ?_
  refine oq (y_move rfl rfl) rfl (want_some rfl rfl rfl) rfl rfl ?_
  refine oq ((y_eql rfl rfl rfl).eq (u := .bool true) rfl) rfl (want_some rfl rfl rfl) rfl rfl ?_
  refine oq (y_pickT rfl rfl rfl) rfl wn rfl rfl ?_
  refine qm rfl rfl rfl ?_
  refine oq (y_move rfl rfl) rfl (want_some rfl rfl rfl) rfl rfl ?_
  refine oq ((y_eql rfl rfl rfl).eq (u := .bool true) rfl) rfl (want_some rfl rfl rfl) rfl rfl ?_
  refine oq (y_pickT rfl rfl rfl) rfl wn rfl rfl ?_
  refine qm rfl rfl rfl ?_
  refine oq (y_move rfl rfl) rfl (want_some rfl rfl rfl) rfl rfl ?_
  refine oq ((y_eql rfl rfl rfl).eq (u := .bool true) rfl) rfl (want_some rfl rfl rfl) rfl rfl ?_
  refine oq (y_pickT rfl rfl rfl) rfl wn rfl rfl ?_
  refine qm rfl rfl rfl ?_
  refine oq (y_move rfl rfl) rfl (want_some rfl rfl rfl) rfl rfl ?_
  refine oq ((y_eql rfl rfl rfl).eq (u := .bool true) rfl) rfl (want_some rfl rfl rfl) rfl rfl ?_
  refine oq (y_pickT rfl rfl rfl) rfl wn rfl rfl ?_
  refine qm rfl rfl rfl ?_
  refine oq (y_move rfl rfl) rfl (want_some rfl rfl rfl) rfl rfl ?_
  refine c0 (fun h' hE hL => plan_fn _ h') (fun v A' hv => ?_) (hw := want_some rfl rfl rfl)
  obtain ⟨b3, rfl, rfl⟩ := hv
  refine cp (u := .bool true) (fun h' hE hL => ?_) ?_ (hw := want_some rfl rfl rfl)
  · exact EqBerths_fn main h' exP exP _ _ (hO.sl fun b o hb => hL b o (.tail _ (.tail _ hb))) (exSl (hL b3 _ (.head _)) rfl) (by decide)
  refine oq (y_pickT rfl rfl rfl) rfl wn rfl rfl ?_
  refine qs rfl rfl rfl <| Ops.nil <| thn_n <| W.ret ?_
  exact lvp (hs := .cons rfl (.cons rfl hO.shut)) rfl
end Go.Mus

/- What stands on a floor, as a sum; when a floor is cold. Conditions: none. -/
namespace Go.Mus
theorem wadd_small {a b : Int} (h0 : 0 ≤ a) (h1 : a ≤ 100000) (h2 : 0 ≤ b) (h3 : b ≤ 100000) : wadd a b = a + b := wrap_id (by omega) (by omega)
/-- The sum over the first k. -/
def sumK (g : Nat → Int) : Nat → Int
  | 0 => 0
  | k + 1 => sumK g k + g k
theorem sumK_le {g g' : Nat → Int} : ∀ {k : Nat}, (∀ i, i < k → g i ≤ g' i) → sumK g k ≤ sumK g' k
  | 0, _ => Int.le_refl _
  | k + 1, h => by
    have h1 := sumK_le (k := k) fun i hi => h i (by omega)
    have h2 := h k (by omega)
    simp only [sumK]; omega
theorem sumK_congr {g g' : Nat → Int} : ∀ {k : Nat}, (∀ i, i < k → g i = g' i) → sumK g k = sumK g' k
  | 0, _ => rfl
  | k + 1, h => by
    have h1 := sumK_congr (k := k) fun i hi => h i (by omega)
    have h2 := h k (by omega)
    simp only [sumK]; omega
/-- Whether a strike may still, and whether it surely does, stand on a floor on a day. -/
def hiG (fs : List Fl) (ss : List St) (p : List Be) (f d : Int) (i : Nat) : Int := if (beAt p i).fl = f ∧ (beAt p i).day ≤ d ∧ d < (beAt p i).day + (flAt fs f).hi then (stAt ss i).co else 0
def loG (fs : List Fl) (ss : List St) (p : List Be) (f d : Int) (i : Nat) : Int := if (beAt p i).fl = f ∧ (beAt p i).day ≤ d ∧ d < (beAt p i).day + (flAt fs f).lo then (stAt ss i).co else 0
def hiAt (fs : List Fl) (ss : List St) (p : List Be) (f d : Int) : Int := sumK (hiG fs ss p f d) 4
def loAt (fs : List Fl) (ss : List St) (p : List Be) (f d : Int) : Int := sumK (loG fs ss p f d) 4

theorem bump_at {d : List Sp} {i j : Nat} {b : Bool} {co : Int} {s : Sp} (h : d[j]? = some s) : (bump d i b co)[j]? = some (if i = j then ⟨if b then wadd s.lo co else s.lo, wadd s.hi co⟩ else s) := by
  by_cases e : i = j
  · subst e
    have hlt : i < d.length := by
      rcases Nat.lt_or_ge i d.length with h' | h'
      · exact h'
      · rw [List.getElem?_eq_none h'] at h; cases h
    simp only [bump, h, if_true, List.getElem?_set_self hlt]
  · rw [if_neg e]
    unfold bump
    split
    · rw [List.getElem?_set_ne e, h]
    · exact h
theorem addSt_at {day lo co : Int} (hday : 0 ≤ day) (hc : 0 ≤ co ∧ co ≤ 1000) {j : Nat} (hj : j < 22) : ∀ (m n : Nat) (D : List Sp) (s : Sp), D[j]? = some s → (day + n ≤ j → 0 ≤ s.lo ∧ s.lo ≤ 90000 ∧ 0 ≤ s.hi ∧ s.hi ≤ 90000) →
    (addSt day lo co m n D)[j]? = some (if day + n ≤ j ∧ (j : Int) < day + n + m then ⟨if (j : Int) < day + lo then s.lo + co else s.lo, s.hi + co⟩ else s)
  | 0, n, D, s, h, _ => by
    rw [addSt, h, if_neg (by omega)]
  | m + 1, n, D, s, h, hs => by
    rw [addSt]
    split
    · rw [h, if_neg (by omega)]
    · rename_i h21
      have hb := bump_at (i := (day + n).toNat) (b := decide ((n : Int) < lo)) (co := co) h
      have ih := addSt_at (lo := lo) hday hc hj m (n + 1) _ _ hb (fun hle => by rw [if_neg (by omega)]; exact hs (by omega))
      rw [ih]
      by_cases e : (day + n).toNat = j
      · have e' : day + n = j := by omega
        obtain ⟨q1, q2, q3, q4⟩ := hs (by omega)
        have c1 : ¬ (day + ((n + 1 : Nat) : Int) ≤ j ∧ (j : Int) < day + ((n + 1 : Nat) : Int) + (m : Nat)) := by omega
        have c2 : day + (n : Int) ≤ j ∧ (j : Int) < day + (n : Int) + ((m + 1 : Nat) : Int) := by omega
        rw [if_pos e, if_neg c1, if_pos c2, wadd_small q1 (by omega) hc.1 (by omega), wadd_small q3 (by omega) hc.1 (by omega)]
        by_cases hl : (n : Int) < lo
        · rw [if_pos (show decide ((n : Int) < lo) = true by simpa using hl), if_pos (show (j : Int) < day + lo by omega)]
        · rw [if_neg (show ¬ decide ((n : Int) < lo) = true by simpa using hl), if_neg (show ¬ (j : Int) < day + lo by omega)]
      · rw [if_neg e]
        by_cases hc2 : day + n ≤ j ∧ (j : Int) < day + n + ((m + 1 : Nat) : Int)
        · rw [if_pos (show day + ((n + 1 : Nat) : Int) ≤ j ∧ (j : Int) < day + ((n + 1 : Nat) : Int) + (m : Nat) by omega), if_pos hc2]
        · rw [if_neg (show ¬ (day + ((n + 1 : Nat) : Int) ≤ j ∧ (j : Int) < day + ((n + 1 : Nat) : Int) + (m : Nat)) by omega), if_neg hc2]

theorem perm_sum {α : Type} (g : α → Int) {l l' : List α} (h : l.Perm l') : (l.map g).sum = (l'.map g).sum := by
  induction h with
  | nil => rfl
  | cons x _ ih => simp only [List.map_cons, List.sum_cons, ih]
  | swap x y l => simp only [List.map_cons, List.sum_cons]; omega
  | trans _ _ ih1 ih2 => exact ih1.trans ih2
theorem onFk_sum {p : List Be} {f : Int} {g : Int → Int} : ∀ (k : Nat), ((onFk p f k).map g).sum = sumK (fun i => if (beAt p i).fl = f then g i else 0) k
  | 0 => rfl
  | k + 1 => by
    simp only [onFk, sumK]
    by_cases h : (beAt p k).fl = f
    · rw [if_pos h, if_pos h, List.map_append, List.sum_append, onFk_sum k]; simp
    · rw [if_neg h, if_neg h, onFk_sum k]; simp
theorem co_ok {fs : List Fl} {ss : List St} (hall : HallOK fs ss) (i : Nat) : 0 ≤ (stAt ss i).co ∧ (stAt ss i).co ≤ 6 := by
  simp only [stAt, List.getD]
  cases h : ss[i]? with
  | none => simp
  | some s => have := hall.st s (List.mem_of_getElem? h); simp; omega
theorem beAt_day {p : List Be} (hp : PlOK p) (i : Nat) : 0 ≤ (beAt p i).day ∧ (beAt p i).day ≤ 17 := by
  rcases Nat.lt_or_ge i 4 with h | h
  · have := (beAt_some hp h).2; omega
  · simp [beAt, List.getD, List.getElem?_eq_none (show p.length ≤ i by have := hp.len; omega), bnone]
theorem fl_ok {fs : List Fl} {ss : List St} (hall : HallOK fs ss) {f : Int} (h0 : 0 ≤ f) (h1 : f < fs.length) : 1 ≤ (flAt fs f).pl ∧ (flAt fs f).pl ≤ 9 ∧ 1 ≤ (flAt fs f).lo ∧ (flAt fs f).lo ≤ (flAt fs f).hi ∧ (flAt fs f).hi ≤ 6 ∧ 0 ≤ (flAt fs f).co ∧ (flAt fs f).co ≤ 9 := by
  obtain ⟨x, hx, -⟩ := has (show f.toNat < fs.length by omega)
  have : flAt fs f = x := by simp [flAt, List.getD, hx]
  rw [this]
  exact hall.fl x (List.mem_of_getElem? hx)

/-- ████ WHAT STANDS, as a sum. -/
theorem standsD_at {fs : List Fl} {ss : List St} {p : List Be} {f : Int} (hall : HallOK fs ss) (hp : PlOK p) (h0 : 0 ≤ f) (h1 : f < fs.length) {j : Nat} (hj : j < 22) : (standsD fs ss p f)[j]? = some ⟨loAt fs ss p f j, hiAt fs ss p f j⟩ := by
  have hfl := fl_ok hall h0 h1
  have key : ∀ (l : List Int) (D : List Sp) (s : Sp), D[j]? = some s → 0 ≤ s.lo → 0 ≤ s.hi → s.lo + 6 * l.length ≤ 9000 → s.hi + 6 * l.length ≤ 9000 →
      (l.foldl (fun d i => addSt (dayOf p i) (flAt fs f).lo (coOf ss i) (flAt fs f).hi.toNat 0 d) D)[j]? = some ⟨s.lo + (l.map fun i => if dayOf p i ≤ j ∧ (j : Int) < dayOf p i + (flAt fs f).lo then coOf ss i else 0).sum, s.hi + (l.map fun i => if dayOf p i ≤ j ∧ (j : Int) < dayOf p i + (flAt fs f).hi then coOf ss i else 0).sum⟩ := by
    intro l
    induction l with
    | nil => intro D s h _ _ _ _; simpa using h
    | cons i l ih =>
      intro D s h q1 q2 q3 q4
      have hco := co_ok hall i.toNat
      have hday := (beAt_day hp i.toNat).1
      have ha := addSt_at (day := dayOf p i) (lo := (flAt fs f).lo) (co := coOf ss i) hday (by have : coOf ss i = (stAt ss i.toNat).co := rfl; omega) hj (flAt fs f).hi.toNat 0 D s h (fun _ => by simp only [List.length_cons] at q3 q4; omega)
      have hcoe : coOf ss i = (stAt ss i.toNat).co := rfl
      simp only [List.length_cons] at q3 q4
      rw [List.foldl_cons]
      by_cases hc : dayOf p i + ((0 : Nat) : Int) ≤ j ∧ (j : Int) < dayOf p i + ((0 : Nat) : Int) + (flAt fs f).hi.toNat
      · rw [if_pos hc] at ha
        by_cases hl : (j : Int) < dayOf p i + (flAt fs f).lo
        · rw [if_pos hl] at ha
          rw [ih _ _ ha (by simp only; omega) (by simp only; omega) (by simp only; omega) (by simp only; omega)]
          simp only [List.map_cons, List.sum_cons]
          rw [if_pos (show dayOf p i ≤ j ∧ (j : Int) < dayOf p i + (flAt fs f).lo by omega), if_pos (show dayOf p i ≤ j ∧ (j : Int) < dayOf p i + (flAt fs f).hi by omega), Int.add_assoc, Int.add_assoc]
        · rw [if_neg hl] at ha
          rw [ih _ _ ha (by simp only; omega) (by simp only; omega) (by simp only; omega) (by simp only; omega)]
          simp only [List.map_cons, List.sum_cons]
          rw [if_neg (show ¬ (dayOf p i ≤ j ∧ (j : Int) < dayOf p i + (flAt fs f).lo) by omega), if_pos (show dayOf p i ≤ j ∧ (j : Int) < dayOf p i + (flAt fs f).hi by omega), Int.add_assoc, Int.zero_add]
      · rw [if_neg hc] at ha
        rw [ih _ _ ha q1 q2 (by omega) (by omega)]
        simp only [List.map_cons, List.sum_cons]
        rw [if_neg (show ¬ (dayOf p i ≤ j ∧ (j : Int) < dayOf p i + (flAt fs f).lo) by omega), if_neg (show ¬ (dayOf p i ≤ j ∧ (j : Int) < dayOf p i + (flAt fs f).hi) by omega), Int.zero_add, Int.zero_add]
  have h00 : days0[j]? = some ⟨0, 0⟩ := by
    simp only [days0, List.getElem?_replicate, hj, if_true]
  have hlen := setL_len (p := p) (f := f)
  have := key (setL p f) days0 ⟨0, 0⟩ h00 (Int.le_refl _) (Int.le_refl _) (by simp only; omega) (by simp only; omega)
  rw [standsD, this]
  have e : ∀ g : Int → Int, ((setL p f).map g).sum = sumK (fun i => if (beAt p i).fl = f then g i else 0) 4 := fun g => by
    rw [setL, perm_sum g (isort_perm _ _), onFk_sum]
  rw [e, e]
  simp only [Int.zero_add, loAt, hiAt]
  congr 2
  · refine sumK_congr fun i _ => ?_
    simp only [loG, dayOf, coOf, Int.toNat_natCast, stAt]
    by_cases h1 : (beAt p i).fl = f <;> simp [h1]
  · refine sumK_congr fun i _ => ?_
    simp only [hiG, dayOf, coOf, Int.toNat_natCast, stAt]
    by_cases h1 : (beAt p i).fl = f <;> simp [h1]

/-! The first day that is too full -/
theorem fullF_none {pl : Int} : ∀ {D : List Sp} {k : Nat}, fullF pl D k = none ↔ ∀ (i : Nat) (s : Sp), D[i]? = some s → s.hi ≤ pl
  | [], k => by simp [fullF]
  | s :: D, k => by
    rw [fullF]
    split
    · rename_i h
      constructor
      · intro h'; cases h'
      · intro h'; have := h' 0 s rfl; omega
    · rename_i h
      rw [fullF_none (D := D) (k := k + 1)]
      constructor
      · intro h' i t ht
        cases i with
        | zero => simp at ht; subst ht; omega
        | succ i => exact h' i t (by simpa using ht)
      · intro h' i t ht; exact h' (i + 1) t (by simpa using ht)
theorem fullF_some {pl : Int} : ∀ {D : List Sp} {k : Nat} {q : Bool × Int}, fullF pl D k = some q → q.1 = false ∧ ∃ (i : Nat) (s : Sp), q.2 = ((k + i : Nat) : Int) ∧ D[i]? = some s ∧ pl < s.hi ∧ ∀ (i' : Nat) (s' : Sp), i' < i → D[i']? = some s' → s'.hi ≤ pl
  | [], k, q, h => by cases h
  | s :: D, k, q, h => by
    rw [fullF] at h
    split at h
    · rename_i h1
      cases h
      exact ⟨rfl, 0, s, rfl, rfl, h1, fun i' s' hi => by omega⟩
    · rename_i h1
      obtain ⟨h2, i, t, h3, h4, h5, h6⟩ := fullF_some h
      refine ⟨h2, i + 1, t, by rw [h3]; congr 1; omega, by simpa using h4, h5, fun i' s' hi hs => ?_⟩
      cases i' with
      | zero => simp at hs; subst hs; omega
      | succ i' => exact h6 i' s' (by omega) (by simpa using hs)
theorem over_iff {pl : Int} : ∀ {D : List Sp}, over pl D = true ↔ ∃ (i : Nat) (s : Sp), D[i]? = some s ∧ pl < s.hi
  | [] => by simp [over]
  | s :: D => by
    rw [over]
    split
    · rename_i h
      exact ⟨fun _ => ⟨0, s, rfl, h⟩, fun _ => rfl⟩
    · rename_i h
      rw [over_iff (D := D)]
      constructor
      · rintro ⟨i, t, h1, h2⟩; exact ⟨i + 1, t, by simpa using h1, h2⟩
      · rintro ⟨i, t, h1, h2⟩
        cases i with
        | zero => simp at h1; subst h1; exact absurd h2 h
        | succ i => exact ⟨i, t, by simpa using h1, h2⟩

/-! Sorted -/
abbrev Srt (key : Int → Int) (l : List Int) : Prop := l.Pairwise fun a b => key a ≤ key b
theorem sink_srt {key : Int → Int} : ∀ (j : Nat) (A C : List Int) (x : Int), A.length = j → Srt key A → ∃ R, sink key j (A ++ x :: C) = R ++ C ∧ R.length = j + 1 ∧ Srt key R ∧ R.Perm (x :: A)
  | 0, A, C, x, h, _ => by
    have : A = [] := List.length_eq_zero_iff.1 h
    subst this
    exact ⟨[x], rfl, rfl, List.pairwise_singleton _ _, .refl _⟩
  | j + 1, A, C, x, h, hs => by
    obtain ⟨A', a, rfl⟩ : ∃ A' a, A = A' ++ [a] := ⟨A.dropLast, A.getLast (by intro e; subst e; simp at h), (List.dropLast_concat_getLast _).symm⟩
    have hl : A'.length = j := by simpa using h
    have ha : (A' ++ [a] ++ x :: C)[j]? = some a := by simp [← hl]
    have hx : (A' ++ [a] ++ x :: C)[j + 1]? = some x := by simp [← hl]
    rw [Srt, List.pairwise_append] at hs
    rw [sink]
    simp only [ha, hx]
    split
    · rename_i hk
      have e : swp (A' ++ [a] ++ x :: C) j a x = A' ++ x :: a :: C := by
        simp [swp, ← hl, List.set_append]
      rw [e]
      obtain ⟨R, h1, h2, h3, h4⟩ := sink_srt j A' (a :: C) x hl hs.1
      refine ⟨R ++ [a], by rw [h1]; simp, by simp [h2], ?_, ?_⟩
      · rw [Srt, List.pairwise_append]
        refine ⟨h3, List.pairwise_singleton _ _, fun b hb c hc => ?_⟩
        have hc' : c = a := by simpa using hc
        subst hc'
        rcases List.mem_cons.1 (h4.subset hb) with rfl | hb
        · omega
        · exact hs.2.2 b hb c (by simp)
      · exact (h4.append_right [a])
    · rename_i hk
      refine ⟨A' ++ [a, x], by simp, by simp [hl], ?_, ?_⟩
      · rw [Srt, List.pairwise_append]
        refine ⟨hs.1, by simp; omega, fun b hb c hc => ?_⟩
        have hba := hs.2.2 b hb a (by simp)
        rcases List.mem_cons.1 hc with rfl | hc
        · exact hba
        · have : c = x := by simpa using hc
          subst this; omega
      · have : (A' ++ [a, x]) = (A' ++ [a]) ++ [x] := by simp
        rw [this]
        exact List.perm_append_comm
theorem isortN_srt {key : Int → Int} {l : List Int} : ∀ i, i < l.length → ∃ R, isortN key l i = R ++ l.drop (i + 1) ∧ R.length = i + 1 ∧ Srt key R
  | 0, h => by
    obtain ⟨x, hx, hd⟩ := has h
    exact ⟨[x], by rw [isortN]; simpa using hd, rfl, List.pairwise_singleton _ _⟩
  | i + 1, h => by
    obtain ⟨R, h1, h2, h3⟩ := isortN_srt (key := key) (l := l) i (by omega)
    obtain ⟨x, hx, hd⟩ := has h
    rw [isortN, h1, hd]
    obtain ⟨R', h4, h5, h6, -⟩ := sink_srt (key := key) (i + 1) R (l.drop (i + 2)) x h2 h3
    exact ⟨R', h4, h5, h6⟩
theorem isort_srt {key : Int → Int} {l : List Int} : Srt key (isort key l) := by
  rcases Nat.eq_zero_or_pos l.length with h | h
  · have : l = [] := List.length_eq_zero_iff.1 h
    subst this; exact .nil
  · obtain ⟨R, h1, h2, h3⟩ := isortN_srt (key := key) (l.length - 1) (show l.length - 1 < l.length by omega)
    rw [isort, h1, List.drop_eq_nil_of_le (by omega), List.append_nil]
    exact h3

/-! When a floor is cold -/
/-- The first cold day, of days in order. -/
def coldL (co lo : Int) : List Int → Int → Option Int
  | [], _ => none
  | d :: r, u => if 0 ≤ u ∧ u + co < d then some (u + co) else coldL co lo r (max u (d + lo))
/-- The earlier one. -/
def merge (fd : Fault) (c : Option Int) : Fault := match c with
  | none => fd
  | some n => if early n fd = true then some (true, n) else fd
theorem coldL_ge {co lo : Int} (hlo : 0 ≤ lo) : ∀ {l : List Int} {u n : Int}, coldL co lo l u = some n → u + co ≤ n
  | [], _, _, h => by cases h
  | d :: r, u, n, h => by
    rw [coldL] at h
    split at h
    · cases h; exact Int.le_refl _
    · have := coldL_ge hlo h; omega
theorem lookS_fold {co lo : Int} (hlo : 1 ≤ lo ∧ lo ≤ 6) (hco : 0 ≤ co ∧ co ≤ 9) : ∀ (ds : List Int) (fd : Fault) (u : Int), -1 ≤ u → u ≤ 100 → (∀ d ∈ ds, 0 ≤ d ∧ d ≤ 17) → (ds.foldl (fun s d => lookS co lo d s) (fd, u)).1 = merge fd (coldL co lo ds u)
  | [], fd, u, _, _, _ => rfl
  | d :: r, fd, u, h1, h2, hd => by
    have hd0 := hd d (List.mem_cons_self ..)
    have ew : wadd u co = u + co := wrap_id (by omega) (by omega)
    have hm : max u (d + lo) ≤ 100 ∧ -1 ≤ max u (d + lo) := by omega
    rw [List.foldl_cons, lookS, lookS_fold hlo hco r _ _ hm.2 hm.1 (fun x hx => hd x (List.mem_cons_of_mem _ hx)), ew, coldL]
    simp only
    by_cases hc : 0 ≤ u ∧ u + co < d
    · rw [if_pos hc]
      have hge : ∀ n, coldL co lo r (max u (d + lo)) = some n → u + co < n := fun n hn => by
        have := coldL_ge (by omega) hn; omega
      have hmm : ∀ fd', (fd' = some (true, u + co) ∨ early (u + co) fd' = false) → merge fd' (coldL co lo r (max u (d + lo))) = fd' := by
        intro fd' hf
        cases hn : coldL co lo r (max u (d + lo)) with
        | none => rfl
        | some n =>
          have := hge n hn
          simp only [merge]
          rw [if_neg]
          rcases hf with rfl | hf
          · simp [early]; omega
          · cases fd' with
            | none => simp [early] at hf
            | some q => simp [early] at hf ⊢; omega
      by_cases he : early (u + co) fd = true
      · rw [if_pos ⟨hc.1, hc.2, he⟩, hmm _ (.inl rfl)]
        simp [merge, he]
      · rw [if_neg (fun h => he h.2.2), hmm _ (.inr (by simpa using he))]
        simp [merge, he]
    · rw [if_neg (fun h => hc ⟨h.1, h.2.1⟩), if_neg hc]
theorem merge_none {fd : Fault} {c : Option Int} : merge fd c = none ↔ fd = none ∧ c = none := by
  cases c with
  | none => simp [merge]
  | some n =>
    simp only [merge]
    constructor
    · intro h
      split at h
      · cases h
      · rename_i h1; subst h; simp [early] at h1
    · rintro ⟨_, h⟩; cases h
/-- .. from the earliest time at which the one before is gone. -/
theorem coldL_srt {co lo : Int} (hlo : 1 ≤ lo) : ∀ {ds : List Int} {e : Int}, 0 ≤ e → (∀ d ∈ ds, e ≤ d) → ds.Pairwise (· ≤ ·) →
    (∀ n, coldL co lo ds (e + lo) = some n → ∃ a, (a = e ∨ a ∈ ds) ∧ n = a + lo + co ∧ (∃ b ∈ ds, n < b) ∧ ∀ b ∈ ds, b ≤ a ∨ n < b) ∧
    (coldL co lo ds (e + lo) = none → ∀ a, (a = e ∨ a ∈ ds) → ∀ b ∈ ds, a + lo + co < b → ∃ c ∈ ds, a < c ∧ c ≤ a + lo + co) ∧
    (∀ n, coldL co lo ds (e + lo) = some n → ∀ a, (a = e ∨ a ∈ ds) → a + lo + co < n → ∀ b ∈ ds, a + lo + co < b → ∃ c ∈ ds, a < c ∧ c ≤ a + lo + co)
  | [], e, _, _, _ => ⟨fun n h => (by cases h), fun _ a _ b hb => (by simp at hb), fun n h => (by cases h)⟩
  | d :: r, e, h0, hge, hs => by
    have hd := hge d (List.mem_cons_self ..)
    rw [List.pairwise_cons] at hs
    have hm : max (e + lo) (d + lo) = d + lo := by omega
    have he0 : 0 ≤ e + lo := by omega
    rw [coldL, hm]
    by_cases hc : 0 ≤ e + lo ∧ e + lo + co < d
    · rw [if_pos hc]
      refine ⟨fun n h => ?_, fun h => (by cases h), fun n h a ha hlt => ?_⟩
      · cases h
        refine ⟨e, .inl rfl, rfl, ⟨d, List.mem_cons_self .., hc.2⟩, fun b hb => .inr ?_⟩
        rcases List.mem_cons.1 hb with rfl | hb
        · exact hc.2
        · have := hs.1 b hb; omega
      · cases h
        rcases ha with rfl | ha
        · omega
        · have := hge a ha; omega
    · rw [if_neg hc]
      have hne : ¬ e + lo + co < d := fun h => hc ⟨he0, h⟩
      obtain ⟨i1, i2, i3⟩ := coldL_srt (co := co) hlo (ds := r) (e := d) (by omega) hs.1 hs.2
      have step : (∀ a, (a = d ∨ a ∈ r) → ∀ b ∈ r, a + lo + co < b → ∃ c ∈ r, a < c ∧ c ≤ a + lo + co) → ∀ a, (a = e ∨ a ∈ d :: r) → ∀ b ∈ d :: r, a + lo + co < b → ∃ c ∈ d :: r, a < c ∧ c ≤ a + lo + co := by
        intro H a ha b hb hlt
        have hb' : b ∈ r ∨ b = d := (List.mem_cons.1 hb).symm
        rcases ha with rfl | ha
        · -- the one before
          rcases hb' with hb' | rfl
          · by_cases hde : a < d
            · exact ⟨d, List.mem_cons_self .., hde, by omega⟩
            · have : d = a := by omega
              subst this
              obtain ⟨c, hc1, hc2⟩ := H d (.inl rfl) b hb' hlt
              exact ⟨c, List.mem_cons_of_mem _ hc1, hc2⟩
          · omega
        · have ha' : a = d ∨ a ∈ r := List.mem_cons.1 ha
          rcases hb' with hb' | rfl
          · obtain ⟨c, hc1, hc2⟩ := H a ha' b hb' hlt
            exact ⟨c, List.mem_cons_of_mem _ hc1, hc2⟩
          · rcases ha' with rfl | ha'
            · omega
            · have := hs.1 a ha'; omega
      refine ⟨fun n h => ?_, fun h => step (i2 h), fun n h => ?_⟩
      · obtain ⟨a, ha, hn, ⟨b, hb, hb2⟩, hall⟩ := i1 n h
        have had : d ≤ a := by
          rcases ha with rfl | ha
          · exact Int.le_refl _
          · exact hs.1 a ha
        refine ⟨a, .inr (by rcases ha with rfl | ha <;> simp [*]), hn, ⟨b, List.mem_cons_of_mem _ hb, hb2⟩, fun c hc => ?_⟩
        rcases List.mem_cons.1 hc with rfl | hc
        · exact .inl had
        · exact hall c hc
      · intro a ha hlt b hb hlt2
        have hn := coldL_ge (by omega) h
        rcases ha with rfl | ha
        · by_cases hde : a < d
          · exact ⟨d, List.mem_cons_self .., hde, by omega⟩
          · have hda : d = a := by omega
            subst hda
            rcases List.mem_cons.1 hb with rfl | hb
            · omega
            · obtain ⟨c, hc1, hc2⟩ := i3 n h d (.inl rfl) hlt b hb hlt2
              exact ⟨c, List.mem_cons_of_mem _ hc1, hc2⟩
        · rcases List.mem_cons.1 ha with rfl | ha
          · rcases List.mem_cons.1 hb with rfl | hb
            · omega
            · obtain ⟨c, hc1, hc2⟩ := i3 n h a (.inl rfl) hlt b hb hlt2
              exact ⟨c, List.mem_cons_of_mem _ hc1, hc2⟩
          · have := hs.1 a ha
            rcases List.mem_cons.1 hb with rfl | hb
            · omega
            · obtain ⟨c, hc1, hc2⟩ := i3 n h a (.inr ha) hlt b hb hlt2
              exact ⟨c, List.mem_cons_of_mem _ hc1, hc2⟩
end Go.Mus

/- Which plans are wrong, where, and when; which plans a search finds. Conditions: none. -/
namespace Go.Mus
/-- A strike is set on a floor on a day. -/
def OnDay (p : List Be) (f a : Int) : Prop := ∃ i, i < 4 ∧ (beAt p i).fl = f ∧ (beAt p i).day = a
def Cold (fs : List Fl) (p : List Be) (f n : Int) : Prop := ∃ a, OnDay p f a ∧ n = a + (flAt fs f).lo + (flAt fs f).co ∧ (∃ b, OnDay p f b ∧ n < b) ∧ ∀ b, OnDay p f b → b ≤ a ∨ n < b
def Full (fs : List Fl) (ss : List St) (p : List Be) (f n : Int) : Prop := 0 ≤ n ∧ n < 22 ∧ (flAt fs f).pl < hiAt fs ss p f n
def Bad (fs : List Fl) (ss : List St) (p : List Be) (f n : Int) : Prop := Full fs ss p f n ∨ Cold fs p f n

theorem onFk_iff {p : List Be} {f : Int} : ∀ {k : Nat} {a : Int}, a ∈ onFk p f k ↔ ∃ i, i < k ∧ (beAt p i).fl = f ∧ a = (i : Int)
  | 0, a => by simp [onFk]
  | k + 1, a => by
    rw [onFk]
    split
    · rename_i h
      rw [List.mem_append, onFk_iff (k := k)]
      constructor
      · rintro (⟨i, h1, h2, h3⟩ | h1)
        · exact ⟨i, by omega, h2, h3⟩
        · exact ⟨k, by omega, h, by simpa using h1⟩
      · rintro ⟨i, h1, h2, h3⟩
        by_cases e : i = k
        · subst e; right; simpa using h3
        · left; exact ⟨i, by omega, h2, h3⟩
    · rename_i h
      rw [onFk_iff (k := k)]
      constructor
      · rintro ⟨i, h1, h2, h3⟩; exact ⟨i, by omega, h2, h3⟩
      · rintro ⟨i, h1, h2, h3⟩
        by_cases e : i = k
        · subst e; exact absurd h2 h
        · exact ⟨i, by omega, h2, h3⟩
theorem days_iff {p : List Be} {f a : Int} : a ∈ (setL p f).map (dayOf p) ↔ OnDay p f a := by
  simp only [List.mem_map, setL, (isort_perm _ _).mem_iff, onFk_iff, OnDay]
  constructor
  · rintro ⟨x, ⟨i, h1, h2, rfl⟩, h3⟩; exact ⟨i, h1, h2, by simpa [dayOf] using h3⟩
  · rintro ⟨i, h1, h2, h3⟩; exact ⟨i, ⟨i, h1, h2, rfl⟩, by simpa [dayOf] using h3⟩
theorem onDay_ge {p : List Be} {f a : Int} (hp : PlOK p) (h : OnDay p f a) : 0 ≤ a ∧ a ≤ 17 := by
  obtain ⟨i, _, _, rfl⟩ := h
  exact beAt_day hp i

theorem lookF_eq {fs : List Fl} {ss : List St} {p : List Be} {f : Int} (hall : HallOK fs ss) (hp : PlOK p) (h0 : 0 ≤ f) (h1 : f < fs.length) :
    ∃ c, lookF fs ss p f = merge (fullF (flAt fs f).pl (standsD fs ss p f) 0) c ∧ (∀ n, c = some n → Cold fs p f n ∧ ∀ n', n' < n → ¬ Cold fs p f n') ∧ (c = none → ∀ n, ¬ Cold fs p f n) := by
  have hfl := fl_ok hall h0 h1
  refine ⟨coldL (flAt fs f).co (flAt fs f).lo ((setL p f).map (dayOf p)) (-1), ?_, ?_⟩
  · rw [← lookS_fold ⟨hfl.2.2.1, by omega⟩ ⟨hfl.2.2.2.2.2.1, hfl.2.2.2.2.2.2⟩ _ _ _ (Int.le_refl _) (by decide) (fun d hd => onDay_ge hp (days_iff.1 hd)), lookF, List.foldl_map]
  have hs : ((setL p f).map (dayOf p)).Pairwise (· ≤ ·) := by
    rw [List.pairwise_map]; exact isort_srt
  have hd : ∀ a, a ∈ (setL p f).map (dayOf p) ↔ OnDay p f a := fun a => days_iff
  cases hl : (setL p f).map (dayOf p) with
  | nil =>
    rw [hl] at hd
    refine ⟨fun n h => (by cases h), fun _ n hn => ?_⟩
    obtain ⟨a, ha, _⟩ := hn
    have := (hd a).2 ha
    cases this
  | cons d r =>
    rw [hl] at hs hd
    rw [List.pairwise_cons] at hs
    have hd0 := (onDay_ge hp ((hd d).1 (List.mem_cons_self ..))).1
    have e : coldL (flAt fs f).co (flAt fs f).lo (d :: r) (-1) = coldL (flAt fs f).co (flAt fs f).lo r (d + (flAt fs f).lo) := by
      rw [coldL, if_neg (by omega)]; congr 1; omega
    obtain ⟨i1, i2, i3⟩ := coldL_srt (co := (flAt fs f).co) hfl.2.2.1 (ds := r) (e := d) hd0 hs.1 hs.2
    have hm : ∀ a, (a = d ∨ a ∈ r) ↔ OnDay p f a := fun a => by rw [← hd]; exact List.mem_cons.symm
    have hr : ∀ a b, OnDay p f a → OnDay p f b → a < b → b ∈ r := fun a b ha hb hlt => by
      rcases (hm b).2 hb with rfl | h
      · rcases (hm a).2 ha with rfl | h'
        · omega
        · have := hs.1 a h'; omega
      · exact h
    rw [e]
    refine ⟨fun n h => ⟨?_, fun n' hn' hc => ?_⟩, fun h n hc => ?_⟩
    · obtain ⟨a, ha, hn, ⟨b, hb, hb2⟩, hal⟩ := i1 n h
      refine ⟨a, (hm a).1 ha, hn, ⟨b, (hm b).1 (.inr hb), hb2⟩, fun c hc => ?_⟩
      rcases (hm c).2 hc with rfl | hc
      · left
        rcases ha with rfl | ha
        · exact Int.le_refl _
        · exact hs.1 a ha
      · exact hal c hc
    · obtain ⟨a, ha, rfl, ⟨b, hb, hb2⟩, hal⟩ := hc
      obtain ⟨c, hc1, hc2, hc3⟩ := i3 n h a ((hm a).2 ha) hn' b (hr a b ha hb (by omega)) hb2
      have := hal c ((hm c).1 (.inr hc1)); omega
    · obtain ⟨a, ha, rfl, ⟨b, hb, hb2⟩, hal⟩ := hc
      obtain ⟨c, hc1, hc2, hc3⟩ := i2 h a ((hm a).2 ha) b (hr a b ha hb (by omega)) hb2
      have := hal c ((hm c).1 (.inr hc1)); omega

theorem full_none {fs : List Fl} {ss : List St} {p : List Be} {f : Int} (hall : HallOK fs ss) (hp : PlOK p) (h0 : 0 ≤ f) (h1 : f < fs.length) : fullF (flAt fs f).pl (standsD fs ss p f) 0 = none ↔ ∀ n, ¬ Full fs ss p f n := by
  rw [fullF_none]
  constructor
  · rintro h n ⟨n0, n1, n2⟩
    obtain ⟨j, rfl⟩ : ∃ j : Nat, n = j := ⟨n.toNat, by omega⟩
    have := h j _ (standsD_at hall hp h0 h1 (by omega))
    simp only at this; omega
  · intro h i s hs
    have hi : i < 22 := by
      rcases Nat.lt_or_ge i 22 with h' | h'
      · exact h'
      · rw [List.getElem?_eq_none (by rw [standsD_len]; exact h')] at hs; cases hs
    rw [standsD_at hall hp h0 h1 hi] at hs
    cases hs
    exact Int.not_lt.1 fun hlt => h i ⟨by omega, by omega, hlt⟩
theorem full_some {fs : List Fl} {ss : List St} {p : List Be} {f : Int} {q : Bool × Int} (hall : HallOK fs ss) (hp : PlOK p) (h0 : 0 ≤ f) (h1 : f < fs.length) (h : fullF (flAt fs f).pl (standsD fs ss p f) 0 = some q) : Full fs ss p f q.2 ∧ ∀ n', n' < q.2 → ¬ Full fs ss p f n' := by
  obtain ⟨-, i, s, h2, h3, h4, h5⟩ := fullF_some h
  have hi : i < 22 := by
    rcases Nat.lt_or_ge i 22 with h' | h'
    · exact h'
    · rw [List.getElem?_eq_none (by rw [standsD_len]; exact h')] at h3; cases h3
  rw [standsD_at hall hp h0 h1 hi] at h3
  cases h3
  rw [Nat.zero_add] at h2
  rw [h2]
  refine ⟨⟨by omega, by omega, h4⟩, ?_⟩
  rintro n' hn' ⟨q0, q1, q2⟩
  obtain ⟨j, rfl⟩ : ∃ j : Nat, n' = j := ⟨n'.toNat, by omega⟩
  have := h5 j _ (by omega) (standsD_at hall hp h0 h1 (by omega))
  simp only at this; omega

theorem look_none {fs : List Fl} {ss : List St} {p : List Be} {f : Int} (hall : HallOK fs ss) (hp : PlOK p) (h0 : 0 ≤ f) (h1 : f < fs.length) : lookF fs ss p f = none ↔ ∀ n, ¬ Bad fs ss p f n := by
  obtain ⟨c, hc, hs, hn⟩ := lookF_eq hall hp h0 h1
  rw [hc, merge_none, full_none hall hp h0 h1]
  constructor
  · rintro ⟨h2, h3⟩ n (hb | hb)
    · exact h2 n hb
    · exact hn h3 n hb
  · intro h
    refine ⟨fun n hb => h n (.inl hb), ?_⟩
    cases c with
    | none => rfl
    | some n => exact absurd (.inr (hs n rfl).1) (h n)
theorem look_some {fs : List Fl} {ss : List St} {p : List Be} {f : Int} {q : Bool × Int} (hall : HallOK fs ss) (hp : PlOK p) (h0 : 0 ≤ f) (h1 : f < fs.length) (h : lookF fs ss p f = some q) : Bad fs ss p f q.2 ∧ ∀ n', n' < q.2 → ¬ Bad fs ss p f n' := by
  obtain ⟨c, hc, hs, hn⟩ := lookF_eq hall hp h0 h1
  rw [hc] at h
  cases hf : fullF (flAt fs f).pl (standsD fs ss p f) 0 with
  | none =>
    rw [hf] at h
    have hf' := (full_none hall hp h0 h1).1 hf
    cases c with
    | none => cases h
    | some n =>
      have : q = (true, n) := by simpa [merge, early] using h.symm
      subst this
      obtain ⟨a1, a2⟩ := hs n rfl
      exact ⟨.inr a1, fun n' hn' hb => hb.elim (hf' n') (a2 n' hn')⟩
  | some q' =>
    rw [hf] at h
    obtain ⟨b1, b2⟩ := full_some hall hp h0 h1 hf
    cases c with
    | none =>
      have : q' = q := by simpa [merge] using h
      subst this
      exact ⟨.inl b1, fun n' hn' hb => hb.elim (b2 n' hn') (hn rfl n')⟩
    | some n =>
      obtain ⟨a1, a2⟩ := hs n rfl
      simp only [merge, early, decide_eq_true_eq] at h
      split at h
      · rename_i hlt
        have : q = (true, n) := by simpa using h.symm
        subst this
        exact ⟨.inr a1, fun n' hn' hb => hb.elim (b2 n' (by simp only at hn'; omega)) (a2 n' hn')⟩
      · rename_i hlt
        have : q' = q := by simpa using h
        subst this
        exact ⟨.inl b1, fun n' hn' hb => hb.elim (b2 n' hn') (a2 n' (by omega))⟩

theorem inspN_spec {fs : List Fl} {ss : List St} {p : List Be} (hall : HallOK fs ss) (hp : PlOK p) : ∀ k, k ≤ fs.length →
    (inspN fs ss p k = none → ∀ f : Int, 0 ≤ f → f < k → ∀ n, ¬ Bad fs ss p f n) ∧
    (∀ c n f, inspN fs ss p k = some ((c, n), f) → 0 ≤ f ∧ f < k ∧ Bad fs ss p f n ∧ ∀ g n' : Int, 0 ≤ g → g < k → Bad fs ss p g n' → n < n' ∨ n = n' ∧ f ≤ g)
  | 0, _ => ⟨fun _ f h0 h1 => by omega, fun c n f h => (by cases h)⟩
  | k + 1, hk => by
    obtain ⟨i1, i2⟩ := inspN_spec hall hp k (by omega)
    have l1 := look_none hall hp (show (0 : Int) ≤ k by omega) (show (k : Int) < fs.length by omega)
    have l2 := fun q => look_some (q := q) hall hp (show (0 : Int) ≤ k by omega) (show (k : Int) < fs.length by omega)
    rw [inspN]
    cases hl : lookF fs ss p k with
    | none =>
      have l1' := l1.1 hl
      simp only [inspS]
      refine ⟨fun h f h0 h1 n => ?_, fun c n f h => ?_⟩
      · by_cases e : f = k
        · subst e; exact l1' n
        · exact i1 h f h0 (by omega) n
      · obtain ⟨a0, a1, a2, a3⟩ := i2 c n f h
        refine ⟨a0, by omega, a2, fun g n' g0 g1 hb => ?_⟩
        by_cases e : g = k
        · subst e; exact absurd hb (l1' n')
        · exact a3 g n' g0 (by omega) hb
    | some z =>
      obtain ⟨z1, z2⟩ := l2 z hl
      simp only [inspS]
      cases hi : inspN fs ss p k with
      | none =>
        simp only [inspB, if_true]
        refine ⟨fun h => (by cases h), fun c n f h => ?_⟩
        simp only [Option.some.injEq, Prod.mk.injEq] at h
        obtain ⟨rfl, rfl⟩ := h
        refine ⟨by omega, by omega, z1, fun g n' g0 g1 hb => ?_⟩
        by_cases e : g = k
        · subst e
          rcases Int.lt_trichotomy n n' with h | h | h
          · exact .inl h
          · exact .inr ⟨h, Int.le_refl _⟩
          · exact absurd hb (z2 n' h)
        · exact absurd hb (i1 hi g g0 (by omega) n')
      | some w =>
        obtain ⟨⟨cw, nw⟩, fw⟩ := w
        obtain ⟨a0, a1, a2, a3⟩ := i2 cw nw fw hi
        simp only [inspB, decide_eq_true_eq]
        split
        · rename_i hlt
          refine ⟨fun h => (by cases h), fun c n f h => ?_⟩
          simp only [Option.some.injEq, Prod.mk.injEq] at h
          obtain ⟨rfl, rfl⟩ := h
          refine ⟨by omega, by omega, z1, fun g n' g0 g1 hb => ?_⟩
          by_cases e : g = k
          · subst e
            rcases Int.lt_trichotomy n n' with h | h | h
            · exact .inl h
            · exact .inr ⟨h, Int.le_refl _⟩
            · exact absurd hb (z2 n' h)
          · have := a3 g n' g0 (by omega) hb
            simp only at hlt; left; omega
        · rename_i hlt
          refine ⟨fun h => (by cases h), fun c n f h => ?_⟩
          simp only [Option.some.injEq, Prod.mk.injEq] at h
          obtain ⟨⟨rfl, rfl⟩, rfl⟩ := h
          refine ⟨a0, by omega, a2, fun g n' g0 g1 hb => ?_⟩
          by_cases e : g = k
          · subst e
            have : ¬ n' < z.2 := fun h => z2 n' h hb
            rcases Int.lt_trichotomy nw n' with h | h | h
            · exact .inl h
            · exact .inr ⟨h, by omega⟩
            · omega
          · exact a3 g n' g0 (by omega) hb
/-- ████ A PLAN IS RIGHT if nothing is wrong. -/
theorem insp_none {fs : List Fl} {ss : List St} {p : List Be} (hall : HallOK fs ss) (hp : PlOK p) : inspF fs ss p = none ↔ ∀ f : Int, 0 ≤ f → f < fs.length → ∀ n, ¬ Bad fs ss p f n := by
  obtain ⟨i1, i2⟩ := inspN_spec hall hp fs.length (Nat.le_refl _)
  constructor
  · intro h f h0 h1 n; exact i1 h f h0 h1 n
  · intro h
    cases hi : inspF fs ss p with
    | none => rfl
    | some w =>
      obtain ⟨⟨c, n⟩, f⟩ := w
      obtain ⟨a0, a1, a2, _⟩ := i2 c n f hi
      exact absurd a2 (h f a0 a1 n)
/-! What a search finds -/
/-- A plan in which each strike has one of its berths. -/
structure Valid (fs : List Fl) (ss : List St) (may : May) (p : List Be) : Prop where
  len : p.length = 4
  at_ : ∀ i, i < ss.length → beAt p i ∈ berthsK fs ss may i
  out : ∀ i, ss.length ≤ i → beAt p i = bnone
theorem beAt_set {p : List Be} {k i : Nat} {b : Be} (hk : k < p.length) : beAt (p.set k b) i = if i = k then b else beAt p i := by
  simp only [beAt, List.getD]
  by_cases e : i = k
  · subst e; rw [if_pos rfl, List.getElem?_set_self hk]; rfl
  · rw [if_neg e, List.getElem?_set_ne (Ne.symm e)]
theorem beAt_ext {p q : List Be} (h1 : p.length = 4) (h2 : q.length = 4) (h : ∀ i, i < 4 → beAt p i = beAt q i) : p = q := by
  apply List.ext_getElem?
  intro i
  rcases Nat.lt_or_ge i 4 with hi | hi
  · have := h i hi
    simp only [beAt, List.getD, List.getElem?_eq_getElem (show i < p.length by omega), List.getElem?_eq_getElem (show i < q.length by omega), Option.getD_some] at this ⊢
    rw [this]
  · rw [List.getElem?_eq_none (by omega), List.getElem?_eq_none (by omega)]
/-- The more is set, the more stands. -/
theorem hi_mono {fs : List Fl} {ss : List St} {p q : List Be} {f d : Int} (hall : HallOK fs ss) (hf : 0 ≤ f) (h : ∀ i, i < 4 → beAt q i = beAt p i ∨ (beAt q i).fl < 0) : hiAt fs ss q f d ≤ hiAt fs ss p f d := by
  refine sumK_le fun i hi => ?_
  have hc := (co_ok hall i).1
  rcases h i hi with h | h
  · simp only [hiG, h]; exact Int.le_refl _
  · simp only [hiG]
    rw [if_neg (by omega)]
    split <;> omega
theorem prune_no {fs : List Fl} {ss : List St} {p q : List Be} {b : Be} (hall : HallOK fs ss) (hp : PlOK p) (hq : PlOK q) (hb : b.fl < fs.length) (hr : inspF fs ss p = none) (h : ∀ i, i < 4 → beAt q i = beAt p i ∨ (beAt q i).fl < 0) : prune fs ss q b = false := by
  unfold prune
  split
  · rename_i h0
    cases ho : over (flAt fs b.fl).pl (standsD fs ss q b.fl) with
    | false => rfl
    | true =>
      obtain ⟨i, s, hs, hlt⟩ := over_iff.1 ho
      have hi : i < 22 := by
        rcases Nat.lt_or_ge i 22 with h' | h'
        · exact h'
        · rw [List.getElem?_eq_none (by rw [standsD_len]; exact h')] at hs; cases hs
      rw [standsD_at hall hq h0 hb hi] at hs
      cases hs
      have hm := hi_mono (d := i) hall h0 h
      have := (insp_none hall hp).1 hr b.fl h0 hb i
      exact absurd (.inl ⟨by omega, by omega, by simp only at hlt; omega⟩) this
  · rfl
theorem mem_rights {fs : List Fl} {ss : List St} {may : May} (hall : HallOK fs ss) : ∀ (m k : Nat) (q p : List Be), k + m = ss.length → PlanOf fs ss q → (∀ i, k ≤ i → beAt q i = bnone) →
    (p ∈ rights fs ss may m k q ↔ p.length = 4 ∧ (∀ i, i < k → beAt p i = beAt q i) ∧ (∀ i, k ≤ i → i < ss.length → beAt p i ∈ berthsK fs ss may i) ∧ (∀ i, ss.length ≤ i → beAt p i = bnone) ∧ inspF fs ss p = none)
  | 0, k, q, p, hk, hq, hn => by
    rw [rights]
    constructor
    · intro h
      split at h
      · rename_i hi
        have : p = q := by simpa using h
        subst this
        exact ⟨hq.ok.len, fun _ _ => rfl, fun i h1 h2 => by omega, fun i h1 => hn i (by omega), by simpa using hi⟩
      · cases h
    · rintro ⟨h1, h2, h3, h4, h5⟩
      have : p = q := beAt_ext h1 hq.ok.len fun i hi => by
        rcases Nat.lt_or_ge i k with h | h
        · exact h2 i h
        · rw [h4 i (by omega), hn i h]
      subst this
      simp [h5]
  | m + 1, k, q, p, hk, hq, hn => by
    have hk4 : k < q.length := by have := hall.ns; have := hq.ok.len; omega
    have hbn : ∀ b, beAt (q.set k b) k = b := fun b => by rw [beAt_set hk4, if_pos rfl]
    have hsn : ∀ b i, k + 1 ≤ i → beAt (q.set k b) i = bnone := fun b i hi => by rw [beAt_set hk4, if_neg (by omega)]; exact hn i (by omega)
    have hso : ∀ b i, i < k → beAt (q.set k b) i = beAt q i := fun b i hi => by rw [beAt_set hk4, if_neg (by omega)]
    rw [rights, List.mem_flatMap]
    constructor
    · rintro ⟨b, hb, hp⟩
      split at hp
      · cases hp
      · obtain ⟨h1, h2, h3, h4, h5⟩ := (mem_rights hall m (k + 1) (q.set k b) p (by omega) (plan_set hq (by omega) (berth_ok hall (by omega) hb)) (hsn b)).1 hp
        refine ⟨h1, fun i hi => ?_, fun i hi hi2 => ?_, h4, h5⟩
        · rw [h2 i (by omega), hso b i hi]
        · by_cases e : i = k
          · subst e; rw [h2 i (by omega), hbn]; exact hb
          · exact h3 i (by omega) hi2
    · rintro ⟨h1, h2, h3, h4, h5⟩
      have hb := h3 k (Nat.le_refl _) (by omega)
      have hset := plan_set (k := k) hq (by omega) (berth_ok hall (by omega) hb)
      have hpre : ∀ i, i < 4 → beAt (q.set k (beAt p k)) i = beAt p i ∨ (beAt (q.set k (beAt p k)) i).fl < 0 := fun i hi => by
        rcases Nat.lt_trichotomy i k with h | h | h
        · left; rw [hso _ i h, h2 i h]
        · left; subst h; rw [hbn]
        · right; rw [hsn _ i (by omega)]; simp [bnone]
      have hpOK : PlOK p := ⟨h1, fun b hb => by
        obtain ⟨i, hi, rfl⟩ := List.mem_iff_getElem.1 hb
        have e : p[i] = beAt p i := by simp [beAt, List.getD, List.getElem?_eq_getElem hi]
        rw [e]
        rcases Nat.lt_or_ge i k with h | h
        · rw [h2 i h]; exact (beAt_some hq.ok (by omega)).2
        · rcases Nat.lt_or_ge i ss.length with h' | h'
          · have := berth_ok hall h' (h3 i h h'); omega
          · rw [h4 i h']; simp [bnone]⟩
      refine ⟨beAt p k, hb, ?_⟩
      rw [if_neg (by rw [prune_no hall hpOK hset.ok (berth_ok hall (by omega) hb).2.2.1 h5 hpre]; simp)]
      refine (mem_rights hall m (k + 1) _ p (by omega) hset (hsn _)).2 ⟨h1, fun i hi => ?_, fun i hi hi2 => h3 i (by omega) hi2, h4, h5⟩
      by_cases e : i = k
      · subst e; rw [hbn]
      · rw [hso _ i (by omega), h2 i (by omega)]
theorem beAt_nil (i : Nat) : beAt (padB []) i = bnone := beAt_p0 i
/-- ████ A SEARCH FINDS the right ones of the plans in which each strike has a berth that it may have. -/
theorem mem_rightsOf {fs : List Fl} {ss : List St} {may : May} (hall : HallOK fs ss) {p : List Be} : p ∈ rightsOf fs ss may [] ↔ Valid fs ss may p ∧ inspF fs ss p = none := by
  rw [rightsOf, List.length_nil, mem_rights hall _ _ _ _ (by omega) (pad_nil hall.nf.1) (fun i _ => beAt_nil i)]
  constructor
  · rintro ⟨h1, _, h3, h4, h5⟩; exact ⟨⟨h1, fun i hi => h3 i (Nat.zero_le _) hi, h4⟩, h5⟩
  · rintro ⟨⟨h1, h2, h3⟩, h4⟩; exact ⟨h1, fun i hi => by omega, fun i _ hi => h2 i hi, h3, h4⟩
theorem mem_allF {fs : List Fl} {ss : List St} {may : May} (hall : HallOK fs ss) {p : List Be} : p ∈ allF fs ss may ↔ Valid fs ss may p ∧ inspF fs ss p = none := by
  unfold allF
  split
  · exact mem_rightsOf hall
  · rename_i hs
    have h0 : 0 < (padB []).length := by decide
    rw [List.mem_flatMap]
    have hb1 : ∀ b, b ∈ berthsK fs ss may 0 → (p ∈ rightsOf fs ss may [b] ↔ p.length = 4 ∧ (∀ i, i < 1 → beAt p i = beAt ((padB []).set 0 b) i) ∧ (∀ i, 1 ≤ i → i < ss.length → beAt p i ∈ berthsK fs ss may i) ∧ (∀ i, ss.length ≤ i → beAt p i = bnone) ∧ inspF fs ss p = none) := fun b hb => by
      rw [rightsOf, List.length_singleton, pad_one]
      exact mem_rights hall _ _ _ _ (by omega) (plan_set (pad_nil hall.nf.1) (by omega) (berth_ok hall (by omega) hb)) (fun i hi => by rw [beAt_set h0, if_neg (by omega)]; exact beAt_nil i)
    constructor
    · rintro ⟨b, hb, hp⟩
      obtain ⟨h1, h2, h3, h4, h5⟩ := (hb1 b hb).1 hp
      refine ⟨⟨h1, fun i hi => ?_, h4⟩, h5⟩
      by_cases e : i = 0
      · subst e; rw [h2 0 (by omega), beAt_set h0, if_pos rfl]; exact hb
      · exact h3 i (by omega) hi
    · rintro ⟨⟨h1, h2, h3⟩, h4⟩
      refine ⟨beAt p 0, h2 0 (by omega), (hb1 _ (h2 0 (by omega))).2 ⟨h1, fun i hi => ?_, fun i _ hi => h2 i hi, h3, h4⟩⟩
      have : i = 0 := by omega
      subst this
      rw [beAt_set h0, if_pos rfl]
theorem mem_daysFrom_iff {f : Int} : ∀ {m : Nat} {d : Int} {b : Be}, b ∈ daysFrom f d m ↔ b.fl = f ∧ d ≤ b.day ∧ b.day < d + m
  | 0, d, b => by
    constructor
    · intro h; simp [daysFrom] at h
    · intro h; omega
  | m + 1, d, b => by
    rw [daysFrom, List.mem_cons, mem_daysFrom_iff]
    constructor
    · rintro (rfl | h)
      · simp; omega
      · omega
    · rintro ⟨h1, h2, h3⟩
      by_cases e : b.day = d
      · left; obtain ⟨x, y⟩ := b; simp at h1 e; rw [h1, e]
      · right; omega
theorem mem_floorsFrom_iff {s : St} : ∀ {m : Nat} {f : Int} {b : Be}, b ∈ floorsFrom s f m ↔ f ≤ b.fl ∧ b.fl < f + m ∧ s.day ≤ b.day ∧ b.day < s.day + (s.wa + 1).toNat
  | 0, f, b => by simp [floorsFrom]; omega
  | m + 1, f, b => by
    rw [floorsFrom, List.mem_append, mem_daysFrom_iff, mem_floorsFrom_iff]
    omega
theorem mem_berths {fs : List Fl} {ss : List St} {may : May} {k : Nat} {b : Be} : b ∈ berthsK fs ss may k ↔ (may k).2 = true ∧ b = bnone ∨ (may k).1 = true ∧ 0 ≤ b.fl ∧ b.fl < fs.length ∧ (stAt ss k).day ≤ b.day ∧ b.day < (stAt ss k).day + ((stAt ss k).wa + 1).toNat := by
  rw [berthsK, List.mem_append]
  have e1 : b ∈ (if (may k).2 then [bnone] else []) ↔ (may k).2 = true ∧ b = bnone := by
    split <;> simp [*]
  have e2 : b ∈ (if (may k).1 then floorsFrom (stAt ss k) 0 fs.length else []) ↔ (may k).1 = true ∧ b ∈ floorsFrom (stAt ss k) 0 fs.length := by
    split <;> simp [*]
  rw [e1, e2, mem_floorsFrom_iff]
  simp
end Go.Mus

/- The best plans; when all strikes can be set; the first that can't. Conditions: none. -/
namespace Go.Mus
/-! Each plan once -/
theorem daysFrom_nodup {f : Int} : ∀ (m : Nat) (d : Int), (daysFrom f d m).Nodup
  | 0, _ => .nil
  | m + 1, d => by
    rw [daysFrom, List.nodup_cons]
    refine ⟨fun h => ?_, daysFrom_nodup m (d + 1)⟩
    have := (mem_daysFrom h).2.1
    simp only at this; omega
theorem floorsFrom_nodup {s : St} : ∀ (m : Nat) (f : Int), (floorsFrom s f m).Nodup
  | 0, _ => .nil
  | m + 1, f => by
    rw [floorsFrom, List.nodup_append]
    refine ⟨daysFrom_nodup _ _, floorsFrom_nodup m (f + 1), fun a ha b hb e => ?_⟩
    subst e
    have h1 := (mem_daysFrom ha).1
    have h2 := (mem_floorsFrom hb).1
    omega
theorem berthsK_nodup {fs : List Fl} {ss : List St} {may : May} {k : Nat} : (berthsK fs ss may k).Nodup := by
  rw [berthsK, List.nodup_append]
  refine ⟨by split <;> simp, ?_, fun a ha b hb e => ?_⟩
  · split
    · exact floorsFrom_nodup _ _
    · exact .nil
  subst e
  split at ha
  · have : a = bnone := by simpa using ha
    subst this
    split at hb
    · have := (mem_floorsFrom hb).1; simp [bnone] at this
    · cases hb
  · cases ha
theorem rights_at {fs : List Fl} {ss : List St} {may : May} (hall : HallOK fs ss) {m k : Nat} {q p : List Be} {b : Be} (hk : k + 1 + m = ss.length) (hq : PlanOf fs ss q) (hn : ∀ i, k ≤ i → beAt q i = bnone) (hb : b ∈ berthsK fs ss may k) (h : p ∈ rights fs ss may m (k + 1) (q.set k b)) : beAt p k = b := by
  have hk4 : k < q.length := by have := hall.ns; have := hq.ok.len; omega
  have := ((mem_rights hall m (k + 1) (q.set k b) p (by omega) (plan_set hq (by omega) (berth_ok hall (by omega) hb)) (fun i hi => by rw [beAt_set hk4, if_neg (by omega)]; exact hn i (by omega))).1 h).2.1 k (by omega)
  rw [this, beAt_set hk4, if_pos rfl]
theorem rights_nodup {fs : List Fl} {ss : List St} {may : May} (hall : HallOK fs ss) : ∀ (m k : Nat) (q : List Be), k + m = ss.length → PlanOf fs ss q → (∀ i, k ≤ i → beAt q i = bnone) → (rights fs ss may m k q).Nodup
  | 0, k, q, _, _, _ => by
    rw [rights]; split <;> simp
  | m + 1, k, q, hk, hq, hn => by
    have hk4 : k < q.length := by have := hall.ns; have := hq.ok.len; omega
    rw [rights, List.Nodup, List.pairwise_flatMap]
    refine ⟨fun b hb => ?_, ?_⟩
    · split
      · exact .nil
      · exact rights_nodup hall m (k + 1) _ (by omega) (plan_set hq (by omega) (berth_ok hall (by omega) hb)) (fun i hi => by rw [beAt_set hk4, if_neg (by omega)]; exact hn i (by omega))
    · refine (berthsK_nodup (fs := fs) (ss := ss) (may := may) (k := k)).imp_of_mem fun {a b} ha hb hab x hx y hy e => ?_
      subst e
      split at hx
      · cases hx
      · split at hy
        · cases hy
        · exact hab ((rights_at hall (by omega) hq hn ha hx).symm.trans (rights_at hall (by omega) hq hn hb hy))
theorem allF_nodup {fs : List Fl} {ss : List St} {may : May} (hall : HallOK fs ss) : (allF fs ss may).Nodup := by
  unfold allF
  split
  · exact rights_nodup hall _ _ _ (by simp) (pad_nil hall.nf.1) (fun i _ => beAt_nil i)
  · rename_i hs
    have hall1 : ∀ b, b ∈ berthsK fs ss may 0 → ∀ i, 1 ≤ i → beAt ((padB []).set 0 b) i = bnone := fun b _ i hi => by rw [beAt_set (by decide), if_neg (by omega)]; exact beAt_nil i
    rw [List.Nodup, List.pairwise_flatMap]
    refine ⟨fun b hb => ?_, ?_⟩
    · rw [rightsOf, List.length_singleton, pad_one]
      exact rights_nodup hall _ _ _ (by omega) (plan_set (pad_nil hall.nf.1) (by omega) (berth_ok hall (by omega) hb)) (hall1 b hb)
    · refine (berthsK_nodup (fs := fs) (ss := ss) (may := may) (k := 0)).imp_of_mem fun {a b} ha hb hab x hx y hy e => ?_
      subst e
      rw [rightsOf, List.length_singleton, pad_one] at hx hy
      exact hab ((rights_at hall (by omega) (pad_nil hall.nf.1) (fun i _ => beAt_nil i) ha hx).symm.trans (rights_at hall (by omega) (pad_nil hall.nf.1) (fun i _ => beAt_nil i) hb hy))

/-! The best -/
theorem filter_none {α : Type} {l : List α} {f : α → Bool} (h : ∀ q ∈ l, f q = false) : l.filter f = [] := List.filter_eq_nil_iff.2 fun q hq => by rw [h q hq]; simp
/-- What is kept while plans are looked at. -/
structure BInv (ss : List St) (l : List (List Be)) (s : (Int × List (List Be)) × List (List Be)) : Prop where
  met : s.2 = l
  top : l ≠ [] → (∃ q ∈ l, loavesF ss q = s.1.1) ∧ ∀ q ∈ l, loavesF ss q ≤ s.1.1
  out : s.1.2 = l.filter fun q => decide (loavesF ss q = s.1.1)
theorem BInv.step {ss : List St} {l : List (List Be)} {s : (Int × List (List Be)) × List (List Be)} {p : List Be} (H : BInv ss l s) (hp : p ∉ l) : BInv ss (l ++ [p]) (bstep ss s p) := by
  obtain ⟨⟨m, out⟩, met⟩ := s
  obtain ⟨h1, h2, h3⟩ := H
  simp only at h1 h2 h3
  subst h1
  obtain ⟨n, hn⟩ : ∃ n, loavesF ss p = n := ⟨_, rfl⟩
  simp only [bstep, if_neg hp, addM, hn]
  have hpf : ∀ c, [p].filter (fun q => decide (loavesF ss q = c)) = if n = c then [p] else [] := fun c => by
    rw [List.filter_cons]; simp [hn]
  rcases met with _ | ⟨q0, r0⟩
  · have h0 : out = [] := h3
    subst h0
    simp only [true_or, if_true, List.nil_append]
    refine ⟨rfl, fun _ => ⟨⟨p, by simp, hn⟩, fun q hq => ?_⟩, by simp only; rw [hpf, if_pos rfl]⟩
    have : q = p := by simpa using hq
    subst this; simp only; omega
  · obtain ⟨⟨q1, hq1, hq2⟩, htop⟩ := h2 (by simp)
    have hne : (q0 :: r0).filter (fun q => decide (loavesF ss q = m)) ≠ [] := fun e => by
      have := List.filter_eq_nil_iff.1 e q1 hq1
      simp [hq2] at this
    rw [← h3] at hne
    generalize q0 :: r0 = l at *
    by_cases hlt : m < n
    · have hc : out = [] ∨ m < n := .inr hlt
      simp only [if_pos hc, if_true, List.nil_append]
      refine ⟨rfl, fun _ => ⟨⟨p, by simp, hn⟩, fun q hq => ?_⟩, ?_⟩
      · rcases List.mem_append.1 hq with hq | hq
        · have := htop q hq; simp only; omega
        · have : q = p := by simpa using hq
          subst this; simp only; omega
      · simp only
        rw [List.filter_append, hpf, if_pos rfl, filter_none fun q hq => ?_]
        · rfl
        · have := htop q hq
          exact decide_eq_false (by omega)
    · have hc : ¬ (out = [] ∨ m < n) := not_or.2 ⟨hne, hlt⟩
      simp only [if_neg hc]
      by_cases he : n = m
      · rw [if_pos he]
        refine ⟨rfl, fun _ => ⟨⟨p, by simp, hn.trans he⟩, fun q hq => ?_⟩, ?_⟩
        · rcases List.mem_append.1 hq with hq | hq
          · exact htop q hq
          · have : q = p := by simpa using hq
            subst this; simp only; omega
        · simp only
          rw [List.filter_append, hpf, if_pos he, h3]
      · rw [if_neg he]
        refine ⟨rfl, fun _ => ⟨⟨q1, by simp [hq1], hq2⟩, fun q hq => ?_⟩, ?_⟩
        · rcases List.mem_append.1 hq with hq | hq
          · exact htop q hq
          · have : q = p := by simpa using hq
            subst this; simp only; omega
        · simp only
          rw [List.filter_append, hpf, if_neg he, List.append_nil, h3]
theorem BInv.run {ss : List St} : ∀ (r l : List (List Be)) (s : (Int × List (List Be)) × List (List Be)), BInv ss l s → (l ++ r).Nodup → BInv ss (l ++ r) (r.foldl (bstep ss) s)
  | [], l, s, h, _ => by rw [List.append_nil]; exact h
  | p :: r, l, s, h, hnd => by
    rw [List.foldl_cons, show l ++ p :: r = (l ++ [p]) ++ r by simp]
    refine BInv.run r (l ++ [p]) _ (h.step fun hm => ?_) (by simpa using hnd)
    exact (List.nodup_append.1 hnd).2.2 p hm p (by simp) rfl
/-- ████ THE BEST PLANS: of the right ones those with the most loaves, in order. -/
theorem best_spec {fs : List Fl} {ss : List St} (hall : HallOK fs ss) : (∃ q ∈ allF fs ss freeM, loavesF ss q = (bestF fs ss).1) ∧ (∀ q ∈ allF fs ss freeM, loavesF ss q ≤ (bestF fs ss).1) ∧ (bestF fs ss).2 = (allF fs ss freeM).filter fun q => decide (loavesF ss q = (bestF fs ss).1) := by
  have h := BInv.run (ss := ss) (allF fs ss freeM) [] ((0, []), []) ⟨rfl, fun h => absurd rfl h, rfl⟩ (allF_nodup hall)
  rw [List.nil_append] at h
  have hne : allF fs ss freeM ≠ [] := fun e => by have := allF_p0 hall; rw [e] at this; cases this
  exact ⟨(h.top hne).1, (h.top hne).2, h.out⟩

/-! Loaves -/
/-! Whether all can be set -/
theorem some_iff {fs : List Fl} {ss : List St} {may : May} (hall : HallOK fs ss) : someR fs ss may = true ↔ ∃ p, Valid fs ss may p ∧ inspF fs ss p = none := by
  have : someR fs ss may = true ↔ ∃ p, p ∈ rightsOf fs ss may [] := by
    simp only [someR, Bool.not_eq_true', List.isEmpty_eq_false_iff_exists_mem]
  rw [this]
  exact exists_congr fun p => mem_rightsOf hall
end Go.Mus

/- The first strikes of a plant alone; which strike is late. Conditions: none. -/
namespace Go.Mus
theorem ckPlant_mk {fs : List Fl} {ss : List St} (h1 : 1 ≤ fs.length) (h2 : fs.length ≤ 2) (h3 : ckFloors fs = 0) (h4 : ss.length ≤ 4) (h5 : ckStrikes 0 ss = 0) : ckPlant fs ss = 0 := by
  unfold ckPlant
  rw [if_neg (by omega), if_neg (by omega), if_neg (by simp [h3]), if_neg (by omega), h5]
end Go.Mus

/- A plant without its last strike. Conditions: none; over the given program. -/
namespace Go.Mus
set_option maxRecDepth 100000
set_option maxHeartbeats 4000000
end Go.Mus

/- The strike that is late, and the best plan's length. Conditions: none. -/
namespace Go.Mus
end Go.Mus

/- Whether all strikes of a plant are set in its best plan; the strike that is late, asked of the best plans. Conditions: none; over the given program. -/
namespace Go.Mus
set_option maxRecDepth 100000
set_option maxHeartbeats 4000000
end Go.Mus

/- Strikes that wait longer; with which patience all can be set. Conditions: none; over the given program. -/
namespace Go.Mus
set_option maxRecDepth 100000
set_option maxHeartbeats 4000000
theorem Ops.freezeOs {x : Cx} {ops : Array Oper} {td : List Nat} {Q : Post} {ρ : Env} {ds : List Deferred} {A F : Frag} {α : Type} {row : α → List Value} {w : Nat} [Rw row w] {E : TypeId} {v : Value} {l : List α} (hs : Os E row v l A)
    (H : ∀ h', Ext x.h h' → Sl h' row v l → Zs h' v → Ops { x with h := h' } ops td Q ρ ds F) : Ops x ops td Q ρ ds (A ++ F) := by
  rcases hs with ⟨rfl, rfl, hsh⟩ | ⟨β, cc, cap, J, rfl, rfl, h1, h2, h3, hsh⟩
  · exact Ops.sb (Sb.left .refl hsh) (H x.h ⟨fun _ _ q => q, fun _ q => q⟩ .nil (fun b off n cap e => by cases e))
  · refine Ops.freeze (b := β) rfl fun h' hE hb hz => ?_
    refine Ops.sb (F' := F) (Sb.left .refl hsh) (H h' hE (.mk hb rfl h3) (fun b off n cap e => by cases e; exact hz))
end Go.Mus

/- A floor with other places; how many it needs. Conditions: none; over the given program. -/
namespace Go.Mus
set_option maxRecDepth 100000
set_option maxHeartbeats 4000000
theorem cloneF_fn (main : Side) (h : Hp) (fs : List Fl) (vs : Value) (hs : Sl h Fl.row vs fs) (hn : fs.length ≤ 1000) : Fnc prog main n_slices_Clone_Floor #[vs] h [] (fun v A => ∃ S, Os t_Floor Fl.row v fs S ∧ Sb S A) := by
  obtain ⟨a, cap, rfl⟩ := hs.isSl
  refine Fnc.of_body at_slices_Clone_Floor rfl (by show 1 ≤ 8; decide) [(0, .slice a fs.length cap)] ⟨rfl, trivial⟩ ?_
  refine W.seq <| W.region rfl <| qs rfl rfl rfl <| Ops.nil <| thn_n <| W.seq <| W.seq <| W.region rfl <| qm rfl rfl rfl ?_
  refine oq (y_slNil rfl rfl) rfl wn rfl rfl ?_
  refine Ops.nil <| thn_n ?_
  refine W.cond rfl (fun c4 => ?_) (fun c4 => ?_)
  · refine W.seq <| W.region rfl <| qs rfl rfl rfl <| Ops.nil <| thn_n <| W.ret <| thn_r ?_
    have : fs = [] := by
      cases a with
      | some a => cases c4
      | none =>
        rcases hss : fs with _ | ⟨x, r⟩
        · rfl
        · obtain ⟨b, off, c, E, fz, e, _⟩ := hs.at (i := 0) (p := x) (by rw [hss]; rfl)
          cases e
    subst this
    exact lvt (vs := [.slice none 0 0]) ⟨[], .nil .nil, .refl⟩
  · refine W.skip <| thn_n <| W.seq <| W.region rfl ?_
    refine Ops.bsl0 (fun β5 => ?_) rfl
    refine qm rfl rfl rfl ?_
    have hO : Os t_Floor Fl.row (.slice (some ⟨β5, 0, none⟩) 0 0) ([] : List Fl) [(β5, .cells #[] t_Floor (0, 0))] := .inr ⟨β5, #[], 0, [], rfl, rfl, rfl, Nat.le_refl _, Part.all [], .nil⟩
    refine oe rfl wn rfl rfl (e_append (row := Fl.row) (l := []) (l' := fs) rfl rfl rfl hO .all (fun h2 hE hl => hs.ext hE) (by simp; omega) (by decide) rfl (fun v' S' hS' => ?_))
    rw [List.nil_append] at hS'
    refine qs rfl rfl rfl <| Ops.nil <| thn_n <| W.ret ?_
    exact lvt (vs := [v']) ⟨S', hS', .refl⟩

/-- A floor's cells. -/
theorem Part.setR {α : Type} {row : α → List Value} {w : Nat} [Rw row w] {c : Array Value} {l : List α} {j : Nat} {p : α} (q : α) (k : Nat) (x : Value) (hk : k < w) (h : Part c 0 (flat row l)) (hj : l[j]? = some p) (hq : row q = (row p).set k x) : Part (c.setIfInBounds (j * w + k) x) 0 (flat row (l.set j q)) := by
  obtain ⟨pre, post, h1, h2⟩ := h
  have : pre = [] := List.length_eq_zero_iff.1 h2
  subst this
  refine ⟨[], post, ?_, rfl⟩
  have hlt : j < l.length := lt_of_get hj
  have hlen : j * w + k < (flat row l).length := by
    rw [flat_len]
    have : (j + 1) * w ≤ l.length * w := Nat.mul_le_mul_right _ hlt
    rw [Nat.succ_mul] at this; omega
  simp only [Array.toList_setIfInBounds, h1, List.nil_append]
  rw [List.set_append_left _ _ hlen]
  congr 1
  clear h1 h2 hlen
  induction l generalizing j with
  | nil => simp at hj
  | cons a l ih =>
    cases j with
    | zero =>
      simp only [List.getElem?_cons_zero, Option.some.injEq] at hj
      subst hj
      simp only [flat_cons, List.set_cons_zero, Nat.zero_mul, Nat.zero_add]
      rw [List.set_append_left _ _ (by rw [Rw.len]; exact hk), hq]
    | succ j =>
      have := ih (j := j) (by simpa using hj) (by simpa using hlt)
      simp only [List.set_cons_succ, flat_cons]
      rw [← this, List.set_append_right _ _ (by rw [Rw.len, Nat.succ_mul]; omega)]
      congr 2
      rw [Rw.len, Nat.succ_mul]; omega

theorem begin_fn (main : Side) (h : Hp) (fs : List Fl) (ss : List St) (f : Int) (vf vs : Value) (hf : Sl h Fl.row vf fs) (hs : Sl h St.row vs ss) (hck : ckPlant fs ss = 0) (hf0 : 0 ≤ f ∧ f < fs.length) : Pu prog main n_floor_begin #[.agg #[vf, vs], I f] h (I 0) := by
  have hn := (hall_ck hck).nf
  obtain ⟨a, cap, rfl⟩ := hf.isSl
  obtain ⟨a', cap', rfl⟩ := hs.isSl
  refine Fnc.of_body at_floor_begin rfl (by show 2 ≤ 17; decide) [(0, .agg #[.slice a fs.length cap, .slice a' ss.length cap']), (1, I f)] ⟨rfl, rfl, trivial⟩ ?_
  refine W.seq <| W.region rfl ?_
  refine Ops.box (fun β2 => ?_)
  refine qs rfl rfl rfl <| Ops.nil <| thn_n <| W.seq <| W.seq <| W.region rfl ?_
  first | refine oq (yldW rfl rfl) rfl wn rfl rfl ?_ | refine oq (yldA rfl rfl) rfl wn rfl rfl ?_
  refine cp (u := I 0) (fun h' hE hL => by have := Check_fn main h' fs ss _ _ (hf.ext hE) (hs.ext hE); rw [hck] at this; exact this) ?_
  refine qs rfl rfl rfl <| Ops.nil <| thn_n <| W.seq <| W.region rfl <| qm rfl rfl rfl ?_
  refine oq ((y_neq rfl rfl rfl).eq (u := .bool false) rfl) rfl wn rfl rfl ?_
  refine Ops.nil <| thn_n ?_
  refine W.condF ?_
  refine W.skip <| thn_n <| W.seq <| W.seq <| W.region rfl <| qm rfl rfl rfl ?_
  refine oq (y_fieldAddr rfl rfl) rfl wn rfl rfl ?_
  refine oq (yld rfl rfl) rfl wn rfl rfl ?_
  refine oq (y_len rfl rfl) rfl wn rfl rfl ?_
  first | refine oq (ysub rfl rfl rfl) rfl wn rfl rfl ?_ | refine oq (y_subw rfl rfl rfl) rfl wn rfl rfl ?_
  refine cp (u := .bool false) (fun h' hE hL => ?_) ?_
  · have := outside_fn main h' f 0 ((fs.length : Int) - 1)
    rw [decide_eq_false (show ¬ outs f 0 ((fs.length : Int) - 1) by unfold outs; omega)] at this
    exact this
  refine Ops.nil <| thn_n ?_
  refine W.condF ?_
  refine W.skip <| thn_n <| W.seq <| W.region rfl <| qs rfl rfl rfl <| Ops.nil <| thn_n <| W.ret ?_
  exact lvp rfl

/-- What a change of a floor comes to. -/
def ChgV (main : Side) (fv : Value) (upd : Fl → Fl) (h : Hp) : Prop :=
  ∀ h', Ext h h' → ∀ (b : Nat) (c : Array Value) (l : List Fl) (i : Nat) (f : Fl), l[i]? = some f → Part c 0 (flat Fl.row l) → CallV prog main fv [.pointer (some ⟨b, 0 + i * 4, none⟩)] h' [(b, .cells c t_Floor (0, 0))] (fun _ A => ∃ c', c'.size = c.size ∧ Part c' 0 (flat Fl.row (l.set i (upd f))) ∧ Sb [(b, .cells c' t_Floor (0, 0))] A)

theorem changed_fn (main : Side) (h : Hp) (fs : List Fl) (ss : List St) (f : Int) (x : Fl) (vf vs fv : Value) (upd : Fl → Fl) (hf : Sl h Fl.row vf fs) (hs : Sl h St.row vs ss) (hfn : one fv = true) (hn : fs.length ≤ 2) (hf0 : 0 ≤ f) (hx : fs[f.toNat]? = some x) (hc : ChgV main fv upd h) : Fnc prog main n_floor_changed #[.agg #[vf, vs], I f, fv] h [] (fun v A => ∃ vf' S, v = .agg #[vf', vs] ∧ Os t_Floor Fl.row vf' (fs.set f.toNat (upd x)) S ∧ Sb S A) := by
  obtain ⟨a, cap, rfl⟩ := hf.isSl
  obtain ⟨a', cap', rfl⟩ := hs.isSl
  refine Fnc.of_body at_floor_changed rfl (by show 3 ≤ 18; decide) [(0, .agg #[.slice a fs.length cap, .slice a' ss.length cap']), (1, I f), (2, fv)] ⟨rfl, rfl, rfl, trivial⟩ ?_
  refine W.seq <| W.region rfl ?_
  refine Ops.box (cs := #[.slice a fs.length cap, .slice a' ss.length cap']) (fun β3 => ?_) rfl rfl rfl
  refine Ops.new (fun β6 => ?_)
  refine Ops.nil <| thn_n <| W.seq <| W.region rfl ?_
  refine oq (y_fieldAddr rfl rfl) rfl wn rfl rfl ?_
  refine oq (yld rfl rfl) rfl wn rfl rfl ?_
  refine c0 (fun h' hE hL => cloneF_fn _ h' fs _ (hf.ext hE) (by omega)) (fun v A' hv => ?_)
  obtain ⟨S, hS, hsb⟩ := hv
  refine Ops.sb (hsb.app .refl) ?_
  refine Ops.perm (List.perm_append_comm (l₁ := [_, _])) ?_
  obtain ⟨a3, cap3, rfl⟩ := hS.isSl
  rcases hS with ⟨hnil, _, _⟩ | ⟨β, c, cp, J, hv, rfl, hc1, hc2, hP, hJ⟩
  · rw [hnil] at hx; simp at hx
  obtain ⟨rfl, rfl⟩ : a3 = some ⟨β, 0, none⟩ ∧ cap3 = cp := by injection hv with e1 e2 e3; exact ⟨e1, e3⟩
  obtain ⟨k, rfl⟩ : ∃ k : Nat, f = k := ⟨f.toNat, by omega⟩
  rw [Int.toNat_natCast] at hx
  have hk := lt_of_get hx
  refine oq (y_fieldAddr rfl rfl) rfl wn rfl rfl ?_
  refine Ops.sto ?_
  refine Ops.nil <| thn_n <| W.seq <| W.region rfl <| qm rfl rfl rfl ?_
  refine oq (y_fieldAddr rfl rfl) rfl wn rfl rfl ?_
  refine oq (yld rfl rfl) rfl wn rfl rfl ?_
  refine qm rfl rfl rfl ?_
  first | refine oq (yix rfl rfl rfl) rfl wn rfl rfl ?_ | refine oq (yixI rfl rfl rfl) rfl wn rfl rfl ?_
  refine oe rfl wn rfl rfl (e_callV (A := [(β, .cells c t_Floor (0, 0))]) (args := [_]) rfl rfl rfl (.tail (.tail .head)) (fun h' hE hL => hc h' hE β c fs k x hx hP) (fun v A' hv => ?_))
  obtain ⟨c', hs', hP', hsb'⟩ := hv
  refine Ops.sb (.cons (.cons (hsb'.app .refl))) ?_
  refine Ops.nil <| thn_n <| W.seq <| W.region rfl ?_
  first | refine oq (yldW rfl rfl) rfl wn rfl rfl ?_ | refine oq (yldA rfl rfl) rfl wn rfl rfl ?_
  first | refine Ops.stoW ?_ | refine Ops.stoA ?_
  refine Ops.nil <| thn_n <| W.ret ?_
  refine lvc (hv := rAgg rNil) ⟨_, (β, .cells c' t_Floor (0, 0)) :: J, rfl, .inr ⟨β, c', cap3, J, ?_, rfl, by rw [hs']; exact hc1, by simpa using hc2, by simpa using hP', hJ⟩, .skip rfl (.skip rfl .refl)⟩
  simp

/-! Places -/
def plF (n : Int) (f : Fl) : Fl := ⟨n, f.lo, f.hi, f.co⟩
def flS (fs : List Fl) (f : Int) (g : Fl → Fl) : List Fl := fs.set f.toNat (g (flAt fs f))
theorem need11_fn (main : Side) (h : Hp) (n : Int) (b3 : Nat) (E3 : TypeId) (z3 : Nat × Nat) (hb : h b3 = some (.cells #[I n] E3 z3)) : ChgV main (.func (.func n_floor_Need_1_1) #[] #[.pointer (some ⟨b3, 0, none⟩)]) (plF n) h := by
  intro h' hE b c l i f hi hP
  have hb' := hE.1 _ _ hb
  have hsz := (hP.rowE hi).2
  refine CallV.of_fn (f := n_floor_Need_1_1) (fi := []) (args := [_]) (ca := [.pointer (some ⟨b3, 0, none⟩)]) ?_
  refine Fnc.of_body at_floor_Need_1_1 rfl (by show 2 ≤ 7; decide) [(0, .pointer (some ⟨b, 0 + i * 4, none⟩)), (1, .pointer (some ⟨b3, 0, none⟩))] ⟨rfl, rfl, trivial⟩ ?_
  refine W.region rfl <| qm rfl rfl rfl ?_
  refine oq (yld rfl rfl) rfl wn rfl rfl ?_
  first | refine oq (y_nilCheck rfl rfl) rfl wn rfl rfl ?_ | refine oq (y_nilCheckF rfl rfl) rfl wn rfl rfl ?_
  refine oq (y_fieldAddr rfl rfl) rfl wn rfl rfl ?_
  refine Ops.sto ?_
  refine Ops.nil ?_
  refine lvt (vs := []) ⟨_, Array.size_setIfInBounds .., ?_, .refl⟩
  have := hP.setR (plF n f) 0 (I n) (by decide) hi rfl
  simpa using this
end Go.Mus

/- How many places a floor needs. Conditions: none; over the given program. -/
namespace Go.Mus
set_option maxRecDepth 100000
set_option maxHeartbeats 4000000
theorem ckFloors_set : ∀ {fs : List Fl} {i : Nat} {g : Fl}, ckFloors fs = 0 → ckFloor g = 0 → ckFloors (fs.set i g) = 0
  | [], i, g, _, _ => by simp [ckFloors]
  | a :: fs, 0, g, h, hg => by
    simp only [List.set_cons_zero, ckFloors] at h ⊢
    split at h
    · rw [if_pos hg]; exact h
    · rename_i h1; exact absurd h h1
  | a :: fs, i + 1, g, h, hg => by
    simp only [List.set_cons_succ, ckFloors] at h ⊢
    split at h
    · rename_i h1; rw [if_pos h1]; exact ckFloors_set h hg
    · rename_i h1; exact absurd h h1
theorem ckPlant_fl {fs : List Fl} {ss : List St} {i : Nat} {g : Fl} (h : ckPlant fs ss = 0) (hg : ckFloor g = 0) : ckPlant (fs.set i g) ss = 0 := by
  obtain ⟨h1, h2, h3, h4, h5⟩ := ckPlant0 h
  exact ckPlant_mk (by simp; omega) (by simpa using h2) (ckFloors_set h4 hg) h3 h5
theorem flAt_some {fs : List Fl} {f : Int} (h0 : 0 ≤ f) (h1 : f < fs.length) : fs[f.toNat]? = some (flAt fs f) := by
  obtain ⟨x, hx, -⟩ := has (show f.toNat < fs.length by omega)
  simp [flAt, List.getD, hx]
theorem ck_pl {fs : List Fl} {ss : List St} {f n : Int} (h : ckPlant fs ss = 0) (h0 : 0 ≤ f) (h1 : f < fs.length) (hn : 1 ≤ n ∧ n ≤ 9) : ckPlant (flS fs f (plF n)) ss = 0 := by
  have hfl := fl_ok (hall_ck h) h0 h1
  exact ckPlant_fl h (ckFloor_ok (by simp only [plF]; omega) (by simp only [plF]; omega) (by simp only [plF]; omega) (by simp only [plF]; omega))

def needF (fs : List Fl) (ss : List St) (f : Int) : Option Int := (nums 1 9).find? fun n => someR (flS fs f (plF n)) ss boundM
def needV (fs : List Fl) (ss : List St) (f : Int) : Int × Int := match needF fs ss f with | none => (0, 11) | some n => (n, 0)

theorem need1_fn (main : Side) (h : Hp) (fs : List Fl) (ss : List St) (f n : Int) (vf vs : Value) (b1 b2 : Nat) (E1 E2 Eg : TypeId) (z1 z2 zg : Nat × Nat) (hf : Sl h Fl.row vf fs) (hs : Sl h St.row vs ss) (hck : ckPlant fs ss = 0) (hf0 : 0 ≤ f ∧ f < fs.length) (hn : 1 ≤ n ∧ n ≤ 9) (hb1 : h b1 = some (.cells #[vf, vs] E1 z1)) (hb2 : h b2 = some (.cells #[I f] E2 z2)) (hg : h 0 = some (.cells #[rtV t_error] Eg zg)) :
    PuV prog main (.func (.func n_floor_Need_1) #[] #[.pointer (some ⟨b1, 0, none⟩), .pointer (some ⟨b2, 0, none⟩)]) [I n] h (.bool (someR (flS fs f (plF n)) ss boundM)) := by
  refine CallV.of_fn (f := n_floor_Need_1) (fi := []) (args := [_]) (ca := [.pointer (some ⟨b1, 0, none⟩), .pointer (some ⟨b2, 0, none⟩)]) ?_
  have hall := hall_ck (ck_pl hck hf0.1 hf0.2 hn)
  have hnf := (hall_ck hck).nf
  have hx := flAt_some hf0.1 hf0.2
  obtain ⟨a, cap, rfl⟩ := hf.isSl
  obtain ⟨a', cap', rfl⟩ := hs.isSl
  refine Fnc.of_body at_floor_Need_1 rfl (by show 3 ≤ 14; decide) [(0, I n), (1, .pointer (some ⟨b1, 0, none⟩)), (2, .pointer (some ⟨b2, 0, none⟩))] ⟨rfl, rfl, rfl, trivial⟩ ?_
  refine W.seq <| W.region rfl ?_
  refine Ops.box (fun β3 => ?_)
  refine qs rfl rfl rfl <| Ops.nil <| thn_n <| W.seq <| W.region rfl ?_
  first | refine oq (yldW rfl rfl) rfl wn rfl rfl ?_ | refine oq (yldA rfl rfl) rfl wn rfl rfl ?_
  refine oq (yld rfl rfl) rfl wn rfl rfl ?_
  refine oq (y_func rfl rfl rfl) rfl wn rfl rfl ?_
  refine c0 (fun h' hE hL => changed_fn _ h' fs ss f _ _ _ (.func (.func n_floor_Need_1_1) #[] #[.pointer (some ⟨β3, 0, none⟩)]) (plF n) (hf.ext hE) (hs.ext hE) rfl hnf.2 hf0.1 hx (need11_fn _ h' n β3 _ _ (hL β3 _ (.head _)))) (fun v A' hv => ?_)
  obtain ⟨vf2, S, rfl, hS, hsb⟩ := hv
  obtain ⟨a3, cap3, rfl⟩ := hS.isSl
  refine Ops.sb (F' := (β3, .cells #[I n] t_int (0, 0)) :: S) (.trans (.of_perm (List.perm_append_singleton _ _).symm) (hsb.app .refl)) ?_
  refine Ops.new (fun β5 => ?_)
  first | refine Ops.stoW ?_ | refine Ops.stoA ?_
  refine Ops.nil <| thn_n <| W.seq <| W.region rfl ?_
  first | refine oq (yldW rfl rfl) rfl wn rfl rfl ?_ | refine oq (yldA rfl rfl) rfl wn rfl rfl ?_
  refine oq (y_build (cs := #[.slice a3 (fs.set f.toNat (plF n (flAt fs f))).length cap3, .slice a' ss.length cap']) rfl rfl rfl) rfl wn rfl rfl ?_
  refine oq (y_build (cs := #[.slice a3 (fs.set f.toNat (plF n (flAt fs f))).length cap3, .slice a' ss.length cap', .func (.func n_floor_bound) #[] #[]]) rfl rfl rfl) rfl wn rfl rfl ?_
  refine cp (fun h' hE hL => some_fn _ h' (flS fs f (plF n)) ss boundM (.slice a3 (fs.set f.toNat (plF n (flAt fs f))).length cap3) (.slice a' ss.length cap') (.func (.func n_floor_bound) #[] #[]) _ _ (hS.sl fun b o hb => hL b o (.tail _ (.tail _ hb))) (hs.ext hE) rfl hall (bound_may _ h') (hE.1 _ _ hg)) ?_
  refine qs rfl rfl rfl <| Ops.nil <| thn_n <| W.ret ?_
  exact lvp (hs := .cons rfl (.cons rfl hS.shut)) rfl

theorem Need_fn (main : Side) (h : Hp) (fs : List Fl) (ss : List St) (f : Int) (vf vs : Value) (Eg : TypeId) (zg : Nat × Nat) (hf : Sl h Fl.row vf fs) (hs : Sl h St.row vs ss) (hck : ckPlant fs ss = 0) (hf0 : 0 ≤ f ∧ f < fs.length) (hg : h 0 = some (.cells #[rtV t_error] Eg zg)) :
    Pu prog main n_floor_Need #[.agg #[vf, vs], I f] h (.tuple #[I (needV fs ss f).1, I (needV fs ss f).2]) := by
  obtain ⟨a, cap, rfl⟩ := hf.isSl
  obtain ⟨a', cap', rfl⟩ := hs.isSl
  refine Fnc.of_body at_floor_Need rfl (by show 2 ≤ 24; decide) [(0, .agg #[.slice a fs.length cap, .slice a' ss.length cap']), (1, I f)] ⟨rfl, rfl, trivial⟩ ?_
  refine W.seq <| W.region rfl ?_
  refine Ops.box (cs := #[.slice a fs.length cap, .slice a' ss.length cap']) (fun β2 => ?_) rfl rfl rfl
  refine Ops.box (fun β3 => ?_)
  refine qs rfl rfl rfl <| qs rfl rfl rfl <| Ops.nil <| thn_n <| W.seq <| W.seq <| W.region rfl ?_
  first | refine oq (yldW rfl rfl) rfl wn rfl rfl ?_ | refine oq (yldA rfl rfl) rfl wn rfl rfl ?_
  refine oq (yld rfl rfl) rfl wn rfl rfl ?_
  refine cp (fun h' hE hL => begin_fn _ h' fs ss f _ _ (hf.ext hE) (hs.ext hE) hck hf0) ?_
  refine qs rfl rfl rfl <| Ops.nil <| thn_n <| W.seq <| W.region rfl <| qm rfl rfl rfl ?_
  refine oq ((y_neq rfl rfl rfl).eq (u := .bool false) rfl) rfl wn rfl rfl ?_
  refine Ops.nil <| thn_n ?_
  refine W.condF ?_
  refine W.skip <| thn_n <| W.seq <| W.region rfl ?_
  refine c0 (fun h' hE hL => numbers_fn _ h' 1 9 (by decide) (by decide) (by decide)) (fun v A' hv => ?_)
  obtain ⟨S, hS, hsb⟩ := hv
  refine Ops.sb (hsb.app .refl) ?_
  refine oq (y_func rfl rfl rfl) rfl wn rfl rfl ?_
  refine cp (u := firstV (needF fs ss f)) (fun h' hE hL => first_fn _ h' (nums 1 9) v _ (fun n => someR (flS fs f (plF n)) ss boundM) (hS.sl fun b o hb => hL b o (List.mem_append_left _ hb)) (by rw [nums, numsN_len]; decide) (fun h2 e n hn => ?_)) ?_
  · have hnr : 1 ≤ n ∧ n ≤ 9 := by simp [nums, numsN] at hn; omega
    exact need1_fn _ h2 fs ss f n _ _ β2 β3 _ _ Eg _ _ zg ((hf.ext hE).ext e) ((hs.ext hE).ext e) hck hf0 hnr (e.1 _ _ (hL β2 _ (List.mem_append_right _ (.tail _ (.head _))))) (e.1 _ _ (hL β3 _ (List.mem_append_right _ (.head _)))) (e.1 _ _ (hE.1 _ _ hg))
  refine qm rfl rfl rfl <| oq (y_extract rfl rfl rfl) rfl wn rfl rfl <| oq (y_extract rfl rfl rfl) rfl wn rfl rfl <| qs rfl rfl rfl <| qs rfl rfl rfl <| Ops.nil <| thn_n <| W.seq <| W.seq <| W.region rfl ?_
  refine qm rfl rfl rfl ?_
  refine oq (y_not rfl rfl) rfl wn rfl rfl ?_
  refine Ops.nil <| thn_n ?_
  refine W.cond rfl (fun c22 => ?_) (fun c22 => ?_)
  · refine W.seq <| W.region rfl <| qs rfl rfl rfl <| qs rfl rfl rfl <| Ops.nil <| thn_n <| W.ret <| thn_r ?_
    refine lvp (hs := hS.shut.app (.cons rfl (.cons rfl .nil))) ?_
    have : needF fs ss f = none := by simpa using c22
    rw [needV, this]; rfl
  · refine W.skip <| thn_n <| W.seq <| W.region rfl <| qm rfl rfl rfl <| qs rfl rfl rfl <| qs rfl rfl rfl <| Ops.nil <| thn_n <| W.ret ?_
    refine lvp (hs := hS.shut.app (.cons rfl (.cons rfl .nil))) ?_
    obtain ⟨n, hn⟩ : ∃ n, needF fs ss f = some n := by
      cases hp : needF fs ss f with
      | none => rw [hp] at c22; simp at c22
      | some n => exact ⟨n, rfl⟩
    rw [needV, hn]; rfl
end Go.Mus

/- What makes plans right more easily, and so the loaves no fewer. Conditions: none. -/
namespace Go.Mus
/-- Where each right plan has one that is as good, the best are as good. -/
theorem best_le {fs fs' : List Fl} {ss ss' : List St} (hall : HallOK fs ss) (hall' : HallOK fs' ss') (H : ∀ p, Valid fs ss freeM p → inspF fs ss p = none → ∃ p', Valid fs' ss' freeM p' ∧ inspF fs' ss' p' = none ∧ loavesF ss p ≤ loavesF ss' p') : (bestF fs ss).1 ≤ (bestF fs' ss').1 := by
  obtain ⟨⟨q, hq, hql⟩, -, -⟩ := best_spec hall
  obtain ⟨-, htop, -⟩ := best_spec hall'
  obtain ⟨hv, hi⟩ := (mem_allF hall).1 hq
  obtain ⟨p', h1, h2, h3⟩ := H q hv hi
  have := htop p' ((mem_allF hall').2 ⟨h1, h2⟩)
  omega
/-! Without a strike -/
end Go.Mus

/- How much slower a floor may be. Conditions: none; over the given program. -/
namespace Go.Mus
set_option maxRecDepth 100000
set_option maxHeartbeats 4000000
/-! Turning a list round -/
def revK (l : List Int) (k : Nat) : List Int := (l.reverse.take k) ++ ((l.drop k).take (l.length - 2 * k)) ++ (l.reverse.drop (l.length - k))
theorem revK_zero (l : List Int) : revK l 0 = l := by simp [revK]
theorem rev_get {l : List Int} {i : Nat} (hi : i < l.length) : l.reverse[i]? = l[l.length - 1 - i]? := by
  rw [List.getElem?_reverse hi]
theorem revK_len {l : List Int} {k : Nat} (hk : 2 * k ≤ l.length) : (revK l k).length = l.length := by simp [revK]; omega
theorem revK_get {l : List Int} {k i : Nat} (hk : 2 * k ≤ l.length) (hi : i < l.length) : (revK l k)[i]? = if i < k ∨ l.length - k ≤ i then l[l.length - 1 - i]? else l[i]? := by
  unfold revK
  by_cases h1 : i < k
  · rw [if_pos (.inl h1), List.append_assoc, List.getElem?_append_left (by simp; omega), List.getElem?_take, if_pos h1, rev_get hi]
  · by_cases h2 : l.length - k ≤ i
    · rw [if_pos (.inr h2), List.getElem?_append_right (by simp; omega), List.getElem?_drop]
      have e : l.length - k + (i - (l.reverse.take k ++ (l.drop k).take (l.length - 2 * k)).length) = i := by simp; omega
      rw [e, rev_get hi]
    · rw [if_neg (by omega), List.getElem?_append_left (by simp; omega), List.getElem?_append_right (by simp; omega), List.getElem?_take, if_pos (by simp; omega), List.getElem?_drop]
      congr 1
      simp; omega
theorem revK_step {l : List Int} {k : Nat} {x y : Int} (hk : 2 * k + 2 ≤ l.length) (hx : l[k]? = some x) (hy : l[l.length - 1 - k]? = some y) : ((revK l k).set k y).set (l.length - 1 - k) x = revK l (k + 1) := by
  apply List.ext_getElem?
  intro i
  have hl := revK_len (l := l) (k := k) (by omega)
  have hl' := revK_len (l := l) (k := k + 1) (by omega)
  rcases Nat.lt_or_ge i l.length with hi | hi
  · rw [revK_get (by omega) hi, List.getElem?_set, List.getElem?_set]
    by_cases e1 : l.length - 1 - k = i
    · rw [if_pos e1, if_pos (by simp; omega), if_pos (by omega)]
      rw [show l.length - 1 - i = k by omega, hx]
    · rw [if_neg e1]
      by_cases e2 : k = i
      · rw [if_pos e2, if_pos (by omega), if_pos (by omega), ← e2, hy]
      · rw [if_neg e2, revK_get (by omega) hi]
        by_cases h1 : i < k ∨ l.length - k ≤ i
        · rw [if_pos h1, if_pos (by omega)]
        · rw [if_neg h1, if_neg (by omega)]
  · rw [List.getElem?_eq_none (by simp; omega), List.getElem?_eq_none (by omega)]
theorem revK_end {l : List Int} {k : Nat} (h1 : 2 * k ≤ l.length) (h2 : l.length ≤ 2 * k + 1) : revK l k = l.reverse := by
  apply List.ext_getElem?
  intro i
  rcases Nat.lt_or_ge i l.length with hi | hi
  · rw [revK_get h1 hi, rev_get hi]
    by_cases h : i < k ∨ l.length - k ≤ i
    · rw [if_pos h]
    · rw [if_neg h]
      congr 1; omega
  · rw [List.getElem?_eq_none (by rw [revK_len h1]; exact hi), List.getElem?_eq_none (by simp; omega)]

theorem Reverse_fn (main : Side) (h : Hp) (b cap : Nat) (c : Array Value) (l : List Int) (hP : Part c 0 (flat rowI l)) (hl : l.length ≤ 1000) : Fnc prog main n_slices_Reverse_int #[.slice (some ⟨b, 0, none⟩) l.length cap] h [(b, .cells c t_int (0, 0))] (fun _ A => ∃ c', c'.size = c.size ∧ Part c' 0 (flat rowI l.reverse) ∧ Sb [(b, .cells c' t_int (0, 0))] A) := by
  refine Fnc.of_body at_slices_Reverse_int rfl (by show 1 ≤ 28; decide) [(0, .slice (some ⟨b, 0, none⟩) l.length cap)] ⟨rfl, trivial⟩ ?_
  refine W.seq <| W.region rfl <| qm rfl rfl rfl ?_
  refine oq (y_len rfl rfl) rfl wn rfl rfl ?_
  first | refine oq (ysub rfl rfl rfl) rfl wn rfl rfl ?_ | refine oq (y_subw rfl rfl rfl) rfl wn rfl rfl ?_
  refine qs rfl rfl rfl <| qs rfl rfl rfl <| Ops.nil <| thn_n <| W.block ?_
  refine W.loop2 (fun (k : Nat) (c' : Array Value) => (2 * k ≤ l.length) ∧ c'.size = c.size ∧ Part c' 0 (flat rowI (revK l k))) (fun k _ => [(2, I k), (3, I ((l.length : Int) - 1 - k)), (0, .slice (some ⟨b, 0, none⟩) l.length cap)]) (fun _ c' => [(b, .cells c' t_int (0, 0))]) (fun k _ => l.length - k) 0 c ⟨by omega, rfl, by rw [revK_zero]; exact hP⟩ ⟨rfl, lk rfl (show I _ = I _ by congr 1; omega), rfl, trivial⟩ .refl ?_
  rintro k c1 ⟨hk, hsz, hP1⟩
  refine W.seq <| W.seq <| W.region rfl <| qm rfl rfl rfl <| qm rfl rfl rfl ?_
  refine oq (y_lss rfl rfl rfl) rfl wn rfl rfl ?_
  refine Ops.nil <| thn_n ?_
  refine W.condp rfl (fun c9 => ?_) (fun c9 => ?_)
  · have hk2 : 2 * k + 2 ≤ l.length := by omega
    have hlen := revK_len (l := l) (k := k) hk
    obtain ⟨x, hx, -⟩ := has (show k < l.length by omega)
    obtain ⟨y, hy, -⟩ := has (show l.length - 1 - k < l.length by omega)
    have hx1 : (revK l k)[k]? = some x := by rw [revK_get hk (by omega), if_neg (by omega)]; exact hx
    have hy1 : (revK l k)[l.length - 1 - k]? = some y := by rw [revK_get hk (by omega), if_neg (by omega)]; exact hy
    have hx2 := hP1.getI hx1
    have hy2 := hP1.getI hy1
    have hj : (l.length : Int) - 1 - k = ((l.length - 1 - k : Nat) : Int) := by omega
    have hsz2 := hP1.len
    rw [flat_len, hlen] at hsz2
    rw [hj]
    have hP2 := hP1.setI (j := k) (a := y) (by omega)
    have hP3 := hP2.setI (j := l.length - 1 - k) (a := x) (by simp; omega)
    rw [revK_step hk2 hx hy] at hP3
    refine W.skip <| thn_n <| W.seq <| W.block ?_
    refine W.drawL [] (n := 16) rfl ?_
    refine aq (i := 0) (y_move rfl rfl) rfl an rfl rfl ?_
    refine aq (i := 1) (y_move rfl rfl) rfl an rfl rfl ?_
    refine aq (i := 2) (y_move rfl rfl) rfl an rfl rfl ?_
    refine aq (i := 3) (y_move rfl rfl) rfl an rfl rfl ?_
    refine aq (i := 4) (y_move rfl rfl) rfl an rfl rfl ?_
    refine aq (i := 5) (y_move rfl rfl) rfl an rfl rfl ?_
    refine aq (i := 6) (yix rfl rfl rfl) rfl an rfl rfl ?_
    refine aq (i := 8) (y_move rfl rfl) rfl an rfl rfl ?_
    refine aq (i := 9) (y_move rfl rfl) rfl an rfl rfl ?_
    refine aq (i := 10) (yix rfl rfl rfl) rfl an rfl rfl ?_
    refine a2 (i := 7) (j := 11) rfl rfl (yld rfl rfl) (yld rfl rfl) (yld rfl rfl) (yld rfl rfl) an an an an rfl rfl rfl rfl ?_
    refine aq (i := 12) (yix rfl rfl rfl) rfl an rfl rfl ?_
    refine ae (i := 13) rfl an rfl rfl (eS rfl rfl rfl ?_)
    refine ⟨.inr (fun _ h => by cases h), ?_⟩
    refine aq (i := 14) (yix rfl rfl rfl) rfl an rfl rfl ?_
    refine ae (i := 15) rfl an rfl rfl (eS rfl rfl rfl ?_ (hc := by rw [Array.size_setIfInBounds]; omega))
    refine ⟨.inr (fun _ h => by cases h), ?_⟩
    refine az ?_
    refine blk_n <| thn_n <| W.region rfl <| qm rfl rfl rfl ?_
    first | refine oq (yadd rfl rfl rfl) rfl wn rfl rfl ?_ | refine oq (y_addw rfl rfl rfl) rfl wn rfl rfl ?_
    refine qm rfl rfl rfl ?_
    first | refine oq (ysub rfl rfl rfl) rfl wn rfl rfl ?_ | refine oq (y_subw rfl rfl rfl) rfl wn rfl rfl ?_
    refine qs rfl rfl rfl <| qs rfl rfl rfl <| Ops.nil <| thn_n ?_
    have e1 : 0 + k * 1 = k := by omega
    have e2 : 0 + (l.length - 1 - k) * 1 = l.length - 1 - k := by omega
    have hP4 : Part ((c1.setIfInBounds (0 + k * 1) (I y)).setIfInBounds (0 + (l.length - 1 - k) * 1) (I x)) 0 (flat rowI (revK l (k + 1))) := by rw [e1, e2]; exact hP3
    exact ⟨rfl, k + 1, _, ⟨by omega, by simp [hsz], hP4⟩, by omega, ⟨rfl, lk rfl (show I _ = I _ by congr 1; omega), rfl, trivial⟩, .refl⟩
  · refine W.exit <| thn_x <| thn_x <| blk_x ?_
    refine lvt (vs := []) ⟨c1, hsz, ?_, .refl⟩
    rw [← revK_end (k := k) (by omega) (by omega)]; exact hP1
end Go.Mus

/- How much slower a floor may be. Conditions: none; over the given program. -/
namespace Go.Mus
set_option maxRecDepth 100000
set_option maxHeartbeats 4000000
def hiF (n : Int) (f : Fl) : Fl := ⟨f.pl, f.lo, wadd f.hi n, f.co⟩
theorem slow11_fn (main : Side) (h : Hp) (n : Int) (b3 : Nat) (E3 : TypeId) (z3 : Nat × Nat) (hb : h b3 = some (.cells #[I n] E3 z3)) : ChgV main (.func (.func n_floor_Slower_1_1) #[] #[.pointer (some ⟨b3, 0, none⟩)]) (hiF n) h := by
  intro h' hE b c l i f hi hP
  have hb' := hE.1 _ _ hb
  have hsz := (hP.rowE hi).2
  have hc2 : c[0 + i * 4 + 1 + 1]? = some (I f.hi) := hP.rowG hi 2 (by decide)
  refine CallV.of_fn (f := n_floor_Slower_1_1) (fi := []) (args := [_]) (ca := [.pointer (some ⟨b3, 0, none⟩)]) ?_
  refine Fnc.of_body at_floor_Slower_1_1 rfl (by show 2 ≤ 13; decide) [(0, .pointer (some ⟨b, 0 + i * 4, none⟩)), (1, .pointer (some ⟨b3, 0, none⟩))] ⟨rfl, rfl, trivial⟩ ?_
  refine W.drawL [] (n := 11) rfl ?_
  refine aq (i := 0) (y_move rfl rfl) rfl an rfl rfl ?_
  refine aq (i := 1) (y_nilCheck rfl rfl) rfl an rfl rfl ?_
  refine aq (i := 2) (y_fieldAddr rfl rfl) rfl an rfl rfl ?_
  refine aq (i := 3) (y_fieldAddr rfl rfl) rfl an rfl rfl ?_
  refine aq (i := 5) (yld rfl rfl) rfl an rfl rfl ?_
  refine ae (i := 4) rfl an rfl rfl (Ef.of_y (yld rfl rfl) ?_)
  refine ⟨.inr Keeps.nil, ?_⟩
  refine aq (i := 6) (y_addw rfl rfl rfl) rfl an rfl rfl ?_
  refine aq (i := 7) (y_nilCheck rfl rfl) rfl an rfl rfl ?_
  refine aq (i := 8) (y_fieldAddr rfl rfl) rfl an rfl rfl ?_
  refine aq (i := 9) (y_fieldAddr rfl rfl) rfl an rfl rfl ?_
  refine ae (i := 10) rfl an rfl rfl (eS rfl rfl rfl ?_)
  refine ⟨.inr Keeps.nil, ?_⟩
  refine az ?_
  refine lvt (vs := []) ⟨_, Array.size_setIfInBounds .., ?_, .refl⟩
  have := hP.setR (hiF n f) 2 (I (wadd f.hi n)) (by decide) hi rfl
  have e : 0 + i * 4 + 1 + 1 = i * 4 + 2 := by omega
  rw [e]; exact this

theorem ck_hi {fs : List Fl} {ss : List St} {f n : Int} (h : ckPlant fs ss = 0) (h0 : 0 ≤ f) (h1 : f < fs.length) (hn : 0 ≤ n ∧ (flAt fs f).hi + n ≤ 6) : ckPlant (flS fs f (hiF n)) ss = 0 := by
  have hfl := fl_ok (hall_ck h) h0 h1
  have e : wadd (flAt fs f).hi n = (flAt fs f).hi + n := wadd_small (by omega) (by omega) (by omega) (by omega)
  exact ckPlant_fl h (ckFloor_ok (by simp only [hiF]; omega) (by simp only [hiF]; omega) (by simp only [hiF, e]; omega) (by simp only [hiF]; omega))
def slowQ (fs : List Fl) (ss : List St) (f n : Int) : Bool := decide ((bestF (flS fs f (hiF n)) ss).1 = (bestF fs ss).1)
theorem slow1_fn (main : Side) (hS : ∀ S, main.ok S → ∃ Fin, S = Mn prog Fin) (hmb : main.b = true) (h : Hp) (fs : List Fl) (ss : List St) (f n : Int) (vf vs : Value) (b1 b2 b3 : Nat) (E1 E2 E3 Eg : TypeId) (z1 z2 z3 zg : Nat × Nat) (hf : Sl h Fl.row vf fs) (hs : Sl h St.row vs ss) (zs : Zs h vs) (hck : ckPlant fs ss = 0) (hf0 : 0 ≤ f ∧ f < fs.length) (hn : 0 ≤ n ∧ (flAt fs f).hi + n ≤ 6) (hb1 : h b1 = some (.cells #[vf, vs] E1 z1)) (hb2 : h b2 = some (.cells #[I f] E2 z2)) (hb3 : h b3 = some (.cells #[I (bestF fs ss).1] E3 z3)) (hg : h 0 = some (.cells #[rtV t_error] Eg zg)) (z0 : h.z 0) :
    PuV prog main (.func (.func n_floor_Slower_1) #[] #[.pointer (some ⟨b1, 0, none⟩), .pointer (some ⟨b2, 0, none⟩), .pointer (some ⟨b3, 0, none⟩)]) [I n] h (.bool (slowQ fs ss f n)) := by
  refine CallV.of_fn (f := n_floor_Slower_1) (fi := []) (args := [_]) (ca := [.pointer (some ⟨b1, 0, none⟩), .pointer (some ⟨b2, 0, none⟩), .pointer (some ⟨b3, 0, none⟩)]) ?_
  have hall := hall_ck (ck_hi hck hf0.1 hf0.2 hn)
  have hnf := (hall_ck hck).nf
  have hx := flAt_some hf0.1 hf0.2
  obtain ⟨a, cap, rfl⟩ := hf.isSl
  obtain ⟨a', cap', rfl⟩ := hs.isSl
  refine Fnc.of_body at_floor_Slower_1 rfl (by show 4 ≤ 17; decide) [(0, I n), (1, .pointer (some ⟨b1, 0, none⟩)), (2, .pointer (some ⟨b2, 0, none⟩)), (3, .pointer (some ⟨b3, 0, none⟩))] ⟨rfl, rfl, rfl, rfl, trivial⟩ ?_
  refine W.seq <| W.region rfl ?_
  refine Ops.box (fun β4 => ?_)
  refine qs rfl rfl rfl <| Ops.nil <| thn_n <| W.seq <| W.region rfl ?_
  first | refine oq (yldW rfl rfl) rfl wn rfl rfl ?_ | refine oq (yldA rfl rfl) rfl wn rfl rfl ?_
  refine oq (yld rfl rfl) rfl wn rfl rfl ?_
  refine oq (y_func rfl rfl rfl) rfl wn rfl rfl ?_
  refine c0 (fun h' hE hL => changed_fn _ h' fs ss f _ _ _ (.func (.func n_floor_Slower_1_1) #[] #[.pointer (some ⟨β4, 0, none⟩)]) (hiF n) (hf.ext hE) (hs.ext hE) rfl hnf.2 hf0.1 hx (slow11_fn _ h' n β4 _ _ (hL β4 _ (.head _)))) (fun v A' hv => ?_)
  obtain ⟨vf2, S, rfl, hO, hsb⟩ := hv
  obtain ⟨a3, cap3, rfl⟩ := hO.isSl
  refine Ops.sb (F' := (β4, .cells #[I n] t_int (0, 0)) :: S) (.trans (.of_perm (List.perm_append_singleton _ _).symm) (hsb.app .refl)) ?_
  refine Ops.new (fun β6 => ?_)
  first | refine Ops.stoW ?_ | refine Ops.stoA ?_
  refine Ops.nil <| thn_n ?_
  refine W.sb (F' := S ++ [(β6, .cells #[.slice a3 (fs.set f.toNat (hiF n (flAt fs f))).length cap3, .slice a' ss.length cap'] t_Plant (0, 0)), (β4, .cells #[I n] t_int (0, 0))]) (.of_perm List.perm_append_comm) ?_
  refine freezeOs hO (fun hx' hEx hslf hzf => ?_)
  have hb3' := hEx.1 _ _ hb3
  refine W.seq ?_
  refine W.drawF (n := 7) rfl ?_
  first | refine aq (i := 0) (yldW rfl rfl) rfl an rfl rfl ?_ | refine aq (i := 0) (yldA rfl rfl) rfl an rfl rfl ?_
  refine aq (i := 1) (y_build (cs := #[.slice a3 (fs.set f.toNat (hiF n (flAt fs f))).length cap3, .slice a' ss.length cap']) rfl rfl rfl) rfl an rfl rfl ?_
  refine aq (i := 4) (yld rfl rfl) rfl an rfl rfl ?_
  refine ae (i := 2) rfl an rfl rfl (e_call0 (args := [_]) rfl rfl (fun h' hE hL => best_fn _ hS hmb h' (flS fs f (hiF n)) ss (.slice a3 (fs.set f.toNat (hiF n (flAt fs f))).length cap3) (.slice a' ss.length cap') Eg zg (hslf.ext hE) (hs.ext (hEx.trans hE)) (hzf.ext hE) (zs.ext (hEx.trans hE)) hall ((hEx.trans hE).1 _ _ hg) ((hEx.trans hE).2 _ z0)) (fun v A2 hv => ?_))
  refine ⟨.inr (fun q hq => List.mem_append_right _ hq), ?_⟩
  obtain ⟨u, S2, rfl, hO2, hsb2⟩ := hv
  obtain ⟨ua, uc, rfl⟩ := hO2.isSl
  first | refine aq (i := 3) (y_field rfl rfl rfl) rfl an rfl rfl ?_ | refine aq (i := 3) (y_fieldA rfl rfl rfl) rfl an rfl rfl ?_
  refine aq (i := 5) (y_eql rfl rfl rfl) rfl an rfl rfl ?_
  refine aq (i := 6) (y_assign rfl rfl) rfl an rfl rfl ?_
  refine az ?_
  refine thn_n <| W.ret ?_
  have hsh2 : Shut A2 := by
    obtain ⟨X, p, x⟩ := hsb2
    intro q hq
    rcases List.mem_append.1 (p.symm.subset hq) with h | h
    · exact hO2.shut q h
    · exact x q h
  exact lvp (hs := hsh2.app (.cons rfl (.cons rfl .nil))) rfl
end Go.Mus
