/- From a law's body to the run of the machine, and to what is claimed of it. Conditions: none; over any program. (And 9 texts more.) -/
import Derived.Test.YtnffnndmilpnoaaGreatDoorR04
import Derived.Test.YtnffnndmilpnoaaGreatDoorR05
import Derived.Conc.LeavingOf
import Derived.LaidLaws
import Derived.LaidHandle
import Derived.ChangeSlices
import Derived.WideShapes
import Derived.Carry
import Derived.RowKit
import Derived.Test.YtnffnndmilpnoaaGreatDoorR09
import Derived.Test.YtnffnndmilpnoaaGreatDoorCards
import Derived.Test.YtnffnndmilpnoaaGreatDoorTie
import Derived.SevenTiedAt
set_option linter.unusedVariables false
set_option linter.unusedSimpArgs false
set_option linter.unusedSectionVars false

/- From a law's body to the run of the machine, and to what is claimed of it. Conditions: none; over any program. -/
namespace Go.Mus
/-- A function that answers u, called from outside. -/
def TopV (P : Program) (main : Side) (f : FuncId) (args : Array Value) (h : Hp) (u : Value) : Prop :=
 ∃ (fn : Func) (c : Code) (ρ : Env), P.funcs[f]? = some fn ∧ fn.body = some c ∧ args.size ≤ fn.ntmps ∧ Argu ρ args ∧ W ⟨P, main, f, fn.ntmps, none, h⟩ c (fun e ρ ds F => ds = [] ∧ Shut F ∧ leave P main fn h (fun v _ => v = u) e ρ [] F) ρ [] []

section
variable {P : Program} {main : Side} {h : Hp}
theorem TopV.of_body {f : FuncId} {fn : Func} {c : Code} {args : Array Value} {u : Value} (hf : P.funcs[f]? = some fn) (hb : fn.body = some c) (ha : args.size ≤ fn.ntmps) (ρ : Env) (hρ : Argu ρ args)
  (H : W ⟨P, main, f, fn.ntmps, none, h⟩ c (fun e ρ ds F => ds = [] ∧ Shut F ∧ leave P main fn h (fun v _ => v = u) e ρ [] F) ρ [] []) : TopV P main f args h u := ⟨fn, c, ρ, hf, hb, ha, hρ, H⟩
variable {fn : Func} {e : Exit} {ρ : Env} {F : Frag}
/-- .. its results. -/
theorem lvq {u : Value} {vs : List Value} (hu : pack vs = u) (he : e = .ret ∨ e = .normal := by first | exact .inl rfl | exact .inr rfl) (hv : resT ρ fn.results.toList = some vs := by rfl) (hs : Shut F := by repeat (first | exact Shut.nil | assumption | refine Shut.cons rfl ?_ | refine Shut.app ?_ ?_)) : ([] : List Deferred) = [] ∧ Shut F ∧ leave P main fn h (fun v _ => v = u) e ρ [] F :=
 ⟨rfl, hs, lvt hu he hv⟩
end
/-- ████ THE RUN OF SUCH A CALL. -/
theorem TopV.run {P : Program} {f : FuncId} {args : Array Value} {W : World} {u : Value} (hi : P.inits.idxOf? f = none) (T : TopV P (mainS P (FinOK P fun v _ => v = u)) f args (atStart W) u) :
  ∃ M last o w' t', runNT P (M + 1) (Conc.solo (Conc.G (Frame.enter P f args .normal) []) W) #[] = (.ended o w', t') ∧ runN P M (Conc.solo (Conc.G (Frame.enter P f args .normal) []) W) = .next last ∧ Go.step P last = .ended o w' ∧ Conc.Good P (fun v w' => v = u ∧ Kept W w') last o w' t' := by
 obtain ⟨fn, c, ρ, h1, h2, h3, h4, h5⟩ := T
 exact Mn.run (Mn.top (R := fun v => v = u) h1 h2 hi h3 ρ h4 atStart_sat (fun b o hb => (atStart_some.1 hb).2) (fun v w hv _ => hv) h5)

theorem Kept.below {w w' : World} (h : Kept w w') : Go.RowKit.Below w.heap.size w w' := ⟨h.os, h.tape, h.output, h.size, h.block⟩

/-- A slice of ints, as it lies in memory. -/
theorem flat_rowZ (l : List Int) : flat rowI l = l.map fun n => .int .i64 n := by
 induction l with
 | nil => rfl
 | cons a l ih => rw [flat_cons, ih]; rfl
theorem Part.of_get {c : Array Value} {off : Nat} {xs : List Value} (h : ∀ j, j < xs.length → c[off + j]? = xs[j]?) (hne : xs ≠ []) : Part c off xs := by
 have hlen : off + xs.length ≤ c.size := by
  have hpos : 0 < xs.length := List.length_pos_iff.2 hne
  have := h (xs.length - 1) (by omega)
  rw [List.getElem?_eq_getElem (by omega)] at this
  rcases Nat.lt_or_ge (off + (xs.length - 1)) c.size with h' | h'
  ·omega
  ·rw [Array.getElem?_eq_none h'] at this; cases this
 refine ⟨c.toList.take off, c.toList.drop (off + xs.length), ?_, by simp; omega⟩
 apply List.ext_getElem?
 intro i
 have hsz : c.toList.length = c.size := by simp
 rcases Nat.lt_or_ge i off with h1 | h1
 ·rw [List.getElem?_append_left (by simp; omega), List.getElem?_take, if_pos h1]
 ·rw [List.getElem?_append_right (by simp; omega)]
  have e1 : (c.toList.take off).length = off := by simp; omega
  rw [e1]
  rcases Nat.lt_or_ge (i - off) xs.length with h2 | h2
  ·rw [List.getElem?_append_left h2, ← h _ h2]
   simp only [Array.getElem?_toList]
   congr 1; omega
  ·rw [List.getElem?_append_right h2, List.getElem?_drop]
   congr 1; omega
theorem Sl.atStart {W : World} {a : Addr} {n cap : Nat} {zs : List Int} (hz : n ≤ zs.length) (h : ∀ i, i < zs.length → W.cell? (a.add i) = some (.int .i64 (zs.getD i 0))) : Sl (atStart W) rowI (.slice (some a) n cap) (zs.take n) := by
 refine ⟨some a, cap, by rw [List.length_take, Nat.min_eq_left hz], fun hne => ?_⟩
 have hpos : 0 < n := by
  rcases Nat.eq_zero_or_pos n with h' | h'
  ·subst h'; simp at hne
  ·exact h'
 obtain ⟨b, off, spot⟩ := a
 have hsp : spot = none := by
  have := h 0 (by omega)
  cases hs : spot with
  | none => rfl
  | some s =>
   subst hs
   exfalso
   simp only [World.cell?, Addr.add, if_true] at this
   split at this
   ·simp at this
   ·cases this
 subst hsp
 have cell : ∀ i, i < zs.length → ∃ c E fz, W.heap[b]? = some (.cells c E fz) ∧ c[off + i]? = some (.int .i64 (zs.getD i 0)) := fun i hi => by
  have := h i hi
  rw [show (⟨b, off, none⟩ : Addr).add i = ⟨b, off + i, none⟩ by unfold Addr.add; split <;> simp [*]] at this
  simp only [World.cell?] at this
  split at this
  ·rename_i c E fz hb
   exact ⟨c, E, fz, hb, by simpa using this⟩
  ·cases this
 obtain ⟨c, E, fz, hb, h0⟩ := cell 0 (by omega)
 refine ⟨b, off, c, E, fz, rfl, atStart_some.2 ⟨hb, rfl⟩, Part.of_get (fun j hj => ?_) ?_⟩
 ·rw [flat_rowZ, List.length_map, List.length_take] at hj
  obtain ⟨c', E', fz', hb', hj'⟩ := cell j (by omega)
  rw [hb] at hb'
  cases hb'
  rw [hj', flat_rowZ, List.getElem?_map, List.getElem?_take, if_pos (by omega), List.getElem?_eq_getElem (by omega)]
  simp [List.getD, List.getElem?_eq_getElem (show j < zs.length by omega)]
 ·rw [flat_rowZ]
  intro e
  exact hne (List.map_eq_nil_iff.1 e)
end Go.Mus

/- From a law that answers true to its card: the parts that all laws of this seat share. Conditions: as the cards say; over the given program. -/
namespace Go.Mus
open Go.Proofs.YtnffnndmilpnoaaGreatDoor
set_option maxRecDepth 100000
set_option maxHeartbeats 4000000
theorem own0 : ownKnob prog.godebug = none := by kernel_rfl
theorem laidOut0 : laidOutB prog = true := by kernel_rfl
theorem et0 : prog.globalNamed "errors.errorType" = some 0 := by kernel_rfl
/-- The name of the type of types. -/
abbrev rtName : String := match (Rows.laid_errors_errorType : DataW Unit) with
 | .iface s _ => s
 | _ => ""
theorem rt0 : (prog.cutTypes.find? (·.1 == rtName)).map (·.2) = some t_reflectlite_rtype := by kernel_rfl
theorem size0 : prog.types.size = 282 := by kernel_rfl
theorem oneRow0 : ((List.range 282).filter fun t => prog.rowNamed t [101, 114, 114, 111, 114]) = [t_error] := by kernel_rfl
theorem under_sl_int : prog.underlying t_sl_int = some (.slice t_int) := by kernel_rfl
theorem under_int : prog.underlying t_int = some (.int .i64) := by kernel_rfl
theorem under_bool : prog.underlying t_bool = some .bool := by kernel_rfl
theorem cells_int : prog.cellsOf t_int = 1 := by kernel_rfl

abbrev laid0 : List (String × DataW Unit) := [("errors.errorType", Rows.laid_errors_errorType)]
/-- What the condition says of the variable. -/
theorem handle0 {W : World} (h : laidMetH prog laid0 W) : ∃ E z, W.heap[0]? = some (.cells #[rtV t_error] E z) := by
 have h' : laidMet prog [] W ∧ handlesMet prog laid0 W := h
 obtain ⟨name, u, ty, e1, e2, e3, e4, e5⟩ := h'.2 _ (List.mem_singleton.2 rfl)
 have en : name = [101, 114, 114, 111, 114] := (Option.some.inj e1).symm
 subst en
 obtain rfl := Option.some.inj (rt0.symm.trans e2)
 have hm : ty ∈ (List.range 282).filter fun t => prog.rowNamed t [101, 114, 114, 111, 114] := List.mem_filter.2 ⟨List.mem_range.2 (by rw [← size0]; exact e3), e4⟩
 rw [oneRow0] at hm
 obtain rfl := List.mem_singleton.1 hm
 simp only [World.var?] at e5
 rw [et0, Option.bind_some] at e5
 split at e5
 ·rename_i cs E z hb
  obtain rfl := Option.some.inj e5
  exact ⟨E, z, hb⟩
 ·cases e5

/-- A world that meets the condition. -/
noncomputable def laidWorld (os : Go.Os) : World :=
 let w0 := World.holding prog os ⟨#[], #[], []⟩
 { w0 with heap := w0.heap.modify 0 fun
   | .cells _ t frozen => .cells #[rtV t_error] t frozen
   | o => o }
theorem laidWorld_met (os : Go.Os) (args : Array Value) : laidMetH prog laid0 ((laidWorld os).forCall (fun _ _ => 0) ⟨#[], args, []⟩).memory :=
 laidMetH_of_parts (laidMet_nil _ _) (by kernel_rfl)

theorem laidMetH_heap {P : Program} {l : List (String × DataW Unit)} {w w' : World} (hh : w.heap = w'.heap) (h : laidMetH P l w) : laidMetH P l w' := h.of_heap hh

section
open Go.ChangeShapes Go.WideShapes Go.RowKit
end
/-- A tied card of a row whose call starts goroutines. -/
theorem tied_goes (Lk : Looks) {p : Pinned} {s : OpenSpec} {c : OpenClaim} (al : List (List PathCond)) (kinds : List LaidKind) (tests : Bool) (har : Bool × String) (lk : Bool)
  (hc : c.holds p s) (hal : ∀ D ∈ al, (c.withDomain D).holds p s) (hw : c.wfByText s = true) (hwal : ∀ D ∈ al, (c.withDomain D).wfByText s = true)
  (htie : c.laidByTextAt Lk p kinds tests)
  (hst : c.start = .entering) (hnb : c.noBlocks = false ∧ c.again = false) (hm : p.checked.prog.mainIs = some (har.1, har.2.toList)) (hn : (!har.1 && har.2.isEmpty && !lk) = false)
  (hl : ∀ f fn, p.checked.prog.funcNamed c.func = some f → p.checked.prog.funcs[f]? = some fn → lk = p.checked.prog.looks [] ∧ ∀ (j : Nat) t, fn.params[j]? = some t → p.checked.prog.wantsStandIn t = false)
  (hg : true = c.goesBy p.checked.prog) :
  Claim7.holds p (.plain s) { stood := { row := c, standIns := [], harness := har, looks := lk }, kinds := [], alts := al, goes := true, laidByText := true, laidKinds := kinds, laidTests := tests, laidLooks := Lk } := by
 have h6 : ∀ r : OpenClaim, Claim7.isSixth { stood := { row := r, standIns := [], harness := har, looks := lk }, kinds := [] } = false := fun r => by simpa [Claim7.isSixth] using hn
 refine ⟨Claim7.tied_new_at Lk kinds tests (Claim7.new_of_sixth hc har lk hst hnb hm (h6 c) hl) hw, fun D hD => ?_, htie, (fun h => by cases h), hg⟩
 exact Claim7.tied_new_at Lk kinds tests (Claim7.new_of_sixth (hal D hD) har lk hst hnb hm (h6 _) hl) (hwal D hD)

end Go.Mus

/- Numbers out of a hat. Conditions: none; over the given program. -/
namespace Go.Mus
set_option maxRecDepth 100000
set_option maxHeartbeats 4000000
/-- A hat, out of which k numbers were taken. -/
abbrev hatO (lv : Value) (k : Nat) (s : Int) : Obj := .cells #[lv, I k, .int .u64 s] t_Hat (0, 0)

theorem u64_nn (n : Int) : 0 ≤ IntKind.u64.wrap n := by
 show 0 ≤ n % (18446744073709551616 : Int)
 omega
theorem xor_nn (a b : Int) : 0 ≤ bits .xor IntKind.u64 a b := by
 unfold bits
 exact u64_nn _
theorem stir_fn (main : Side) (h : Hp) (nums : List Int) (lv : Value) (b k : Nat) (s : Int) (hl : Sl h rowI lv nums) (hk : k < 4000000000) : Fnc prog main n_kit_Hat_stir #[.pointer (some ⟨b, 0, none⟩)] h [(b, hatO lv k s)] (fun v A => ∃ x s', v = .int .u64 x ∧ 0 ≤ x ∧ Sb [(b, hatO lv (k + 1) s')] A) := by
 obtain ⟨a, cap, rfl⟩ := hl.isSl
 refine Fnc.of_body at_kit_Hat_stir rfl (by show 1 ≤ 75; decide) [(0, .pointer (some ⟨b, 0, none⟩))] ⟨rfl, trivial⟩ ?_
 refine W.seq <| W.region rfl <| qs rfl rfl rfl <| nn <| W.seq <| W.region rfl <| qm rfl rfl rfl ?_
 refine nq rfl ?_
 refine fq rfl ?_
 refine dq rfl ?_
 refine o1 (y_conv rfl rfl) rfl ?_
 refine pq rfl ?_
 refine qs rfl rfl rfl <| nn <| W.seq <| W.seq ?_
 refine W.drawF (n := 10) rfl ?_
 refine a1 0 (y_move rfl rfl) rfl ?_
 first | refine a1 1 (y_nilCheck rfl rfl) rfl ?_ | refine a1 1 (y_nilCheckF rfl rfl) rfl ?_
 refine a1 2 (y_fieldAddr rfl rfl) rfl ?_
 refine a1 3 (yld rfl rfl) rfl ?_
 refine a1 4 (y_move rfl rfl) rfl ?_
 first | refine a1 5 (y_nilCheck rfl rfl) rfl ?_ | refine a1 5 (y_nilCheckF rfl rfl) rfl ?_
 refine a1 6 (y_fieldAddr rfl rfl) rfl ?_
 refine a1 7 (yld rfl rfl) rfl ?_
 refine a1 8 (y_len rfl rfl) rfl ?_
 refine a1 9 (y_lss rfl rfl rfl) rfl ?_
 refine az ?_
 refine thn_n ?_
 refine W.condp rfl (fun c20 => ?_) (fun c20 => ?_)
 ·obtain ⟨p, hp, -⟩ := has (show k < nums.length by omega)
  obtain ⟨b1, off, c, E, fz, rfl, hb, hx, hy, hz⟩ := hl.at hp
  have hz0 := hz 0 (by decide)
  have hpa : c[off + k * 1]? = some (I p) := by simpa [rowI] using hz0
  refine W.drawF (n := 15) rfl ?_
  refine a1 0 (y_move rfl rfl) rfl ?_
  refine a1 1 (y_move rfl rfl) rfl ?_
  first | refine a1 2 (y_nilCheck rfl rfl) rfl ?_ | refine a1 2 (y_nilCheckF rfl rfl) rfl ?_
  refine a1 3 (y_fieldAddr rfl rfl) rfl ?_
  refine a1 4 (yld rfl rfl) rfl ?_
  refine a1 5 (y_move rfl rfl) rfl ?_
  first | refine a1 6 (y_nilCheck rfl rfl) rfl ?_ | refine a1 6 (y_nilCheckF rfl rfl) rfl ?_
  refine a1 7 (y_fieldAddr rfl rfl) rfl ?_
  refine a1 8 (yld rfl rfl) rfl ?_
  first | refine a1 9 (yix rfl rfl rfl) rfl ?_ | refine a1 9 (yixI rfl rfl rfl) rfl ?_
  refine a1 10 (yld rfl rfl) rfl ?_
  refine a1 11 (y_conv rfl rfl) rfl ?_
  first | refine a1 12 (ymul rfl rfl rfl) rfl ?_ | refine a1 12 (y_mulw rfl rfl rfl) rfl ?_
  refine a1 13 (y_xor rfl rfl rfl) rfl ?_
  refine a1 14 (y_assign rfl rfl) rfl ?_
  refine az ?_
  refine thn_n <| W.seq <| W.region rfl <| qm rfl rfl rfl ?_
  refine nq rfl ?_
  refine fq rfl ?_
  refine dq rfl ?_
  refine pq rfl ?_
  refine nq rfl ?_
  refine fq rfl ?_
  refine Ops.sto ?_
  refine nn <| W.seq <| W.region rfl <| qm rfl rfl rfl <| qm rfl rfl rfl ?_
  refine nq rfl ?_
  refine fq rfl ?_
  refine dq rfl ?_
  refine qm rfl rfl rfl ?_
  refine o1 (y_xor rfl rfl rfl) rfl ?_
  first | refine o1 (ymul rfl rfl rfl) rfl ?_ | refine o1 (y_mulw rfl rfl rfl) rfl ?_
  refine nq rfl ?_
  refine fq rfl ?_
  refine Ops.sto ?_
  refine nn <| W.seq ?_
  refine W.drawF (n := 14) rfl ?_
  refine a1 0 (y_move rfl rfl) rfl ?_
  refine a1 1 (y_move rfl rfl) rfl ?_
  first | refine a1 2 (y_nilCheck rfl rfl) rfl ?_ | refine a1 2 (y_nilCheckF rfl rfl) rfl ?_
  refine a1 3 (y_fieldAddr rfl rfl) rfl ?_
  refine a1 4 (yld rfl rfl) rfl ?_
  refine a1 5 (y_move rfl rfl) rfl ?_
  first | refine a1 6 (y_nilCheck rfl rfl) rfl ?_ | refine a1 6 (y_nilCheckF rfl rfl) rfl ?_
  refine a1 7 (y_fieldAddr rfl rfl) rfl ?_
  refine a1 8 (yld rfl rfl) rfl ?_
  refine a1 9 (y_shr rfl rfl rfl (by omega)) rfl ?_
  refine a1 10 (y_xor rfl rfl rfl) rfl ?_
  first | refine a1 11 (y_nilCheck rfl rfl) rfl ?_ | refine a1 11 (y_nilCheckF rfl rfl) rfl ?_
  refine a1 12 (y_fieldAddr rfl rfl) rfl ?_
  refine ae (i := 13) rfl an rfl rfl (eS rfl rfl rfl ?_)
  refine ⟨.inl (by kernel_rfl), ?_⟩
  refine az ?_
  refine thn_n <| W.seq <| W.region rfl <| qm rfl rfl rfl ?_
  refine nq rfl ?_
  refine fq rfl ?_
  refine dq rfl ?_
  first | refine o1 (ymul rfl rfl rfl) rfl ?_ | refine o1 (y_mulw rfl rfl rfl) rfl ?_
  refine qs rfl rfl rfl <| nn <| W.seq <| W.region rfl <| qm rfl rfl rfl <| qm rfl rfl rfl ?_
  refine o1 (y_shr rfl rfl rfl (by omega)) rfl ?_
  refine o1 (y_xor rfl rfl rfl) rfl ?_
  refine o1 (y_shr rfl rfl rfl (by omega)) rfl ?_
  refine qs rfl rfl rfl <| nn <| W.ret ?_
  refine lvt ⟨_, _, rfl, ?_, .refl⟩
  exact Int.fdiv_nonneg (xor_nn _ _) (by decide)
 ·refine W.skip <| thn_n <| W.seq <| W.region rfl <| qm rfl rfl rfl ?_
  refine nq rfl ?_
  refine fq rfl ?_
  refine dq rfl ?_
  refine pq rfl ?_
  refine nq rfl ?_
  refine fq rfl ?_
  refine Ops.sto ?_
  refine nn <| W.seq <| W.region rfl <| qm rfl rfl rfl <| qm rfl rfl rfl ?_
  refine nq rfl ?_
  refine fq rfl ?_
  refine dq rfl ?_
  refine qm rfl rfl rfl ?_
  refine o1 (y_xor rfl rfl rfl) rfl ?_
  first | refine o1 (ymul rfl rfl rfl) rfl ?_ | refine o1 (y_mulw rfl rfl rfl) rfl ?_
  refine nq rfl ?_
  refine fq rfl ?_
  refine Ops.sto ?_
  refine nn <| W.seq ?_
  refine W.drawF (n := 14) rfl ?_
  refine a1 0 (y_move rfl rfl) rfl ?_
  refine a1 1 (y_move rfl rfl) rfl ?_
  first | refine a1 2 (y_nilCheck rfl rfl) rfl ?_ | refine a1 2 (y_nilCheckF rfl rfl) rfl ?_
  refine a1 3 (y_fieldAddr rfl rfl) rfl ?_
  refine a1 4 (yld rfl rfl) rfl ?_
  refine a1 5 (y_move rfl rfl) rfl ?_
  first | refine a1 6 (y_nilCheck rfl rfl) rfl ?_ | refine a1 6 (y_nilCheckF rfl rfl) rfl ?_
  refine a1 7 (y_fieldAddr rfl rfl) rfl ?_
  refine a1 8 (yld rfl rfl) rfl ?_
  refine a1 9 (y_shr rfl rfl rfl (by omega)) rfl ?_
  refine a1 10 (y_xor rfl rfl rfl) rfl ?_
  first | refine a1 11 (y_nilCheck rfl rfl) rfl ?_ | refine a1 11 (y_nilCheckF rfl rfl) rfl ?_
  refine a1 12 (y_fieldAddr rfl rfl) rfl ?_
  refine ae (i := 13) rfl an rfl rfl (eS rfl rfl rfl ?_)
  refine ⟨.inl (by kernel_rfl), ?_⟩
  refine az ?_
  refine thn_n <| W.seq <| W.region rfl <| qm rfl rfl rfl ?_
  refine nq rfl ?_
  refine fq rfl ?_
  refine dq rfl ?_
  first | refine o1 (ymul rfl rfl rfl) rfl ?_ | refine o1 (y_mulw rfl rfl rfl) rfl ?_
  refine qs rfl rfl rfl <| nn <| W.seq <| W.region rfl <| qm rfl rfl rfl <| qm rfl rfl rfl ?_
  refine o1 (y_shr rfl rfl rfl (by omega)) rfl ?_
  refine o1 (y_xor rfl rfl rfl) rfl ?_
  refine o1 (y_shr rfl rfl rfl (by omega)) rfl ?_
  refine qs rfl rfl rfl <| nn <| W.ret ?_
  refine lvt ⟨_, _, rfl, ?_, .refl⟩
  exact Int.fdiv_nonneg (xor_nn _ _) (by decide)
end Go.Mus

/- Floors, strikes and plants out of a hat. Conditions: none; over the given program. -/
namespace Go.Mus
set_option maxRecDepth 100000
set_option maxHeartbeats 4000000
theorem hat_to {x n : Int} (hx : 0 ≤ x) (h1 : 1 ≤ n) (h2 : n ≤ 1000000) : ∃ r, IntKind.i64.wrap (x.tmod (IntKind.u64.wrap (IntKind.u64.wrap n + 1))) = r ∧ 0 ≤ r ∧ r ≤ n := by
 have e1 : IntKind.u64.wrap n = n := by show n % (18446744073709551616 : Int) = n; omega
 have e2 : IntKind.u64.wrap (n + 1) = n + 1 := by show (n + 1) % (18446744073709551616 : Int) = n + 1; omega
 have e3 : x.tmod (n + 1) = x % (n + 1) := Int.tmod_eq_emod_of_nonneg hx
 have h3 := Int.emod_nonneg x (show n + 1 ≠ 0 by omega)
 have h4 := Int.emod_lt_of_pos x (show 0 < n + 1 by omega)
 rw [e1, e2, e3]
 rw [wrap_id (by omega) (by omega)]
 exact ⟨_, rfl, h3, by omega⟩

theorem hat_u {n : Int} (h1 : 1 ≤ n) (h2 : n ≤ 1000000) : IntKind.u64.wrap (IntKind.u64.wrap n + 1) ≠ 0 := by
 have e1 : IntKind.u64.wrap n = n := by show n % (18446744073709551616 : Int) = n; omega
 have e2 : IntKind.u64.wrap (n + 1) = n + 1 := by show (n + 1) % (18446744073709551616 : Int) = n + 1; omega
 rw [e1, e2]; omega
theorem To_fn (main : Side) (h : Hp) (nums : List Int) (lv : Value) (b k : Nat) (s n : Int) (hl : Sl h rowI lv nums) (hk : k < 4000000000) (hn : -1000000 ≤ n ∧ n ≤ 1000000) : Fnc prog main n_kit_Hat_To #[.pointer (some ⟨b, 0, none⟩), I n] h [(b, hatO lv k s)] (fun v A => ∃ r s', v = I r ∧ (0 ≤ r ∧ (r ≤ n ∨ r = 0)) ∧ Sb [(b, hatO lv (k + 1) s')] A) := by
 refine Fnc.of_body at_kit_Hat_To rfl (by show 2 ≤ 16; decide) [(0, .pointer (some ⟨b, 0, none⟩)), (1, I n)] ⟨rfl, rfl, trivial⟩ ?_
 refine W.seq <| W.region rfl <| qs rfl rfl rfl <| nn <| W.seq <| W.region rfl <| qm rfl rfl rfl ?_
 refine cg (A := [(b, _)]) .head (fun h' hE hL => stir_fn _ h' nums lv b k s (hl.ext hE) hk) (fun v A' hv => ?_)
 obtain ⟨x, s', rfl, hx, hsb⟩ := hv
 refine Ops.sb (hsb.app .refl) ?_
 refine qs rfl rfl rfl <| nn <| W.seq <| W.seq <| W.region rfl <| qm rfl rfl rfl ?_
 refine o1 (y_lss rfl rfl rfl) rfl ?_
 refine nn ?_
 refine W.condp rfl (fun c9 => ?_) (fun c9 => ?_)
 ·refine W.seq <| W.region rfl <| qs rfl rfl rfl <| nn <| W.ret <| thn_r ?_
  exact lvt (vs := [_]) ⟨0, s', rfl, ⟨Int.le_refl _, .inr rfl⟩, .refl⟩
 ·refine W.skip <| thn_n <| W.seq <| W.region rfl <| qm rfl rfl rfl <| qm rfl rfl rfl ?_
  refine o1 (y_conv rfl rfl) rfl ?_
  refine pq rfl ?_
  refine o1 (y_rem rfl rfl rfl (hat_u (by omega) hn.2)) rfl ?_
  refine o1 (y_conv rfl rfl) rfl ?_
  refine qs rfl rfl rfl <| nn <| W.ret ?_
  obtain ⟨r, hr, h0, h1⟩ := hat_to (n := n) hx (by omega) hn.2
  exact lvt (vs := [_]) ⟨r, s', congrArg (Value.int .i64) hr, ⟨h0, .inl h1⟩, .refl⟩

theorem From_fn (main : Side) (h : Hp) (nums : List Int) (lv : Value) (b k : Nat) (s lo hi : Int) (hl : Sl h rowI lv nums) (hk : k < 4000000000) (hn : -100000 ≤ lo ∧ lo ≤ 100000 ∧ -100000 ≤ hi ∧ hi ≤ 100000) : Fnc prog main n_kit_Hat_From #[.pointer (some ⟨b, 0, none⟩), I lo, I hi] h [(b, hatO lv k s)] (fun v A => ∃ r s', v = I r ∧ (lo ≤ r ∧ (r ≤ hi ∨ r = lo)) ∧ Sb [(b, hatO lv (k + 1) s')] A) := by
 refine Fnc.of_body at_kit_Hat_From rfl (by show 3 ≤ 14; decide) [(0, .pointer (some ⟨b, 0, none⟩)), (1, I lo), (2, I hi)] ⟨rfl, rfl, rfl, trivial⟩ ?_
 refine W.seq <| W.region rfl <| qs rfl rfl rfl <| nn <| W.seq <| W.region rfl <| qm rfl rfl rfl <| qm rfl rfl rfl <| qm rfl rfl rfl ?_
 refine qm rfl rfl rfl ?_
 refine mq rfl ?_
 refine cg (A := [(b, _)]) .head (fun h' hE hL => To_fn _ h' nums lv b k s (hi - lo) (hl.ext hE) hk (by omega)) (fun v A' hv => ?_)
 obtain ⟨r, s', rfl, hr, hsb⟩ := hv
 refine Ops.sb (hsb.app .refl) ?_
 refine pq rfl ?_
 refine qs rfl rfl rfl <| nn <| W.ret ?_
 exact lvt (vs := [_]) ⟨lo + r, s', rfl, ⟨by omega, by omega⟩, .refl⟩

theorem Seldom_fn (main : Side) (h : Hp) (nums : List Int) (lv : Value) (b k : Nat) (s n : Int) (hl : Sl h rowI lv nums) (hk : k < 4000000000) (hn : -100000 ≤ n ∧ n ≤ 100000) : Fnc prog main n_kit_Hat_Seldom #[.pointer (some ⟨b, 0, none⟩), I n] h [(b, hatO lv k s)] (fun v A => ∃ r s', v = .bool r ∧ Sb [(b, hatO lv (k + 1) s')] A) := by
 refine Fnc.of_body at_kit_Hat_Seldom rfl (by show 2 ≤ 10; decide) [(0, .pointer (some ⟨b, 0, none⟩)), (1, I n)] ⟨rfl, rfl, trivial⟩ ?_
 refine W.seq <| W.region rfl <| qs rfl rfl rfl <| nn <| W.seq <| W.region rfl <| qm rfl rfl rfl <| qm rfl rfl rfl ?_
 refine mq rfl ?_
 refine cg (A := [(b, _)]) .head (fun h' hE hL => To_fn _ h' nums lv b k s (n - 1) (hl.ext hE) hk (by omega)) (fun v A' hv => ?_)
 obtain ⟨r, s', rfl, hr, hsb⟩ := hv
 refine Ops.sb (hsb.app .refl) ?_
 refine o1 (y_eql rfl rfl rfl) rfl ?_
 refine qs rfl rfl rfl <| nn <| W.ret ?_
 exact lvt (vs := [_]) ⟨_, s', rfl, .refl⟩

theorem One_fn (main : Side) (h : Hp) (nums : List Int) (lv : Value) (b k : Nat) (s : Int) (l : List Int) (vl : Value) (hl : Sl h rowI lv nums) (hs : Sl h rowI vl l) (hk : k < 4000000000) (h1 : 1 ≤ l.length) (h2 : l.length ≤ 1000) : Fnc prog main n_kit_Hat_One #[.pointer (some ⟨b, 0, none⟩), vl] h [(b, hatO lv k s)] (fun v A => ∃ r s', v = I r ∧ r ∈ l ∧ Sb [(b, hatO lv (k + 1) s')] A) := by
 obtain ⟨a, cap, rfl⟩ := hs.isSl
 refine Fnc.of_body at_kit_Hat_One rfl (by show 2 ≤ 13; decide) [(0, .pointer (some ⟨b, 0, none⟩)), (1, .slice a l.length cap)] ⟨rfl, rfl, trivial⟩ ?_
 refine W.seq <| W.region rfl <| qs rfl rfl rfl <| nn <| W.seq <| W.region rfl <| qm rfl rfl rfl <| qm rfl rfl rfl <| qm rfl rfl rfl ?_
 refine o1 (y_len rfl rfl) rfl ?_
 refine mq rfl ?_
 refine cg (A := [(b, _)]) .head (fun h' hE hL => To_fn _ h' nums lv b k s ((l.length : Int) - 1) (hl.ext hE) hk (by omega)) (fun v A' hv => ?_)
 obtain ⟨r, s', rfl, hr, hsb⟩ := hv
 refine Ops.sb (hsb.app .refl) ?_
 obtain ⟨rn, rfl⟩ : ∃ rn : Nat, r = rn := ⟨r.toNat, by omega⟩
 obtain ⟨p, hp, -⟩ := has (show rn < l.length by omega)
 obtain ⟨b1, off, c, E, fz, rfl, hb, hx, hy, hz⟩ := hs.at hp
 have hz0 := hz 0 (by decide)
 have hpa : c[off + rn * 1]? = some (I p) := by simpa [rowI] using hz0
 refine xq rfl ?_
 refine dq rfl ?_
 refine qs rfl rfl rfl <| nn <| W.ret ?_
 exact lvt (vs := [_]) ⟨p, s', rfl, List.mem_of_getElem? hp, .refl⟩

theorem NewHat_fn (main : Side) (h : Hp) (nums : List Int) (lv : Value) (hl : Sl h rowI lv nums) : Fnc prog main n_kit_NewHat #[lv] h [] (fun v A => ∃ b s, v = .pointer (some ⟨b, 0, none⟩) ∧ A = [(b, hatO lv 0 s)]) := by
 obtain ⟨a, cap, rfl⟩ := hl.isSl
 refine Fnc.of_body at_kit_NewHat rfl (by show 1 ≤ 6; decide) [(0, .slice a nums.length cap)] ⟨rfl, trivial⟩ ?_
 refine W.seq <| W.region rfl <| qs rfl rfl rfl <| nn <| W.seq <| W.region rfl <| qm rfl rfl rfl ?_
 refine o1 (y_build rfl rfl rfl) rfl ?_
 refine Ops.box (fun β5 => ?_)
 refine qs rfl rfl rfl <| nn <| W.ret ?_
 exact lvt (vs := [_]) ⟨_, _, rfl, rfl⟩
end Go.Mus

/- Floors out of a hat. Conditions: none; over the given program. -/
namespace Go.Mus
set_option maxRecDepth 100000
set_option maxHeartbeats 4000000
theorem pa (c : Array Value) (l : List Int) (h : c = (flat rowI l).toArray := by rfl) : Part c 0 (flat rowI l) := by
 subst h; exact Part.all _
theorem ckFloor_ok {f : Fl} (h1 : 1 ≤ f.pl ∧ f.pl ≤ 9) (h2 : 1 ≤ f.lo ∧ f.lo ≤ 6) (h3 : f.lo ≤ f.hi ∧ f.hi ≤ 6) (h4 : 0 ≤ f.co ∧ f.co ≤ 9) : ckFloor f = 0 := by
 unfold ckFloor
 rw [if_neg (by unfold outs; omega), if_neg (by omega), if_neg (by unfold outs; omega)]
theorem FloorOf_fn (main : Side) (h : Hp) (nums : List Int) (lv : Value) (b k : Nat) (s : Int) (hl : Sl h rowI lv nums) (hk : k < 3000000000) : Fnc prog main n_kit_FloorOf #[.pointer (some ⟨b, 0, none⟩)] h [(b, hatO lv k s)] (fun v A => ∃ f s', v = Fl.val f ∧ ckFloor f = 0 ∧ Sb [(b, hatO lv (k + 6) s')] A) := by
 refine Fnc.of_body at_kit_FloorOf rfl (by show 1 ≤ 26; decide) [(0, .pointer (some ⟨b, 0, none⟩))] ⟨rfl, trivial⟩ ?_
 refine W.seq <| W.region rfl ?_
 refine Ops.new (fun β2 => ?_)
 refine nn <| W.seq <| W.region rfl <| qm rfl rfl rfl <| qm rfl rfl rfl ?_
 refine cg (A := [(b, _)]) (.tail .head) (fun h' hE hL => From_fn _ h' nums lv b k s 1 6 (hl.ext hE) (by omega) (by omega)) (fun v A' hv => ?_)
 obtain ⟨r, s1, rfl, hr, hsb⟩ := hv
 refine Ops.sb (.cons (hsb.app .refl)) ?_
 refine Ops.bsl (cs := #[I 1, I 2, I 2, I 3, I r]) (fun β7 => ?_) rfl
 refine cg (A := [(b, _)]) (.tail (.tail .head)) (fun h' hE hL => One_fn _ h' nums lv b (k + 1) s1 [1, 2, 2, 3, r] _ (hl.ext hE) (Sl.mk (hL β7 _ (.head _)) rfl (pa _ _)) (by omega) (by simp) (by simp)) (fun v A' hv => ?_)
 obtain ⟨lo, s2, rfl, hlo, hsb⟩ := hv
 refine Ops.sb (F' := [(β2, _), (b, _)]) (.skip rfl (.cons (hsb.app .refl))) ?_
 refine qs rfl rfl rfl <| nn <| W.seq <| W.region rfl <| qm rfl rfl rfl <| qm rfl rfl rfl ?_
 refine cg (A := [(b, _)]) (.tail .head) (fun h' hE hL => From_fn _ h' nums lv b (k + 2) s2 1 9 (hl.ext hE) (by omega) (by omega)) (fun v A' hv => ?_)
 obtain ⟨r2, s3, rfl, hr2, hsb⟩ := hv
 refine Ops.sb (.cons (hsb.app .refl)) ?_
 refine Ops.bsl (cs := #[I 2, I 3, I 4, I 5, I r2]) (fun β12 => ?_) rfl
 refine cg (A := [(b, _)]) (.tail (.tail .head)) (fun h' hE hL => One_fn _ h' nums lv b (k + 3) s3 [2, 3, 4, 5, r2] _ (hl.ext hE) (Sl.mk (hL β12 _ (.head _)) rfl (pa _ _)) (by omega) (by simp) (by simp)) (fun v A' hv => ?_)
 obtain ⟨pl, s4, rfl, hpl, hsb⟩ := hv
 refine Ops.sb (F' := [(β2, _), (b, _)]) (.skip rfl (.cons (hsb.app .refl))) ?_
 refine qm rfl rfl rfl <| qm rfl rfl rfl <| qm rfl rfl rfl ?_
 refine Ops.bsl (cs := #[I 0, I 1, I 1, I 2]) (fun β17 => ?_) rfl
 refine cg (A := [(b, _)]) (.tail (.tail .head)) (fun h' hE hL => One_fn _ h' nums lv b (k + 4) s4 [0, 1, 1, 2] _ (hl.ext hE) (Sl.mk (hL β17 _ (.head _)) rfl (pa _ _)) (by omega) (by simp) (by simp)) (fun v A' hv => ?_)
 obtain ⟨d, s5, rfl, hd, hsb⟩ := hv
 refine Ops.sb (F' := [(β2, _), (b, _)]) (.skip rfl (.cons (hsb.app .refl))) ?_
 have hlo6 : 1 ≤ lo ∧ lo ≤ 6 := by simp at hlo; omega
 have hd2 : 0 ≤ d ∧ d ≤ 2 := by simp at hd; omega
 obtain ⟨hi, hhi⟩ : ∃ hi, min 6 (lo + d) = hi := ⟨_, rfl⟩
 refine pq rfl ?_
 refine o1 ((y_min rfl rfl rfl).eq (u := I hi) (congrArg I hhi)) rfl ?_
 refine o1 (y_build (cs := #[I lo, I hi]) rfl rfl rfl) rfl ?_
 refine qm rfl rfl rfl ?_
 refine Ops.bsl (cs := #[I 0, I 1, I 2, I 3, I 9]) (fun β23 => ?_) rfl
 refine cg (A := [(b, _)]) (.tail (.tail .head)) (fun h' hE hL => One_fn _ h' nums lv b (k + 5) s5 [0, 1, 2, 3, 9] _ (hl.ext hE) (Sl.mk (hL β23 _ (.head _)) rfl (pa _ _)) (by omega) (by simp) (by simp)) (fun v A' hv => ?_)
 obtain ⟨co, s6, rfl, hco, hsb⟩ := hv
 refine Ops.sb (F' := [(β2, _), (b, _)]) (.skip rfl (.cons (hsb.app .refl))) ?_
 refine o1 (y_build (cs := #[I pl, I lo, I hi, I co]) rfl rfl rfl) rfl ?_
 first | refine Ops.stoW ?_ | refine Ops.stoA ?_
 refine nn <| W.ret ?_
 refine lvc (hv := rAgg rNil) ⟨⟨pl, lo, hi, co⟩, s6, rfl, ?_, .skip rfl .refl⟩
 simp at hpl hco
 exact ckFloor_ok (by simp only; omega) (by simp only; omega) (by simp only; omega) (by simp only; omega)
end Go.Mus

/- Plants out of a hat. Conditions: none; over the given program. -/
namespace Go.Mus
set_option maxRecDepth 100000
set_option maxHeartbeats 4000000
theorem ckFloors_app : ∀ {fs : List Fl} {f : Fl}, ckFloors fs = 0 → ckFloor f = 0 → ckFloors (fs ++ [f]) = 0
 | [], f, _, h => by simp [ckFloors, h]
 | g :: fs, f, h, hf => by
  simp only [List.cons_append, ckFloors] at h ⊢
  split at h
  ·rename_i h1; rw [if_pos h1]; exact ckFloors_app h hf
  ·rename_i h1; exact absurd h h1
theorem ckStrikes_app : ∀ {ss : List St} {b : Int} {s : St}, ckStrikes b ss = 0 → (∀ t ∈ ss, t.day ≤ s.day) → b ≤ s.day → 0 ≤ s.day ∧ s.day ≤ 12 → 1 ≤ s.co ∧ s.co ≤ 6 → 0 ≤ s.wa ∧ s.wa ≤ 3 → ckStrikes b (ss ++ [s]) = 0
 | [], b, s, _, _, h1, h2, h3, h4 => by
  have : ckStrike b s = 0 := by
   unfold ckStrike
   rw [if_neg (by unfold outs; omega), if_neg (by omega)]
  simp [ckStrikes, this]
 | t :: ss, b, s, h, hd, h1, h2, h3, h4 => by
  simp only [List.cons_append, ckStrikes] at h ⊢
  split at h
  ·rename_i hc
   rw [if_pos hc]
   exact ckStrikes_app h (fun u hu => hd u (List.mem_cons_of_mem _ hu)) (hd t (List.mem_cons_self ..)) h2 h3 h4
  ·rename_i hc; exact absurd h hc
theorem ckPlant_ok {fs : List Fl} {ss : List St} (h1 : 1 ≤ fs.length) (h2 : fs.length ≤ 2) (h3 : ckFloors fs = 0) (h4 : ss.length ≤ 4) (h5 : ckStrikes 0 ss = 0) : ckPlant fs ss = 0 := by
 unfold ckPlant
 rw [if_neg (by omega), if_neg (by omega), if_neg (by simp [h3]), if_neg (by omega), h5]

theorem PlantOf_fn (main : Side) (h : Hp) (nums : List Int) (lv : Value) (b : Nat) (s : Int) (n : Nat) (w : Int) (hl : Sl h rowI lv nums) (hn : n ≤ 4) (hw : 0 ≤ w ∧ w ≤ 3) : Fnc prog main n_kit_PlantOf #[.pointer (some ⟨b, 0, none⟩), I n, I w] h [(b, hatO lv 0 s)]
  (fun v A => ∃ vf vs fs ss Sf Ss k s', v = .agg #[vf, vs] ∧ (Os t_Floor Fl.row vf fs Sf ∧ Os t_Strike St.row vs ss Ss) ∧ (ckPlant fs ss = 0 ∧ ss.length ≤ n ∧ ∀ t ∈ ss, t.wa ≤ w) ∧ k ≤ 100 ∧ Sb ((b, hatO lv k s') :: (Sf ++ Ss)) A) := by
 refine Fnc.of_body at_kit_PlantOf rfl (by show 3 ≤ 55; decide) [(0, .pointer (some ⟨b, 0, none⟩)), (1, I n), (2, I w)] ⟨rfl, rfl, rfl, trivial⟩ ?_
 refine W.seq <| W.region rfl ?_
 refine Ops.new (fun β6 => ?_)
 refine nn <| W.seq <| W.region rfl ?_
 refine Ops.new (fun β7 => ?_)
 refine nn <| W.seq <| W.seq <| W.region rfl <| qm rfl rfl rfl ?_
 refine cg (A := [(b, _)]) (.tail (.tail .head)) (fun h' hE hL => From_fn _ h' nums lv b 0 s 1 2 (hl.ext hE) (by omega) (by omega)) (fun v A' hv => ?_)
 obtain ⟨r, s1, rfl, hr, hsb⟩ := hv
 refine Ops.sb (.cons (.cons (hsb.app .refl))) ?_
 obtain ⟨m, rfl⟩ : ∃ m : Nat, r = m := ⟨r.toNat, by omega⟩
 refine qs rfl rfl rfl <| nn <| W.block ?_
 refine W.loop3 (σ := Nat) (τ := List Fl × Value × Frag) (υ := Nat × Int) (fun i t u => i ≤ m ∧ Os t_Floor Fl.row t.2.1 t.1 t.2.2 ∧ ckFloors t.1 = 0 ∧ t.1.length + i = m ∧ u.1 + 6 * i = 1 + 6 * m) (fun i _ _ => [(8, I i), (7, .pointer (some ⟨β7, 0, none⟩)), (6, .pointer (some ⟨β6, 0, none⟩)), (0, .pointer (some ⟨b, 0, none⟩)), (1, I n), (2, I w)])
  (fun _ t u => (β7, .cells #[t.2.1, .slice none 0 0] t_Plant (0, 0)) :: (β6, .cells #[.slice none 0 0, .slice none 0 0] t_Plant (0, 0)) :: (b, hatO lv u.1 u.2) :: t.2.2) (fun i _ _ => i) m ([], .slice none 0 0, []) (1, s1) ⟨Nat.le_refl _, .nil .nil, rfl, by simp, by omega⟩ ⟨rfl, rfl, rfl, rfl, rfl, rfl, trivial⟩ (.cons (.cons (.cons .refl))) ?_
 rintro i ⟨fs, vf, Sf⟩ ⟨k1, s2⟩ ⟨hi, hO, hck, hlen, hk1⟩
 simp only at hO hck hlen hk1 ⊢
 refine W.seq <| W.seq <| W.region rfl <| qm rfl rfl rfl ?_
 refine o1 (y_gtr rfl rfl rfl) rfl ?_
 refine nn ?_
 refine W.condp rfl (fun c14 => ?_) (fun c14 => ?_)
 ·obtain ⟨va, vc, rfl⟩ := hO.isSl
  refine W.skip <| thn_n <| W.seq <| W.block ?_
  refine W.drawP1 (n := 8) rfl ?_
  refine a1 0 (y_fieldAddr rfl rfl) rfl ?_
  refine a1 1 (yld rfl rfl) rfl ?_
  refine a1 2 (y_move rfl rfl) rfl ?_
  refine ae (i := 3) rfl an rfl rfl (e_call (A := [(b, _)]) (args := [_]) rfl rfl (.tail (.tail .head)) (fun h' hE hL => FloorOf_fn _ h' nums lv b k1 s2 (hl.ext hE) (by omega)) (fun v A' hv => ?_))
  refine ⟨.inr (Keeps.one (.head _) Keeps.nil), ?_⟩
  obtain ⟨f, s3, rfl, hcf, hsb⟩ := hv
  refine Any.sb (.cons (.cons (hsb.app .refl))) ?_
  refine abl (i := 4) (cs := #[I f.pl, I f.lo, I f.hi, I f.co]) (fun β21 => ?_) rfl
  refine ae (i := 5) rfl an rfl rfl (e_append (row := Fl.row) (l' := [f]) rfl rfl rfl hO (.tail (.tail (.tail (.tail .all)))) (fun h2 _ hl => Sl.mk (hl β21 _ (.head _)) rfl (Part.all (flat Fl.row [f]))) (by simp; omega) (by decide) rfl (fun v' S' hO' => ?_))
  refine ⟨.inr (Keeps.one (.tail _ (.head _)) Keeps.nil), ?_⟩
  obtain ⟨asl, csl, rfl⟩ := hO'.isSl
  refine a1 6 (y_fieldAddr rfl rfl) rfl ?_
  refine ae (i := 7) rfl an rfl rfl (eS rfl rfl rfl ?_)
  refine ⟨.inl (by kernel_rfl), ?_⟩
  refine az ?_
  refine blk_n <| thn_n <| W.region rfl <| qm rfl rfl rfl ?_
  refine mq rfl ?_
  refine qs rfl rfl rfl <| nn ?_
  refine ⟨rfl, i - 1, (fs ++ [f], _, S'), (k1 + 6, s3), ⟨by omega, hO', ckFloors_app hck hcf, by simp; omega, by simp only; omega⟩, by omega, ⟨lk rfl (show I _ = I _ by congr 1; omega), rfl, rfl, rfl, rfl, rfl, trivial⟩, .skip rfl .refl⟩
 ·have hi0 : i = 0 := by omega
  subst hi0
  obtain ⟨va, vc, rfl⟩ := hO.isSl
  refine W.exit <| thn_x <| thn_x <| blk_x <| thn_n <| W.seq <| W.region rfl <| qm rfl rfl rfl ?_
  refine cg (A := [(b, _)]) (.tail (.tail .head)) (fun h' hE hL => To_fn _ h' nums lv b k1 s2 2 (hl.ext hE) (by omega) (by omega)) (fun v A' hv => ?_)
  obtain ⟨d0, s3, rfl, hd0, hsb⟩ := hv
  refine Ops.sb (.cons (.cons (hsb.app .refl))) ?_
  refine qs rfl rfl rfl <| nn <| W.seq <| W.seq <| W.region rfl <| qm rfl rfl rfl <| qm rfl rfl rfl ?_
  refine cg (A := [(b, _)]) (.tail (.tail .head)) (fun h' hE hL => From_fn _ h' nums lv b (k1 + 1) s3 0 n (hl.ext hE) (by omega) (by omega)) (fun v A' hv => ?_)
  obtain ⟨r2, s4, rfl, hr2, hsb⟩ := hv
  refine Ops.sb (.cons (.cons (hsb.app .refl))) ?_
  obtain ⟨m2, rfl⟩ : ∃ m2 : Nat, r2 = m2 := ⟨r2.toNat, by omega⟩
  refine qs rfl rfl rfl <| nn <| W.block ?_
  refine W.loop3 (σ := Nat × Int) (τ := List St × Value × Frag) (υ := Nat × Int) (fun i t u => i.1 ≤ m2 ∧ (0 ≤ i.2 ∧ i.2 ≤ 12) ∧ Os t_Strike St.row t.2.1 t.1 t.2.2 ∧ (ckStrikes 0 t.1 = 0 ∧ (∀ x ∈ t.1, x.day ≤ i.2) ∧ ∀ x ∈ t.1, x.wa ≤ w) ∧ t.1.length + i.1 = m2 ∧ u.1 + 4 * i.1 = k1 + 2 + 4 * m2)
   (fun i _ _ => [(10, I i.1), (9, I i.2), (7, .pointer (some ⟨β7, 0, none⟩)), (6, .pointer (some ⟨β6, 0, none⟩)), (0, .pointer (some ⟨b, 0, none⟩)), (2, I w)])
   (fun _ t u => (β7, .cells #[.slice va fs.length vc, t.2.1] t_Plant (0, 0)) :: (β6, .cells #[.slice none 0 0, .slice none 0 0] t_Plant (0, 0)) :: (b, hatO lv u.1 u.2) :: (Sf ++ t.2.2)) (fun i _ _ => i.1) (m2, d0) ([], .slice none 0 0, []) (k1 + 2, s4) ⟨Nat.le_refl _, by simp only; omega, .nil .nil, ⟨rfl, by simp, by simp⟩, by simp, by simp only⟩ ⟨rfl, rfl, rfl, rfl, rfl, rfl, trivial⟩ (.cons (.cons (.cons (by rw [List.append_nil]; exact .refl)))) ?_
  rintro ⟨i, day⟩ ⟨ss, vs, Ss⟩ ⟨k2, s5⟩ ⟨hi, hday, hO2, hck2, hlen2, hk2⟩
  simp only at hi hday hO2 hck2 hlen2 hk2 ⊢
  refine W.seq <| W.seq <| W.region rfl <| qm rfl rfl rfl ?_
  refine o1 (y_gtr rfl rfl rfl) rfl ?_
  refine nn ?_
  refine W.condp rfl (fun c30 => ?_) (fun c30 => ?_)
  ·obtain ⟨va2, vc2, rfl⟩ := hO2.isSl
   refine W.skip <| thn_n <| W.seq <| W.block <| W.seq ?_
   refine W.drawP1 (n := 16) rfl ?_
   refine a1 0 (y_fieldAddr rfl rfl) rfl ?_
   refine a1 1 (yld rfl rfl) rfl ?_
   refine a1 2 (y_move rfl rfl) rfl ?_
   refine a1 3 (y_move rfl rfl) rfl ?_
   refine a1 4 (y_move rfl rfl) rfl ?_
   refine a1 8 (y_move rfl rfl) rfl ?_
   refine a1 9 (y_move rfl rfl) rfl ?_
   refine ae (i := 5) rfl an rfl rfl (e_call (A := [(b, _)]) (args := [_, _, _]) rfl rfl (.tail (.tail .head)) (fun h' hE hL => From_fn _ h' nums lv b k2 s5 1 6 (hl.ext hE) (by omega) (by omega)) (fun v A' hv => ?_))
   refine ⟨.inr (Keeps.one (.head _) Keeps.nil), ?_⟩
   obtain ⟨r3, s6, rfl, hr3, hsb⟩ := hv
   refine Any.sb (.cons (.cons (hsb.app .refl))) ?_
   refine abl (i := 6) (cs := #[I 1, I 2, I 2, I 3, I r3]) (fun β39 => ?_) rfl
   refine ae (i := 7) rfl an rfl rfl (e_call (A := [(b, _)]) (args := [_, _]) rfl rfl (.tail (.tail (.tail .head))) (fun h' hE hL => One_fn _ h' nums lv b (k2 + 1) s6 [1, 2, 2, 3, r3] _ (hl.ext hE) (Sl.mk (hL β39 _ (.head _)) rfl (pa _ _)) (by omega) (by simp) (by simp)) (fun v A' hv => ?_))
   refine ⟨.inr (Keeps.one (.tail _ (.head _)) Keeps.nil), ?_⟩
   obtain ⟨co, s7, rfl, hco, hsb⟩ := hv
   refine Any.sb (F' := (β7, _) :: (β6, _) :: (b, _) :: (Sf ++ Ss)) (.skip rfl (.cons (.cons (hsb.app .refl)))) ?_
   have hco6 : 1 ≤ co ∧ co ≤ 6 := by simp at hco; omega
   refine ae (i := 10) rfl an rfl rfl (e_call (A := [(b, _)]) (args := [_, _]) rfl rfl (.tail (.tail .head)) (fun h' hE hL => To_fn _ h' nums lv b (k2 + 2) s7 w (hl.ext hE) (by omega) (by omega)) (fun v A' hv => ?_))
   refine ⟨.inr (Keeps.one (.head _) Keeps.nil), ?_⟩
   obtain ⟨wa, s8, rfl, hwa, hsb⟩ := hv
   refine Any.sb (.cons (.cons (hsb.app .refl))) ?_
   refine a1 11 (y_build (cs := #[I day, I co, I wa]) rfl rfl rfl) rfl ?_
   refine abl (i := 12) (cs := #[I day, I co, I wa]) (fun β45 => ?_) rfl
   refine ae (i := 13) rfl an rfl rfl (e_append (row := St.row) (l' := [⟨day, co, wa⟩]) rfl rfl rfl hO2 (.tail (.tail (.tail (.tail (Seg.app (B := Sf) Seg.all))))) (fun h2 _ hl => Sl.mk (hl β45 _ (.head _)) rfl (Part.all (flat St.row [⟨day, co, wa⟩]))) (by simp; omega) (by decide) rfl (fun v' S' hO' => ?_))
   refine ⟨.inr (Keeps.one (.tail _ (.head _)) Keeps.nil), ?_⟩
   obtain ⟨asl, csl, rfl⟩ := hO'.isSl
   refine a1 14 (y_fieldAddr rfl rfl) rfl ?_
   refine ae (i := 15) rfl an rfl rfl (eS rfl rfl rfl ?_)
   refine ⟨.inl (by kernel_rfl), ?_⟩
   refine az ?_
   refine thn_n <| W.region rfl <| qm rfl rfl rfl <| qm rfl rfl rfl ?_
   refine Ops.bsl (cs := #[I 0, I 1, I 1, I 2, I 3]) (fun β50 => ?_) rfl
   refine cg (A := [(b, _)]) (.tail (.tail (.tail (.tail .head)))) (fun h' hE hL => One_fn _ h' nums lv b (k2 + 3) s8 [0, 1, 1, 2, 3] _ (hl.ext hE) (Sl.mk (hL β50 _ (.head _)) rfl (pa _ _)) (by omega) (by simp) (by simp)) (fun v A' hv => ?_)
   obtain ⟨dd, s9, rfl, hdd, hsb⟩ := hv
   have hdd3 : 0 ≤ dd ∧ dd ≤ 3 := by simp at hdd; omega
   obtain ⟨nd, hnd⟩ : ∃ nd, min 12 (day + dd) = nd := ⟨_, rfl⟩
   refine pq rfl ?_
   refine o1 ((y_min rfl rfl rfl).eq (u := I nd) (congrArg I hnd)) rfl ?_
   refine qs rfl rfl rfl <| Ops.nil <| blk_n <| thn_n <| W.region rfl <| qm rfl rfl rfl ?_
   refine mq rfl ?_
   refine qs rfl rfl rfl <| nn ?_
   refine ⟨rfl, (i - 1, nd), (ss ++ [⟨day, co, wa⟩], _, S'), (k2 + 4, s9), ⟨by simp only; omega, by simp only; omega, hO', ⟨ckStrikes_app hck2.1 hck2.2.1 hday.1 hday hco6 (by simp only; omega), ?_, ?_⟩, by simp; omega, by simp only; omega⟩, by simp only; omega, ⟨lk rfl (show I _ = I _ by congr 1; simp only; omega), rfl, rfl, rfl, rfl, rfl, trivial⟩, ?_⟩
   ·intro x hx
    rcases List.mem_append.1 hx with hx | hx
    ·have := hck2.2.1 x hx; simp only; omega
    ·have : x = ⟨day, co, wa⟩ := by simpa using hx
     subst this; simp only; omega
   ·intro x hx
    rcases List.mem_append.1 hx with hx | hx
    ·exact hck2.2.2 x hx
    ·have : x = ⟨day, co, wa⟩ := by simpa using hx
     subst this; simp only; omega
   ·exact .skip rfl (.skip rfl (.cons (.cons (hsb.app .refl))))
  ·obtain ⟨va2, vc2, rfl⟩ := hO2.isSl
   have hi0 : i = 0 := by omega
   subst hi0
   refine W.exit <| thn_x <| thn_x <| blk_x <| thn_n <| W.seq <| W.region rfl ?_
   refine lq rfl ?_
   first | refine Ops.stoW ?_ | refine Ops.stoA ?_
   refine nn <| W.ret ?_
   refine lvc (hv := rAgg rNil) ⟨_, _, fs, ss, Sf, Ss, k2, s5, rfl, ⟨hO, hO2⟩, ⟨ckPlant_ok (by omega) (by omega) hck (by omega) hck2.1, by omega, hck2.2.2⟩, by omega, .skip rfl (.skip rfl .refl)⟩
end Go.Mus

/- Copies of plants and plans, whether plans are equal; the plants of the examples. Conditions: none; over the given program. -/
namespace Go.Mus
set_option maxRecDepth 100000
set_option maxHeartbeats 4000000
theorem dup_sb2 {A B : Frag} {r p : Nat × Obj} (hp : opn p.2 = false) : Sb (r :: (A ++ B)) (A ++ (B ++ [r, p])) := by
 refine ⟨[p], ?_, .cons hp .nil⟩
 rw [← List.append_assoc]
 exact (List.perm_middle (a := r) (l₁ := A ++ B) (l₂ := [p])).symm
theorem dup_sb1 {A B : Frag} {r p : Nat × Obj} (hp : opn p.2 = false) : Sb (r :: (A ++ B)) (B ++ (A ++ [r, p])) :=
 Sb.trans (.of_perm (List.Perm.cons _ List.perm_append_comm)) (dup_sb2 hp)
/-- The first ones of what is read. -/
theorem Sl.take {α : Type} {row : α → List Value} {w : Nat} [Rw row w] {h : Hp} {a : Option Addr} {n cap : Nat} {l : List α} (H : Sl h row (.slice a n cap) l) {m : Nat} (hm : m ≤ l.length) : Sl h row (.slice a m cap) (l.take m) := by
 obtain ⟨a', cap', e, hx⟩ := H
 cases e
 refine ⟨a, cap, by rw [List.length_take, Nat.min_eq_left hm], fun hne => ?_⟩
 obtain ⟨b, off, c, E, fz, rfl, hb, hp⟩ := hx (by rintro rfl; simp at hne)
 refine ⟨b, off, c, E, fz, rfl, hb, ?_⟩
 rw [show flat row l = [] ++ (flat row (l.take m) ++ flat row (l.drop m)) by rw [List.nil_append, ← flat_app, List.take_append_drop]] at hp
 exact hp.sub
theorem Zs.take {h : Hp} {a : Option Addr} {n m cap cap' : Nat} (H : Zs h (.slice a n cap)) : Zs h (.slice a m cap') := fun b off _ _ e => by
 cases e
 exact H b off n cap rfl

theorem DupPlant_fn (main : Side) (h : Hp) (fs : List Fl) (ss : List St) (vf vs : Value) (hf : Sl h Fl.row vf fs) (hs : Sl h St.row vs ss) (hn : fs.length ≤ 1000 ∧ ss.length ≤ 1000) : Fnc prog main n_kit_DupPlant #[.agg #[vf, vs]] h [] (fun v A => ∃ vf' vs' Sf Ss, v = .agg #[vf', vs'] ∧ (Os t_Floor Fl.row vf' fs Sf ∧ Os t_Strike St.row vs' ss Ss) ∧ Sb (Sf ++ Ss) A) := by
 obtain ⟨a, cap, rfl⟩ := hf.isSl
 obtain ⟨a', cap', rfl⟩ := hs.isSl
 refine Fnc.of_body at_kit_DupPlant rfl (by show 1 ≤ 12; decide) [(0, .agg #[.slice a fs.length cap, .slice a' ss.length cap'])] ⟨rfl, trivial⟩ ?_
 refine W.seq <| W.region rfl ?_
 refine Ops.box (fun β1 => ?_)
 refine Ops.new (fun β2 => ?_)
 refine nn <| W.seq ?_
 refine W.mono (Q := (fun e ρ' ds' F' => e = .normal ∧ ds' = [] ∧ Sub [(2, .pointer (some ⟨β2, 0, none⟩))] ρ' ∧ ∃ vf' vs' Sf Ss, Os t_Floor Fl.row vf' fs Sf ∧ Os t_Strike St.row vs' ss Ss ∧ Sb ((β2, .cells #[vf', vs'] t_Plant (0, 0)) :: (Sf ++ Ss)) F')) ?_ ?_
 ·refine W.drawL [(β1, .cells #[.slice a fs.length cap, .slice a' ss.length cap'] t_Plant (0, 0))] (n := 10) rfl ?_
  refine a1 1 (y_fieldAddr rfl rfl) rfl ?_
  refine a1 2 (yld rfl rfl) rfl ?_
  refine a1 5 (y_fieldAddr rfl rfl) rfl ?_
  refine a1 6 (yld rfl rfl) rfl ?_
  refine Any.eff2 (i := 0) (j := 4) (by kernel_rfl) (nthO_get rfl) (nthO_get rfl) an an rfl rfl rfl rfl ?_ ?_
  ·refine (e_buildSlice0 rfl fun β3 _ _ => ⟨.inr (Keeps.one (by repeat (first | exact List.Mem.head _ | apply List.Mem.tail | apply List.mem_append_right)) Keeps.nil), ?_⟩)
   have hOF : Os t_Floor Fl.row (.slice (some ⟨β3, 0, none⟩) 0 0) ([] : List Fl) [(β3, .cells #[] t_Floor (0, 0))] := .inr ⟨β3, #[], 0, [], rfl, rfl, rfl, Nat.le_refl _, Part.all [], .nil⟩
   refine Any.eff2 (i := 3) (j := 4) (by kernel_rfl) (nthO_get rfl) (nthO_get rfl) an an rfl rfl rfl rfl ?_ ?_
   ·refine (e_append (row := Fl.row) (l := []) (l' := fs) rfl rfl rfl hOF .head (fun h2 hE hl => hf.ext hE) (by simp; omega) (by decide) rfl (fun vF SF hOF => ?_))
    rw [List.nil_append] at hOF
    refine ⟨.inr (Keeps.one (by repeat (first | exact List.Mem.head _ | apply List.Mem.tail | apply List.mem_append_right)) Keeps.nil), ?_⟩
    obtain ⟨aF, cF, rfl⟩ := hOF.isSl
    refine ae (i := 4) rfl an rfl rfl (e_buildSlice0 rfl fun β7 _ _ => ⟨.inr (Keeps.one (by repeat (first | exact List.Mem.head _ | apply List.Mem.tail | apply List.mem_append_right)) Keeps.nil), ?_⟩)
    have hOS : Os t_Strike St.row (.slice (some ⟨β7, 0, none⟩) 0 0) ([] : List St) [(β7, .cells #[] t_Strike (0, 0))] := .inr ⟨β7, #[], 0, [], rfl, rfl, rfl, Nat.le_refl _, Part.all [], .nil⟩
    refine ae (i := 7) rfl an rfl rfl (e_append (row := St.row) (l := []) (l' := ss) rfl rfl rfl hOS .head (fun h2 hE hl => hs.ext hE) (by simp; omega) (by decide) rfl (fun vS SS hOS => ?_))
    rw [List.nil_append] at hOS
    refine ⟨.inr (Keeps.one (by repeat (first | exact List.Mem.head _ | apply List.Mem.tail | apply List.mem_append_right)) Keeps.nil), ?_⟩
    obtain ⟨aS, cS, rfl⟩ := hOS.isSl
    refine a1 8 (y_build (cs := #[.slice aF fs.length cF, .slice aS ss.length cS]) rfl rfl rfl) rfl ?_ (hS := Keeps.one (by repeat (first | exact List.Mem.head _ | apply List.Mem.tail | apply List.mem_append_right)) Keeps.nil)
    first | refine ae (i := 9) rfl an rfl rfl (eSW rfl rfl rfl ?_) | refine ae (i := 9) rfl an rfl rfl (eSA rfl rfl rfl ?_)
    refine ⟨.inl (by kernel_rfl), ?_⟩
    refine az ?_
    refine ⟨rfl, rfl, ⟨rfl, trivial⟩, _, _, SF, SS, hOF, hOS, ?_⟩
    exact dup_sb1 rfl
   ·refine (e_buildSlice0 rfl fun β7 _ _ => ⟨.inr (Keeps.one (by repeat (first | exact List.Mem.head _ | apply List.Mem.tail | apply List.mem_append_right)) Keeps.nil), ?_⟩)
    have hOS : Os t_Strike St.row (.slice (some ⟨β7, 0, none⟩) 0 0) ([] : List St) [(β7, .cells #[] t_Strike (0, 0))] := .inr ⟨β7, #[], 0, [], rfl, rfl, rfl, Nat.le_refl _, Part.all [], .nil⟩
    refine ae (i := 3) rfl an rfl rfl (e_append (row := Fl.row) (l := []) (l' := fs) rfl rfl rfl hOF (Seg.tail .head) (fun h2 hE hl => hf.ext hE) (by simp; omega) (by decide) rfl (fun vF SF hOF => ?_))
    rw [List.nil_append] at hOF
    refine ⟨.inr (Keeps.one (by repeat (first | exact List.Mem.head _ | apply List.Mem.tail | apply List.mem_append_right)) Keeps.nil), ?_⟩
    obtain ⟨aF, cF, rfl⟩ := hOF.isSl
    refine ae (i := 7) rfl an rfl rfl (e_append (row := St.row) (l := []) (l' := ss) rfl rfl rfl hOS .head (fun h2 hE hl => hs.ext hE) (by simp; omega) (by decide) rfl (fun vS SS hOS => ?_))
    rw [List.nil_append] at hOS
    refine ⟨.inr (Keeps.one (by repeat (first | exact List.Mem.head _ | apply List.Mem.tail | apply List.mem_append_right)) Keeps.nil), ?_⟩
    obtain ⟨aS, cS, rfl⟩ := hOS.isSl
    refine a1 8 (y_build (cs := #[.slice aF fs.length cF, .slice aS ss.length cS]) rfl rfl rfl) rfl ?_ (hS := Keeps.one (by repeat (first | exact List.Mem.head _ | apply List.Mem.tail | apply List.mem_append_right)) Keeps.nil)
    first | refine ae (i := 9) rfl an rfl rfl (eSW rfl rfl rfl ?_) | refine ae (i := 9) rfl an rfl rfl (eSA rfl rfl rfl ?_)
    refine ⟨.inl (by kernel_rfl), ?_⟩
    refine az ?_
    refine ⟨rfl, rfl, ⟨rfl, trivial⟩, _, _, SF, SS, hOF, hOS, ?_⟩
    exact dup_sb1 rfl
  ·refine (e_buildSlice0 rfl fun β7 _ _ => ⟨.inr (Keeps.one (by repeat (first | exact List.Mem.head _ | apply List.Mem.tail | apply List.mem_append_right)) Keeps.nil), ?_⟩)
   have hOS : Os t_Strike St.row (.slice (some ⟨β7, 0, none⟩) 0 0) ([] : List St) [(β7, .cells #[] t_Strike (0, 0))] := .inr ⟨β7, #[], 0, [], rfl, rfl, rfl, Nat.le_refl _, Part.all [], .nil⟩
   refine ae (i := 0) rfl an rfl rfl (e_buildSlice0 rfl fun β3 _ _ => ⟨.inr (Keeps.one (by repeat (first | exact List.Mem.head _ | apply List.Mem.tail | apply List.mem_append_right)) Keeps.nil), ?_⟩)
   have hOF : Os t_Floor Fl.row (.slice (some ⟨β3, 0, none⟩) 0 0) ([] : List Fl) [(β3, .cells #[] t_Floor (0, 0))] := .inr ⟨β3, #[], 0, [], rfl, rfl, rfl, Nat.le_refl _, Part.all [], .nil⟩
   refine ae (i := 3) rfl an rfl rfl (e_append (row := Fl.row) (l := []) (l' := fs) rfl rfl rfl hOF .head (fun h2 hE hl => hf.ext hE) (by simp; omega) (by decide) rfl (fun vF SF hOF => ?_))
   rw [List.nil_append] at hOF
   refine ⟨.inr (Keeps.one (by repeat (first | exact List.Mem.head _ | apply List.Mem.tail | apply List.mem_append_right)) Keeps.nil), ?_⟩
   obtain ⟨aF, cF, rfl⟩ := hOF.isSl
   refine ae (i := 7) rfl an rfl rfl (e_append (row := St.row) (l := []) (l' := ss) rfl rfl rfl hOS (Seg.app .head) (fun h2 hE hl => hs.ext hE) (by simp; omega) (by decide) rfl (fun vS SS hOS => ?_))
   rw [List.nil_append] at hOS
   refine ⟨.inr (Keeps.one (by repeat (first | exact List.Mem.head _ | apply List.Mem.tail | apply List.mem_append_right)) Keeps.nil), ?_⟩
   obtain ⟨aS, cS, rfl⟩ := hOS.isSl
   refine a1 8 (y_build (cs := #[.slice aF fs.length cF, .slice aS ss.length cS]) rfl rfl rfl) rfl ?_ (hS := Keeps.one (by repeat (first | exact List.Mem.head _ | apply List.Mem.tail | apply List.mem_append_right)) Keeps.nil)
   first | refine ae (i := 9) rfl an rfl rfl (eSW rfl rfl rfl ?_) | refine ae (i := 9) rfl an rfl rfl (eSA rfl rfl rfl ?_)
   refine ⟨.inl (by kernel_rfl), ?_⟩
   refine az ?_
   refine ⟨rfl, rfl, ⟨rfl, trivial⟩, _, _, SF, SS, hOF, hOS, ?_⟩
   exact dup_sb2 rfl
 rintro e ρ' ds' F' ⟨rfl, rfl, hE0, vf', vs', Sf, Ss, hO1, hO2, hsb⟩
 refine thn_n (W.env hE0 (W.sb hsb ?_))
 obtain ⟨b3, c3, rfl⟩ := hO1.isSl
 obtain ⟨b4, c4, rfl⟩ := hO2.isSl
 refine W.ret ?_
 exact lvc (hv := rAgg rNil) ⟨_, _, Sf, Ss, rfl, ⟨hO1, hO2⟩, .skip rfl .refl⟩

theorem be_ne (p q : Be) : (!decide ([p.fl, p.day] = [q.fl, q.day])) = decide (p ≠ q) := by
 obtain ⟨x, y⟩ := p
 obtain ⟨x', y'⟩ := q
 by_cases h : x = x' ∧ y = y'
 ·simp [h]
 ·simp [h]
theorem EqBerths_fn (main : Side) (h : Hp) (l l' : List Be) (v v' : Value) (hl : Sl h Be.row v l) (hl' : Sl h Be.row v' l') (hn : l.length ≤ 100000) : Pu prog main n_kit_EqBerths #[v, v'] h (.bool (decide (l = l'))) := by
 obtain ⟨a, cap, rfl⟩ := hl.isSl
 obtain ⟨a', cap', rfl⟩ := hl'.isSl
 refine Fnc.of_body at_kit_EqBerths rfl (by show 2 ≤ 32; decide) [(0, .slice a l.length cap), (1, .slice a' l'.length cap')] ⟨rfl, rfl, trivial⟩ ?_
 refine W.seq <| W.region rfl <| qs rfl rfl rfl <| nn <| W.seq <| W.seq <| W.region rfl <| qs rfl rfl rfl <| Ops.nil ?_
 refine thn_n <| W.block ?_
 refine W.loop (σ := Nat) (fun k => k ≤ l.length ∧ k ≤ l'.length ∧ l.take k = l'.take k) (fun k => [(5, I k), (0, .slice a l.length cap), (1, .slice a' l'.length cap')]) (fun _ => []) (fun k => l.length - k) 0 ⟨Nat.zero_le _, Nat.zero_le _, rfl⟩ ⟨rfl, rfl, rfl, trivial⟩ sbA ?_
 rintro k ⟨hk, hk', he⟩
 refine W.seq <| W.seq <| W.region rfl <| qm rfl rfl rfl <| qm rfl rfl rfl ?_
 refine o1 (y_len rfl rfl) rfl ?_
 refine o1 (y_lss rfl rfl rfl) rfl ?_
 refine qm rfl rfl rfl ?_
 refine Ops.ask (fun a2_5 => ?_) (fun a2_5 => ?_)
 ·refine oq (y_move rfl rfl) rfl (want_some rfl rfl rfl) rfl rfl ?_
  refine oq (y_move rfl rfl) rfl (want_some rfl rfl rfl) rfl rfl ?_
  refine oq (y_len rfl rfl) rfl (want_some rfl rfl rfl) rfl rfl ?_
  refine oq (y_lss rfl rfl rfl) rfl (want_some rfl rfl rfl) rfl rfl ?_
  refine o1 (y_pickT rfl rfl rfl) rfl ?_
  refine nn ?_
  refine W.condp rfl (fun c15 => ?_) (fun c15 => ?_)
  ·obtain ⟨p, hp, -⟩ := has (show k < l.length by omega)
   obtain ⟨q, hq, -⟩ := has (show k < l'.length by omega)
   obtain ⟨b, off, c, E, fz, rfl, hb, hx1, hy1, hz1⟩ := hl.at hp
   have hx2 : c.extract (off + k * 2) (off + k * 2 + 2) = #[I p.fl, I p.day] := hx1
   clear hx1 hz1
   obtain ⟨b', off', c', E', fz', rfl, hb', hx1, hy2, hz1⟩ := hl'.at hq
   have hx3 : c'.extract (off' + k * 2) (off' + k * 2 + 2) = #[I q.fl, I q.day] := hx1
   clear hx1 hz1
   refine W.skip <| thn_n <| W.seq <| W.block <| W.seq ?_
   refine W.drawF (n := 9) rfl ?_
   refine a1 0 (y_move rfl rfl) rfl ?_
   refine a1 1 (y_move rfl rfl) rfl ?_
   first | refine a1 2 (yix rfl rfl rfl) rfl ?_ | refine a1 2 (yixI rfl rfl rfl) rfl ?_
   first | refine a1 3 (yldW rfl rfl) rfl ?_ | refine a1 3 (yldA rfl rfl) rfl ?_
   refine a1 4 (y_move rfl rfl) rfl ?_
   refine a1 5 (y_move rfl rfl) rfl ?_
   first | refine a1 6 (yix rfl rfl rfl) rfl ?_ | refine a1 6 (yixI rfl rfl rfl) rfl ?_
   first | refine a1 7 (yldW rfl rfl) rfl ?_ | refine a1 7 (yldA rfl rfl) rfl ?_
   refine a1 8 (Yv.eq (u := .bool (decide (p ≠ q))) (y_neA [p.fl, p.day] [q.fl, q.day] rfl rfl rfl rfl rfl rfl rfl) (congrArg Value.bool (be_ne p q))) rfl ?_
   refine az ?_
   refine thn_n ?_
   refine W.condp rfl (fun c26 => ?_) (fun c26 => ?_)
   ·refine W.seq <| W.region rfl <| qs rfl rfl rfl <| nn <| W.ret <| blk_r <| thn_r <| thn_r <| blk_r ?_
    refine thn_r ?_
    refine lvp ?_
    refine congrArg Value.bool (decide_eq_false fun e => ?_).symm
    subst e
    rw [hp] at hq
    cases hq
    exact c26 rfl
   ·refine W.skip <| blk_n <| thn_n <| W.region rfl <| qm rfl rfl rfl ?_
    refine pq rfl ?_
    refine qs rfl rfl rfl <| nn ?_
    have hpq : p = q := Decidable.byContradiction c26
    subst hpq
    exact ⟨rfl, k + 1, ⟨by omega, by omega, by rw [take_next hp, take_next hq, he]⟩, by omega, ⟨rfl, rfl, rfl, trivial⟩, sbA⟩
  ·refine W.exit <| thn_x <| thn_x <| blk_x <| thn_n <| W.seq <| W.region rfl <| qm rfl rfl rfl ?_
   refine o1 (y_len rfl rfl) rfl ?_
   refine qm rfl rfl rfl ?_
   refine o1 (y_len rfl rfl) rfl ?_
   refine o1 (y_eql rfl rfl rfl) rfl ?_
   refine qs rfl rfl rfl <| nn <| W.ret ?_
   refine lvp ?_
   refine congrArg Value.bool (decide_eq_decide.2 ⟨fun e => ?_, fun e => ?_⟩)
   ·have e' : l.length = l'.length := by omega
    have hkl : k = l.length := by omega
    rw [← List.take_length (l := l), ← List.take_length (l := l'), ← e', ← hkl, he]
   ·rw [e]
 ·refine Ops.no ?_
  refine Ops.no ?_
  refine Ops.no ?_
  refine Ops.no ?_
  refine o1 (y_pickF rfl rfl rfl) rfl ?_
  refine nn ?_
  refine W.condF ?_
  refine W.exit <| thn_x <| thn_x <| blk_x <| thn_n <| W.seq <| W.region rfl <| qm rfl rfl rfl ?_
  refine o1 (y_len rfl rfl) rfl ?_
  refine qm rfl rfl rfl ?_
  refine o1 (y_len rfl rfl) rfl ?_
  refine o1 (y_eql rfl rfl rfl) rfl ?_
  refine qs rfl rfl rfl <| nn <| W.ret ?_
  refine lvp ?_
  refine congrArg Value.bool (decide_eq_decide.2 ⟨fun e => ?_, fun e => ?_⟩)
  ·have e' : l.length = l'.length := by omega
   have hkl : k = l.length := by omega
   rw [← List.take_length (l := l), ← List.take_length (l := l'), ← e', ← hkl, he]
  ·rw [e]
/-! The examples -/
def exF (cool : Int) : List Fl := [⟨4, 2, 3, cool⟩, ⟨3, 3, 5, 2⟩]
def exS (day : Int) : List St := [⟨0, 3, 0⟩, ⟨1, 2, 1⟩, ⟨3, 4, 1⟩, ⟨day, 2, 0⟩]
def exP : List Be := [⟨0, 0⟩, ⟨1, 1⟩, ⟨0, 3⟩, ⟨0, 6⟩]
theorem plant_fn (main : Side) (h : Hp) (day cool : Int) : Fnc prog main n_law_plant #[I day, I cool] h [] (fun v A => ∃ b1 b2, v = .agg #[.slice (some ⟨b1, 0, none⟩) 2 2, .slice (some ⟨b2, 0, none⟩) 4 4] ∧ Sb [(b1, .cells (flat Fl.row (exF cool)).toArray t_Floor (0, 0)), (b2, .cells (flat St.row (exS day)).toArray t_Strike (0, 0))] A) := by
 refine Fnc.of_body at_law_plant rfl (by show 2 ≤ 18; decide) [(0, I day), (1, I cool)] ⟨rfl, rfl, trivial⟩ ?_
 refine W.seq <| W.region rfl ?_
 refine Ops.new (fun β4 => ?_)
 refine nn <| W.seq <| W.region rfl ?_
 refine o1 (y_build (cs := #[I 2, I 3]) rfl rfl rfl) rfl ?_
 refine qm rfl rfl rfl ?_
 refine o1 (y_build (cs := #[I 4, I 2, I 3, I cool]) rfl rfl rfl) rfl ?_
 refine o1 (y_build (cs := #[I 3, I 5]) rfl rfl rfl) rfl ?_
 refine o1 (y_build (cs := #[I 3, I 3, I 5, I 2]) rfl rfl rfl) rfl ?_
 refine Ops.bsl (cs := (flat Fl.row (exF cool)).toArray) (fun β10 => ?_) rfl (hf := by kernel_rfl)
 refine o1 (y_build (cs := #[I 0, I 3, I 0]) rfl rfl rfl) rfl ?_
 refine o1 (y_build (cs := #[I 1, I 2, I 1]) rfl rfl rfl) rfl ?_
 refine o1 (y_build (cs := #[I 3, I 4, I 1]) rfl rfl rfl) rfl ?_
 refine qm rfl rfl rfl ?_
 refine o1 (y_build (cs := #[I day, I 2, I 0]) rfl rfl rfl) rfl ?_
 refine Ops.bsl (cs := (flat St.row (exS day)).toArray) (fun β16 => ?_) rfl (hf := by kernel_rfl)
 refine o1 (y_build (cs := #[.slice (some ⟨β10, 0, none⟩) 2 2, .slice (some ⟨β16, 0, none⟩) 4 4]) rfl rfl rfl) rfl ?_
 first | refine Ops.stoW ?_ | refine Ops.stoA ?_
 refine nn <| W.ret ?_
 refine lvc (hv := rAgg rNil) ⟨β10, β16, rfl, ?_⟩
 exact Sb.trans (.of_perm (List.Perm.swap _ _ _)) (.cons (.cons (.skip rfl .refl)))
theorem plan_fn (main : Side) (h : Hp) : Fnc prog main n_law_plan #[] h [] (fun v A => ∃ b, v = .slice (some ⟨b, 0, none⟩) 4 4 ∧ A = [(b, .cells (flat Be.row exP).toArray t_Berth (0, 0))]) := by
 refine Fnc.of_body at_law_plan rfl (by show 0 ≤ 6; decide) [] trivial ?_
 refine W.seq <| W.region rfl <| qs rfl rfl rfl <| nn <| W.seq <| W.region rfl ?_
 refine o1 (y_build (cs := #[I 0, I 0]) rfl rfl rfl) rfl ?_
 refine o1 (y_build (cs := #[I 1, I 1]) rfl rfl rfl) rfl ?_
 refine o1 (y_build (cs := #[I 0, I 3]) rfl rfl rfl) rfl ?_
 refine o1 (y_build (cs := #[I 0, I 6]) rfl rfl rfl) rfl ?_
 refine Ops.bsl (cs := (flat Be.row exP).toArray) (fun β5 => ?_) rfl (hf := by kernel_rfl)
 refine qs rfl rfl rfl <| nn <| W.ret ?_
 exact lvt (vs := [_]) ⟨_, rfl, rfl⟩
theorem none_fn (main : Side) (h : Hp) : Pu prog main n_law_none #[] h (Be.val ⟨-1, 0⟩) := by
 refine Fnc.of_body at_law_none rfl (by show 0 ≤ 2; decide) [] trivial ?_
 refine W.seq <| W.region rfl ?_
 refine Ops.new (fun β0 => ?_)
 refine nn <| W.seq <| W.region rfl ?_
 refine o1 (y_build (cs := #[I (-1), I 0]) rfl rfl rfl) rfl ?_
 first | refine Ops.stoW ?_ | refine Ops.stoA ?_
 refine nn <| W.ret ?_
 exact lvc (hv := rAgg rNil) ⟨rfl, .cons rfl .nil⟩
end Go.Mus

/- The examples that each statement asks for. Conditions: none; over the given program. -/
namespace Go.Mus
set_option maxRecDepth 100000
set_option maxHeartbeats 4000000
/-- A block that is never written again, inside a region. -/
theorem Ops.freeze {x : Cx} {ops : Array Oper} {l : List Nat} {Q : Post} {ρ : Env} {ds : List Deferred} {F : Frag} {b : Nat} {o : Obj} (ho : opn o = false) (H : ∀ h', Ext x.h h' → h' b = some o → h'.z b → Ops { x with h := h' } ops l Q ρ ds F) : Ops x ops l Q ρ ds ((b, o) :: F) := by
 intro fr k cs Stop tmps hk M h1 h0 h2 h3 h4 h5 hc
 obtain ⟨S, e, hl⟩ := h5.freeze ho
 have hb := (h5.own b o (List.mem_cons_self ..)).2.2
 refine Gos.eased Stop.2.2 _ _ _ _ hl (H _ e (freeze_at _ _ _) (.inl rfl) fr k cs Stop tmps hk _ h1 h0 h2 h3 h4 S fun ex ρ' ds' F' tmps' hk' M' q a1 a2 a3 a4 => hc ex ρ' ds' F' tmps' hk' M' q a1 a2 (a3.thaw hb ho) fun c' hm hF => ?_)
 have hne : c' ≠ b := by rintro rfl; exact hF o (List.mem_cons_self ..)
 exact a4 c' ⟨hm, hne⟩ fun o' ho' => hF o' (List.mem_cons_of_mem _ ho')

/-! What the examples come to -/
theorem ex1 : standsV (exF 1) (exS 6) exP 0 2 = (⟨0, 3⟩, 0) := by decide +kernel
theorem ex2 : wrongV (exF 1) (exS 6) [⟨1, 0⟩, ⟨0, 1⟩, ⟨0, 3⟩, ⟨-1, 0⟩] = (0, 3, 0) := by decide +kernel
theorem ex3 : bestB (exF 1) (exS 6) = (exP, 11, 0) := by decide +kernel
theorem ex4 : countB (exF 1) (exS 4) = (4, 0) := by decide +kernel
theorem ex5 : lateF (exF 0) (exS 6) = 2 := by decide +kernel
theorem ex5c : ckPlant (exF 0) (exS 6) = 0 := by decide +kernel
theorem ex6 : patV (exF 1) (exS 4) = (1, 0) := by decide +kernel
theorem exSl {h : Hp} {α : Type} {row : α → List Value} {w : Nat} [Rw row w] {b n cap : Nat} {E : TypeId} {z : Nat × Nat} {l : List α} (hb : h b = some (.cells (flat row l).toArray E z)) (hn : n = l.length) : Sl h row (.slice (some ⟨b, 0, none⟩) n cap) l := Sl.mk hb hn (Part.all _)
theorem exZ {h : Hp} {b n cap : Nat} (hz : h.z b) : Zs h (.slice (some ⟨b, 0, none⟩) n cap) := fun _ _ _ _ e => by cases e; exact hz

theorem exs_fn (main : Side) (hS : ∀ S, main.ok S → ∃ Fin, S = Mn prog Fin) (hmb : main.b = true) (h : Hp) (Eg : TypeId) (zg : Nat × Nat) (hg : h 0 = some (.cells #[rtV t_error] Eg zg)) (z0 : h.z 0) : Pu prog main n_law_set #[] h (.bool true) := by
 refine Fnc.of_body at_law_set rfl (by show 0 ≤ 109; decide) [] trivial ?_
 refine W.seq <| W.region rfl <| qs rfl rfl rfl <| nn <| W.seq <| W.region rfl ?_
 refine c0 (fun h' hE hL => plant_fn _ h' _ _) (fun v A' hv => ?_)
 obtain ⟨b1, b2, rfl, hsb⟩ := hv
 refine Ops.sb (hsb.app .refl) ?_
 refine c0 (fun h' hE hL => plan_fn _ h') (fun v A' hv => ?_)
 obtain ⟨b3, rfl, rfl⟩ := hv
 refine cp (u := .tuple #[.agg #[I 0, I 3], I 0]) (fun h' hE hL => ?_) ?_
 ·have := Stands_fn main h' (exF 1) (exS 6) exP 0 2 (.slice (some ⟨b1, 0, none⟩) 2 2) (.slice (some ⟨b2, 0, none⟩) 4 4) (.slice (some ⟨b3, 0, none⟩) 4 4) (exSl (hL b1 _ (.tail _ (.head _))) rfl) (exSl (hL b2 _ (.tail _ (.tail _ (.head _)))) rfl) (exSl (hL b3 _ (.head _)) rfl)
  rw [ex1] at this
  exact this
 refine Ops.sb (F' := []) (Sb.skip rfl (Sb.skip rfl (Sb.skip rfl Sb.refl))) ?_
 refine qm rfl rfl rfl <| oq (y_extract rfl rfl rfl) rfl wn rfl rfl <| oq (y_extract rfl rfl rfl) rfl wn rfl rfl ?_
 refine Ops.new (fun β1 => ?_)
 first | refine Ops.stoW ?_ | refine Ops.stoA ?_
 refine qs rfl rfl rfl <| nn <| W.seq <| W.region rfl ?_
 refine c0 (fun h' hE hL => plant_fn _ h' _ _) (fun v A' hv => ?_)
 obtain ⟨b1, b2, rfl, hsb⟩ := hv
 refine Ops.sb (hsb.app .refl) ?_
 refine o1 (y_build (cs := #[I 1, I 0]) rfl rfl rfl) rfl ?_
 refine o1 (y_build (cs := #[I 0, I 1]) rfl rfl rfl) rfl ?_
 refine o1 (y_build (cs := #[I 0, I 3]) rfl rfl rfl) rfl ?_
 refine cp (fun h' hE hL => none_fn _ h') ?_
 refine Ops.bsl (cs := (flat Be.row [⟨1, 0⟩, ⟨0, 1⟩, ⟨0, 3⟩, ⟨-1, 0⟩]).toArray) (fun β27 => ?_) rfl (hf := by kernel_rfl)
 refine cp (u := .tuple #[I 0, I 3, I 0]) (fun h' hE hL => ?_) ?_
 ·have := Wrong_fn main h' (exF 1) (exS 6) [⟨1, 0⟩, ⟨0, 1⟩, ⟨0, 3⟩, ⟨-1, 0⟩] (.slice (some ⟨b1, 0, none⟩) 2 2) (.slice (some ⟨b2, 0, none⟩) 4 4) (.slice (some ⟨β27, 0, none⟩) 4 4) Eg zg (exSl (hL b1 _ (.tail _ (.head _))) rfl) (exSl (hL b2 _ (.tail _ (.tail _ (.head _)))) rfl) (exSl (hL β27 _ (.head _)) rfl) (hE.1 _ _ hg)
  rw [ex2] at this
  exact this
 refine Ops.sb (F' := [(β1, .cells #[I 0, I 3] t_Span (0, 0))]) (Sb.skip rfl (Sb.skip rfl (Sb.skip rfl Sb.refl))) ?_
 refine qm rfl rfl rfl <| oq (y_extract rfl rfl rfl) rfl wn rfl rfl <| oq (y_extract rfl rfl rfl) rfl wn rfl rfl <| oq (y_extract rfl rfl rfl) rfl wn rfl rfl <| qs rfl rfl rfl <| qs rfl rfl rfl <| qs rfl rfl rfl <| nn <| W.seq ?_
 refine W.region rfl ?_
 refine c0 (fun h' hE hL => plant_fn _ h' _ _) (fun v A' hv => ?_)
 obtain ⟨b1, b2, rfl, hsb⟩ := hv
 refine Ops.sb (hsb.app .refl) ?_
 refine Ops.freeze (b := b1) rfl (fun h1 hE1 hb1 hz1 => ?_)
 refine Ops.freeze (b := b2) rfl (fun h2 hE2 hb2 hz2 => ?_)
 have hE12 := hE1.trans hE2
 refine c0 (fun h' hE hL => Best_fn _ hS hmb h' (exF 1) (exS 6) (.slice (some ⟨b1, 0, none⟩) 2 2) (.slice (some ⟨b2, 0, none⟩) 4 4) Eg zg (exSl ((hE2.trans hE).1 _ _ hb1) rfl) (exSl (hE.1 _ _ hb2) rfl) ((exZ hz1).ext (hE2.trans hE)) ((exZ hz2).ext hE) ((hE12.trans hE).1 _ _ hg) ((hE12.trans hE).2 _ z0)) (fun v A' hv => ?_)
 rw [ex3] at hv
 obtain ⟨u, S, rfl, hO, hsb⟩ := hv
 obtain ⟨ua, uc, rfl⟩ := hO.isSl
 refine Ops.sb (hsb.app .refl) ?_
 refine qm rfl rfl rfl <| oq (y_extract rfl rfl rfl) rfl wn rfl rfl <| oq (y_extract rfl rfl rfl) rfl wn rfl rfl <| oq (y_extract rfl rfl rfl) rfl wn rfl rfl <| qs rfl rfl rfl <| qs rfl rfl rfl <| qs rfl rfl rfl <| nn <| W.seq ?_
 refine W.region rfl ?_
 refine c0 (fun h' hE hL => plant_fn _ h' _ _) (fun v A' hv => ?_)
 obtain ⟨b1, b2, rfl, hsb⟩ := hv
 refine Ops.sb (hsb.app .refl) ?_
 refine Ops.freeze (b := b1) rfl (fun h1 hE1 hb1 hz1 => ?_)
 refine Ops.freeze (b := b2) rfl (fun h2 hE2 hb2 hz2 => ?_)
 have hE12 := hE1.trans hE2
 refine cp (u := .tuple #[I 4, I 0]) (fun h' hE hL => ?_) ?_
 ·have := Count_fn main hS hmb h' (exF 1) (exS 4) (.slice (some ⟨b1, 0, none⟩) 2 2) (.slice (some ⟨b2, 0, none⟩) 4 4) Eg zg (exSl ((hE2.trans hE).1 _ _ hb1) rfl) (exSl (hE.1 _ _ hb2) rfl) ((exZ hz1).ext (hE2.trans hE)) ((exZ hz2).ext hE) ((hE12.trans hE).1 _ _ hg) ((hE12.trans hE).2 _ z0)
  rw [ex4] at this
  exact this
 refine qm rfl rfl rfl <| oq (y_extract rfl rfl rfl) rfl wn rfl rfl <| oq (y_extract rfl rfl rfl) rfl wn rfl rfl <| qs rfl rfl rfl <| qs rfl rfl rfl <| nn <| W.seq <| W.region rfl ?_
 refine c0 (fun h' hE hL => plant_fn _ h' _ _) (fun v A' hv => ?_)
 obtain ⟨b1, b2, rfl, hsb⟩ := hv
 refine Ops.sb (hsb.app .refl) ?_
 refine cp (u := .tuple #[I 2, I 0]) (fun h' hE hL => ?_) ?_
 ·have := Late_fn main h' (exF 0) (exS 6) (.slice (some ⟨b1, 0, none⟩) 2 2) (.slice (some ⟨b2, 0, none⟩) 4 4) Eg zg (exSl (hL b1 _ (.head _)) rfl) (exSl (hL b2 _ (.tail _ (.head _))) rfl) (hE.1 _ _ hg)
  rw [ex5c, ex5] at this
  exact this
 refine Ops.sb (F' := S ++ [(β1, .cells #[I 0, I 3] t_Span (0, 0))]) (Sb.skip rfl (Sb.skip rfl Sb.refl)) ?_
 refine qm rfl rfl rfl <| oq (y_extract rfl rfl rfl) rfl wn rfl rfl <| oq (y_extract rfl rfl rfl) rfl wn rfl rfl <| qs rfl rfl rfl <| qs rfl rfl rfl <| nn <| W.seq <| W.region rfl ?_
 refine c0 (fun h' hE hL => plant_fn _ h' _ _) (fun v A' hv => ?_)
 obtain ⟨b1, b2, rfl, hsb⟩ := hv
 refine Ops.sb (hsb.app .refl) ?_
 refine cp (u := .tuple #[I 1, I 0]) (fun h' hE hL => ?_) ?_
 ·have := Patience_fn main h' (exF 1) (exS 4) (.slice (some ⟨b1, 0, none⟩) 2 2) (.slice (some ⟨b2, 0, none⟩) 4 4) Eg zg (exSl (hL b1 _ (.head _)) rfl) (exSl (hL b2 _ (.tail _ (.head _))) rfl) (hE.1 _ _ hg)
  rw [ex6] at this
  exact this
 refine Ops.sb (F' := (β1, .cells #[I 0, I 3] t_Span (0, 0)) :: S) (Sb.skip rfl (Sb.skip rfl (.of_perm (List.perm_append_singleton _ _).symm))) ?_
 refine qm rfl rfl rfl <| oq (y_extract rfl rfl rfl) rfl wn rfl rfl <| oq (y_extract rfl rfl rfl) rfl wn rfl rfl <| qs rfl rfl rfl <| qs rfl rfl rfl <| nn <| W.seq <| W.region rfl <| qm rfl rfl rfl ?_
 refine o1 ((y_eql rfl rfl rfl).eq (u := .bool true) rfl) rfl ?_
 refine qm rfl rfl rfl ?_
 refine oq (y_move rfl rfl) rfl (want_some rfl rfl rfl) rfl rfl ?_
 refine oq ((y_eql rfl rfl rfl).eq (u := .bool true) rfl) rfl (want_some rfl rfl rfl) rfl rfl ?_
 refine o1 (y_pickT rfl rfl rfl) rfl ?_
 refine qm rfl rfl rfl ?_
 refine oq (y_move rfl rfl) rfl (want_some rfl rfl rfl) rfl rfl ?_
 refine oq ((y_eql rfl rfl rfl).eq (u := .bool true) rfl) rfl (want_some rfl rfl rfl) rfl rfl ?_
 refine o1 (y_pickT rfl rfl rfl) rfl ?_
 refine qm rfl rfl rfl ?_
 refine oq (y_move rfl rfl) rfl (want_some rfl rfl rfl) rfl rfl ?_
 refine oq ((y_eql rfl rfl rfl).eq (u := .bool true) rfl) rfl (want_some rfl rfl rfl) rfl rfl ?_
 refine o1 (y_pickT rfl rfl rfl) rfl ?_
 refine qm rfl rfl rfl ?_
 refine oq (y_move rfl rfl) rfl (want_some rfl rfl rfl) rfl rfl ?_
 refine oq ((y_eql rfl rfl rfl).eq (u := .bool true) rfl) rfl (want_some rfl rfl rfl) rfl rfl ?_
 refine o1 (y_pickT rfl rfl rfl) rfl ?_
 refine qm rfl rfl rfl ?_
 refine oq (y_move rfl rfl) rfl (want_some rfl rfl rfl) rfl rfl ?_
 refine oq ((y_eql rfl rfl rfl).eq (u := .bool true) rfl) rfl (want_some rfl rfl rfl) rfl rfl ?_
 refine o1 (y_pickT rfl rfl rfl) rfl ?_
 refine qm rfl rfl rfl ?_
 refine oq (yldA (vs := #[I 0, I 3]) rfl rfl) rfl (want_some rfl rfl rfl) rfl rfl ?_
 refine oq (y_build (cs := #[I 0, I 3]) rfl rfl rfl) rfl (want_some rfl rfl rfl) rfl rfl ?_
 refine oq (Yv.eq (u := .bool true) (y_eqA [0, 3] [0, 3] rfl rfl rfl rfl rfl rfl rfl) rfl) rfl (want_some rfl rfl rfl) rfl rfl ?_
 refine o1 (y_pickT rfl rfl rfl) rfl ?_
 refine qm rfl rfl rfl ?_
 refine oq (y_move rfl rfl) rfl (want_some rfl rfl rfl) rfl rfl ?_
 refine oq ((y_eql rfl rfl rfl).eq (u := .bool true) rfl) rfl (want_some rfl rfl rfl) rfl rfl ?_
 refine o1 (y_pickT rfl rfl rfl) rfl ?_
 refine qm rfl rfl rfl ?_
 refine oq (y_move rfl rfl) rfl (want_some rfl rfl rfl) rfl rfl ?_
 refine oq ((y_eql rfl rfl rfl).eq (u := .bool true) rfl) rfl (want_some rfl rfl rfl) rfl rfl ?_
 refine o1 (y_pickT rfl rfl rfl) rfl ?_
 refine qm rfl rfl rfl ?_
 refine oq (y_move rfl rfl) rfl (want_some rfl rfl rfl) rfl rfl ?_
 refine oq ((y_eql rfl rfl rfl).eq (u := .bool true) rfl) rfl (want_some rfl rfl rfl) rfl rfl ?_
 refine o1 (y_pickT rfl rfl rfl) rfl ?_
 refine qm rfl rfl rfl ?_
 refine oq (y_move rfl rfl) rfl (want_some rfl rfl rfl) rfl rfl ?_
 refine oq ((y_eql rfl rfl rfl).eq (u := .bool true) rfl) rfl (want_some rfl rfl rfl) rfl rfl ?_
 refine o1 (y_pickT rfl rfl rfl) rfl ?_
 refine qm rfl rfl rfl ?_
 refine oq (y_move rfl rfl) rfl (want_some rfl rfl rfl) rfl rfl ?_
 refine oq ((y_eql rfl rfl rfl).eq (u := .bool true) rfl) rfl (want_some rfl rfl rfl) rfl rfl ?_
 refine o1 (y_pickT rfl rfl rfl) rfl ?_
 refine qm rfl rfl rfl ?_
 refine oq (y_move rfl rfl) rfl (want_some rfl rfl rfl) rfl rfl ?_
 refine oq ((y_eql rfl rfl rfl).eq (u := .bool true) rfl) rfl (want_some rfl rfl rfl) rfl rfl ?_
 refine o1 (y_pickT rfl rfl rfl) rfl ?_
 refine qm rfl rfl rfl ?_
 refine oq (y_move rfl rfl) rfl (want_some rfl rfl rfl) rfl rfl ?_
 refine c0 (fun h' hE hL => plan_fn _ h') (fun v A' hv => ?_) (hw := want_some rfl rfl rfl)
 obtain ⟨b3, rfl, rfl⟩ := hv
 refine cp (u := .bool true) (fun h' hE hL => ?_) ?_ (hw := want_some rfl rfl rfl)
 ·exact EqBerths_fn main h' exP exP _ _ (hO.sl fun b o hb => hL b o (.tail _ (.tail _ hb))) (exSl (hL b3 _ (.head _)) rfl) (by decide)
 refine o1 (y_pickT rfl rfl rfl) rfl ?_
 refine qs rfl rfl rfl <| nn <| W.ret ?_
 exact lvp (hs := .cons rfl (.cons rfl hO.shut)) rfl
end Go.Mus

/- What stands on a floor, as a sum; when a floor is cold. Conditions: none. -/
namespace Go.Mus
theorem wadd_small {a b : Int} (h0 : 0 ≤ a) (h1 : a ≤ 100000) (h2 : 0 ≤ b) (h3 : b ≤ 100000) : wadd a b = a + b := wrap_id (by omega) (by omega)
/-- The sum over the first k. -/
def sumK (g : Nat → Int) : Nat → Int
 | 0 => 0
 | k + 1 => sumK g k + g k
theorem sumK_le {g g' : Nat → Int} : ∀ {k : Nat}, (∀ i, i < k → g i ≤ g' i) → sumK g k ≤ sumK g' k
 | 0, _ => Int.le_refl _
 | k + 1, h => by
  have h1 := sumK_le (k := k) fun i hi => h i (by omega)
  have h2 := h k (by omega)
  simp only [sumK]; omega
theorem sumK_congr {g g' : Nat → Int} : ∀ {k : Nat}, (∀ i, i < k → g i = g' i) → sumK g k = sumK g' k
 | 0, _ => rfl
 | k + 1, h => by
  have h1 := sumK_congr (k := k) fun i hi => h i (by omega)
  have h2 := h k (by omega)
  simp only [sumK]; omega
theorem sumK_0 : ∀ {k : Nat}, sumK (fun _ => 0) k = 0
 | 0 => rfl
 | k + 1 => by simp [sumK, sumK_0 (k := k)]
theorem sumK_nn {g : Nat → Int} {k : Nat} (h : ∀ i, i < k → 0 ≤ g i) : 0 ≤ sumK g k := by
 have := sumK_le (g := fun _ => 0) (g' := g) (k := k) h
 rwa [sumK_0] at this

/-- Whether a strike may still, and whether it surely does, stand on a floor on a day. -/
def hiG (fs : List Fl) (ss : List St) (p : List Be) (f d : Int) (i : Nat) : Int := if (beAt p i).fl = f ∧ (beAt p i).day ≤ d ∧ d < (beAt p i).day + (flAt fs f).hi then (stAt ss i).co else 0
def loG (fs : List Fl) (ss : List St) (p : List Be) (f d : Int) (i : Nat) : Int := if (beAt p i).fl = f ∧ (beAt p i).day ≤ d ∧ d < (beAt p i).day + (flAt fs f).lo then (stAt ss i).co else 0
def hiAt (fs : List Fl) (ss : List St) (p : List Be) (f d : Int) : Int := sumK (hiG fs ss p f d) 4
def loAt (fs : List Fl) (ss : List St) (p : List Be) (f d : Int) : Int := sumK (loG fs ss p f d) 4

theorem bump_at {d : List Sp} {i j : Nat} {b : Bool} {co : Int} {s : Sp} (h : d[j]? = some s) : (bump d i b co)[j]? = some (if i = j then ⟨if b then wadd s.lo co else s.lo, wadd s.hi co⟩ else s) := by
 by_cases e : i = j
 ·subst e
  have hlt : i < d.length := by
   rcases Nat.lt_or_ge i d.length with h' | h'
   ·exact h'
   ·rw [List.getElem?_eq_none h'] at h; cases h
  simp only [bump, h, if_true, List.getElem?_set_self hlt]
 ·rw [if_neg e]
  unfold bump
  split
  ·rw [List.getElem?_set_ne e, h]
  ·exact h
theorem addSt_at {day lo co : Int} (hday : 0 ≤ day) (hc : 0 ≤ co ∧ co ≤ 1000) {j : Nat} (hj : j < 22) : ∀ (m n : Nat) (D : List Sp) (s : Sp), D[j]? = some s → (day + n ≤ j → 0 ≤ s.lo ∧ s.lo ≤ 90000 ∧ 0 ≤ s.hi ∧ s.hi ≤ 90000) →
  (addSt day lo co m n D)[j]? = some (if day + n ≤ j ∧ (j : Int) < day + n + m then ⟨if (j : Int) < day + lo then s.lo + co else s.lo, s.hi + co⟩ else s)
 | 0, n, D, s, h, _ => by
  rw [addSt, h, if_neg (by omega)]
 | m + 1, n, D, s, h, hs => by
  rw [addSt]
  split
  ·rw [h, if_neg (by omega)]
  ·rename_i h21
   have hb := bump_at (i := (day + n).toNat) (b := decide ((n : Int) < lo)) (co := co) h
   have ih := addSt_at (lo := lo) hday hc hj m (n + 1) _ _ hb (fun hle => by rw [if_neg (by omega)]; exact hs (by omega))
   rw [ih]
   by_cases e : (day + n).toNat = j
   ·have e' : day + n = j := by omega
    obtain ⟨q1, q2, q3, q4⟩ := hs (by omega)
    have c1 : ¬ (day + ((n + 1 : Nat) : Int) ≤ j ∧ (j : Int) < day + ((n + 1 : Nat) : Int) + (m : Nat)) := by omega
    have c2 : day + (n : Int) ≤ j ∧ (j : Int) < day + (n : Int) + ((m + 1 : Nat) : Int) := by omega
    rw [if_pos e, if_neg c1, if_pos c2, wadd_small q1 (by omega) hc.1 (by omega), wadd_small q3 (by omega) hc.1 (by omega)]
    by_cases hl : (n : Int) < lo
    ·rw [if_pos (show decide ((n : Int) < lo) = true by simpa using hl), if_pos (show (j : Int) < day + lo by omega)]
    ·rw [if_neg (show ¬ decide ((n : Int) < lo) = true by simpa using hl), if_neg (show ¬ (j : Int) < day + lo by omega)]
   ·rw [if_neg e]
    by_cases hc2 : day + n ≤ j ∧ (j : Int) < day + n + ((m + 1 : Nat) : Int)
    ·rw [if_pos (show day + ((n + 1 : Nat) : Int) ≤ j ∧ (j : Int) < day + ((n + 1 : Nat) : Int) + (m : Nat) by omega), if_pos hc2]
    ·rw [if_neg (show ¬ (day + ((n + 1 : Nat) : Int) ≤ j ∧ (j : Int) < day + ((n + 1 : Nat) : Int) + (m : Nat)) by omega), if_neg hc2]

theorem perm_sum {α : Type} (g : α → Int) {l l' : List α} (h : l.Perm l') : (l.map g).sum = (l'.map g).sum := by
 induction h with
 | nil => rfl
 | cons x _ ih => simp only [List.map_cons, List.sum_cons, ih]
 | swap x y l => simp only [List.map_cons, List.sum_cons]; omega
 | trans _ _ ih1 ih2 => exact ih1.trans ih2
theorem onFk_sum {p : List Be} {f : Int} {g : Int → Int} : ∀ (k : Nat), ((onFk p f k).map g).sum = sumK (fun i => if (beAt p i).fl = f then g i else 0) k
 | 0 => rfl
 | k + 1 => by
  simp only [onFk, sumK]
  by_cases h : (beAt p k).fl = f
  ·rw [if_pos h, if_pos h, List.map_append, List.sum_append, onFk_sum k]; simp
  ·rw [if_neg h, if_neg h, onFk_sum k]; simp
theorem co_ok {fs : List Fl} {ss : List St} (hall : HallOK fs ss) (i : Nat) : 0 ≤ (stAt ss i).co ∧ (stAt ss i).co ≤ 6 := by
 simp only [stAt, List.getD]
 cases h : ss[i]? with
 | none => simp
 | some s => have := hall.st s (List.mem_of_getElem? h); simp; omega
theorem beAt_day {p : List Be} (hp : PlOK p) (i : Nat) : 0 ≤ (beAt p i).day ∧ (beAt p i).day ≤ 17 := by
 rcases Nat.lt_or_ge i 4 with h | h
 ·have := (beAt_some hp h).2; omega
 ·simp [beAt, List.getD, List.getElem?_eq_none (show p.length ≤ i by have := hp.len; omega), bnone]
theorem fl_ok {fs : List Fl} {ss : List St} (hall : HallOK fs ss) {f : Int} (h0 : 0 ≤ f) (h1 : f < fs.length) : 1 ≤ (flAt fs f).pl ∧ (flAt fs f).pl ≤ 9 ∧ 1 ≤ (flAt fs f).lo ∧ (flAt fs f).lo ≤ (flAt fs f).hi ∧ (flAt fs f).hi ≤ 6 ∧ 0 ≤ (flAt fs f).co ∧ (flAt fs f).co ≤ 9 := by
 obtain ⟨x, hx, -⟩ := has (show f.toNat < fs.length by omega)
 have : flAt fs f = x := by simp [flAt, List.getD, hx]
 rw [this]
 exact hall.fl x (List.mem_of_getElem? hx)

/-- ████ WHAT STANDS, as a sum. -/
theorem standsD_at {fs : List Fl} {ss : List St} {p : List Be} {f : Int} (hall : HallOK fs ss) (hp : PlOK p) (h0 : 0 ≤ f) (h1 : f < fs.length) {j : Nat} (hj : j < 22) : (standsD fs ss p f)[j]? = some ⟨loAt fs ss p f j, hiAt fs ss p f j⟩ := by
 have hfl := fl_ok hall h0 h1
 have key : ∀ (l : List Int) (D : List Sp) (s : Sp), D[j]? = some s → 0 ≤ s.lo → 0 ≤ s.hi → s.lo + 6 * l.length ≤ 9000 → s.hi + 6 * l.length ≤ 9000 →
   (l.foldl (fun d i => addSt (dayOf p i) (flAt fs f).lo (coOf ss i) (flAt fs f).hi.toNat 0 d) D)[j]? = some ⟨s.lo + (l.map fun i => if dayOf p i ≤ j ∧ (j : Int) < dayOf p i + (flAt fs f).lo then coOf ss i else 0).sum, s.hi + (l.map fun i => if dayOf p i ≤ j ∧ (j : Int) < dayOf p i + (flAt fs f).hi then coOf ss i else 0).sum⟩ := by
  intro l
  induction l with
  | nil => intro D s h _ _ _ _; simpa using h
  | cons i l ih =>
   intro D s h q1 q2 q3 q4
   have hco := co_ok hall i.toNat
   have hday := (beAt_day hp i.toNat).1
   have ha := addSt_at (day := dayOf p i) (lo := (flAt fs f).lo) (co := coOf ss i) hday (by have : coOf ss i = (stAt ss i.toNat).co := rfl; omega) hj (flAt fs f).hi.toNat 0 D s h (fun _ => by simp only [List.length_cons] at q3 q4; omega)
   have hcoe : coOf ss i = (stAt ss i.toNat).co := rfl
   simp only [List.length_cons] at q3 q4
   rw [List.foldl_cons]
   by_cases hc : dayOf p i + ((0 : Nat) : Int) ≤ j ∧ (j : Int) < dayOf p i + ((0 : Nat) : Int) + (flAt fs f).hi.toNat
   ·rw [if_pos hc] at ha
    by_cases hl : (j : Int) < dayOf p i + (flAt fs f).lo
    ·rw [if_pos hl] at ha
     rw [ih _ _ ha (by simp only; omega) (by simp only; omega) (by simp only; omega) (by simp only; omega)]
     simp only [List.map_cons, List.sum_cons]
     rw [if_pos (show dayOf p i ≤ j ∧ (j : Int) < dayOf p i + (flAt fs f).lo by omega), if_pos (show dayOf p i ≤ j ∧ (j : Int) < dayOf p i + (flAt fs f).hi by omega), Int.add_assoc, Int.add_assoc]
    ·rw [if_neg hl] at ha
     rw [ih _ _ ha (by simp only; omega) (by simp only; omega) (by simp only; omega) (by simp only; omega)]
     simp only [List.map_cons, List.sum_cons]
     rw [if_neg (show ¬ (dayOf p i ≤ j ∧ (j : Int) < dayOf p i + (flAt fs f).lo) by omega), if_pos (show dayOf p i ≤ j ∧ (j : Int) < dayOf p i + (flAt fs f).hi by omega), Int.add_assoc, Int.zero_add]
   ·rw [if_neg hc] at ha
    rw [ih _ _ ha q1 q2 (by omega) (by omega)]
    simp only [List.map_cons, List.sum_cons]
    rw [if_neg (show ¬ (dayOf p i ≤ j ∧ (j : Int) < dayOf p i + (flAt fs f).lo) by omega), if_neg (show ¬ (dayOf p i ≤ j ∧ (j : Int) < dayOf p i + (flAt fs f).hi) by omega), Int.zero_add, Int.zero_add]
 have h00 : days0[j]? = some ⟨0, 0⟩ := by
  simp only [days0, List.getElem?_replicate, hj, if_true]
 have hlen := setL_len (p := p) (f := f)
 have := key (setL p f) days0 ⟨0, 0⟩ h00 (Int.le_refl _) (Int.le_refl _) (by simp only; omega) (by simp only; omega)
 rw [standsD, this]
 have e : ∀ g : Int → Int, ((setL p f).map g).sum = sumK (fun i => if (beAt p i).fl = f then g i else 0) 4 := fun g => by
  rw [setL, perm_sum g (isort_perm _ _), onFk_sum]
 rw [e, e]
 simp only [Int.zero_add, loAt, hiAt]
 congr 2
 ·refine sumK_congr fun i _ => ?_
  simp only [loG, dayOf, coOf, Int.toNat_natCast, stAt]
  by_cases h1 : (beAt p i).fl = f <;> simp [h1]
 ·refine sumK_congr fun i _ => ?_
  simp only [hiG, dayOf, coOf, Int.toNat_natCast, stAt]
  by_cases h1 : (beAt p i).fl = f <;> simp [h1]

/-! The first day that is too full -/
theorem fullF_none {pl : Int} : ∀ {D : List Sp} {k : Nat}, fullF pl D k = none ↔ ∀ (i : Nat) (s : Sp), D[i]? = some s → s.hi ≤ pl
 | [], k => by simp [fullF]
 | s :: D, k => by
  rw [fullF]
  split
  ·rename_i h
   constructor
   ·intro h'; cases h'
   ·intro h'; have := h' 0 s rfl; omega
  ·rename_i h
   rw [fullF_none (D := D) (k := k + 1)]
   constructor
   ·intro h' i t ht
    cases i with
    | zero => simp at ht; subst ht; omega
    | succ i => exact h' i t (by simpa using ht)
   ·intro h' i t ht; exact h' (i + 1) t (by simpa using ht)
theorem fullF_some {pl : Int} : ∀ {D : List Sp} {k : Nat} {q : Bool × Int}, fullF pl D k = some q → q.1 = false ∧ ∃ (i : Nat) (s : Sp), q.2 = ((k + i : Nat) : Int) ∧ D[i]? = some s ∧ pl < s.hi ∧ ∀ (i' : Nat) (s' : Sp), i' < i → D[i']? = some s' → s'.hi ≤ pl
 | [], k, q, h => by cases h
 | s :: D, k, q, h => by
  rw [fullF] at h
  split at h
  ·rename_i h1
   cases h
   exact ⟨rfl, 0, s, rfl, rfl, h1, fun i' s' hi => by omega⟩
  ·rename_i h1
   obtain ⟨h2, i, t, h3, h4, h5, h6⟩ := fullF_some h
   refine ⟨h2, i + 1, t, by rw [h3]; congr 1; omega, by simpa using h4, h5, fun i' s' hi hs => ?_⟩
   cases i' with
   | zero => simp at hs; subst hs; omega
   | succ i' => exact h6 i' s' (by omega) (by simpa using hs)
theorem over_iff {pl : Int} : ∀ {D : List Sp}, over pl D = true ↔ ∃ (i : Nat) (s : Sp), D[i]? = some s ∧ pl < s.hi
 | [] => by simp [over]
 | s :: D => by
  rw [over]
  split
  ·rename_i h
   exact ⟨fun _ => ⟨0, s, rfl, h⟩, fun _ => rfl⟩
  ·rename_i h
   rw [over_iff (D := D)]
   constructor
   ·rintro ⟨i, t, h1, h2⟩; exact ⟨i + 1, t, by simpa using h1, h2⟩
   ·rintro ⟨i, t, h1, h2⟩
    cases i with
    | zero => simp at h1; subst h1; exact absurd h2 h
    | succ i => exact ⟨i, t, by simpa using h1, h2⟩

/-! Sorted -/
abbrev Srt (key : Int → Int) (l : List Int) : Prop := l.Pairwise fun a b => key a ≤ key b
theorem sink_srt {key : Int → Int} : ∀ (j : Nat) (A C : List Int) (x : Int), A.length = j → Srt key A → ∃ R, sink key j (A ++ x :: C) = R ++ C ∧ R.length = j + 1 ∧ Srt key R ∧ R.Perm (x :: A)
 | 0, A, C, x, h, _ => by
  have : A = [] := List.length_eq_zero_iff.1 h
  subst this
  exact ⟨[x], rfl, rfl, List.pairwise_singleton _ _, .refl _⟩
 | j + 1, A, C, x, h, hs => by
  obtain ⟨A', a, rfl⟩ : ∃ A' a, A = A' ++ [a] := ⟨A.dropLast, A.getLast (by intro e; subst e; simp at h), (List.dropLast_concat_getLast _).symm⟩
  have hl : A'.length = j := by simpa using h
  have ha : (A' ++ [a] ++ x :: C)[j]? = some a := by simp [← hl]
  have hx : (A' ++ [a] ++ x :: C)[j + 1]? = some x := by simp [← hl]
  rw [Srt, List.pairwise_append] at hs
  rw [sink]
  simp only [ha, hx]
  split
  ·rename_i hk
   have e : swp (A' ++ [a] ++ x :: C) j a x = A' ++ x :: a :: C := by
    simp [swp, ← hl, List.set_append]
   rw [e]
   obtain ⟨R, h1, h2, h3, h4⟩ := sink_srt j A' (a :: C) x hl hs.1
   refine ⟨R ++ [a], by rw [h1]; simp, by simp [h2], ?_, ?_⟩
   ·rw [Srt, List.pairwise_append]
    refine ⟨h3, List.pairwise_singleton _ _, fun b hb c hc => ?_⟩
    have hc' : c = a := by simpa using hc
    subst hc'
    rcases List.mem_cons.1 (h4.subset hb) with rfl | hb
    ·omega
    ·exact hs.2.2 b hb c (by simp)
   ·exact (h4.append_right [a])
  ·rename_i hk
   refine ⟨A' ++ [a, x], by simp, by simp [hl], ?_, ?_⟩
   ·rw [Srt, List.pairwise_append]
    refine ⟨hs.1, by simp; omega, fun b hb c hc => ?_⟩
    have hba := hs.2.2 b hb a (by simp)
    rcases List.mem_cons.1 hc with rfl | hc
    ·exact hba
    ·have : c = x := by simpa using hc
     subst this; omega
   ·have : (A' ++ [a, x]) = (A' ++ [a]) ++ [x] := by simp
    rw [this]
    exact List.perm_append_comm
theorem isortN_srt {key : Int → Int} {l : List Int} : ∀ i, i < l.length → ∃ R, isortN key l i = R ++ l.drop (i + 1) ∧ R.length = i + 1 ∧ Srt key R
 | 0, h => by
  obtain ⟨x, hx, hd⟩ := has h
  exact ⟨[x], by rw [isortN]; simpa using hd, rfl, List.pairwise_singleton _ _⟩
 | i + 1, h => by
  obtain ⟨R, h1, h2, h3⟩ := isortN_srt (key := key) (l := l) i (by omega)
  obtain ⟨x, hx, hd⟩ := has h
  rw [isortN, h1, hd]
  obtain ⟨R', h4, h5, h6, -⟩ := sink_srt (key := key) (i + 1) R (l.drop (i + 2)) x h2 h3
  exact ⟨R', h4, h5, h6⟩
theorem isort_srt {key : Int → Int} {l : List Int} : Srt key (isort key l) := by
 rcases Nat.eq_zero_or_pos l.length with h | h
 ·have : l = [] := List.length_eq_zero_iff.1 h
  subst this; exact .nil
 ·obtain ⟨R, h1, h2, h3⟩ := isortN_srt (key := key) (l.length - 1) (show l.length - 1 < l.length by omega)
  rw [isort, h1, List.drop_eq_nil_of_le (by omega), List.append_nil]
  exact h3

/-! When a floor is cold -/
/-- The first cold day, of days in order. -/
def coldL (co lo : Int) : List Int → Int → Option Int
 | [], _ => none
 | d :: r, u => if 0 ≤ u ∧ u + co < d then some (u + co) else coldL co lo r (max u (d + lo))
/-- The earlier one. -/
def merge (fd : Fault) (c : Option Int) : Fault := match c with
 | none => fd
 | some n => if early n fd = true then some (true, n) else fd
theorem coldL_ge {co lo : Int} (hlo : 0 ≤ lo) : ∀ {l : List Int} {u n : Int}, coldL co lo l u = some n → u + co ≤ n
 | [], _, _, h => by cases h
 | d :: r, u, n, h => by
  rw [coldL] at h
  split at h
  ·cases h; exact Int.le_refl _
  ·have := coldL_ge hlo h; omega
theorem lookS_fold {co lo : Int} (hlo : 1 ≤ lo ∧ lo ≤ 6) (hco : 0 ≤ co ∧ co ≤ 9) : ∀ (ds : List Int) (fd : Fault) (u : Int), -1 ≤ u → u ≤ 100 → (∀ d ∈ ds, 0 ≤ d ∧ d ≤ 17) → (ds.foldl (fun s d => lookS co lo d s) (fd, u)).1 = merge fd (coldL co lo ds u)
 | [], fd, u, _, _, _ => rfl
 | d :: r, fd, u, h1, h2, hd => by
  have hd0 := hd d (List.mem_cons_self ..)
  have ew : wadd u co = u + co := wrap_id (by omega) (by omega)
  have hm : max u (d + lo) ≤ 100 ∧ -1 ≤ max u (d + lo) := by omega
  rw [List.foldl_cons, lookS, lookS_fold hlo hco r _ _ hm.2 hm.1 (fun x hx => hd x (List.mem_cons_of_mem _ hx)), ew, coldL]
  simp only
  by_cases hc : 0 ≤ u ∧ u + co < d
  ·rw [if_pos hc]
   have hge : ∀ n, coldL co lo r (max u (d + lo)) = some n → u + co < n := fun n hn => by
    have := coldL_ge (by omega) hn; omega
   have hmm : ∀ fd', (fd' = some (true, u + co) ∨ early (u + co) fd' = false) → merge fd' (coldL co lo r (max u (d + lo))) = fd' := by
    intro fd' hf
    cases hn : coldL co lo r (max u (d + lo)) with
    | none => rfl
    | some n =>
     have := hge n hn
     simp only [merge]
     rw [if_neg]
     rcases hf with rfl | hf
     ·simp [early]; omega
     ·cases fd' with
      | none => simp [early] at hf
      | some q => simp [early] at hf ⊢; omega
   by_cases he : early (u + co) fd = true
   ·rw [if_pos ⟨hc.1, hc.2, he⟩, hmm _ (.inl rfl)]
    simp [merge, he]
   ·rw [if_neg (fun h => he h.2.2), hmm _ (.inr (by simpa using he))]
    simp [merge, he]
  ·rw [if_neg (fun h => hc ⟨h.1, h.2.1⟩), if_neg hc]
theorem merge_none {fd : Fault} {c : Option Int} : merge fd c = none ↔ fd = none ∧ c = none := by
 cases c with
 | none => simp [merge]
 | some n =>
  simp only [merge]
  constructor
  ·intro h
   split at h
   ·cases h
   ·rename_i h1; subst h; simp [early] at h1
  ·rintro ⟨_, h⟩; cases h
/-- .. from the earliest time at which the one before is gone. -/
theorem coldL_srt {co lo : Int} (hlo : 1 ≤ lo) : ∀ {ds : List Int} {e : Int}, 0 ≤ e → (∀ d ∈ ds, e ≤ d) → ds.Pairwise (· ≤ ·) →
  (∀ n, coldL co lo ds (e + lo) = some n → ∃ a, (a = e ∨ a ∈ ds) ∧ n = a + lo + co ∧ (∃ b ∈ ds, n < b) ∧ ∀ b ∈ ds, b ≤ a ∨ n < b) ∧
  (coldL co lo ds (e + lo) = none → ∀ a, (a = e ∨ a ∈ ds) → ∀ b ∈ ds, a + lo + co < b → ∃ c ∈ ds, a < c ∧ c ≤ a + lo + co) ∧
  (∀ n, coldL co lo ds (e + lo) = some n → ∀ a, (a = e ∨ a ∈ ds) → a + lo + co < n → ∀ b ∈ ds, a + lo + co < b → ∃ c ∈ ds, a < c ∧ c ≤ a + lo + co)
 | [], e, _, _, _ => ⟨fun n h => (by cases h), fun _ a _ b hb => (by simp at hb), fun n h => (by cases h)⟩
 | d :: r, e, h0, hge, hs => by
  have hd := hge d (List.mem_cons_self ..)
  rw [List.pairwise_cons] at hs
  have hm : max (e + lo) (d + lo) = d + lo := by omega
  have he0 : 0 ≤ e + lo := by omega
  rw [coldL, hm]
  by_cases hc : 0 ≤ e + lo ∧ e + lo + co < d
  ·rw [if_pos hc]
   refine ⟨fun n h => ?_, fun h => (by cases h), fun n h a ha hlt => ?_⟩
   ·cases h
    refine ⟨e, .inl rfl, rfl, ⟨d, List.mem_cons_self .., hc.2⟩, fun b hb => .inr ?_⟩
    rcases List.mem_cons.1 hb with rfl | hb
    ·exact hc.2
    ·have := hs.1 b hb; omega
   ·cases h
    rcases ha with rfl | ha
    ·omega
    ·have := hge a ha; omega
  ·rw [if_neg hc]
   have hne : ¬ e + lo + co < d := fun h => hc ⟨he0, h⟩
   obtain ⟨i1, i2, i3⟩ := coldL_srt (co := co) hlo (ds := r) (e := d) (by omega) hs.1 hs.2
   have step : (∀ a, (a = d ∨ a ∈ r) → ∀ b ∈ r, a + lo + co < b → ∃ c ∈ r, a < c ∧ c ≤ a + lo + co) → ∀ a, (a = e ∨ a ∈ d :: r) → ∀ b ∈ d :: r, a + lo + co < b → ∃ c ∈ d :: r, a < c ∧ c ≤ a + lo + co := by
    intro H a ha b hb hlt
    have hb' : b ∈ r ∨ b = d := (List.mem_cons.1 hb).symm
    rcases ha with rfl | ha
    ·-- the one before
     rcases hb' with hb' | rfl
     ·by_cases hde : a < d
      ·exact ⟨d, List.mem_cons_self .., hde, by omega⟩
      ·have : d = a := by omega
       subst this
       obtain ⟨c, hc1, hc2⟩ := H d (.inl rfl) b hb' hlt
       exact ⟨c, List.mem_cons_of_mem _ hc1, hc2⟩
     ·omega
    ·have ha' : a = d ∨ a ∈ r := List.mem_cons.1 ha
     rcases hb' with hb' | rfl
     ·obtain ⟨c, hc1, hc2⟩ := H a ha' b hb' hlt
      exact ⟨c, List.mem_cons_of_mem _ hc1, hc2⟩
     ·rcases ha' with rfl | ha'
      ·omega
      ·have := hs.1 a ha'; omega
   refine ⟨fun n h => ?_, fun h => step (i2 h), fun n h => ?_⟩
   ·obtain ⟨a, ha, hn, ⟨b, hb, hb2⟩, hall⟩ := i1 n h
    have had : d ≤ a := by
     rcases ha with rfl | ha
     ·exact Int.le_refl _
     ·exact hs.1 a ha
    refine ⟨a, .inr (by rcases ha with rfl | ha <;> simp [*]), hn, ⟨b, List.mem_cons_of_mem _ hb, hb2⟩, fun c hc => ?_⟩
    rcases List.mem_cons.1 hc with rfl | hc
    ·exact .inl had
    ·exact hall c hc
   ·intro a ha hlt b hb hlt2
    have hn := coldL_ge (by omega) h
    rcases ha with rfl | ha
    ·by_cases hde : a < d
     ·exact ⟨d, List.mem_cons_self .., hde, by omega⟩
     ·have hda : d = a := by omega
      subst hda
      rcases List.mem_cons.1 hb with rfl | hb
      ·omega
      ·obtain ⟨c, hc1, hc2⟩ := i3 n h d (.inl rfl) hlt b hb hlt2
       exact ⟨c, List.mem_cons_of_mem _ hc1, hc2⟩
    ·rcases List.mem_cons.1 ha with rfl | ha
     ·rcases List.mem_cons.1 hb with rfl | hb
      ·omega
      ·obtain ⟨c, hc1, hc2⟩ := i3 n h a (.inl rfl) hlt b hb hlt2
       exact ⟨c, List.mem_cons_of_mem _ hc1, hc2⟩
     ·have := hs.1 a ha
      rcases List.mem_cons.1 hb with rfl | hb
      ·omega
      ·obtain ⟨c, hc1, hc2⟩ := i3 n h a (.inr ha) hlt b hb hlt2
       exact ⟨c, List.mem_cons_of_mem _ hc1, hc2⟩
end Go.Mus

/- Which plans are wrong, where, and when; which plans a search finds. Conditions: none. -/
namespace Go.Mus
/-- A strike is set on a floor on a day. -/
def OnDay (p : List Be) (f a : Int) : Prop := ∃ i, i < 4 ∧ (beAt p i).fl = f ∧ (beAt p i).day = a
def Cold (fs : List Fl) (p : List Be) (f n : Int) : Prop := ∃ a, OnDay p f a ∧ n = a + (flAt fs f).lo + (flAt fs f).co ∧ (∃ b, OnDay p f b ∧ n < b) ∧ ∀ b, OnDay p f b → b ≤ a ∨ n < b
def Full (fs : List Fl) (ss : List St) (p : List Be) (f n : Int) : Prop := 0 ≤ n ∧ n < 22 ∧ (flAt fs f).pl < hiAt fs ss p f n
def Bad (fs : List Fl) (ss : List St) (p : List Be) (f n : Int) : Prop := Full fs ss p f n ∨ Cold fs p f n

theorem onFk_iff {p : List Be} {f : Int} : ∀ {k : Nat} {a : Int}, a ∈ onFk p f k ↔ ∃ i, i < k ∧ (beAt p i).fl = f ∧ a = (i : Int)
 | 0, a => by simp [onFk]
 | k + 1, a => by
  rw [onFk]
  split
  ·rename_i h
   rw [List.mem_append, onFk_iff (k := k)]
   constructor
   ·rintro (⟨i, h1, h2, h3⟩ | h1)
    ·exact ⟨i, by omega, h2, h3⟩
    ·exact ⟨k, by omega, h, by simpa using h1⟩
   ·rintro ⟨i, h1, h2, h3⟩
    by_cases e : i = k
    ·subst e; right; simpa using h3
    ·left; exact ⟨i, by omega, h2, h3⟩
  ·rename_i h
   rw [onFk_iff (k := k)]
   constructor
   ·rintro ⟨i, h1, h2, h3⟩; exact ⟨i, by omega, h2, h3⟩
   ·rintro ⟨i, h1, h2, h3⟩
    by_cases e : i = k
    ·subst e; exact absurd h2 h
    ·exact ⟨i, by omega, h2, h3⟩
theorem days_iff {p : List Be} {f a : Int} : a ∈ (setL p f).map (dayOf p) ↔ OnDay p f a := by
 simp only [List.mem_map, setL, (isort_perm _ _).mem_iff, onFk_iff, OnDay]
 constructor
 ·rintro ⟨x, ⟨i, h1, h2, rfl⟩, h3⟩; exact ⟨i, h1, h2, by simpa [dayOf] using h3⟩
 ·rintro ⟨i, h1, h2, h3⟩; exact ⟨i, ⟨i, h1, h2, rfl⟩, by simpa [dayOf] using h3⟩
theorem onDay_ge {p : List Be} {f a : Int} (hp : PlOK p) (h : OnDay p f a) : 0 ≤ a ∧ a ≤ 17 := by
 obtain ⟨i, _, _, rfl⟩ := h
 exact beAt_day hp i

theorem lookF_eq {fs : List Fl} {ss : List St} {p : List Be} {f : Int} (hall : HallOK fs ss) (hp : PlOK p) (h0 : 0 ≤ f) (h1 : f < fs.length) :
  ∃ c, lookF fs ss p f = merge (fullF (flAt fs f).pl (standsD fs ss p f) 0) c ∧ (∀ n, c = some n → Cold fs p f n ∧ ∀ n', n' < n → ¬ Cold fs p f n') ∧ (c = none → ∀ n, ¬ Cold fs p f n) := by
 have hfl := fl_ok hall h0 h1
 refine ⟨coldL (flAt fs f).co (flAt fs f).lo ((setL p f).map (dayOf p)) (-1), ?_, ?_⟩
 ·rw [← lookS_fold ⟨hfl.2.2.1, by omega⟩ ⟨hfl.2.2.2.2.2.1, hfl.2.2.2.2.2.2⟩ _ _ _ (Int.le_refl _) (by decide) (fun d hd => onDay_ge hp (days_iff.1 hd)), lookF, List.foldl_map]
 have hs : ((setL p f).map (dayOf p)).Pairwise (· ≤ ·) := by
  rw [List.pairwise_map]; exact isort_srt
 have hd : ∀ a, a ∈ (setL p f).map (dayOf p) ↔ OnDay p f a := fun a => days_iff
 cases hl : (setL p f).map (dayOf p) with
 | nil =>
  rw [hl] at hd
  refine ⟨fun n h => (by cases h), fun _ n hn => ?_⟩
  obtain ⟨a, ha, _⟩ := hn
  have := (hd a).2 ha
  cases this
 | cons d r =>
  rw [hl] at hs hd
  rw [List.pairwise_cons] at hs
  have hd0 := (onDay_ge hp ((hd d).1 (List.mem_cons_self ..))).1
  have e : coldL (flAt fs f).co (flAt fs f).lo (d :: r) (-1) = coldL (flAt fs f).co (flAt fs f).lo r (d + (flAt fs f).lo) := by
   rw [coldL, if_neg (by omega)]; congr 1; omega
  obtain ⟨i1, i2, i3⟩ := coldL_srt (co := (flAt fs f).co) hfl.2.2.1 (ds := r) (e := d) hd0 hs.1 hs.2
  have hm : ∀ a, (a = d ∨ a ∈ r) ↔ OnDay p f a := fun a => by rw [← hd]; exact List.mem_cons.symm
  have hr : ∀ a b, OnDay p f a → OnDay p f b → a < b → b ∈ r := fun a b ha hb hlt => by
   rcases (hm b).2 hb with rfl | h
   ·rcases (hm a).2 ha with rfl | h'
    ·omega
    ·have := hs.1 a h'; omega
   ·exact h
  rw [e]
  refine ⟨fun n h => ⟨?_, fun n' hn' hc => ?_⟩, fun h n hc => ?_⟩
  ·obtain ⟨a, ha, hn, ⟨b, hb, hb2⟩, hal⟩ := i1 n h
   refine ⟨a, (hm a).1 ha, hn, ⟨b, (hm b).1 (.inr hb), hb2⟩, fun c hc => ?_⟩
   rcases (hm c).2 hc with rfl | hc
   ·left
    rcases ha with rfl | ha
    ·exact Int.le_refl _
    ·exact hs.1 a ha
   ·exact hal c hc
  ·obtain ⟨a, ha, rfl, ⟨b, hb, hb2⟩, hal⟩ := hc
   obtain ⟨c, hc1, hc2, hc3⟩ := i3 n h a ((hm a).2 ha) hn' b (hr a b ha hb (by omega)) hb2
   have := hal c ((hm c).1 (.inr hc1)); omega
  ·obtain ⟨a, ha, rfl, ⟨b, hb, hb2⟩, hal⟩ := hc
   obtain ⟨c, hc1, hc2, hc3⟩ := i2 h a ((hm a).2 ha) b (hr a b ha hb (by omega)) hb2
   have := hal c ((hm c).1 (.inr hc1)); omega

theorem full_none {fs : List Fl} {ss : List St} {p : List Be} {f : Int} (hall : HallOK fs ss) (hp : PlOK p) (h0 : 0 ≤ f) (h1 : f < fs.length) : fullF (flAt fs f).pl (standsD fs ss p f) 0 = none ↔ ∀ n, ¬ Full fs ss p f n := by
 rw [fullF_none]
 constructor
 ·rintro h n ⟨n0, n1, n2⟩
  obtain ⟨j, rfl⟩ : ∃ j : Nat, n = j := ⟨n.toNat, by omega⟩
  have := h j _ (standsD_at hall hp h0 h1 (by omega))
  simp only at this; omega
 ·intro h i s hs
  have hi : i < 22 := by
   rcases Nat.lt_or_ge i 22 with h' | h'
   ·exact h'
   ·rw [List.getElem?_eq_none (by rw [standsD_len]; exact h')] at hs; cases hs
  rw [standsD_at hall hp h0 h1 hi] at hs
  cases hs
  exact Int.not_lt.1 fun hlt => h i ⟨by omega, by omega, hlt⟩
theorem full_some {fs : List Fl} {ss : List St} {p : List Be} {f : Int} {q : Bool × Int} (hall : HallOK fs ss) (hp : PlOK p) (h0 : 0 ≤ f) (h1 : f < fs.length) (h : fullF (flAt fs f).pl (standsD fs ss p f) 0 = some q) : Full fs ss p f q.2 ∧ ∀ n', n' < q.2 → ¬ Full fs ss p f n' := by
 obtain ⟨-, i, s, h2, h3, h4, h5⟩ := fullF_some h
 have hi : i < 22 := by
  rcases Nat.lt_or_ge i 22 with h' | h'
  ·exact h'
  ·rw [List.getElem?_eq_none (by rw [standsD_len]; exact h')] at h3; cases h3
 rw [standsD_at hall hp h0 h1 hi] at h3
 cases h3
 rw [Nat.zero_add] at h2
 rw [h2]
 refine ⟨⟨by omega, by omega, h4⟩, ?_⟩
 rintro n' hn' ⟨q0, q1, q2⟩
 obtain ⟨j, rfl⟩ : ∃ j : Nat, n' = j := ⟨n'.toNat, by omega⟩
 have := h5 j _ (by omega) (standsD_at hall hp h0 h1 (by omega))
 simp only at this; omega

theorem look_none {fs : List Fl} {ss : List St} {p : List Be} {f : Int} (hall : HallOK fs ss) (hp : PlOK p) (h0 : 0 ≤ f) (h1 : f < fs.length) : lookF fs ss p f = none ↔ ∀ n, ¬ Bad fs ss p f n := by
 obtain ⟨c, hc, hs, hn⟩ := lookF_eq hall hp h0 h1
 rw [hc, merge_none, full_none hall hp h0 h1]
 constructor
 ·rintro ⟨h2, h3⟩ n (hb | hb)
  ·exact h2 n hb
  ·exact hn h3 n hb
 ·intro h
  refine ⟨fun n hb => h n (.inl hb), ?_⟩
  cases c with
  | none => rfl
  | some n => exact absurd (.inr (hs n rfl).1) (h n)
theorem look_some {fs : List Fl} {ss : List St} {p : List Be} {f : Int} {q : Bool × Int} (hall : HallOK fs ss) (hp : PlOK p) (h0 : 0 ≤ f) (h1 : f < fs.length) (h : lookF fs ss p f = some q) : Bad fs ss p f q.2 ∧ ∀ n', n' < q.2 → ¬ Bad fs ss p f n' := by
 obtain ⟨c, hc, hs, hn⟩ := lookF_eq hall hp h0 h1
 rw [hc] at h
 cases hf : fullF (flAt fs f).pl (standsD fs ss p f) 0 with
 | none =>
  rw [hf] at h
  have hf' := (full_none hall hp h0 h1).1 hf
  cases c with
  | none => cases h
  | some n =>
   have : q = (true, n) := by simpa [merge, early] using h.symm
   subst this
   obtain ⟨a1, a2⟩ := hs n rfl
   exact ⟨.inr a1, fun n' hn' hb => hb.elim (hf' n') (a2 n' hn')⟩
 | some q' =>
  rw [hf] at h
  obtain ⟨b1, b2⟩ := full_some hall hp h0 h1 hf
  cases c with
  | none =>
   have : q' = q := by simpa [merge] using h
   subst this
   exact ⟨.inl b1, fun n' hn' hb => hb.elim (b2 n' hn') (hn rfl n')⟩
  | some n =>
   obtain ⟨a1, a2⟩ := hs n rfl
   simp only [merge, early, decide_eq_true_eq] at h
   split at h
   ·rename_i hlt
    have : q = (true, n) := by simpa using h.symm
    subst this
    exact ⟨.inr a1, fun n' hn' hb => hb.elim (b2 n' (by simp only at hn'; omega)) (a2 n' hn')⟩
   ·rename_i hlt
    have : q' = q := by simpa using h
    subst this
    exact ⟨.inl b1, fun n' hn' hb => hb.elim (b2 n' hn') (a2 n' (by omega))⟩

theorem inspN_spec {fs : List Fl} {ss : List St} {p : List Be} (hall : HallOK fs ss) (hp : PlOK p) : ∀ k, k ≤ fs.length →
  (inspN fs ss p k = none → ∀ f : Int, 0 ≤ f → f < k → ∀ n, ¬ Bad fs ss p f n) ∧
  (∀ c n f, inspN fs ss p k = some ((c, n), f) → 0 ≤ f ∧ f < k ∧ Bad fs ss p f n ∧ ∀ g n' : Int, 0 ≤ g → g < k → Bad fs ss p g n' → n < n' ∨ n = n' ∧ f ≤ g)
 | 0, _ => ⟨fun _ f h0 h1 => by omega, fun c n f h => (by cases h)⟩
 | k + 1, hk => by
  obtain ⟨i1, i2⟩ := inspN_spec hall hp k (by omega)
  have l1 := look_none hall hp (show (0 : Int) ≤ k by omega) (show (k : Int) < fs.length by omega)
  have l2 := fun q => look_some (q := q) hall hp (show (0 : Int) ≤ k by omega) (show (k : Int) < fs.length by omega)
  rw [inspN]
  cases hl : lookF fs ss p k with
  | none =>
   have l1' := l1.1 hl
   simp only [inspS]
   refine ⟨fun h f h0 h1 n => ?_, fun c n f h => ?_⟩
   ·by_cases e : f = k
    ·subst e; exact l1' n
    ·exact i1 h f h0 (by omega) n
   ·obtain ⟨a0, a1, a2, a3⟩ := i2 c n f h
    refine ⟨a0, by omega, a2, fun g n' g0 g1 hb => ?_⟩
    by_cases e : g = k
    ·subst e; exact absurd hb (l1' n')
    ·exact a3 g n' g0 (by omega) hb
  | some z =>
   obtain ⟨z1, z2⟩ := l2 z hl
   simp only [inspS]
   cases hi : inspN fs ss p k with
   | none =>
    simp only [inspB, if_true]
    refine ⟨fun h => (by cases h), fun c n f h => ?_⟩
    simp only [Option.some.injEq, Prod.mk.injEq] at h
    obtain ⟨rfl, rfl⟩ := h
    refine ⟨by omega, by omega, z1, fun g n' g0 g1 hb => ?_⟩
    by_cases e : g = k
    ·subst e
     rcases Int.lt_trichotomy n n' with h | h | h
     ·exact .inl h
     ·exact .inr ⟨h, Int.le_refl _⟩
     ·exact absurd hb (z2 n' h)
    ·exact absurd hb (i1 hi g g0 (by omega) n')
   | some w =>
    obtain ⟨⟨cw, nw⟩, fw⟩ := w
    obtain ⟨a0, a1, a2, a3⟩ := i2 cw nw fw hi
    simp only [inspB, decide_eq_true_eq]
    split
    ·rename_i hlt
     refine ⟨fun h => (by cases h), fun c n f h => ?_⟩
     simp only [Option.some.injEq, Prod.mk.injEq] at h
     obtain ⟨rfl, rfl⟩ := h
     refine ⟨by omega, by omega, z1, fun g n' g0 g1 hb => ?_⟩
     by_cases e : g = k
     ·subst e
      rcases Int.lt_trichotomy n n' with h | h | h
      ·exact .inl h
      ·exact .inr ⟨h, Int.le_refl _⟩
      ·exact absurd hb (z2 n' h)
     ·have := a3 g n' g0 (by omega) hb
      simp only at hlt; left; omega
    ·rename_i hlt
     refine ⟨fun h => (by cases h), fun c n f h => ?_⟩
     simp only [Option.some.injEq, Prod.mk.injEq] at h
     obtain ⟨⟨rfl, rfl⟩, rfl⟩ := h
     refine ⟨a0, by omega, a2, fun g n' g0 g1 hb => ?_⟩
     by_cases e : g = k
     ·subst e
      have : ¬ n' < z.2 := fun h => z2 n' h hb
      rcases Int.lt_trichotomy nw n' with h | h | h
      ·exact .inl h
      ·exact .inr ⟨h, by omega⟩
      ·omega
     ·exact a3 g n' g0 (by omega) hb
/-- ████ A PLAN IS RIGHT if nothing is wrong. -/
theorem insp_none {fs : List Fl} {ss : List St} {p : List Be} (hall : HallOK fs ss) (hp : PlOK p) : inspF fs ss p = none ↔ ∀ f : Int, 0 ≤ f → f < fs.length → ∀ n, ¬ Bad fs ss p f n := by
 obtain ⟨i1, i2⟩ := inspN_spec hall hp fs.length (Nat.le_refl _)
 constructor
 ·intro h f h0 h1 n; exact i1 h f h0 h1 n
 ·intro h
  cases hi : inspF fs ss p with
  | none => rfl
  | some w =>
   obtain ⟨⟨c, n⟩, f⟩ := w
   obtain ⟨a0, a1, a2, _⟩ := i2 c n f hi
   exact absurd a2 (h f a0 a1 n)
/-- ████ .. and the first fault is the first that is. -/
theorem insp_some {fs : List Fl} {ss : List St} {p : List Be} (hall : HallOK fs ss) (hp : PlOK p) {c : Bool} {n f : Int} (h : inspF fs ss p = some ((c, n), f)) : 0 ≤ f ∧ f < fs.length ∧ Bad fs ss p f n ∧ ∀ g n' : Int, 0 ≤ g → g < fs.length → Bad fs ss p g n' → n < n' ∨ n = n' ∧ f ≤ g :=
 (inspN_spec hall hp fs.length (Nat.le_refl _)).2 c n f h

/-! What a search finds -/
/-- A plan in which each strike has one of its berths. -/
structure Valid (fs : List Fl) (ss : List St) (may : May) (p : List Be) : Prop where
 len : p.length = 4
 at_ : ∀ i, i < ss.length → beAt p i ∈ berthsK fs ss may i
 out : ∀ i, ss.length ≤ i → beAt p i = bnone
theorem beAt_set {p : List Be} {k i : Nat} {b : Be} (hk : k < p.length) : beAt (p.set k b) i = if i = k then b else beAt p i := by
 simp only [beAt, List.getD]
 by_cases e : i = k
 ·subst e; rw [if_pos rfl, List.getElem?_set_self hk]; rfl
 ·rw [if_neg e, List.getElem?_set_ne (Ne.symm e)]
theorem beAt_ext {p q : List Be} (h1 : p.length = 4) (h2 : q.length = 4) (h : ∀ i, i < 4 → beAt p i = beAt q i) : p = q := by
 apply List.ext_getElem?
 intro i
 rcases Nat.lt_or_ge i 4 with hi | hi
 ·have := h i hi
  simp only [beAt, List.getD, List.getElem?_eq_getElem (show i < p.length by omega), List.getElem?_eq_getElem (show i < q.length by omega), Option.getD_some] at this ⊢
  rw [this]
 ·rw [List.getElem?_eq_none (by omega), List.getElem?_eq_none (by omega)]
/-- The more is set, the more stands. -/
theorem hi_mono {fs : List Fl} {ss : List St} {p q : List Be} {f d : Int} (hall : HallOK fs ss) (hf : 0 ≤ f) (h : ∀ i, i < 4 → beAt q i = beAt p i ∨ (beAt q i).fl < 0) : hiAt fs ss q f d ≤ hiAt fs ss p f d := by
 refine sumK_le fun i hi => ?_
 have hc := (co_ok hall i).1
 rcases h i hi with h | h
 ·simp only [hiG, h]; exact Int.le_refl _
 ·simp only [hiG]
  rw [if_neg (by omega)]
  split <;> omega
theorem prune_no {fs : List Fl} {ss : List St} {p q : List Be} {b : Be} (hall : HallOK fs ss) (hp : PlOK p) (hq : PlOK q) (hb : b.fl < fs.length) (hr : inspF fs ss p = none) (h : ∀ i, i < 4 → beAt q i = beAt p i ∨ (beAt q i).fl < 0) : prune fs ss q b = false := by
 unfold prune
 split
 ·rename_i h0
  cases ho : over (flAt fs b.fl).pl (standsD fs ss q b.fl) with
  | false => rfl
  | true =>
   obtain ⟨i, s, hs, hlt⟩ := over_iff.1 ho
   have hi : i < 22 := by
    rcases Nat.lt_or_ge i 22 with h' | h'
    ·exact h'
    ·rw [List.getElem?_eq_none (by rw [standsD_len]; exact h')] at hs; cases hs
   rw [standsD_at hall hq h0 hb hi] at hs
   cases hs
   have hm := hi_mono (d := i) hall h0 h
   have := (insp_none hall hp).1 hr b.fl h0 hb i
   exact absurd (.inl ⟨by omega, by omega, by simp only at hlt; omega⟩) this
 ·rfl
theorem mem_rights {fs : List Fl} {ss : List St} {may : May} (hall : HallOK fs ss) : ∀ (m k : Nat) (q p : List Be), k + m = ss.length → PlanOf fs ss q → (∀ i, k ≤ i → beAt q i = bnone) →
  (p ∈ rights fs ss may m k q ↔ p.length = 4 ∧ (∀ i, i < k → beAt p i = beAt q i) ∧ (∀ i, k ≤ i → i < ss.length → beAt p i ∈ berthsK fs ss may i) ∧ (∀ i, ss.length ≤ i → beAt p i = bnone) ∧ inspF fs ss p = none)
 | 0, k, q, p, hk, hq, hn => by
  rw [rights]
  constructor
  ·intro h
   split at h
   ·rename_i hi
    have : p = q := by simpa using h
    subst this
    exact ⟨hq.ok.len, fun _ _ => rfl, fun i h1 h2 => by omega, fun i h1 => hn i (by omega), by simpa using hi⟩
   ·cases h
  ·rintro ⟨h1, h2, h3, h4, h5⟩
   have : p = q := beAt_ext h1 hq.ok.len fun i hi => by
    rcases Nat.lt_or_ge i k with h | h
    ·exact h2 i h
    ·rw [h4 i (by omega), hn i h]
   subst this
   simp [h5]
 | m + 1, k, q, p, hk, hq, hn => by
  have hk4 : k < q.length := by have := hall.ns; have := hq.ok.len; omega
  have hbn : ∀ b, beAt (q.set k b) k = b := fun b => by rw [beAt_set hk4, if_pos rfl]
  have hsn : ∀ b i, k + 1 ≤ i → beAt (q.set k b) i = bnone := fun b i hi => by rw [beAt_set hk4, if_neg (by omega)]; exact hn i (by omega)
  have hso : ∀ b i, i < k → beAt (q.set k b) i = beAt q i := fun b i hi => by rw [beAt_set hk4, if_neg (by omega)]
  rw [rights, List.mem_flatMap]
  constructor
  ·rintro ⟨b, hb, hp⟩
   split at hp
   ·cases hp
   ·obtain ⟨h1, h2, h3, h4, h5⟩ := (mem_rights hall m (k + 1) (q.set k b) p (by omega) (plan_set hq (by omega) (berth_ok hall (by omega) hb)) (hsn b)).1 hp
    refine ⟨h1, fun i hi => ?_, fun i hi hi2 => ?_, h4, h5⟩
    ·rw [h2 i (by omega), hso b i hi]
    ·by_cases e : i = k
     ·subst e; rw [h2 i (by omega), hbn]; exact hb
     ·exact h3 i (by omega) hi2
  ·rintro ⟨h1, h2, h3, h4, h5⟩
   have hb := h3 k (Nat.le_refl _) (by omega)
   have hset := plan_set (k := k) hq (by omega) (berth_ok hall (by omega) hb)
   have hpre : ∀ i, i < 4 → beAt (q.set k (beAt p k)) i = beAt p i ∨ (beAt (q.set k (beAt p k)) i).fl < 0 := fun i hi => by
    rcases Nat.lt_trichotomy i k with h | h | h
    ·left; rw [hso _ i h, h2 i h]
    ·left; subst h; rw [hbn]
    ·right; rw [hsn _ i (by omega)]; simp [bnone]
   have hpOK : PlOK p := ⟨h1, fun b hb => by
    obtain ⟨i, hi, rfl⟩ := List.mem_iff_getElem.1 hb
    have e : p[i] = beAt p i := by simp [beAt, List.getD, List.getElem?_eq_getElem hi]
    rw [e]
    rcases Nat.lt_or_ge i k with h | h
    ·rw [h2 i h]; exact (beAt_some hq.ok (by omega)).2
    ·rcases Nat.lt_or_ge i ss.length with h' | h'
     ·have := berth_ok hall h' (h3 i h h'); omega
     ·rw [h4 i h']; simp [bnone]⟩
   refine ⟨beAt p k, hb, ?_⟩
   rw [if_neg (by rw [prune_no hall hpOK hset.ok (berth_ok hall (by omega) hb).2.2.1 h5 hpre]; simp)]
   refine (mem_rights hall m (k + 1) _ p (by omega) hset (hsn _)).2 ⟨h1, fun i hi => ?_, fun i hi hi2 => h3 i (by omega) hi2, h4, h5⟩
   by_cases e : i = k
   ·subst e; rw [hbn]
   ·rw [hso _ i (by omega), h2 i (by omega)]
theorem beAt_nil (i : Nat) : beAt (padB []) i = bnone := beAt_p0 i
/-- ████ A SEARCH FINDS the right ones of the plans in which each strike has a berth that it may have. -/
theorem mem_rightsOf {fs : List Fl} {ss : List St} {may : May} (hall : HallOK fs ss) {p : List Be} : p ∈ rightsOf fs ss may [] ↔ Valid fs ss may p ∧ inspF fs ss p = none := by
 rw [rightsOf, List.length_nil, mem_rights hall _ _ _ _ (by omega) (pad_nil hall.nf.1) (fun i _ => beAt_nil i)]
 constructor
 ·rintro ⟨h1, _, h3, h4, h5⟩; exact ⟨⟨h1, fun i hi => h3 i (Nat.zero_le _) hi, h4⟩, h5⟩
 ·rintro ⟨⟨h1, h2, h3⟩, h4⟩; exact ⟨h1, fun i hi => by omega, fun i _ hi => h2 i hi, h3, h4⟩
theorem mem_allF {fs : List Fl} {ss : List St} {may : May} (hall : HallOK fs ss) {p : List Be} : p ∈ allF fs ss may ↔ Valid fs ss may p ∧ inspF fs ss p = none := by
 unfold allF
 split
 ·exact mem_rightsOf hall
 ·rename_i hs
  have h0 : 0 < (padB []).length := by decide
  rw [List.mem_flatMap]
  have hb1 : ∀ b, b ∈ berthsK fs ss may 0 → (p ∈ rightsOf fs ss may [b] ↔ p.length = 4 ∧ (∀ i, i < 1 → beAt p i = beAt ((padB []).set 0 b) i) ∧ (∀ i, 1 ≤ i → i < ss.length → beAt p i ∈ berthsK fs ss may i) ∧ (∀ i, ss.length ≤ i → beAt p i = bnone) ∧ inspF fs ss p = none) := fun b hb => by
   rw [rightsOf, List.length_singleton, pad_one]
   exact mem_rights hall _ _ _ _ (by omega) (plan_set (pad_nil hall.nf.1) (by omega) (berth_ok hall (by omega) hb)) (fun i hi => by rw [beAt_set h0, if_neg (by omega)]; exact beAt_nil i)
  constructor
  ·rintro ⟨b, hb, hp⟩
   obtain ⟨h1, h2, h3, h4, h5⟩ := (hb1 b hb).1 hp
   refine ⟨⟨h1, fun i hi => ?_, h4⟩, h5⟩
   by_cases e : i = 0
   ·subst e; rw [h2 0 (by omega), beAt_set h0, if_pos rfl]; exact hb
   ·exact h3 i (by omega) hi
  ·rintro ⟨⟨h1, h2, h3⟩, h4⟩
   refine ⟨beAt p 0, h2 0 (by omega), (hb1 _ (h2 0 (by omega))).2 ⟨h1, fun i hi => ?_, fun i _ hi => h2 i hi, h3, h4⟩⟩
   have : i = 0 := by omega
   subst this
   rw [beAt_set h0, if_pos rfl]
theorem mem_daysFrom_iff {f : Int} : ∀ {m : Nat} {d : Int} {b : Be}, b ∈ daysFrom f d m ↔ b.fl = f ∧ d ≤ b.day ∧ b.day < d + m
 | 0, d, b => by
  constructor
  ·intro h; simp [daysFrom] at h
  ·intro h; omega
 | m + 1, d, b => by
  rw [daysFrom, List.mem_cons, mem_daysFrom_iff]
  constructor
  ·rintro (rfl | h)
   ·simp; omega
   ·omega
  ·rintro ⟨h1, h2, h3⟩
   by_cases e : b.day = d
   ·left; obtain ⟨x, y⟩ := b; simp at h1 e; rw [h1, e]
   ·right; omega
theorem mem_floorsFrom_iff {s : St} : ∀ {m : Nat} {f : Int} {b : Be}, b ∈ floorsFrom s f m ↔ f ≤ b.fl ∧ b.fl < f + m ∧ s.day ≤ b.day ∧ b.day < s.day + (s.wa + 1).toNat
 | 0, f, b => by simp [floorsFrom]; omega
 | m + 1, f, b => by
  rw [floorsFrom, List.mem_append, mem_daysFrom_iff, mem_floorsFrom_iff]
  omega
theorem mem_berths {fs : List Fl} {ss : List St} {may : May} {k : Nat} {b : Be} : b ∈ berthsK fs ss may k ↔ (may k).2 = true ∧ b = bnone ∨ (may k).1 = true ∧ 0 ≤ b.fl ∧ b.fl < fs.length ∧ (stAt ss k).day ≤ b.day ∧ b.day < (stAt ss k).day + ((stAt ss k).wa + 1).toNat := by
 rw [berthsK, List.mem_append]
 have e1 : b ∈ (if (may k).2 then [bnone] else []) ↔ (may k).2 = true ∧ b = bnone := by
  split <;> simp [*]
 have e2 : b ∈ (if (may k).1 then floorsFrom (stAt ss k) 0 fs.length else []) ↔ (may k).1 = true ∧ b ∈ floorsFrom (stAt ss k) 0 fs.length := by
  split <;> simp [*]
 rw [e1, e2, mem_floorsFrom_iff]
 simp
end Go.Mus
