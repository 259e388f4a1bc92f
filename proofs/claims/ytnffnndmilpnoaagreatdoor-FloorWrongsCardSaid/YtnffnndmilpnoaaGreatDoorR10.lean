/- What is wrong with a plan. Conditions: none; over the given program. -/
import Derived.Test.YtnffnndmilpnoaaGreatDoorR09
set_option linter.unusedVariables false
set_option linter.unusedSimpArgs false
set_option linter.unusedSectionVars false

/- What is wrong with a plan. Conditions: none; over the given program. -/
namespace Go.Mus
set_option maxRecDepth 100000
set_option maxHeartbeats 4000000
def wcell (c : Array Value) : Err → Array Value
  | none => c
  | some (q, f) => #[faultV (some q), I f]
theorem As2_fn (main : Side) (h : Hp) (e : Err) (β : Nat) (c : Array Value) (Eg : TypeId) (zg : Nat × Nat) (hc : c.size = 2) (hg : h 0 = some (.cells #[rtV t_error] Eg zg)) :
    Fnc prog main n_errors_As #[errV e, .iface t_p_wrong (.pointer (some ⟨β, 0, none⟩))] h [(β, .cells c t_wrong (0, 0))] (fun v A => v = .bool e.isSome ∧ Sb [(β, .cells (wcell c e) t_wrong (0, 0))] A) := by
  rcases e with _ | ⟨q, f⟩
  · refine (Fnc.frame (A := []) (B := [(β, .cells c t_wrong (0, 0))]) fun h' _ _ => AsNil_fn main h' (.iface t_p_wrong (.pointer (some ⟨β, 0, none⟩)))).mono ?_
    rintro v F ⟨A', ⟨rfl, hA⟩, rfl⟩
    exact ⟨rfl, Sb.left .refl hA⟩
  · exact As_fn main h (some q) f β c Eg zg hc hg

def errW : Err → Int × Int × Int
  | none => (-1, -1, 0)
  | some ((_, n), f) => (f, n, 0)
def wrongV (fs : List Fl) (ss : List St) (l : List Be) : Int × Int × Int :=
  if askE fs ss l [] ≠ 0 then (0, 0, askE fs ss l []) else errW (inspF fs ss (padB l))
theorem Wrong_fn (main : Side) (h : Hp) (fs : List Fl) (ss : List St) (l : List Be) (vf vs vl : Value) (Eg : TypeId) (zg : Nat × Nat) (hf : Sl h Fl.row vf fs) (hs : Sl h St.row vs ss) (hl : Sl h Be.row vl l) (hg : h 0 = some (.cells #[rtV t_error] Eg zg)) : Pu prog main n_floor_Wrong #[.agg #[vf, vs], vl] h (.tuple #[I (wrongV fs ss l).1, I (wrongV fs ss l).2.1, I (wrongV fs ss l).2.2]) := by
  obtain ⟨a, cap, rfl⟩ := hf.isSl
  obtain ⟨a', cap', rfl⟩ := hs.isSl
  obtain ⟨a2, cap2, rfl⟩ := hl.isSl
  obtain ⟨va, vb, pp, hsh, h1a, h1b, hpp, hok⟩ := askV_shape (.slice a fs.length cap) (.slice a' ss.length cap') fs ss l [] rfl rfl
  have hsz : (flat Be.row pp).toArray.size = 8 := by simp [flat_len, hpp]
  have hon : ones (flat Be.row pp).toArray.toList = true := plan_ones
  have hon2 : ones (#[va, vb] : Array Value).toList = true := by simp [ones, h1a, h1b]
  refine Fnc.of_body at_floor_Wrong rfl (by show 2 ≤ 30; decide) [(0, .agg #[.slice a fs.length cap, .slice a' ss.length cap']), (1, .slice a2 l.length cap2)] ⟨rfl, rfl, trivial⟩ ?_
  refine W.seq <| W.region rfl ?_
  refine Ops.box (fun β2 => ?_)
  refine qs rfl rfl rfl <| qs rfl rfl rfl <| qs rfl rfl rfl <| Ops.nil <| thn_n <| W.seq <| W.region rfl ?_
  first | refine oq (yldW rfl rfl) rfl wn rfl rfl ?_ | refine oq (yldA rfl rfl) rfl wn rfl rfl ?_
  refine qm rfl rfl rfl ?_
  refine cp (u := .tuple #[.agg #[va, vb], planV pp, I (askE fs ss l [])]) (fun h' hE hL => by rw [← hsh]; exact asked_fn _ h' fs ss l [] _ _ _ (.slice none 0 0) (hf.ext hE) (hs.ext hE) (hl.ext hE) .nil (by simp)) ?_
  refine qm rfl rfl rfl <| oq (y_extract rfl rfl rfl) rfl wn rfl rfl <| oq (y_extract rfl rfl rfl) rfl wn rfl rfl <| oq (y_extract rfl rfl rfl) rfl wn rfl rfl ?_
  refine Ops.new (fun β7 => ?_)
  refine Ops.new (fun β8 => ?_)
  first | refine Ops.stoW ?_ | refine Ops.stoA ?_
  first | refine Ops.stoW ?_ | refine Ops.stoA ?_
  refine qs rfl rfl rfl <| Ops.nil <| thn_n <| W.seq <| W.seq <| W.region rfl <| qm rfl rfl rfl ?_
  refine oq (y_neq rfl rfl rfl) rfl wn rfl rfl ?_
  refine Ops.nil <| thn_n ?_
  refine W.condp rfl (fun c18 => ?_) (fun c18 => ?_)
  · refine W.seq <| W.region rfl <| qm rfl rfl rfl <| qs rfl rfl rfl <| qs rfl rfl rfl <| qs rfl rfl rfl <| Ops.nil <| thn_n <| W.ret <| thn_r ?_
    refine lvp ?_
    simp only [wrongV]; rw [if_pos c18]; rfl
  · have h0 : askE fs ss l [] = 0 := by simpa using c18
    obtain ⟨rfl, rfl, rfl⟩ := hok h0
    obtain ⟨hall, hp, hll⟩ := plan_ck (askE0 h0).1
    obtain ⟨e, he⟩ : ∃ e, inspF fs ss (padB l) = e := ⟨_, rfl⟩
    have hw : wrongV fs ss l = errW e := by simp only [wrongV]; rw [if_neg c18, he]
    rw [hw]
    refine W.skip <| thn_n <| W.seq <| W.region rfl ?_
    refine Ops.new (fun β9 => ?_)
    refine Ops.nil <| thn_n <| W.seq <| W.seq <| W.region rfl ?_
    first | refine oq (yldW rfl rfl) rfl wn rfl rfl ?_ | refine oq (yldA rfl rfl) rfl wn rfl rfl ?_
    first | refine oq (yldW rfl rfl) rfl wn rfl rfl ?_ | refine oq (yldA rfl rfl) rfl wn rfl rfl ?_
    refine cp (u := errV e) (fun h' hE hL => by rw [← he]; exact inspect_fn _ h' fs ss (padB l) _ _ Eg zg (hf.ext hE) (hs.ext hE) hall hp (hE.1 _ _ hg)) ?_
    first | refine oq (yfcN rfl rfl) rfl wn rfl rfl ?_ | refine oq (yfc rfl rfl) rfl wn rfl rfl ?_
    refine cg (A := [(β9, _)]) .head (fun h' hE hL => As2_fn _ h' e β9 _ Eg zg rfl (hE.1 _ _ hg)) (fun v A' hv => ?_)
    obtain ⟨rfl, hsb⟩ := hv
    refine Ops.sb (hsb.app .refl) ?_
    refine Ops.nil <| thn_n ?_
    refine W.cond rfl (fun c24 => ?_) (fun c24 => ?_)
    · obtain ⟨⟨cc, n⟩, f, rfl⟩ : ∃ z f, e = some (z, f) := by
        cases e with
        | none => cases c24
        | some z => exact ⟨z.1, z.2, rfl⟩
      refine W.seq ?_
      refine W.drawP1 (n := 8) rfl ?_
      refine aq (i := 0) (y_fieldAddr rfl rfl) rfl an rfl rfl ?_
      refine aq (i := 1) (yld rfl rfl) rfl an rfl rfl ?_
      refine aq (i := 2) (y_fieldAddr rfl rfl) rfl an rfl rfl ?_
      refine aq (i := 3) (yld rfl rfl) rfl an rfl rfl ?_
      refine acday (i := 4) ?_ (.inr (Keeps.one (.head _) Keeps.nil))
      refine aq (i := 5) (y_assign rfl rfl) rfl an rfl rfl ?_
      refine aq (i := 6) (y_assign rfl rfl) rfl an rfl rfl ?_
      refine aq (i := 7) (y_assign rfl rfl) rfl an rfl rfl ?_
      refine az ?_
      refine thn_n <| W.ret <| thn_r ?_
      exact lvp rfl
    · have hen : e = none := by
        cases e with
        | none => rfl
        | some z => cases c24
      subst hen
      refine W.skip <| thn_n <| W.seq <| W.region rfl <| qs rfl rfl rfl <| qs rfl rfl rfl <| qs rfl rfl rfl <| Ops.nil <| thn_n <| W.ret ?_
      exact lvp rfl
end Go.Mus
