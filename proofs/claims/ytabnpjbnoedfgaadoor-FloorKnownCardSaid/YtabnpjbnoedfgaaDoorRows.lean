/-
  NARROWER THAN 'FOR EVERY INPUT', by the rows' own cells (each row's printed sentence says how): FloorWithout: laid · FloorLate: laid · FloorPatience: laid · FloorNeed: laid · FloorMore: laid · FloorSlower: laid · FloorBest: laid · FloorLater: laid · FloorNumbered: laid · FloorHeat: laid · FloorAll: laid · FloorKnown: laid.
  DERIVED. THE GIVEN ROWS OF THIS SEAT. 12 by the template 'for every input the law returns true; each argument reads behind the call as it read before'; 0 by the template 'total and deterministic' (their statements: YtabnpjbnoedfgaaDoorTotals.lean).
  GIVEN WITH THE SEED: the statements are not yours to turn. If you find one false, say at which input.
  Laid BY PROGRAM, IN A SANDBOX (cutbox-rows.mjs): the forced cells as the released guide's own fill.sh prints them over the translation d55fd574d28fccf9… (all of the seat's roots in one cut). By AI agents, Wed Nov 11 2026. No macro, syntax, notation, axiom, sorry.
-/
import Derived.Test.YtabnpjbnoedfgaaDoorChecked
import GoSem.Claim
import GoSem.ClaimJoined
import GoSem.ClaimMapViews
import Derived.JoinedTies
import Derived.KernelRfl
namespace Go.Proofs.YtabnpjbnoedfgaaDoor
/- THE CELL 'sum', in the pinned program and in every row, IS THE sha256 OF THE DUMP (.gsa) THAT YtabnpjbnoedfgaaDoorProg.lean LOADS. Nothing in Lean hashes anything: it is a label: what it is worth is what the hold of that sum in a sandbox is worth. -/
noncomputable def Tryd.pinned : Pinned := { name := "ytabnpjbnoedfgaadoor", sum := "d55fd574d28fccf924c5c8a5b6e2103fd0b449329ef03632118a6f6dff29b60f", checked := Tryd.checked }
namespace Rows
def none {H : Type} : Left H := { results := [], args := [] }

/- WHAT THE LISTED PACKAGE-LEVEL VARIABLES READ AS WHEN THE CALL BEGINS. Each datum BY PROGRAM (the guide's laid-datum.mjs) off the statement by which the dump's own 'gosem.cut.vars' lays the variable. In a bare row this is a premise. The card (YtabnpjbnoedfgaaDoorCards.lean) ties it to the program's text. -/
def laid_errors_errorType {H : Type} : DataW H := .iface "internal/reflectlite.rtype" (.agg [.ptr (.lit (.string [101, 114, 114, 111, 114]))])

/-- 'muscovadolaw05.FloorWithout': WHATEVER THE INPUT: true; the input reads as it did. -/
def floorWithoutSpec : ChangeSpec := { name := "floorWithout", fn := fun _ => fun
  | [d] => { results := [.lit (.bool true)], args := [d] }
  | _ => none }
def floorWithoutRow : OpenClaim := { program := "ytabnpjbnoedfgaadoor", sum := "d55fd574d28fccf924c5c8a5b6e2103fd0b449329ef03632118a6f6dff29b60f", func := "muscovado/muscovadolaw05.FloorWithout", spec := "floorWithout", inPlace := ["internal/reflectlite.ValueOf", "(internal/reflectlite.Value).Type", "(internal/reflectlite.Value).IsNil", "internal/reflectlite.TypeOf", "(internal/reflectlite.Value).Elem", "(internal/reflectlite.Value).Set"], unfollowed := true, recurses := true, named := ["errors.errorType"], plainKeys := false, leaving := true, apart := false, laid := [("errors.errorType", laid_errors_errorType)] }
def FloorWithoutSaid : Prop := floorWithoutRow.holds Tryd.pinned (OpenSpec.ofChange floorWithoutSpec)

/-- ITS FALSE NEIGHBOUR: 'it returns false'. Refute it at one input. -/
def floorWithoutWrong : ChangeSpec := { name := "floorWithout", fn := fun _ => fun
  | [d] => { results := [.lit (.bool false)], args := [d] }
  | _ => none }
def FloorWithoutWrongFalsely : Prop := floorWithoutRow.holds Tryd.pinned (OpenSpec.ofChange floorWithoutWrong)

/-- 'muscovadolaw05.FloorLate': WHATEVER THE INPUT: true; the input reads as it did. -/
def floorLateSpec : ChangeSpec := { name := "floorLate", fn := fun _ => fun
  | [d] => { results := [.lit (.bool true)], args := [d] }
  | _ => none }
def floorLateRow : OpenClaim := { program := "ytabnpjbnoedfgaadoor", sum := "d55fd574d28fccf924c5c8a5b6e2103fd0b449329ef03632118a6f6dff29b60f", func := "muscovado/muscovadolaw05.FloorLate", spec := "floorLate", inPlace := ["internal/reflectlite.ValueOf", "(internal/reflectlite.Value).Type", "(internal/reflectlite.Value).IsNil", "internal/reflectlite.TypeOf", "(internal/reflectlite.Value).Elem", "(internal/reflectlite.Value).Set"], unfollowed := true, recurses := true, named := ["errors.errorType"], plainKeys := false, leaving := true, apart := false, laid := [("errors.errorType", laid_errors_errorType)] }
def FloorLateSaid : Prop := floorLateRow.holds Tryd.pinned (OpenSpec.ofChange floorLateSpec)

/-- ITS FALSE NEIGHBOUR: 'it returns false'. Refute it at one input. -/
def floorLateWrong : ChangeSpec := { name := "floorLate", fn := fun _ => fun
  | [d] => { results := [.lit (.bool false)], args := [d] }
  | _ => none }
def FloorLateWrongFalsely : Prop := floorLateRow.holds Tryd.pinned (OpenSpec.ofChange floorLateWrong)

/-- 'muscovadolaw05.FloorPatience': WHATEVER THE INPUT: true; the input reads as it did. -/
def floorPatienceSpec : ChangeSpec := { name := "floorPatience", fn := fun _ => fun
  | [d] => { results := [.lit (.bool true)], args := [d] }
  | _ => none }
def floorPatienceRow : OpenClaim := { program := "ytabnpjbnoedfgaadoor", sum := "d55fd574d28fccf924c5c8a5b6e2103fd0b449329ef03632118a6f6dff29b60f", func := "muscovado/muscovadolaw05.FloorPatience", spec := "floorPatience", inPlace := ["internal/reflectlite.ValueOf", "(internal/reflectlite.Value).Type", "(internal/reflectlite.Value).IsNil", "internal/reflectlite.TypeOf", "(internal/reflectlite.Value).Elem", "(internal/reflectlite.Value).Set"], unfollowed := true, recurses := true, named := ["errors.errorType"], plainKeys := false, leaving := true, apart := false, laid := [("errors.errorType", laid_errors_errorType)] }
def FloorPatienceSaid : Prop := floorPatienceRow.holds Tryd.pinned (OpenSpec.ofChange floorPatienceSpec)

/-- ITS FALSE NEIGHBOUR: 'it returns false'. Refute it at one input. -/
def floorPatienceWrong : ChangeSpec := { name := "floorPatience", fn := fun _ => fun
  | [d] => { results := [.lit (.bool false)], args := [d] }
  | _ => none }
def FloorPatienceWrongFalsely : Prop := floorPatienceRow.holds Tryd.pinned (OpenSpec.ofChange floorPatienceWrong)

/-- 'muscovadolaw05.FloorNeed': WHATEVER THE INPUT: true; the input reads as it did. -/
def floorNeedSpec : ChangeSpec := { name := "floorNeed", fn := fun _ => fun
  | [d] => { results := [.lit (.bool true)], args := [d] }
  | _ => none }
def floorNeedRow : OpenClaim := { program := "ytabnpjbnoedfgaadoor", sum := "d55fd574d28fccf924c5c8a5b6e2103fd0b449329ef03632118a6f6dff29b60f", func := "muscovado/muscovadolaw05.FloorNeed", spec := "floorNeed", inPlace := ["internal/reflectlite.ValueOf", "(internal/reflectlite.Value).Type", "(internal/reflectlite.Value).IsNil", "internal/reflectlite.TypeOf", "(internal/reflectlite.Value).Elem", "(internal/reflectlite.Value).Set"], unfollowed := true, recurses := true, named := ["errors.errorType"], plainKeys := false, leaving := true, apart := false, laid := [("errors.errorType", laid_errors_errorType)] }
def FloorNeedSaid : Prop := floorNeedRow.holds Tryd.pinned (OpenSpec.ofChange floorNeedSpec)

/-- ITS FALSE NEIGHBOUR: 'it returns false'. Refute it at one input. -/
def floorNeedWrong : ChangeSpec := { name := "floorNeed", fn := fun _ => fun
  | [d] => { results := [.lit (.bool false)], args := [d] }
  | _ => none }
def FloorNeedWrongFalsely : Prop := floorNeedRow.holds Tryd.pinned (OpenSpec.ofChange floorNeedWrong)

/-- 'muscovadolaw05.FloorMore': WHATEVER THE INPUT: true; the input reads as it did. -/
def floorMoreSpec : ChangeSpec := { name := "floorMore", fn := fun _ => fun
  | [d] => { results := [.lit (.bool true)], args := [d] }
  | _ => none }
def floorMoreRow : OpenClaim := { program := "ytabnpjbnoedfgaadoor", sum := "d55fd574d28fccf924c5c8a5b6e2103fd0b449329ef03632118a6f6dff29b60f", func := "muscovado/muscovadolaw05.FloorMore", spec := "floorMore", inPlace := ["internal/reflectlite.ValueOf", "(internal/reflectlite.Value).Type", "(internal/reflectlite.Value).IsNil", "internal/reflectlite.TypeOf", "(internal/reflectlite.Value).Elem", "(internal/reflectlite.Value).Set"], unfollowed := true, recurses := true, named := ["errors.errorType"], plainKeys := false, leaving := true, apart := false, laid := [("errors.errorType", laid_errors_errorType)] }
def FloorMoreSaid : Prop := floorMoreRow.holds Tryd.pinned (OpenSpec.ofChange floorMoreSpec)

/-- ITS FALSE NEIGHBOUR: 'it returns false'. Refute it at one input. -/
def floorMoreWrong : ChangeSpec := { name := "floorMore", fn := fun _ => fun
  | [d] => { results := [.lit (.bool false)], args := [d] }
  | _ => none }
def FloorMoreWrongFalsely : Prop := floorMoreRow.holds Tryd.pinned (OpenSpec.ofChange floorMoreWrong)

/-- 'muscovadolaw05.FloorSlower': WHATEVER THE INPUT: true; the input reads as it did. -/
def floorSlowerSpec : ChangeSpec := { name := "floorSlower", fn := fun _ => fun
  | [d] => { results := [.lit (.bool true)], args := [d] }
  | _ => none }
def floorSlowerRow : OpenClaim := { program := "ytabnpjbnoedfgaadoor", sum := "d55fd574d28fccf924c5c8a5b6e2103fd0b449329ef03632118a6f6dff29b60f", func := "muscovado/muscovadolaw05.FloorSlower", spec := "floorSlower", inPlace := ["internal/reflectlite.ValueOf", "(internal/reflectlite.Value).Type", "(internal/reflectlite.Value).IsNil", "internal/reflectlite.TypeOf", "(internal/reflectlite.Value).Elem", "(internal/reflectlite.Value).Set"], unfollowed := true, recurses := true, named := ["errors.errorType"], plainKeys := false, leaving := true, apart := false, laid := [("errors.errorType", laid_errors_errorType)] }
def FloorSlowerSaid : Prop := floorSlowerRow.holds Tryd.pinned (OpenSpec.ofChange floorSlowerSpec)

/-- ITS FALSE NEIGHBOUR: 'it returns false'. Refute it at one input. -/
def floorSlowerWrong : ChangeSpec := { name := "floorSlower", fn := fun _ => fun
  | [d] => { results := [.lit (.bool false)], args := [d] }
  | _ => none }
def FloorSlowerWrongFalsely : Prop := floorSlowerRow.holds Tryd.pinned (OpenSpec.ofChange floorSlowerWrong)

/-- 'muscovadolaw05.FloorBest': WHATEVER THE INPUT: true; the input reads as it did. -/
def floorBestSpec : ChangeSpec := { name := "floorBest", fn := fun _ => fun
  | [d] => { results := [.lit (.bool true)], args := [d] }
  | _ => none }
def floorBestRow : OpenClaim := { program := "ytabnpjbnoedfgaadoor", sum := "d55fd574d28fccf924c5c8a5b6e2103fd0b449329ef03632118a6f6dff29b60f", func := "muscovado/muscovadolaw05.FloorBest", spec := "floorBest", inPlace := ["internal/reflectlite.ValueOf", "(internal/reflectlite.Value).Type", "(internal/reflectlite.Value).IsNil", "internal/reflectlite.TypeOf", "(internal/reflectlite.Value).Elem", "(internal/reflectlite.Value).Set"], unfollowed := true, recurses := true, named := ["errors.errorType"], plainKeys := false, leaving := true, apart := false, laid := [("errors.errorType", laid_errors_errorType)] }
def FloorBestSaid : Prop := floorBestRow.holds Tryd.pinned (OpenSpec.ofChange floorBestSpec)

/-- ITS FALSE NEIGHBOUR: 'it returns false'. Refute it at one input. -/
def floorBestWrong : ChangeSpec := { name := "floorBest", fn := fun _ => fun
  | [d] => { results := [.lit (.bool false)], args := [d] }
  | _ => none }
def FloorBestWrongFalsely : Prop := floorBestRow.holds Tryd.pinned (OpenSpec.ofChange floorBestWrong)

/-- 'muscovadolaw05.FloorLater': WHATEVER THE INPUT: true; the input reads as it did. -/
def floorLaterSpec : ChangeSpec := { name := "floorLater", fn := fun _ => fun
  | [d] => { results := [.lit (.bool true)], args := [d] }
  | _ => none }
def floorLaterRow : OpenClaim := { program := "ytabnpjbnoedfgaadoor", sum := "d55fd574d28fccf924c5c8a5b6e2103fd0b449329ef03632118a6f6dff29b60f", func := "muscovado/muscovadolaw05.FloorLater", spec := "floorLater", inPlace := ["internal/reflectlite.ValueOf", "(internal/reflectlite.Value).Type", "(internal/reflectlite.Value).IsNil", "internal/reflectlite.TypeOf", "(internal/reflectlite.Value).Elem", "(internal/reflectlite.Value).Set"], unfollowed := true, recurses := true, named := ["errors.errorType"], plainKeys := false, leaving := true, apart := false, laid := [("errors.errorType", laid_errors_errorType)] }
def FloorLaterSaid : Prop := floorLaterRow.holds Tryd.pinned (OpenSpec.ofChange floorLaterSpec)

/-- ITS FALSE NEIGHBOUR: 'it returns false'. Refute it at one input. -/
def floorLaterWrong : ChangeSpec := { name := "floorLater", fn := fun _ => fun
  | [d] => { results := [.lit (.bool false)], args := [d] }
  | _ => none }
def FloorLaterWrongFalsely : Prop := floorLaterRow.holds Tryd.pinned (OpenSpec.ofChange floorLaterWrong)

/-- 'muscovadolaw05.FloorNumbered': WHATEVER THE INPUT: true; the input reads as it did. -/
def floorNumberedSpec : ChangeSpec := { name := "floorNumbered", fn := fun _ => fun
  | [d] => { results := [.lit (.bool true)], args := [d] }
  | _ => none }
def floorNumberedRow : OpenClaim := { program := "ytabnpjbnoedfgaadoor", sum := "d55fd574d28fccf924c5c8a5b6e2103fd0b449329ef03632118a6f6dff29b60f", func := "muscovado/muscovadolaw05.FloorNumbered", spec := "floorNumbered", inPlace := ["internal/reflectlite.ValueOf", "(internal/reflectlite.Value).Type", "(internal/reflectlite.Value).IsNil", "internal/reflectlite.TypeOf", "(internal/reflectlite.Value).Elem", "(internal/reflectlite.Value).Set"], unfollowed := true, recurses := true, named := ["errors.errorType"], plainKeys := false, leaving := true, apart := false, laid := [("errors.errorType", laid_errors_errorType)] }
def FloorNumberedSaid : Prop := floorNumberedRow.holds Tryd.pinned (OpenSpec.ofChange floorNumberedSpec)

/-- ITS FALSE NEIGHBOUR: 'it returns false'. Refute it at one input. -/
def floorNumberedWrong : ChangeSpec := { name := "floorNumbered", fn := fun _ => fun
  | [d] => { results := [.lit (.bool false)], args := [d] }
  | _ => none }
def FloorNumberedWrongFalsely : Prop := floorNumberedRow.holds Tryd.pinned (OpenSpec.ofChange floorNumberedWrong)

/-- 'muscovadolaw05.FloorHeat': WHATEVER THE INPUT: true; the input reads as it did. -/
def floorHeatSpec : ChangeSpec := { name := "floorHeat", fn := fun _ => fun
  | [d] => { results := [.lit (.bool true)], args := [d] }
  | _ => none }
def floorHeatRow : OpenClaim := { program := "ytabnpjbnoedfgaadoor", sum := "d55fd574d28fccf924c5c8a5b6e2103fd0b449329ef03632118a6f6dff29b60f", func := "muscovado/muscovadolaw05.FloorHeat", spec := "floorHeat", inPlace := ["internal/reflectlite.ValueOf", "(internal/reflectlite.Value).Type", "(internal/reflectlite.Value).IsNil", "internal/reflectlite.TypeOf", "(internal/reflectlite.Value).Elem", "(internal/reflectlite.Value).Set"], unfollowed := true, recurses := true, named := ["errors.errorType"], plainKeys := false, leaving := true, apart := false, laid := [("errors.errorType", laid_errors_errorType)] }
def FloorHeatSaid : Prop := floorHeatRow.holds Tryd.pinned (OpenSpec.ofChange floorHeatSpec)

/-- ITS FALSE NEIGHBOUR: 'it returns false'. Refute it at one input. -/
def floorHeatWrong : ChangeSpec := { name := "floorHeat", fn := fun _ => fun
  | [d] => { results := [.lit (.bool false)], args := [d] }
  | _ => none }
def FloorHeatWrongFalsely : Prop := floorHeatRow.holds Tryd.pinned (OpenSpec.ofChange floorHeatWrong)

/-- 'muscovadolaw05.FloorAll': WHATEVER THE INPUT: true; the input reads as it did. -/
def floorAllSpec : ChangeSpec := { name := "floorAll", fn := fun _ => fun
  | [d] => { results := [.lit (.bool true)], args := [d] }
  | _ => none }
def floorAllRow : OpenClaim := { program := "ytabnpjbnoedfgaadoor", sum := "d55fd574d28fccf924c5c8a5b6e2103fd0b449329ef03632118a6f6dff29b60f", func := "muscovado/muscovadolaw05.FloorAll", spec := "floorAll", inPlace := ["internal/reflectlite.ValueOf", "(internal/reflectlite.Value).Type", "(internal/reflectlite.Value).IsNil", "internal/reflectlite.TypeOf", "(internal/reflectlite.Value).Elem", "(internal/reflectlite.Value).Set"], unfollowed := true, recurses := true, named := ["errors.errorType"], plainKeys := false, leaving := true, apart := false, laid := [("errors.errorType", laid_errors_errorType)] }
def FloorAllSaid : Prop := floorAllRow.holds Tryd.pinned (OpenSpec.ofChange floorAllSpec)

/-- ITS FALSE NEIGHBOUR: 'it returns false'. Refute it at one input. -/
def floorAllWrong : ChangeSpec := { name := "floorAll", fn := fun _ => fun
  | [d] => { results := [.lit (.bool false)], args := [d] }
  | _ => none }
def FloorAllWrongFalsely : Prop := floorAllRow.holds Tryd.pinned (OpenSpec.ofChange floorAllWrong)

/-- 'muscovadolaw05.FloorKnown': WHATEVER THE INPUT: true; the input reads as it did. -/
def floorKnownSpec : ChangeSpec := { name := "floorKnown", fn := fun _ => fun
  | [] => { results := [.lit (.bool true)], args := [] }
  | _ => none }
def floorKnownRow : OpenClaim := { program := "ytabnpjbnoedfgaadoor", sum := "d55fd574d28fccf924c5c8a5b6e2103fd0b449329ef03632118a6f6dff29b60f", func := "muscovado/muscovadolaw05.FloorKnown", spec := "floorKnown", inPlace := ["internal/reflectlite.ValueOf", "(internal/reflectlite.Value).Type", "(internal/reflectlite.Value).IsNil", "internal/reflectlite.TypeOf", "(internal/reflectlite.Value).Elem", "(internal/reflectlite.Value).Set"], unfollowed := true, recurses := true, named := ["errors.errorType"], plainKeys := false, leaving := true, apart := false, laid := [("errors.errorType", laid_errors_errorType)] }
def FloorKnownSaid : Prop := floorKnownRow.holds Tryd.pinned (OpenSpec.ofChange floorKnownSpec)

/-- ITS FALSE NEIGHBOUR: 'it returns false'. Refute it at one input. -/
def floorKnownWrong : ChangeSpec := { name := "floorKnown", fn := fun _ => fun
  | [] => { results := [.lit (.bool false)], args := [] }
  | _ => none }
def FloorKnownWrongFalsely : Prop := floorKnownRow.holds Tryd.pinned (OpenSpec.ofChange floorKnownWrong)

/- THE SECOND FORM. 'bulk': how many values and letters a reading holds, each counted each time it is reached (what is shared counts as often as it is met; a slice's spare places count too). A statement '..UptoSaid' is the law's where the arguments, and the package variables that the reading takes, are together of bulk at most 1048576: NARROWER than '..Said'. Prove '..Said' where nothing that the law and all that it calls make is longer than what came in: it says more and counts as full. Else prove '..UptoSaid'. A law counts once. -/
mutual
def uptoBulk {H : Type} : DataW H → Nat
  | .lit (.string bytes) => bytes.length + 1
  | .lit _ => 1
  | .nil => 1
  | .ptr d => uptoBulk d + 1
  | .slice elems spare => uptoBulkAll elems + uptoBulkAll spare + 1
  | .agg parts => uptoBulkAll parts + 1
  | .iface _ d => uptoBulk d + 1
  | .map entries => uptoBulkEntries entries + 1
  | .held _ => 1
def uptoBulkAll {H : Type} : List (DataW H) → Nat
  | [] => 0
  | d :: r => uptoBulk d + uptoBulkAll r
def uptoBulkEntries {H : Type} : List (Lit × DataW H) → Nat
  | [] => 0
  | x :: r => uptoBulkEntry x + uptoBulkEntries r
def uptoBulkEntry {H : Type} : Lit × DataW H → Nat
  | (.string bytes, d) => bytes.length + uptoBulk d + 1
  | (_, d) => uptoBulk d + 1
 end
def uptoSmall : (H : Type) → List (DataW H) → Bool := fun _ ds => decide (uptoBulkAll ds ≤ 1048576)
def OpenSpec.upto (s : _root_.Go.ChangeSpec) : _root_.Go.OpenSpec := { _root_.Go.OpenSpec.ofChange s with cond := some uptoSmall }

/-- 'muscovadolaw05.FloorWithout', WHERE WHAT IT READS IS OF BULK AT MOST 1048576: true; the input reads as it did. -/
def floorWithoutUptoRow : OpenClaim := { program := "ytabnpjbnoedfgaadoor", sum := "d55fd574d28fccf924c5c8a5b6e2103fd0b449329ef03632118a6f6dff29b60f", func := "muscovado/muscovadolaw05.FloorWithout", spec := "floorWithout", inPlace := ["internal/reflectlite.ValueOf", "(internal/reflectlite.Value).Type", "(internal/reflectlite.Value).IsNil", "internal/reflectlite.TypeOf", "(internal/reflectlite.Value).Elem", "(internal/reflectlite.Value).Set"], unfollowed := true, recurses := true, named := ["errors.errorType"], plainKeys := false, leaving := true, apart := false, laid := [("errors.errorType", laid_errors_errorType)], narrowed := true }
def FloorWithoutUptoSaid : Prop := floorWithoutUptoRow.holds Tryd.pinned (OpenSpec.upto floorWithoutSpec)

/-- 'muscovadolaw05.FloorLate', WHERE WHAT IT READS IS OF BULK AT MOST 1048576: true; the input reads as it did. -/
def floorLateUptoRow : OpenClaim := { program := "ytabnpjbnoedfgaadoor", sum := "d55fd574d28fccf924c5c8a5b6e2103fd0b449329ef03632118a6f6dff29b60f", func := "muscovado/muscovadolaw05.FloorLate", spec := "floorLate", inPlace := ["internal/reflectlite.ValueOf", "(internal/reflectlite.Value).Type", "(internal/reflectlite.Value).IsNil", "internal/reflectlite.TypeOf", "(internal/reflectlite.Value).Elem", "(internal/reflectlite.Value).Set"], unfollowed := true, recurses := true, named := ["errors.errorType"], plainKeys := false, leaving := true, apart := false, laid := [("errors.errorType", laid_errors_errorType)], narrowed := true }
def FloorLateUptoSaid : Prop := floorLateUptoRow.holds Tryd.pinned (OpenSpec.upto floorLateSpec)

/-- 'muscovadolaw05.FloorPatience', WHERE WHAT IT READS IS OF BULK AT MOST 1048576: true; the input reads as it did. -/
def floorPatienceUptoRow : OpenClaim := { program := "ytabnpjbnoedfgaadoor", sum := "d55fd574d28fccf924c5c8a5b6e2103fd0b449329ef03632118a6f6dff29b60f", func := "muscovado/muscovadolaw05.FloorPatience", spec := "floorPatience", inPlace := ["internal/reflectlite.ValueOf", "(internal/reflectlite.Value).Type", "(internal/reflectlite.Value).IsNil", "internal/reflectlite.TypeOf", "(internal/reflectlite.Value).Elem", "(internal/reflectlite.Value).Set"], unfollowed := true, recurses := true, named := ["errors.errorType"], plainKeys := false, leaving := true, apart := false, laid := [("errors.errorType", laid_errors_errorType)], narrowed := true }
def FloorPatienceUptoSaid : Prop := floorPatienceUptoRow.holds Tryd.pinned (OpenSpec.upto floorPatienceSpec)

/-- 'muscovadolaw05.FloorNeed', WHERE WHAT IT READS IS OF BULK AT MOST 1048576: true; the input reads as it did. -/
def floorNeedUptoRow : OpenClaim := { program := "ytabnpjbnoedfgaadoor", sum := "d55fd574d28fccf924c5c8a5b6e2103fd0b449329ef03632118a6f6dff29b60f", func := "muscovado/muscovadolaw05.FloorNeed", spec := "floorNeed", inPlace := ["internal/reflectlite.ValueOf", "(internal/reflectlite.Value).Type", "(internal/reflectlite.Value).IsNil", "internal/reflectlite.TypeOf", "(internal/reflectlite.Value).Elem", "(internal/reflectlite.Value).Set"], unfollowed := true, recurses := true, named := ["errors.errorType"], plainKeys := false, leaving := true, apart := false, laid := [("errors.errorType", laid_errors_errorType)], narrowed := true }
def FloorNeedUptoSaid : Prop := floorNeedUptoRow.holds Tryd.pinned (OpenSpec.upto floorNeedSpec)

/-- 'muscovadolaw05.FloorMore', WHERE WHAT IT READS IS OF BULK AT MOST 1048576: true; the input reads as it did. -/
def floorMoreUptoRow : OpenClaim := { program := "ytabnpjbnoedfgaadoor", sum := "d55fd574d28fccf924c5c8a5b6e2103fd0b449329ef03632118a6f6dff29b60f", func := "muscovado/muscovadolaw05.FloorMore", spec := "floorMore", inPlace := ["internal/reflectlite.ValueOf", "(internal/reflectlite.Value).Type", "(internal/reflectlite.Value).IsNil", "internal/reflectlite.TypeOf", "(internal/reflectlite.Value).Elem", "(internal/reflectlite.Value).Set"], unfollowed := true, recurses := true, named := ["errors.errorType"], plainKeys := false, leaving := true, apart := false, laid := [("errors.errorType", laid_errors_errorType)], narrowed := true }
def FloorMoreUptoSaid : Prop := floorMoreUptoRow.holds Tryd.pinned (OpenSpec.upto floorMoreSpec)

/-- 'muscovadolaw05.FloorSlower', WHERE WHAT IT READS IS OF BULK AT MOST 1048576: true; the input reads as it did. -/
def floorSlowerUptoRow : OpenClaim := { program := "ytabnpjbnoedfgaadoor", sum := "d55fd574d28fccf924c5c8a5b6e2103fd0b449329ef03632118a6f6dff29b60f", func := "muscovado/muscovadolaw05.FloorSlower", spec := "floorSlower", inPlace := ["internal/reflectlite.ValueOf", "(internal/reflectlite.Value).Type", "(internal/reflectlite.Value).IsNil", "internal/reflectlite.TypeOf", "(internal/reflectlite.Value).Elem", "(internal/reflectlite.Value).Set"], unfollowed := true, recurses := true, named := ["errors.errorType"], plainKeys := false, leaving := true, apart := false, laid := [("errors.errorType", laid_errors_errorType)], narrowed := true }
def FloorSlowerUptoSaid : Prop := floorSlowerUptoRow.holds Tryd.pinned (OpenSpec.upto floorSlowerSpec)

/-- 'muscovadolaw05.FloorBest', WHERE WHAT IT READS IS OF BULK AT MOST 1048576: true; the input reads as it did. -/
def floorBestUptoRow : OpenClaim := { program := "ytabnpjbnoedfgaadoor", sum := "d55fd574d28fccf924c5c8a5b6e2103fd0b449329ef03632118a6f6dff29b60f", func := "muscovado/muscovadolaw05.FloorBest", spec := "floorBest", inPlace := ["internal/reflectlite.ValueOf", "(internal/reflectlite.Value).Type", "(internal/reflectlite.Value).IsNil", "internal/reflectlite.TypeOf", "(internal/reflectlite.Value).Elem", "(internal/reflectlite.Value).Set"], unfollowed := true, recurses := true, named := ["errors.errorType"], plainKeys := false, leaving := true, apart := false, laid := [("errors.errorType", laid_errors_errorType)], narrowed := true }
def FloorBestUptoSaid : Prop := floorBestUptoRow.holds Tryd.pinned (OpenSpec.upto floorBestSpec)

/-- 'muscovadolaw05.FloorLater', WHERE WHAT IT READS IS OF BULK AT MOST 1048576: true; the input reads as it did. -/
def floorLaterUptoRow : OpenClaim := { program := "ytabnpjbnoedfgaadoor", sum := "d55fd574d28fccf924c5c8a5b6e2103fd0b449329ef03632118a6f6dff29b60f", func := "muscovado/muscovadolaw05.FloorLater", spec := "floorLater", inPlace := ["internal/reflectlite.ValueOf", "(internal/reflectlite.Value).Type", "(internal/reflectlite.Value).IsNil", "internal/reflectlite.TypeOf", "(internal/reflectlite.Value).Elem", "(internal/reflectlite.Value).Set"], unfollowed := true, recurses := true, named := ["errors.errorType"], plainKeys := false, leaving := true, apart := false, laid := [("errors.errorType", laid_errors_errorType)], narrowed := true }
def FloorLaterUptoSaid : Prop := floorLaterUptoRow.holds Tryd.pinned (OpenSpec.upto floorLaterSpec)

/-- 'muscovadolaw05.FloorNumbered', WHERE WHAT IT READS IS OF BULK AT MOST 1048576: true; the input reads as it did. -/
def floorNumberedUptoRow : OpenClaim := { program := "ytabnpjbnoedfgaadoor", sum := "d55fd574d28fccf924c5c8a5b6e2103fd0b449329ef03632118a6f6dff29b60f", func := "muscovado/muscovadolaw05.FloorNumbered", spec := "floorNumbered", inPlace := ["internal/reflectlite.ValueOf", "(internal/reflectlite.Value).Type", "(internal/reflectlite.Value).IsNil", "internal/reflectlite.TypeOf", "(internal/reflectlite.Value).Elem", "(internal/reflectlite.Value).Set"], unfollowed := true, recurses := true, named := ["errors.errorType"], plainKeys := false, leaving := true, apart := false, laid := [("errors.errorType", laid_errors_errorType)], narrowed := true }
def FloorNumberedUptoSaid : Prop := floorNumberedUptoRow.holds Tryd.pinned (OpenSpec.upto floorNumberedSpec)

/-- 'muscovadolaw05.FloorHeat', WHERE WHAT IT READS IS OF BULK AT MOST 1048576: true; the input reads as it did. -/
def floorHeatUptoRow : OpenClaim := { program := "ytabnpjbnoedfgaadoor", sum := "d55fd574d28fccf924c5c8a5b6e2103fd0b449329ef03632118a6f6dff29b60f", func := "muscovado/muscovadolaw05.FloorHeat", spec := "floorHeat", inPlace := ["internal/reflectlite.ValueOf", "(internal/reflectlite.Value).Type", "(internal/reflectlite.Value).IsNil", "internal/reflectlite.TypeOf", "(internal/reflectlite.Value).Elem", "(internal/reflectlite.Value).Set"], unfollowed := true, recurses := true, named := ["errors.errorType"], plainKeys := false, leaving := true, apart := false, laid := [("errors.errorType", laid_errors_errorType)], narrowed := true }
def FloorHeatUptoSaid : Prop := floorHeatUptoRow.holds Tryd.pinned (OpenSpec.upto floorHeatSpec)

/-- 'muscovadolaw05.FloorAll', WHERE WHAT IT READS IS OF BULK AT MOST 1048576: true; the input reads as it did. -/
def floorAllUptoRow : OpenClaim := { program := "ytabnpjbnoedfgaadoor", sum := "d55fd574d28fccf924c5c8a5b6e2103fd0b449329ef03632118a6f6dff29b60f", func := "muscovado/muscovadolaw05.FloorAll", spec := "floorAll", inPlace := ["internal/reflectlite.ValueOf", "(internal/reflectlite.Value).Type", "(internal/reflectlite.Value).IsNil", "internal/reflectlite.TypeOf", "(internal/reflectlite.Value).Elem", "(internal/reflectlite.Value).Set"], unfollowed := true, recurses := true, named := ["errors.errorType"], plainKeys := false, leaving := true, apart := false, laid := [("errors.errorType", laid_errors_errorType)], narrowed := true }
def FloorAllUptoSaid : Prop := floorAllUptoRow.holds Tryd.pinned (OpenSpec.upto floorAllSpec)

/-- 'muscovadolaw05.FloorKnown', WHERE WHAT IT READS IS OF BULK AT MOST 1048576: true; the input reads as it did. -/
def floorKnownUptoRow : OpenClaim := { program := "ytabnpjbnoedfgaadoor", sum := "d55fd574d28fccf924c5c8a5b6e2103fd0b449329ef03632118a6f6dff29b60f", func := "muscovado/muscovadolaw05.FloorKnown", spec := "floorKnown", inPlace := ["internal/reflectlite.ValueOf", "(internal/reflectlite.Value).Type", "(internal/reflectlite.Value).IsNil", "internal/reflectlite.TypeOf", "(internal/reflectlite.Value).Elem", "(internal/reflectlite.Value).Set"], unfollowed := true, recurses := true, named := ["errors.errorType"], plainKeys := false, leaving := true, apart := false, laid := [("errors.errorType", laid_errors_errorType)], narrowed := true }
def FloorKnownUptoSaid : Prop := floorKnownUptoRow.holds Tryd.pinned (OpenSpec.upto floorKnownSpec)

end Rows
end Go.Proofs.YtabnpjbnoedfgaaDoor
