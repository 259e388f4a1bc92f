/- MonthSpoilt's card. Conditions: as the card says; over the given program. -/
import Derived.Test.YtjohlemgkcpoeaaGreatDoorR18
import Derived.Test.YtjohlemgkcpoeaaGreatDoorR19
set_option linter.unusedVariables false
set_option linter.unusedSimpArgs false
set_option linter.unusedSectionVars false
set_option maxRecDepth 100000
set_option maxHeartbeats 4000000

namespace Go.Proofs.YtjohlemgkcpoeaaGreatDoor
open Go Go.jc
theorem acG:joinedFacts aV zk acj Rows.monthSpoiltSpec Rows.monthSpoiltRow=true:=by kernel_rfl
theorem acB:aV.funcNamed Rows.monthSpoiltRow.func=some zk:=by kernel_rfl
theorem acI:aV.mainIs=some (true, "7f4942f75e0aa529f875d616e9d50057cf3bdd5110e2933167319e72962be2bd".toList):=by kernel_rfl
theorem acL:true=Rows.monthSpoiltRow.goesBy aV:=by kernel_rfl
theorem acH:true=aV.looks []:=by kernel_rfl
theorem ado:Rows.MonthSpoiltSaid:=
 OpenClaim.holds_of_wide_leaving_time zk acj rfl rfl rfl rfl rfl rfl rfl ⟨rfl,rfl,rfl,rfl,rfl⟩ rfl rfl rfl rfl rfl acB acn acG
  (of_decide_eq_true aB) (by unfold Func.isWrapper;first | (rw[if_pos (by decide+kernel)];kernel_rfl) | (rw[if_neg (by decide+kernel)];exact⟨rfl,rfl⟩))
  (
   fun os started H enc _ F=>arY (s:=Rows.monthSpoiltSpec) os started H enc acn aB aB aB aB aB rfl (fun _=>rfl)
   (XZ (enc:=enc) (C:=Tryz.checked) (os:=os) (X:=fun w _=>laidMetH aV Ry w) (Wx os) #[.slice none 0 0] 8 rfl aB aB aB aB aB (Vl os _))
   (fun main hS qJ h cZ lv Eg zg hl hg z0=>adt main hS qJ h cZ lv Eg zg hl hg z0) F)

theorem MonthSpoilt_card:Rows.MonthSpoiltCardSaid:=
 afF .later [] [.handle] true (true, "7f4942f75e0aa529f875d616e9d50057cf3bdd5110e2933167319e72962be2bd") true
  ado (fun _ h=>by cases h) aB (fun _ h=>by cases h) monthSpoilt_row_tie rfl ⟨rfl,rfl⟩ acI rfl
  (
   fun f fn hf hfn=>by
   obtain rfl:f=zk:=(Option.some.inj (acB.symm.trans hf)).symm;obtain rfl:fn=acj:=(Option.some.inj (acn.symm.trans hfn)).symm
   exact⟨acH,fun j t ht=>by
    rw[show(acj).params= #[tV] by kernel_rfl]at ht
    have h3:t=tV:=by
     rcases j with _ | j
     ·simpa using ht.symm
     simp at ht
    subst h3;exact(show aV.wantsStandIn tV=false by kernel_rfl)⟩)
  acL
#print axioms MonthSpoilt_card
end Go.Proofs.YtjohlemgkcpoeaaGreatDoor
