/- MonthKinds's card. Conditions: as the card says; over the given program. -/
import Derived.Test.YtjohlemgkcpoeaaGreatDoorR18
set_option linter.unusedVariables false
set_option linter.unusedSimpArgs false
set_option linter.unusedSectionVars false
set_option maxRecDepth 100000
set_option maxHeartbeats 4000000

namespace Go.Proofs.YtjohlemgkcpoeaaGreatDoor
open Go Go.jc
theorem ab3:joinedFacts aV aat aav Rows.monthKindsSpec Rows.monthKindsRow=true:=by kernel_rfl
theorem aaT:aV.funcNamed Rows.monthKindsRow.func=some aat:=by kernel_rfl
theorem aco:aV.mainIs=some (true, "7f4942f75e0aa529f875d616e9d50057cf3bdd5110e2933167319e72962be2bd".toList):=by kernel_rfl
theorem acr:true=Rows.monthKindsRow.goesBy aV:=by kernel_rfl
theorem ach:true=aV.looks []:=by kernel_rfl
theorem acv:Rows.MonthKindsSaid:=
 OpenClaim.holds_of_wide_leaving_time aat aav rfl rfl rfl rfl rfl rfl rfl ⟨rfl,rfl,rfl,rfl,rfl⟩ rfl rfl rfl rfl rfl aaT aaF ab3
  (of_decide_eq_true aB) (by unfold Func.isWrapper;first | (rw[if_pos (by decide+kernel)];kernel_rfl) | (rw[if_neg (by decide+kernel)];exact⟨rfl,rfl⟩))
  (
   fun os started H enc _ F=>arY (s:=Rows.monthKindsSpec) os started H enc aaF aB aB aB aB aB rfl (fun _=>rfl)
   (XZ (enc:=enc) (C:=Tryz.checked) (os:=os) (X:=fun w _=>laidMetH aV Ry w) (Wx os) #[.slice none 0 0] 8 rfl aB aB aB aB aB (Vl os _))
   (fun main hS qJ h cZ lv Eg zg hl hg z0=>acw main hS qJ h cZ lv Eg zg hl hg z0) F)

theorem MonthKinds_card:Rows.MonthKindsCardSaid:=
 afF .later [] [.handle] true (true, "7f4942f75e0aa529f875d616e9d50057cf3bdd5110e2933167319e72962be2bd") true
  acv (fun _ h=>by cases h) aB (fun _ h=>by cases h) monthKinds_row_tie rfl ⟨rfl,rfl⟩ aco rfl
  (
   fun f fn hf hfn=>by
   obtain rfl:f=aat:=(Option.some.inj (aaT.symm.trans hf)).symm;obtain rfl:fn=aav:=(Option.some.inj (aaF.symm.trans hfn)).symm
   exact⟨ach,fun j t ht=>by
    rw[show(aav).params= #[tV] by kernel_rfl]at ht
    have h3:t=tV:=by
     rcases j with _ | j
     ·simpa using ht.symm
     simp at ht
    subst h3;exact(show aV.wantsStandIn tV=false by kernel_rfl)⟩)
  acr
#print axioms MonthKinds_card
end Go.Proofs.YtjohlemgkcpoeaaGreatDoor
