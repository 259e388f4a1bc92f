/- MonthLate's card. Conditions: as the card says; over the given program. -/
import Derived.Test.YtjohlemgkcpoeaaGreatDoorR18
import Derived.Test.YtjohlemgkcpoeaaGreatDoorR19
set_option linter.unusedVariables false
set_option linter.unusedSimpArgs false
set_option linter.unusedSectionVars false
set_option maxRecDepth 100000
set_option maxHeartbeats 4000000

namespace Go.Proofs.YtjohlemgkcpoeaaGreatDoor
open Go Go.jc
theorem Qj:joinedFacts aV lH n_ Rows.monthLateSpec Rows.monthLateRow=true:=by kernel_rfl
theorem E_:aV.funcNamed Rows.monthLateRow.func=some lH:=by kernel_rfl
theorem Ru:aV.mainIs=some (true, "7f4942f75e0aa529f875d616e9d50057cf3bdd5110e2933167319e72962be2bd".toList):=by kernel_rfl
theorem Rx:true=Rows.monthLateRow.goesBy aV:=by kernel_rfl
theorem Qk:true=aV.looks []:=by kernel_rfl
theorem Vk:Rows.MonthLateSaid:=
 OpenClaim.holds_of_wide_leaving_time lH n_ rfl rfl rfl rfl rfl rfl rfl ⟨rfl,rfl,rfl,rfl,rfl⟩ rfl rfl rfl rfl rfl E_ qc Qj
  (of_decide_eq_true aB) (by unfold Func.isWrapper;first | (rw[if_pos (by decide+kernel)];kernel_rfl) | (rw[if_neg (by decide+kernel)];exact⟨rfl,rfl⟩))
  (
   fun os started H enc _ F=>arY (s:=Rows.monthLateSpec) os started H enc qc aB aB aB aB aB rfl (fun _=>rfl)
   (XZ (enc:=enc) (C:=Tryz.checked) (os:=os) (X:=fun w _=>laidMetH aV Ry w) (Wx os) #[.slice none 0 0] 8 rfl aB aB aB aB aB (Vl os _))
   (fun main hS qJ h cZ lv Eg zg hl hg z0=>Vm main hS qJ h cZ lv Eg zg hl hg z0) F)

theorem MonthLate_card:Rows.MonthLateCardSaid:=
 afF .later [] [.handle] true (true, "7f4942f75e0aa529f875d616e9d50057cf3bdd5110e2933167319e72962be2bd") true
  Vk (fun _ h=>by cases h) aB (fun _ h=>by cases h) monthLate_row_tie rfl ⟨rfl,rfl⟩ Ru rfl
  (
   fun f fn hf hfn=>by
   obtain rfl:f=lH:=(Option.some.inj (E_.symm.trans hf)).symm;obtain rfl:fn=n_:=(Option.some.inj (qc.symm.trans hfn)).symm
   exact⟨Qk,fun j t ht=>by
    rw[show(n_).params= #[tV] by kernel_rfl]at ht
    have h3:t=tV:=by
     rcases j with _ | j
     ·simpa using ht.symm
     simp at ht
    subst h3;exact(show aV.wantsStandIn tV=false by kernel_rfl)⟩)
  Rx
#print axioms MonthLate_card
end Go.Proofs.YtjohlemgkcpoeaaGreatDoor
