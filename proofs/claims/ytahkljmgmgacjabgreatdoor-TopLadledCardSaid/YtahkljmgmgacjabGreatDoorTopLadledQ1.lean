/- TopLadled's card. Conditions: as the card says; over the given program. -/
import Derived.Test.YtahkljmgmgacjabGreatDoorR12
set_option linter.unusedVariables false
set_option linter.unusedSimpArgs false
set_option linter.unusedSectionVars false

/- TopLadled's card. Conditions: as the card says; over the given program. -/
namespace Go.Proofs.YtahkljmgmgacjabGreatDoor
open Go Go.aS
set_option maxRecDepth 100000
set_option maxHeartbeats 4000000
theorem aEV:Rows.TopLadledSaid:=
 OpenClaim.holds_of_wide_leaving Wn Y3 rfl rfl rfl rfl rfl rfl rfl ⟨rfl,rfl,rfl,rfl,rfl⟩ rfl rfl rfl rfl rfl (by kernel_rfl) Y0 (by kernel_rfl)
  (of_decide_eq_true (by kernel_rfl)) (by unfold Func.isWrapper;first | (rw[if_pos (by decide+kernel)];kernel_rfl) | (rw[if_neg (by decide+kernel)];exact⟨rfl,rfl⟩))
  (
   fun os started H enc _=>ad7 (s:=Rows.topLadledSpec) os started H enc Y0 (by kernel_rfl) (by kernel_rfl) (by kernel_rfl) (by kernel_rfl) (by kernel_rfl) rfl (fun _=>rfl)
   (ChangeSpec.witness_at (enc:=enc) (C:=Tryz.checked) (os:=os) (X:=fun w _=>laidMetH prog J9 w) false (laidWorld os) #[.slice none 0 0] 8 rfl (by kernel_rfl) (by kernel_rfl) (by kernel_rfl) (by kernel_rfl) (by kernel_rfl) (laidWorld_met os _))
   (fun main hS hmb h nums lv Eg zg hl hg z0=>aEU main hS hmb h nums lv Eg zg hl hg z0))

theorem TopLadled_card:Rows.TopLadledCardSaid:=
 VZ .later [] [.handle] true (true, "55e588bc38caaea064a1eed892ab43bc528285e6017fbfa0de7573cd9a7a888a") true
  aEV (fun _ h=>by cases h) (by kernel_rfl) (fun _ h=>by cases h) topLadled_row_tie rfl ⟨rfl,rfl⟩ (by kernel_rfl) rfl
  (
   fun f fn hf hfn=>by
   obtain rfl:f=Wn:=(Option.some.inj ((show prog.funcNamed Rows.topLadledRow.func=some Wn by kernel_rfl).symm.trans hf)).symm
   obtain rfl:fn=Y3:=(Option.some.inj (Y0.symm.trans hfn)).symm
   exact⟨by kernel_rfl,fun j t ht=>by
    rw[show(Y3).params= #[nS] by kernel_rfl]at ht
    have h3:t=nS:=by
     rcases j with _ | j
     ·simpa using ht.symm
     ·simp at ht
    subst h3
    exact(show prog.wantsStandIn nS=false by kernel_rfl)⟩)
  (by kernel_rfl)
#print axioms TopLadled_card
end Go.Proofs.YtahkljmgmgacjabGreatDoor
