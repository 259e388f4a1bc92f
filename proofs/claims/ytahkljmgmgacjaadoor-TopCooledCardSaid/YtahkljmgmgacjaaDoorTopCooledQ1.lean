/- TopCooled's card. Conditions: as the card says; over the given program. -/
import Derived.Test.YtahkljmgmgacjaaDoorR11
set_option linter.unusedVariables false
set_option linter.unusedSimpArgs false
set_option linter.unusedSectionVars false

/- TopCooled's card. Conditions: as the card says; over the given program. -/
namespace Go.Proofs.YtahkljmgmgacjaaDoor
open Go Go.aS
set_option maxRecDepth 100000
set_option maxHeartbeats 4000000
theorem aD1:prog.funcNamed Rows.topCooledRow.func=some aze:=by kernel_rfl
theorem aGB:Rows.TopCooledSaid:=
 OpenClaim.holds_of_wide aze aBk rfl rfl rfl rfl rfl rfl rfl ⟨rfl,rfl,rfl,rfl,rfl⟩ rfl rfl rfl rfl rfl aD1 aBa (by kernel_rfl)
  (of_decide_eq_true (by kernel_rfl)) (by unfold Func.isWrapper;first | (rw[if_pos (by decide+kernel)];kernel_rfl) | (rw[if_neg (by decide+kernel)];exact⟨rfl,rfl⟩))
  (
   fun os started H enc _=>aCh (s:=Rows.topCooledSpec) os started H enc aBa (by kernel_rfl) (by kernel_rfl) (by kernel_rfl) (by kernel_rfl) (by kernel_rfl) rfl (fun _=>rfl)
   (ChangeSpec.witness_at (enc:=enc) (C:=Tryd.checked) (os:=os) (X:=fun w _=>laidMetH prog J9 w) false (laidWorld os) #[.slice none 0 0] 8 rfl (by kernel_rfl) (by kernel_rfl) (by kernel_rfl) (by kernel_rfl) (by kernel_rfl) (laidWorld_met os _))
   (fun main hmb h nums lv Eg zg hl hg=>aGA main hmb h nums lv Eg zg hl hg))

theorem TopCooled_card:Rows.TopCooledCardSaid:=
 Claim7.holds_tied_plain_at .later [] [.handle] true (true, "b8e1008555bae0ef7b4a572b23eaa1c5aa67a6e292b0d9918b7b3c50015b1501") true
  aGB (fun _ h=>by cases h) (by kernel_rfl) (fun _ h=>by cases h) topCooled_row_tie rfl ⟨rfl,rfl⟩ (by kernel_rfl) rfl
  (
   fun f fn hf hfn=>by
   obtain rfl:f=aze:=(Option.some.inj (aD1.symm.trans hf)).symm
   obtain rfl:fn=aBk:=(Option.some.inj (aBa.symm.trans hfn)).symm
   exact⟨by kernel_rfl,fun j t ht=>by
    rw[show(aBk).params= #[nS] by kernel_rfl]at ht
    have h3:t=nS:=by
     rcases j with _ | j
     ·simpa using ht.symm
     ·simp at ht
    subst h3
    exact(show prog.wantsStandIn nS=false by kernel_rfl)⟩)
  (by kernel_rfl)
#print axioms TopCooled_card
end Go.Proofs.YtahkljmgmgacjaaDoor
