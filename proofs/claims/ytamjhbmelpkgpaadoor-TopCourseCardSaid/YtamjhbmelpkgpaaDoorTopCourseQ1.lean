/- TopCourse's card. Conditions: as the card says; over the given program. -/
import Derived.Test.YtamjhbmelpkgpaaDoorR10
set_option linter.unusedVariables false
set_option linter.unusedSimpArgs false
set_option linter.unusedSectionVars false

/- TopCourse's card. Conditions: as the card says; over the given program. -/
namespace Go.Proofs.YtamjhbmelpkgpaaDoor
open Go Go.aS
set_option maxRecDepth 100000
set_option maxHeartbeats 4000000
theorem ax4:prog.funcNamed Rows.topCourseRow.func=some gq:=by kernel_rfl
theorem az1:Rows.TopCourseSaid:=
 OpenClaim.holds_of_wide gq Pv rfl rfl rfl rfl rfl rfl rfl ⟨rfl,rfl,rfl,rfl,rfl⟩ rfl rfl rfl rfl rfl ax4 zl (by kernel_rfl)
  (of_decide_eq_true (by kernel_rfl)) (by unfold Func.isWrapper;first | (rw[if_pos (by decide+kernel)];kernel_rfl) | (rw[if_neg (by decide+kernel)];exact⟨rfl,rfl⟩))
  (
   fun os started H enc _=>aCh (s:=Rows.topCourseSpec) os started H enc zl (by kernel_rfl) (by kernel_rfl) (by kernel_rfl) (by kernel_rfl) (by kernel_rfl) rfl (fun _=>rfl)
   (ChangeSpec.witness_at (enc:=enc) (C:=Tryd.checked) (os:=os) (X:=fun w _=>laidMetH prog J9 w) false (laidWorld os) #[.slice none 0 0] 8 rfl (by kernel_rfl) (by kernel_rfl) (by kernel_rfl) (by kernel_rfl) (by kernel_rfl) (laidWorld_met os _))
   (fun main hmb h nums lv Eg zg hl hg=>az0 main hmb h nums lv Eg zg hl hg))

theorem TopCourse_card:Rows.TopCourseCardSaid:=
 Claim7.holds_tied_plain_at .later [] [.handle] true (true, "31c17ecf4747ecc3c129cbf0ea3c4976b50e49257833a62c33b2b284a9da46f4") true
  az1 (fun _ h=>by cases h) (by kernel_rfl) (fun _ h=>by cases h) topCourse_row_tie rfl ⟨rfl,rfl⟩ (by kernel_rfl) rfl
  (
   fun f fn hf hfn=>by
   obtain rfl:f=gq:=(Option.some.inj (ax4.symm.trans hf)).symm
   obtain rfl:fn=Pv:=(Option.some.inj (zl.symm.trans hfn)).symm
   exact⟨by kernel_rfl,fun j t ht=>by
    rw[show(Pv).params= #[nS] by kernel_rfl]at ht
    have h3:t=nS:=by
     rcases j with _ | j
     ·simpa using ht.symm
     ·simp at ht
    subst h3
    exact(show prog.wantsStandIn nS=false by kernel_rfl)⟩)
  (by kernel_rfl)
#print axioms TopCourse_card
end Go.Proofs.YtamjhbmelpkgpaaDoor
