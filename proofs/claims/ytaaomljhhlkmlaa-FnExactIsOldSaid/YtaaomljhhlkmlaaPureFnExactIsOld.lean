/- IsOld of the program answers as IsOld of the reference at every argument, and the arguments stay as they are. No condition. -/
import Derived.Test.YtaaomljhhlkmlaaPFnExactIsOldx1
namespace Go.Proofs.Ytaaomljhhlkmlaa.Pure
open Go.RowKit Go.Proofs.Ytaaomljhhlkmlaa.PFnExactIsOld Go.Proofs.YtaaomljhhlkmlaaW.PrintWords Go.Proofs.YtaaomljhhlkmlaaW.PrintLast Go.Proofs.YtaaomljhhlkmlaaW.PrintMore
set_option linter.unusedVariables false
set_option linter.unusedSimpArgs false

theorem inRange (a b c : Int) : spec_l01In.f a b c = some (decide (b ≤ a ∧ a ≤ c)) := by
  unfold spec_l01In.f
  by_cases h : b ≤ a <;> simp [h]
theorem within (a b c : Int) : impl_within.f a b c = some (decide (b ≤ a ∧ a ≤ c)) := by
  unfold impl_within.f
  by_cases h : b ≤ a <;> simp [h]
theorem FnExactIsOld : laws_FnExactIsOld.Pure := by
  intro a0 a1 _ _
  unfold laws_FnExactIsOld.f spec_IsOld.f impl_IsOld.f spec_SeqDistance.f impl_SeqDistance.f spec_IsSeq.f impl_IsSeq.f
  simp only [inRange, within, Option.bind_some]
  by_cases h : 0 ≤ a0 ∧ a0 ≤ 15
  · by_cases h1 : 0 ≤ a1 ∧ a1 ≤ 15
    · simp [h, h1]
    · simp [h, h1]
  · simp [h]

end Go.Proofs.Ytaaomljhhlkmlaa.Pure
