/- FieldOf of the program answers as FieldOf of the reference at every argument, and the arguments stay as they are. No condition. -/
import Derived.Test.YtaaomljhhlkmlaaPFnExactFieldOfx1
import Derived.Test.YtaaomljhhlkmlaaBits
namespace Go.Proofs.Ytaaomljhhlkmlaa.Pure
open Go.RowKit Go.Proofs.Ytaaomljhhlkmlaa.PFnExactFieldOf Go.Proofs.YtaaomljhhlkmlaaW.PrintWords Go.Proofs.YtaaomljhhlkmlaaW.PrintLast Go.Proofs.YtaaomljhhlkmlaaW.PrintMore Go.Proofs.Ytaaomljhhlkmlaa.Num
set_option linter.unusedVariables false
set_option linter.unusedSimpArgs false

theorem inRange (a b c : Int) : spec_l01In.f a b c = some (decide (b ≤ a ∧ a ≤ c)) := by
  unfold spec_l01In.f
  by_cases h : b ≤ a <;> simp [h]
theorem within (a b c : Int) : impl_within.f a b c = some (decide (b ≤ a ∧ a ≤ c)) := by
  unfold impl_within.f
  by_cases h : b ≤ a <;> simp [h]
theorem FnExactFieldOf : laws_FnExactFieldOf.Pure := by
  intro a0 a1 a2 _ _ _
  unfold laws_FnExactFieldOf.f spec_FieldOf.f impl_FieldOf.f spec_l02Ok.f impl_isWord.f
  simp only [inRange, within, Option.bind_some]
  by_cases h : 0 ≤ a0 ∧ a0 ≤ 65535
  · by_cases h1 : 0 ≤ a1 ∧ a1 ≤ 15
    · by_cases h2 : 1 ≤ a2 ∧ a2 ≤ wrap64 (16 - a1)
      · have hw : wrap64 (16 - a1) = 16 - a1 := w64 (by omega) (by omega)
        have h3 : a2 ≤ 16 := by omega
        rw [u64 (n := a1) h1.1 (by omega), u64 (n := a2) (by omega) (by omega)]
        have h4 : 0 ≤ a2 := by omega
        simp [h, h1, h2, h4]
      · simp [h, h1, h2]
    · simp [h, h1]
  · simp [h]

end Go.Proofs.Ytaaomljhhlkmlaa.Pure
