/- MakeId of the program answers as MakeId of the reference at every argument, and the arguments stay as they are. No condition. -/
import Derived.Test.YtnfkifcbemppjaaPFnExactMakeIdx1
namespace Go.Proofs.Ytnfkifcbemppjaa.Pure
open Go.RowKit Go.Proofs.Ytnfkifcbemppjaa.PFnExactMakeId Go.Proofs.YtnfkifcbemppjaaW.PrintWords Go.Proofs.YtnfkifcbemppjaaW.PrintLast

theorem inRange (a b c : Int) : spec_l01In.f a b c = some (decide (b ≤ a ∧ a ≤ c)) := by
  unfold spec_l01In.f
  by_cases h : b ≤ a <;> simp [h]
theorem within (a b c : Int) : impl_within.f a b c = some (decide (b ≤ a ∧ a ≤ c)) := by
  unfold impl_within.f
  by_cases h : b ≤ a <;> simp [h]
theorem FnExactMakeId : laws_FnExactMakeId.Pure := by
  intro a0 a1 a2 _ _ _
  unfold laws_FnExactMakeId.f spec_MakeId.f impl_MakeId.f
  simp only [inRange, within, Option.bind_some]
  by_cases h : 0 ≤ a0 ∧ a0 ≤ 15
  · by_cases h1 : 0 ≤ a1 ∧ a1 ≤ 3
    · by_cases h2 : 0 ≤ a2 ∧ a2 ≤ 3
      · simp [h, h1, h2]
      · simp [h, h1, h2]
    · simp [h, h1]
  · simp [h]

end Go.Proofs.Ytnfkifcbemppjaa.Pure
