/- FunctionOf of the program answers as FunctionOf of the reference at every argument, and the arguments stay as they are. No condition. -/
import Derived.Test.YtnfkifcbemppjaaPFnExactFunctionOfx1
namespace Go.Proofs.Ytnfkifcbemppjaa.Pure
open Go.RowKit Go.Proofs.Ytnfkifcbemppjaa.PFnExactFunctionOf Go.Proofs.YtnfkifcbemppjaaW.PrintWords Go.Proofs.YtnfkifcbemppjaaW.PrintLast

theorem inRange (a b c : Int) : spec_l01In.f a b c = some (decide (b ≤ a ∧ a ≤ c)) := by
  unfold spec_l01In.f
  by_cases h : b ≤ a <;> simp [h]
theorem within (a b c : Int) : impl_within.f a b c = some (decide (b ≤ a ∧ a ≤ c)) := by
  unfold impl_within.f
  by_cases h : b ≤ a <;> simp [h]
theorem FnExactFunctionOf : laws_FnExactFunctionOf.Pure := by
  intro a0 _
  unfold laws_FnExactFunctionOf.f spec_FunctionOf.f impl_FunctionOf.f spec_IsId.f impl_IsId.f
  simp only [inRange, within, Option.bind_some]
  by_cases h : 0 ≤ a0 ∧ a0 ≤ 255
  · simp [h]
  · simp [h]

end Go.Proofs.Ytnfkifcbemppjaa.Pure
