/- SplitWord of the program answers as SplitWord of the reference at every argument, and the arguments stay as they are. No condition. -/
import Derived.Test.YtnfkifcbemppjaaPFnExactSplitWordx1
namespace Go.Proofs.Ytnfkifcbemppjaa.Pure
open Go.RowKit Go.Proofs.Ytnfkifcbemppjaa.PFnExactSplitWord Go.Proofs.YtnfkifcbemppjaaW.PrintWords Go.Proofs.YtnfkifcbemppjaaW.PrintLast

theorem inRange (a b c : Int) : spec_l01In.f a b c = some (decide (b ≤ a ∧ a ≤ c)) := by
  unfold spec_l01In.f
  by_cases h : b ≤ a <;> simp [h]
theorem within (a b c : Int) : impl_within.f a b c = some (decide (b ≤ a ∧ a ≤ c)) := by
  unfold impl_within.f
  by_cases h : b ≤ a <;> simp [h]
theorem FnExactSplitWord : laws_FnExactSplitWord.Pure := by
  intro a0 _
  unfold laws_FnExactSplitWord.f spec_SplitWord.f impl_SplitWord.f impl_isWord.f
  simp only [inRange, within, Option.bind_some]
  by_cases h : 0 ≤ a0 ∧ a0 ≤ 65535
  · simp [h]
  · simp [h]

end Go.Proofs.Ytnfkifcbemppjaa.Pure
