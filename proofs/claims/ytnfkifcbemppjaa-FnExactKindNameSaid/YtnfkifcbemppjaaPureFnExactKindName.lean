/- KindName of the program answers as KindName of the reference at every argument. No condition. -/
import Derived.Test.YtnfkifcbemppjaaPFnExactKindNamex1
namespace Go.Proofs.Ytnfkifcbemppjaa.Pure
open Go.RowKit Go.Proofs.Ytnfkifcbemppjaa.PFnExactKindName Go.Proofs.YtnfkifcbemppjaaW.PrintWords Go.Proofs.YtnfkifcbemppjaaW.PrintLast Go.Proofs.YtnfkifcbemppjaaW.PrintMore
set_option linter.unusedVariables false
set_option linter.unusedSimpArgs false

theorem inRange (a b c : Int) : spec_l01In.f a b c = some (decide (b ≤ a ∧ a ≤ c)) := by
  unfold spec_l01In.f
  by_cases h : b ≤ a <;> simp [h]
theorem within (a b c : Int) : impl_within.f a b c = some (decide (b ≤ a ∧ a ≤ c)) := by
  unfold impl_within.f
  by_cases h : b ≤ a <;> simp [h]
theorem FnExactKindName : laws_FnExactKindName.Pure := by
  intro a0 _
  have key : spec_KindName.f a0 = impl_KindName.f a0 := by
    unfold spec_KindName.f impl_KindName.f
    rw [inRange]
    simp only [Option.bind_some]
    by_cases q : 1 ≤ a0 ∧ a0 ≤ 6
    · have : a0 = 1 ∨ a0 = 2 ∨ a0 = 3 ∨ a0 = 4 ∨ a0 = 5 ∨ a0 = 6 := by omega
      rcases this with rfl | rfl | rfl | rfl | rfl | rfl <;> simp [wrap64, rdOf]
    · rw [if_neg (by simpa using q), if_neg (show ¬ a0 = 1 by omega), if_neg (show ¬ a0 = 2 by omega), if_neg (show ¬ a0 = 3 by omega), if_neg (show ¬ a0 = 4 by omega), if_neg (show ¬ a0 = 5 by omega), if_neg (show ¬ a0 = 6 by omega)]
  obtain ⟨v, hv⟩ : ∃ v, impl_KindName.f a0 = some v := by
    unfold impl_KindName.f
    repeat' split
    all_goals exact ⟨_, rfl⟩
  unfold laws_FnExactKindName.f
  rw [key, hv]
  simp

end Go.Proofs.Ytnfkifcbemppjaa.Pure
