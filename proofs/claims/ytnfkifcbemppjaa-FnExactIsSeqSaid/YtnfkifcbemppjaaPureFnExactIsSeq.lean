/- IsSeq of the program answers as IsSeq of the reference at every argument, and the arguments stay as they are. No condition. -/
import Derived.Test.YtnfkifcbemppjaaPFnExactIsSeqx1
namespace Go.Proofs.Ytnfkifcbemppjaa.Pure
open Go.RowKit Go.Proofs.Ytnfkifcbemppjaa.PFnExactIsSeq Go.Proofs.YtnfkifcbemppjaaW.PrintWords Go.Proofs.YtnfkifcbemppjaaW.PrintLast

theorem inRange (a b c : Int) : spec_l01In.f a b c = some (decide (b ≤ a ∧ a ≤ c)) := by
  unfold spec_l01In.f
  by_cases h : b ≤ a <;> simp [h]
theorem within (a b c : Int) : impl_within.f a b c = some (decide (b ≤ a ∧ a ≤ c)) := by
  unfold impl_within.f
  by_cases h : b ≤ a <;> simp [h]
theorem FnExactIsSeq : laws_FnExactIsSeq.Pure := by
  intro a0 _
  unfold laws_FnExactIsSeq.f spec_IsSeq.f impl_IsSeq.f
  simp only [inRange, within, Option.bind_some]
  simp

end Go.Proofs.Ytnfkifcbemppjaa.Pure
