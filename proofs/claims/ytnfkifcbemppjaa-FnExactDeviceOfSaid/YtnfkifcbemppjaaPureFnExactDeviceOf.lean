/- DeviceOf of the program answers as DeviceOf of the reference at every argument, and the arguments stay as they are. No condition. -/
import Derived.Test.YtnfkifcbemppjaaPFnExactDeviceOfx1
namespace Go.Proofs.Ytnfkifcbemppjaa.Pure
open Go.RowKit Go.Proofs.Ytnfkifcbemppjaa.PFnExactDeviceOf Go.Proofs.YtnfkifcbemppjaaW.PrintWords Go.Proofs.YtnfkifcbemppjaaW.PrintLast

theorem inRange (a b c : Int) : spec_l01In.f a b c = some (decide (b ≤ a ∧ a ≤ c)) := by
  unfold spec_l01In.f
  by_cases h : b ≤ a <;> simp [h]
theorem within (a b c : Int) : impl_within.f a b c = some (decide (b ≤ a ∧ a ≤ c)) := by
  unfold impl_within.f
  by_cases h : b ≤ a <;> simp [h]
theorem FnExactDeviceOf : laws_FnExactDeviceOf.Pure := by
  intro a0 _
  unfold laws_FnExactDeviceOf.f spec_DeviceOf.f impl_DeviceOf.f spec_IsId.f impl_IsId.f
  simp only [inRange, within, Option.bind_some]
  by_cases h : 0 ≤ a0 ∧ a0 ≤ 255
  · simp [h]
  · simp [h]

end Go.Proofs.Ytnfkifcbemppjaa.Pure
