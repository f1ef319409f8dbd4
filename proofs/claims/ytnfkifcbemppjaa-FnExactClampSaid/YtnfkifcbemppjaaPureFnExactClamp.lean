/- Clamp of the program answers as Clamp of the reference at every argument, and the arguments stay as they are. No condition. -/
import Derived.Test.YtnfkifcbemppjaaPFnExactClampx1
namespace Go.Proofs.Ytnfkifcbemppjaa.Pure
open Go.RowKit Go.Proofs.Ytnfkifcbemppjaa.PFnExactClamp Go.Proofs.YtnfkifcbemppjaaW.PrintWords Go.Proofs.YtnfkifcbemppjaaW.PrintLast

theorem FnExactClamp : laws_FnExactClamp.Pure := by
  intro a0 a1 a2 _ _ _
  refine ⟨1, ?_⟩
  unfold laws_FnExactClamp.f spec_Clamp.f impl_Clamp.f spec_Clamp.j0
  by_cases h : a2 < a1
  · simp [h]
  · have e : mx (mn a0 a2) a1 = if a0 < a1 then a1 else if a0 > a2 then a2 else a0 := by
      unfold mx mn
      (repeat' split) <;> omega
    rw [if_neg h, if_neg h, e]
    by_cases h1 : a0 < a1
    · simp [h1]
    · by_cases h2 : a0 > a2
      · simp [h1, h2]
      · simp [h1, h2]

end Go.Proofs.Ytnfkifcbemppjaa.Pure
