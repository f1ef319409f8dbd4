/- WithField of the program answers as WithField of the reference at every argument, and the arguments stay as they are. No condition. -/
import Derived.Test.YtaaomljhhlkmlaaPFnExactWithFieldx1
import Derived.Test.YtaaomljhhlkmlaaBits
namespace Go.Proofs.Ytaaomljhhlkmlaa.Pure
open Go.RowKit Go.Proofs.Ytaaomljhhlkmlaa.PFnExactWithField Go.Proofs.YtaaomljhhlkmlaaW.PrintWords Go.Proofs.YtaaomljhhlkmlaaW.PrintLast Go.Proofs.YtaaomljhhlkmlaaW.PrintMore Go.Proofs.Ytaaomljhhlkmlaa.Num
set_option linter.unusedVariables false
set_option linter.unusedSimpArgs false

theorem inRange (a b c : Int) : spec_l01In.f a b c = some (decide (b ≤ a ∧ a ≤ c)) := by
  unfold spec_l01In.f
  by_cases h : b ≤ a <;> simp [h]
theorem within (a b c : Int) : impl_within.f a b c = some (decide (b ≤ a ∧ a ≤ c)) := by
  unfold impl_within.f
  by_cases h : b ≤ a <;> simp [h]
theorem field_nonneg (a0 a1 a2 : Int) (h : 0 ≤ a0 ∧ a0 ≤ 65535) (h1 : 0 ≤ a1 ∧ a1 ≤ 15) (h2 : 0 ≤ a2 ∧ a2 ≤ 16) : ¬ Go.bits .and .i64 (shr .i64 a0 a1) (wrap64 ((shl .i64 1 a2) - 1)) < 0 := by
  obtain ⟨x, rfl⟩ := Int.eq_ofNat_of_zero_le h.1
  obtain ⟨l, rfl⟩ := Int.eq_ofNat_of_zero_le h1.1
  obtain ⟨v, rfl⟩ := Int.eq_ofNat_of_zero_le h2.1
  have e1 : shr .i64 (x : Int) (l : Int) = ((x / 2 ^ l : Nat) : Int) := by
    unfold shr
    rw [Int.toNat_natCast, Nat.min_eq_left (show l ≤ IntKind.i64.bits by show l ≤ 64; omega)]
    simp
  have hp : 2 ^ v ≤ 2 ^ 16 := Nat.pow_le_pow_right (by decide) (by omega)
  have hq : 0 < 2 ^ v := Nat.two_pow_pos v
  have e2 : wrap64 (shl .i64 1 (v : Int) - 1) = ((2 ^ v - 1 : Nat) : Int) := by
    unfold shl
    rw [Int.toNat_natCast, Nat.min_eq_left (show v ≤ IntKind.i64.bits by show v ≤ 64; omega), Int.one_mul, show ((2 : Int) ^ v) = ((2 ^ v : Nat) : Int) by simp, i64w (by omega) (by omega), w64 (by omega) (by omega)]
    omega
  have hx : x / 2 ^ l ≤ x := Nat.div_le_self _ _
  rw [e1, e2, andI _ _ (by omega) (by omega)]
  omega
theorem FnExactWithField : laws_FnExactWithField.Pure := by
  intro a0 a1 a2 a3 _ _ _ _
  unfold laws_FnExactWithField.f spec_WithField.f impl_WithField.f impl_FieldOf.f spec_l02Ok.f impl_isWord.f
  simp only [inRange, within, Option.bind_some]
  by_cases h : 0 ≤ a0 ∧ a0 ≤ 65535
  · by_cases h1 : 0 ≤ a1 ∧ a1 ≤ 15
    · by_cases h2 : 1 ≤ a2 ∧ a2 ≤ wrap64 (16 - a1)
      · have hw : wrap64 (16 - a1) = 16 - a1 := w64 (by omega) (by omega)
        have h3 : a2 ≤ 16 := by omega
        rw [u64 (n := a1) h1.1 (by omega), u64 (n := a2) (by omega) (by omega)]
        have h4 : 0 ≤ a2 := by omega
        have hn := field_nonneg a0 a1 a2 h h1 ⟨h4, h3⟩
        by_cases h5 : 0 ≤ a3 ∧ a3 ≤ wrap64 (shl .i64 1 a2 - 1)
        · simp [h, h1, h2, h4, h5, hn]
        · simp [h, h1, h2, h4, h5, hn]
      · simp [h, h1, h2]
    · simp [h, h1]
  · simp [h]

end Go.Proofs.Ytaaomljhhlkmlaa.Pure
