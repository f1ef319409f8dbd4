/- CountOnes of the program answers as CountOnes of the reference at every argument, and the arguments stay as they are. No condition. -/
import Derived.Test.YtaaomljhhlkmlaaPFnExactCountOnesx1
import Derived.Test.YtaaomljhhlkmlaaBits
namespace Go.Proofs.Ytaaomljhhlkmlaa.Pure
open Go.RowKit Go.Proofs.Ytaaomljhhlkmlaa.PFnExactCountOnes Go.Proofs.YtaaomljhhlkmlaaW.PrintWords Go.Proofs.YtaaomljhhlkmlaaW.PrintLast Go.Proofs.YtaaomljhhlkmlaaW.PrintMore Go.Proofs.Ytaaomljhhlkmlaa.Num
set_option linter.unusedVariables false
set_option linter.unusedSimpArgs false

theorem inRange (a b c : Int) : spec_l01In.f a b c = some (decide (b ≤ a ∧ a ≤ c)) := by
  unfold spec_l01In.f
  by_cases h : b ≤ a <;> simp [h]
theorem within (a b c : Int) : impl_within.f a b c = some (decide (b ≤ a ∧ a ≤ c)) := by
  unfold impl_within.f
  by_cases h : b ≤ a <;> simp [h]
theorem count (x : Nat) (hx : x < 16777216) : bits_OnesCount.f (x : Int) = some ((pop 24 x : Nat) : Int) := by
  have h : bits_OnesCount64.f (x : Int) = some ((pop 24 x : Nat) : Int) := congrArg some (ones x hx _ _ _ _ _ _ rfl rfl rfl rfl rfl rfl)
  unfold bits_OnesCount.f
  rw [h]
  rfl
theorem loop (x : Nat) (hx : x < 65536) (d : Nat) : ∀ (k i : Nat) (a : Int), i + d = 16 → d < k → 0 ≤ a → a ≤ i →
    spec_CountOnes.l0 k x a i = some (a + (pop d (x / 2 ^ i) : Nat)) := by
  induction d with
  | zero =>
    intro k i a hi hk h0 h1
    obtain ⟨k, rfl⟩ : ∃ m, k = m + 1 := ⟨k - 1, by omega⟩
    simp only [spec_CountOnes.l0]
    rw [if_neg (by omega)]
    simp [pop]
  | succ d ih =>
    intro k i a hi hk h0 h1
    obtain ⟨k, rfl⟩ : ∃ m, k = m + 1 := ⟨k - 1, by omega⟩
    simp only [spec_CountOnes.l0]
    have e1 : shr .i64 (x : Int) (i : Int) = ((x / 2 ^ i : Nat) : Int) := by
      unfold shr
      rw [Int.toNat_natCast, Nat.min_eq_left (show i ≤ IntKind.i64.bits by show i ≤ 64; omega)]
      simp
    have hq : x / 2 ^ i ≤ x := Nat.div_le_self _ _
    have e2 : Go.bits .and .i64 ((x / 2 ^ i : Nat) : Int) 1 = ((x / 2 ^ i % 2 : Nat) : Int) := by
      rw [show (1 : Int) = ((1 : Nat) : Int) from rfl, andI _ _ (by omega) (by decide), nat_mask1]
    rw [if_pos (by omega), if_pos (by omega), e1, e2, w64 (by omega) (by omega), w64 (by omega) (by omega), show (i : Int) + 1 = ((i + 1 : Nat) : Int) by omega]
    rw [ih k (i + 1) _ (by omega) (by omega) (by omega) (by omega)]
    simp only [pop]
    rw [Nat.div_div_eq_div_mul, Nat.pow_succ]
    congr 1
    omega
theorem FnExactCountOnes : laws_FnExactCountOnes.Pure := by
  intro a0 _
  refine ⟨17, ?_⟩
  unfold laws_FnExactCountOnes.f spec_CountOnes.f impl_CountOnes.f impl_isWord.f
  simp only [inRange, within, Option.bind_some]
  by_cases h : 0 ≤ a0 ∧ a0 ≤ 65535
  · obtain ⟨x, rfl⟩ := Int.eq_ofNat_of_zero_le h.1
    have hx : x < 65536 := by omega
    have hl := loop x hx 16 17 0 0 (by decide) (by decide) (by decide) (by decide)
    rw [Nat.pow_zero, Nat.div_one, Int.zero_add] at hl
    have hp : pop 24 x = pop 16 x := by
      rw [show 24 = 16 + 8 from rfl, pop_add, show x / 2 ^ 16 = 0 by omega, pop_zero]; omega
    rw [u64 (by omega) (by omega), count x (by omega), hp]
    have hl' : spec_CountOnes.l0 17 (x : Int) 0 0 = some ((pop 16 x : Nat) : Int) := hl
    simp [h, hl']
  · simp [h]

end Go.Proofs.Ytaaomljhhlkmlaa.Pure
