/- RoundUp of the program answers as RoundUp of the reference at every argument, and the arguments stay as they are. No condition. -/
import Derived.Test.YtaaomljhhlkmlaaPFnExactRoundUpx1
import Derived.Test.YtaaomljhhlkmlaaBits
namespace Go.Proofs.Ytaaomljhhlkmlaa.Pure
open Go.RowKit Go.Proofs.Ytaaomljhhlkmlaa.PFnExactRoundUp Go.Proofs.YtaaomljhhlkmlaaW.PrintWords Go.Proofs.YtaaomljhhlkmlaaW.PrintLast Go.Proofs.YtaaomljhhlkmlaaW.PrintMore Go.Proofs.Ytaaomljhhlkmlaa.Num
set_option linter.unusedVariables false
set_option linter.unusedSimpArgs false

theorem inRange (a b c : Int) : spec_l01In.f a b c = some (decide (b ≤ a ∧ a ≤ c)) := by
  unfold spec_l01In.f
  by_cases h : b ≤ a <;> simp [h]
theorem within (a b c : Int) : impl_within.f a b c = some (decide (b ≤ a ∧ a ≤ c)) := by
  unfold impl_within.f
  by_cases h : b ≤ a <;> simp [h]
theorem count (x : Nat) (hx : x < 16777216) : bits_OnesCount.f (x : Int) = some ((pop 24 x : Nat) : Int) := by
  have h : bits_OnesCount64.f (x : Int) = some ((pop 24 x : Nat) : Int) := congrArg some (ones x hx _ _ _ _ _ _ rfl rfl rfl rfl rfl rfl)
  unfold bits_OnesCount.f
  rw [h]
  rfl
theorem pop_none (k x : Nat) (h : pop k x = 0) : x % 2 ^ k = 0 := by
  induction k generalizing x with
  | zero => omega
  | succ k ih =>
    simp only [pop] at h
    have := ih (x / 2) (by omega)
    rw [Nat.pow_succ, Nat.mul_comm, Nat.mod_mul]
    omega
theorem pop_one (k x : Nat) (hx : x < 2 ^ k) : pop k x = 1 ↔ ∃ j, x = 2 ^ j := by
  induction k generalizing x with
  | zero =>
    have : x = 0 := by simpa using hx
    subst this
    simp only [pop]
    constructor
    · intro h; omega
    · rintro ⟨j, hj⟩
      have := Nat.two_pow_pos j
      omega
  | succ k ih =>
    have hx2 : x / 2 < 2 ^ k := by rw [Nat.pow_succ] at hx; omega
    simp only [pop]
    by_cases h : x % 2 = 0
    · rw [h, Nat.zero_add, ih _ hx2]
      constructor
      · rintro ⟨j, hj⟩
        exact ⟨j + 1, by rw [Nat.pow_succ]; omega⟩
      · rintro ⟨j, hj⟩
        cases j with
        | zero => rw [Nat.pow_zero] at hj; omega
        | succ j => exact ⟨j, by rw [Nat.pow_succ] at hj; omega⟩
    · have h1 : x % 2 = 1 := by omega
      rw [h1]
      constructor
      · intro hp
        have := pop_none k (x / 2) (by omega)
        rw [Nat.mod_eq_of_lt hx2] at this
        exact ⟨0, by rw [Nat.pow_zero]; omega⟩
      · rintro ⟨j, hj⟩
        cases j with
        | zero =>
          rw [Nat.pow_zero] at hj
          rw [show x / 2 = 0 by omega, pop_zero]
        | succ j => rw [Nat.pow_succ] at hj; omega
/-- A power of two with an exponent of 20 at most. -/
def IsPw (x : Int) : Prop := ∃ j : Nat, j ≤ 20 ∧ x = 2 ^ j
theorem two_cast (i : Nat) : ((2 : Int) ^ i) = ((2 ^ i : Nat) : Int) := by simp
theorem shl_pow (i : Nat) (hi : i ≤ 20) : shl .i64 1 (i : Int) = 2 ^ i := by
  have hp : 2 ^ i ≤ 1048576 := Nat.pow_le_pow_right (show 0 < 2 by decide) hi
  unfold shl
  rw [Int.toNat_natCast, Nat.min_eq_left (show i ≤ IntKind.i64.bits by show i ≤ 64; omega), Int.one_mul, two_cast]
  generalize 2 ^ i = m at hp ⊢
  exact i64w (by omega) (by omega)
theorem power_loop (x : Int) (d : Nat) : ∀ (k i : Nat), i + d = 21 → d < k → ∃ b, spec_IsPower.l0 k x i = some b ∧ (b = true ↔ ∃ j : Nat, i ≤ j ∧ j ≤ 20 ∧ x = 2 ^ j) := by
  induction d with
  | zero =>
    intro k i hi hk
    obtain ⟨k, rfl⟩ : ∃ m, k = m + 1 := ⟨k - 1, by omega⟩
    refine ⟨false, ?_, ?_⟩
    · simp only [spec_IsPower.l0]
      rw [if_neg (by omega)]
    · constructor
      · intro h; cases h
      · rintro ⟨j, h1, h2, _⟩; omega
  | succ d ih =>
    intro k i hi hk
    obtain ⟨k, rfl⟩ : ∃ m, k = m + 1 := ⟨k - 1, by omega⟩
    simp only [spec_IsPower.l0]
    rw [if_pos (by omega), if_pos (by omega), shl_pow i (by omega)]
    by_cases h : x = 2 ^ i
    · refine ⟨true, by rw [if_pos h], ?_⟩
      constructor
      · intro _; exact ⟨i, Nat.le_refl _, by omega, h⟩
      · intro _; rfl
    · obtain ⟨b, hb, hb2⟩ := ih k (i + 1) (by omega) (by omega)
      refine ⟨b, ?_, ?_⟩
      · rw [if_neg h, w64 (by omega) (by omega)]
        exact hb
      · rw [hb2]
        constructor
        · rintro ⟨j, h1, h2, h3⟩; exact ⟨j, by omega, h2, h3⟩
        · rintro ⟨j, h1, h2, h3⟩
          refine ⟨j, ?_, h2, h3⟩
          rcases Nat.lt_or_ge i j with h4 | h4
          · exact h4
          · exact absurd (by rw [h3, show j = i by omega]) h
theorem spec_power (x : Int) : ∃ b, spec_IsPower.f 22 x = some b ∧ (b = true ↔ IsPw x) := by
  obtain ⟨b, h1, h2⟩ := power_loop x 21 22 0 (by decide) (by decide)
  refine ⟨b, h1, ?_⟩
  rw [h2]
  constructor
  · rintro ⟨j, _, h3, h4⟩; exact ⟨j, h3, h4⟩
  · rintro ⟨j, h3, h4⟩; exact ⟨j, Nat.zero_le _, h3, h4⟩
theorem impl_power (x : Int) : ∃ b, impl_IsPower.f x = some b ∧ (b = true ↔ IsPw x) := by
  unfold impl_IsPower.f
  simp only [within, Option.bind_some]
  by_cases h : 1 ≤ x ∧ x ≤ 1048576
  · obtain ⟨n, rfl⟩ := Int.eq_ofNat_of_zero_le (show 0 ≤ x by omega)
    have hn : n ≤ 1048576 := by omega
    rw [u64 (by omega) (by omega), count n (by omega)]
    refine ⟨decide (pop 24 n = 1), ?_, ?_⟩
    · have e : (((pop 24 n : Nat) : Int) == 1) = decide (pop 24 n = 1) := by
        generalize pop 24 n = m
        rw [Bool.eq_iff_iff]
        simp
        omega
      simp only [h, and_self, decide_true, if_true, Option.bind_some]
      rw [e]
    · rw [decide_eq_true_iff, pop_one 24 n (by omega)]
      constructor
      · rintro ⟨j, hj⟩
        refine ⟨j, ?_, by rw [hj, two_cast]⟩
        rcases Nat.lt_or_ge 20 j with h3 | h3
        · have h4 : 2097152 ≤ 2 ^ j := Nat.pow_le_pow_right (show 0 < 2 by decide) (show 21 ≤ j by omega)
          generalize 2 ^ j = m at hj h4
          omega
        · exact h3
      · rintro ⟨j, _, hj⟩
        rw [two_cast] at hj
        exact ⟨j, by exact_mod_cast hj⟩
  · refine ⟨false, by simp [h], ?_⟩
    constructor
    · intro h2; cases h2
    · rintro ⟨j, h1, h2⟩
      exfalso
      apply h
      have h3 : 2 ^ j ≤ 1048576 := Nat.pow_le_pow_right (show 0 < 2 by decide) h1
      have h4 := Nat.two_pow_pos j
      rw [two_cast] at h2
      generalize 2 ^ j = m at h2 h3 h4
      omega
theorem same_power (x : Int) : ∃ b, spec_IsPower.f 22 x = some b ∧ impl_IsPower.f x = some b ∧ (b = true ↔ IsPw x) := by
  obtain ⟨b, h1, h2⟩ := spec_power x
  obtain ⟨c, h3, h4⟩ := impl_power x
  have : b = c := by rw [Bool.eq_iff_iff, h2, h4]
  subst this
  exact ⟨b, h1, h3, h2⟩
theorem FnExactRoundUp : laws_FnExactRoundUp.Pure := by
  intro a0 a1 _ _
  refine ⟨22, ?_⟩
  obtain ⟨b, h1, h2, h3⟩ := same_power a1
  unfold laws_FnExactRoundUp.f spec_RoundUp.f impl_RoundUp.f
  rw [h1, h2]
  simp only [inRange, within, Option.bind_some]
  by_cases h : 0 ≤ a0 ∧ a0 ≤ 1048576
  · cases b with
    | false => simp [h]
    | true =>
      have hz : a1 ≠ 0 := by
        obtain ⟨j, _, hj⟩ := h3.mp rfl
        have := Nat.two_pow_pos j
        rw [hj, two_cast]
        omega
      simp [h, hz]
  · simp [h]

end Go.Proofs.Ytaaomljhhlkmlaa.Pure
