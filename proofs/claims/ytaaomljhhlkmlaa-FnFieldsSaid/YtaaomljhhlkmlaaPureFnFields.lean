/- A field that was replaced is read back, and other bits stay; a number rounded up is a multiple, and not too great: at every draw. No condition. -/
import Derived.Test.YtaaomljhhlkmlaaPFnFieldsx3
import Derived.Test.YtaaomljhhlkmlaaBits
namespace Go.Proofs.Ytaaomljhhlkmlaa.Pure
open Go.RowKit Go.Proofs.Ytaaomljhhlkmlaa.PFnFields Go.Proofs.YtaaomljhhlkmlaaW.PrintWords Go.Proofs.YtaaomljhhlkmlaaW.PrintLast Go.Proofs.YtaaomljhhlkmlaaW.PrintMore Go.Proofs.Ytaaomljhhlkmlaa.Num
set_option linter.unusedVariables false
set_option linter.unusedSimpArgs false

theorem within (a b c : Int) : impl_within.f a b c = some (decide (b ≤ a ∧ a ≤ c)) := by
  unfold impl_within.f
  by_cases h : b ≤ a <;> simp [h]
theorem rd_nat (x : List Int) (i : Nat) (h : i < x.length) : rd x (i : Int) = x[i] := by
  unfold rd
  rw [Int.toNat_natCast, List.getD_eq_getElem?_getD, List.getElem?_eq_getElem h]
  rfl
/-- A cursor of the draws: it stands in its bytes. -/
def Cur (b : List Int) (i : Int) : Prop := b.length ≤ 1048576 ∧ 0 ≤ i ∧ i ≤ b.length ∧ ∀ x ∈ b, 0 ≤ x ∧ x ≤ 255
theorem new_loop (l : List Int) (d : Nat) : ∀ (k i : Nat) (h : Int), i + d = 4000 → d < k → ∃ h', spec_l01New.l0 k l h i = some (l, 0, h') := by
  induction d with
  | zero =>
    intro k i h hi hk
    obtain ⟨k, rfl⟩ : ∃ m, k = m + 1 := ⟨k - 1, by omega⟩
    rw [spec_l01New.l0]
    by_cases e : (i : Int) < (l.length : Int)
    · rw [if_pos e, if_neg (by omega)]; exact ⟨_, rfl⟩
    · rw [if_neg e]; exact ⟨_, rfl⟩
  | succ d ih =>
    intro k i h hi hk
    obtain ⟨k, rfl⟩ : ∃ m, k = m + 1 := ⟨k - 1, by omega⟩
    rw [spec_l01New.l0]
    by_cases e : (i : Int) < (l.length : Int)
    · rw [if_pos e, if_pos (by omega), if_pos (by omega), w64 (n := (i : Int) + 1) (by omega) (by omega), show ((i : Int) + 1) = ((i + 1 : Nat) : Int) by omega]
      exact ih k (i + 1) _ (by omega) (by omega)
    · rw [if_neg e]; exact ⟨_, rfl⟩
theorem new_cur (l : List Int) (hl : l.length ≤ 1048576) (hb : ∀ x ∈ l, (Lit.int .u8 x).wf = true) (k : Nat) (hk : 4000 < k) : ∃ h, spec_l01New.f k l = some (l, 0, h) ∧ Cur l 0 := by
  obtain ⟨h, e⟩ := new_loop l 4000 k 0 (wrap64 (98663 + (l.length : Int))) (by decide) hk
  refine ⟨h, e, hl, by omega, by omega, fun x hx => ?_⟩
  have h3 := hb x hx
  simp [Lit.wf] at h3
  exact h3
theorem byte_cur (b : List Int) (i h : Int) (hc : Cur b i) : ∃ v i' h', spec_l01Byte.f b i h = some (v, i', h') ∧ Cur b i' ∧ 0 ≤ v ∧ v ≤ 255 := by
  obtain ⟨h1, h2, h3, h4⟩ := hc
  unfold spec_l01Byte.f
  by_cases e : i < (b.length : Int)
  · rw [if_pos e, if_pos h2, w64 (n := i + 1) (by omega) (by omega)]
    exact ⟨_, _, _, rfl, ⟨h1, by omega, by omega, h4⟩, and255 _⟩
  · rw [if_neg e]
    exact ⟨_, _, _, rfl, ⟨h1, h2, h3, h4⟩, and255 _⟩
theorem below_cur (b : List Int) (i h n : Int) (hc : Cur b i) : ∃ v i' h', spec_l01Below.f b i h n = some (v, i', h') ∧ Cur b i' ∧ 0 ≤ v ∧ (0 < n → v < n) ∧ (n ≤ 0 → v = 0) := by
  unfold spec_l01Below.f
  by_cases e : n ≤ 0
  · rw [if_pos e]
    exact ⟨0, _, _, rfl, hc, by omega, by omega, fun _ => rfl⟩
  · rw [if_neg e]
    have tm : ∀ x : Int, 0 ≤ x → 0 ≤ Int.tmod x n ∧ Int.tmod x n < n := fun x hx => by
      rw [Int.tmod_eq_emod_of_nonneg hx]
      exact ⟨Int.emod_nonneg _ (by omega), Int.emod_lt_of_pos _ (by omega)⟩
    obtain ⟨v1, i1, h1, e1, c1, r1⟩ := byte_cur b i h hc
    by_cases e2 : n ≤ 256
    · rw [if_pos e2, e1]
      simp only [Option.bind_some]
      rw [if_neg (by omega)]
      exact ⟨_, _, _, rfl, c1, (tm _ r1.1).1, fun _ => (tm _ r1.1).2, fun h => absurd h e⟩
    · obtain ⟨v2, i2, h2, e3, c2, r2⟩ := byte_cur b i1 h1 c1
      obtain ⟨v3, i3, h3, e4, c3, r3⟩ := byte_cur b i2 h2 c2
      obtain ⟨v4, i4, h4, e5, c4, r4⟩ := byte_cur b i3 h3 c3
      rw [if_neg e2, e1]
      simp only [Option.bind_some]
      rw [e3]
      simp only [Option.bind_some]
      rw [e4]
      simp only [Option.bind_some]
      rw [e5]
      simp only [Option.bind_some]
      have hv : wrap64 (wrap64 (wrap64 (wrap64 (v1 * 16777216) + wrap64 (v2 * 65536)) + wrap64 (v3 * 256)) + v4) = v1 * 16777216 + v2 * 65536 + v3 * 256 + v4 := by
        rw [w64 (n := v1 * 16777216) (by omega) (by omega), w64 (n := v2 * 65536) (by omega) (by omega), w64 (n := v3 * 256) (by omega) (by omega), w64 (n := v1 * 16777216 + v2 * 65536) (by omega) (by omega), w64 (n := v1 * 16777216 + v2 * 65536 + v3 * 256) (by omega) (by omega), w64 (by omega) (by omega)]
      rw [if_neg (by omega), hv]
      have hnn : 0 ≤ v1 * 16777216 + v2 * 65536 + v3 * 256 + v4 := by omega
      exact ⟨_, _, _, rfl, c4, (tm _ hnn).1, fun _ => (tm _ hnn).2, fun h => absurd h e⟩
theorem places_loop (b : List Int) (d : Nat) : ∀ (k n : Nat) (out : List Int) (i h : Int), n + d = 12 → d < k → out.length = n → (∀ x ∈ out, 0 ≤ x ∧ x < 10000) → Cur b i →
    ∃ r, spec_DrawPlaces.l0 k out n b i h = some r ∧ r.length = 12 ∧ ∀ x ∈ r, 0 ≤ x ∧ x < 10000 := by
  induction d with
  | zero =>
    intro k n out i h hn hk ho hr hc
    obtain ⟨k, rfl⟩ : ∃ m, k = m + 1 := ⟨k - 1, by omega⟩
    rw [spec_DrawPlaces.l0, if_neg (by omega)]
    exact ⟨out, rfl, by omega, hr⟩
  | succ d ih =>
    intro k n out i h hn hk ho hr hc
    obtain ⟨k, rfl⟩ : ∃ m, k = m + 1 := ⟨k - 1, by omega⟩
    obtain ⟨v, i', h', e, c, r1, r2, _⟩ := below_cur b i h 10000 hc
    rw [spec_DrawPlaces.l0, if_pos (by omega), e]
    simp only [Option.bind_some]
    rw [if_pos (by omega), w64 (n := (n : Int) + 1) (by omega) (by omega), show ((n : Int) + 1) = ((n + 1 : Nat) : Int) by omega]
    refine ih k (n + 1) (out ++ [v]) i' h' (by omega) (by omega) (by simp [ho]) (fun x hx => ?_) c
    rcases List.mem_append.mp hx with hx | hx
    · exact hr x hx
    · rw [List.mem_singleton.mp hx]
      exact ⟨r1, r2 (by decide)⟩
theorem places (l : List Int) (hl : l.length ≤ 1048576) (hb : ∀ x ∈ l, (Lit.int .u8 x).wf = true) (k : Nat) (hk : 4000 < k) : ∃ r, spec_DrawPlaces.f k l = some r ∧ r.length = 12 ∧ ∀ x ∈ r, 0 ≤ x ∧ x < 10000 := by
  obtain ⟨h, e, c⟩ := new_cur l hl hb k hk
  unfold spec_DrawPlaces.f
  rw [e]
  exact places_loop l 12 k 0 [] 0 h (by decide) (by omega) rfl (by simp) c
theorem place_at (r : List Int) (hr : r.length = 12) (hx : ∀ x ∈ r, 0 ≤ x ∧ x < 10000) (n : Nat) (hn : n < 12) : ∃ v : Nat, rd r (n : Int) = v ∧ v < 10000 := by
  rw [rd_nat r n (by omega)]
  obtain ⟨h1, h2⟩ := hx _ (List.getElem_mem (show n < r.length by omega))
  exact ⟨r[n].toNat, by omega, by omega⟩
theorem count (x : Nat) (hx : x < 16777216) : bits_OnesCount.f (x : Int) = some ((pop 24 x : Nat) : Int) := by
  have h : bits_OnesCount64.f (x : Int) = some ((pop 24 x : Nat) : Int) := congrArg some (ones x hx _ _ _ _ _ _ rfl rfl rfl rfl rfl rfl)
  unfold bits_OnesCount.f
  rw [h]
  rfl
theorem pop_none (k x : Nat) (h : pop k x = 0) : x % 2 ^ k = 0 := by
  induction k generalizing x with
  | zero => omega
  | succ k ih =>
    rw [pop_succ] at h
    have := ih (x / 2) (by omega)
    rw [Nat.pow_succ, Nat.mul_comm, Nat.mod_mul]
    omega
theorem pop_one (k x : Nat) (hx : x < 2 ^ k) : pop k x = 1 ↔ ∃ j, x = 2 ^ j := by
  induction k generalizing x with
  | zero =>
    have : x = 0 := by simpa using hx
    subst this
    simp only [pop_succ, pop_z]
    constructor
    · intro h; omega
    · rintro ⟨j, hj⟩
      have := Nat.two_pow_pos j
      omega
  | succ k ih =>
    have hx2 : x / 2 < 2 ^ k := by rw [Nat.pow_succ] at hx; omega
    simp only [pop_succ, pop_z]
    by_cases h : x % 2 = 0
    · rw [h, Nat.zero_add, ih _ hx2]
      constructor
      · rintro ⟨j, hj⟩
        exact ⟨j + 1, by rw [Nat.pow_succ]; omega⟩
      · rintro ⟨j, hj⟩
        cases j with
        | zero => rw [Nat.pow_zero] at hj; omega
        | succ j => exact ⟨j, by rw [Nat.pow_succ] at hj; omega⟩
    · have h1 : x % 2 = 1 := by omega
      rw [h1]
      constructor
      · intro hp
        have := pop_none k (x / 2) (by omega)
        rw [Nat.mod_eq_of_lt hx2] at this
        exact ⟨0, by rw [Nat.pow_zero]; omega⟩
      · rintro ⟨j, hj⟩
        cases j with
        | zero =>
          rw [Nat.pow_zero] at hj
          rw [show x / 2 = 0 by omega, pop_zero]
        | succ j => rw [Nat.pow_succ] at hj; omega
/-- A power of two with an exponent of 20 at most. -/
def IsPw (x : Int) : Prop := ∃ j : Nat, j ≤ 20 ∧ x = 2 ^ j
theorem two_cast (i : Nat) : ((2 : Int) ^ i) = ((2 ^ i : Nat) : Int) := by simp
theorem impl_power (x : Int) : ∃ b, impl_IsPower.f x = some b ∧ (b = true ↔ IsPw x) := by
  unfold impl_IsPower.f
  simp only [within, Option.bind_some]
  by_cases h : 1 ≤ x ∧ x ≤ 1048576
  · obtain ⟨n, rfl⟩ := Int.eq_ofNat_of_zero_le (show 0 ≤ x by omega)
    have hn : n ≤ 1048576 := by omega
    rw [u64 (by omega) (by omega), count n (by omega)]
    refine ⟨decide (pop 24 n = 1), ?_, ?_⟩
    · have e : (((pop 24 n : Nat) : Int) == 1) = decide (pop 24 n = 1) := by
        generalize pop 24 n = m
        rw [Bool.eq_iff_iff]
        simp
        omega
      simp only [h, and_self, decide_true, if_true, Option.bind_some]
      rw [e]
    · rw [decide_eq_true_iff, pop_one 24 n (by omega)]
      constructor
      · rintro ⟨j, hj⟩
        refine ⟨j, ?_, by rw [hj, two_cast]⟩
        rcases Nat.lt_or_ge 20 j with h3 | h3
        · have h4 : 2097152 ≤ 2 ^ j := Nat.pow_le_pow_right (show 0 < 2 by decide) (show 21 ≤ j by omega)
          generalize 2 ^ j = m at hj h4
          omega
        · exact h3
      · rintro ⟨j, _, hj⟩
        rw [two_cast] at hj
        exact ⟨j, by exact_mod_cast hj⟩
  · refine ⟨false, by simp [h], ?_⟩
    constructor
    · intro h2; cases h2
    · rintro ⟨j, h1, h2⟩
      exfalso
      apply h
      have h3 : 2 ^ j ≤ 1048576 := Nat.pow_le_pow_right (show 0 < 2 by decide) h1
      have h4 := Nat.two_pow_pos j
      rw [two_cast] at h2
      generalize 2 ^ j = m at h2 h3 h4
      omega
theorem pw (n : Nat) (hn : n ≤ 16) : 0 < 2 ^ n ∧ 2 ^ n ≤ 65536 := ⟨Nat.two_pow_pos n, Nat.pow_le_pow_right (show 0 < 2 by decide) hn⟩
theorem shl_nat (v n : Nat) (hv : v ≤ 65536) (hn : n ≤ 16) : shl .i64 (v : Int) (n : Int) = ((v * 2 ^ n : Nat) : Int) := by
  have hp := pw n hn
  have hm : v * 2 ^ n ≤ 65536 * 65536 := Nat.mul_le_mul hv hp.2
  unfold shl
  rw [Int.toNat_natCast, Nat.min_eq_left (show n ≤ IntKind.i64.bits by show n ≤ 64; omega), two_cast, ← Int.natCast_mul]
  generalize v * 2 ^ n = m at hm
  exact i64w (by omega) (by omega)
theorem shl_one (n : Nat) (hn : n ≤ 16) : shl .i64 1 (n : Int) = ((2 ^ n : Nat) : Int) := by
  have := shl_nat 1 n (by decide) hn
  rw [Nat.one_mul] at this
  exact this
theorem shr_nat (x n : Nat) (hn : n ≤ 16) : shr .i64 (x : Int) (n : Int) = ((x / 2 ^ n : Nat) : Int) := by
  unfold shr
  rw [Int.toNat_natCast, Nat.min_eq_left (show n ≤ IntKind.i64.bits by show n ≤ 64; omega)]
  simp
/-- The field, and the number with another field. -/
def fld (x low w : Nat) : Nat := x / 2 ^ low % 2 ^ w
def put (x low w v : Nat) : Nat := 2 ^ low * (2 ^ w * (x / 2 ^ low / 2 ^ w) + v) + x % 2 ^ low
theorem field_bits (x low w v : Nat) (hv : v < 2 ^ w) (hx : x < 2 ^ 16) (hlw : low + w ≤ 16) :
    (x &&& (18446744073709551615 - (2 ^ w - 1) * 2 ^ low)) ||| (v * 2 ^ low) = put x low w v := by
  have hm : (2 ^ w - 1) * 2 ^ low < 2 ^ 64 := by
    have h1 := pw w (by omega)
    have h2 := pw low (by omega)
    have h3 : (2 ^ w - 1) * 2 ^ low ≤ 65536 * 65536 := Nat.mul_le_mul (by omega) h2.2
    omega
  have hc : 18446744073709551615 - (2 ^ w - 1) * 2 ^ low = 2 ^ 64 - ((2 ^ w - 1) * 2 ^ low + 1) := by
    generalize (2 ^ w - 1) * 2 ^ low = m at hm
    omega
  apply Nat.eq_of_testBit_eq
  intro i
  have hlo : x % 2 ^ low < 2 ^ low := Nat.mod_lt _ (Nat.two_pow_pos low)
  have t1 := Nat.testBit_two_pow_mul_add (i := low) (2 ^ w * (x / 2 ^ low / 2 ^ w) + v) hlo i
  have t2 := Nat.testBit_two_pow_mul_add (i := w) (x / 2 ^ low / 2 ^ w) hv (i - low)
  unfold put
  rw [Nat.testBit_or, Nat.testBit_and, hc, Nat.testBit_two_pow_sub_succ hm, ← Nat.shiftLeft_eq, ← Nat.shiftLeft_eq, Nat.testBit_shiftLeft, Nat.testBit_shiftLeft, Nat.testBit_two_pow_sub_one, t1, t2, Nat.testBit_mod_two_pow, Nat.testBit_div_two_pow, Nat.testBit_div_two_pow]
  by_cases a : i < low
  · have b : ¬ i ≥ low := by omega
    have c : i < 64 := by omega
    simp [a, b, c]
  · have b : i ≥ low := by omega
    by_cases d : i - low < w
    · have c : i < 64 := by omega
      simp [a, b, c, d]
    · have e : v.testBit (i - low) = false := Nat.testBit_lt_two_pow (Nat.lt_of_lt_of_le hv (Nat.pow_le_pow_right (by decide) (by omega)))
      have f : i - low - w + w + low = i := by omega
      by_cases c : i < 64
      · simp [a, b, c, d, e, f]
      · have g : x.testBit i = false := Nat.testBit_lt_two_pow (Nat.lt_of_lt_of_le hx (Nat.pow_le_pow_right (by decide) (by omega)))
        simp [a, b, c, d, e, f, g]
theorem put_lt (x low w v : Nat) (hv : v < 2 ^ w) (hx : x < 2 ^ 16) (hlw : low + w ≤ 16) : put x low w v < 2 ^ 16 := by
  rw [← field_bits x low w v hv hx hlw]
  refine Nat.or_lt_two_pow (Nat.lt_of_le_of_lt Nat.and_le_left hx) ?_
  have h1 : v * 2 ^ low < 2 ^ w * 2 ^ low := Nat.mul_lt_mul_of_pos_right hv (Nat.two_pow_pos low)
  rw [← Nat.pow_add] at h1
  exact Nat.lt_of_lt_of_le h1 (Nat.pow_le_pow_right (by decide) (by omega))
theorem put_div (x low w v : Nat) : put x low w v / 2 ^ low = 2 ^ w * (x / 2 ^ low / 2 ^ w) + v := by
  unfold put
  rw [Nat.mul_add_div (Nat.two_pow_pos low), Nat.div_eq_of_lt (Nat.mod_lt _ (Nat.two_pow_pos low)), Nat.add_zero]
theorem put_mod (x low w v : Nat) : put x low w v % 2 ^ low = x % 2 ^ low := by
  unfold put
  rw [Nat.mul_add_mod, Nat.mod_mod]
theorem fld_put (x low w v : Nat) (hv : v < 2 ^ w) : fld (put x low w v) low w = v := by
  unfold fld
  rw [put_div, Nat.mul_add_mod, Nat.mod_eq_of_lt hv]
theorem put_back (x low w v : Nat) (hv : v < 2 ^ w) : put (put x low w v) low w (fld x low w) = x := by
  have h : put (put x low w v) low w (fld x low w) = 2 ^ low * (2 ^ w * (put x low w v / 2 ^ low / 2 ^ w) + fld x low w) + put x low w v % 2 ^ low := rfl
  rw [h, put_div, put_mod, Nat.mul_add_div (Nat.two_pow_pos w), Nat.div_eq_of_lt hv, Nat.add_zero]
  unfold fld
  rw [Nat.div_add_mod, Nat.div_add_mod]
theorem pop_mod (w x : Nat) : pop w (x % 2 ^ w) = pop w x := by
  induction w generalizing x with
  | zero => rw [pop_z, pop_z]
  | succ w ih =>
    rw [pop_succ, pop_succ, ← ih (x / 2), Nat.pow_succ, Nat.mul_comm (2 ^ w) 2, Nat.mod_mul_right_mod, Nat.mod_mul_right_div_self]
theorem pop_fld (x low w : Nat) (hlw : low + w ≤ 16) : pop 16 (fld x low w) ≤ pop 16 x := by
  unfold fld
  have e1 : pop 16 (x / 2 ^ low % 2 ^ w) = pop w (x / 2 ^ low) := by
    rw [show 16 = w + (16 - w) by omega, pop_add, Nat.div_eq_of_lt (Nat.mod_lt _ (Nat.two_pow_pos w)), pop_zero, pop_mod]
    omega
  have e2 : pop 16 x = pop low x + (pop w (x / 2 ^ low) + pop (16 - low - w) (x / 2 ^ low / 2 ^ w)) := by
    have h : 16 = low + (w + (16 - low - w)) := by omega
    conv => lhs; rw [h]
    rw [pop_add, pop_add]
  omega
theorem field_eq (x low w : Nat) (hx : x < 65536) (hl : low ≤ 15) (hw : 1 ≤ w) (hlw : low + w ≤ 16) : impl_FieldOf.f (x : Int) (low : Int) (w : Int) = some ((fld x low w : Nat) : Int) := by
  have hp := pw w (by omega)
  have hd : x / 2 ^ low ≤ x := Nat.div_le_self _ _
  unfold impl_FieldOf.f impl_isWord.f
  simp only [within, Option.bind_some]
  rw [w64 (n := 16 - (low : Int)) (by omega) (by omega), u64 (n := (low : Int)) (by omega) (by omega), u64 (n := (w : Int)) (by omega) (by omega), if_pos (by simp; omega), if_pos (by simp; omega), if_pos (by simp; omega), if_pos (by omega), if_pos (by omega), shl_one w (by omega), shr_nat x low (by omega)]
  have hs : wrap64 (((2 ^ w : Nat) : Int) - 1) = ((2 ^ w - 1 : Nat) : Int) := by
    generalize 2 ^ w = m at hp
    rw [w64 (by omega) (by omega)]
    omega
  rw [hs, andI _ _ (by omega) (by generalize 2 ^ w = m at hp; omega), Nat.and_two_pow_sub_one_eq_mod]
  rfl
theorem with_eq (x low w v : Nat) (hx : x < 65536) (hl : low ≤ 15) (hw : 1 ≤ w) (hlw : low + w ≤ 16) (hv : v < 2 ^ w) : impl_WithField.f (x : Int) (low : Int) (w : Int) (v : Int) = some (((put x low w v : Nat) : Int), true) := by
  have hp := pw w (by omega)
  have hq := pw low (by omega)
  unfold impl_WithField.f
  rw [field_eq x low w hx hl hw hlw]
  simp only [within, Option.bind_some]
  have hs : wrap64 (((2 ^ w : Nat) : Int) - 1) = ((2 ^ w - 1 : Nat) : Int) := by
    generalize 2 ^ w = m at hp
    rw [w64 (by omega) (by omega)]
    omega
  rw [if_neg (by omega), u64 (n := (low : Int)) (by omega) (by omega), u64 (n := (w : Int)) (by omega) (by omega), shl_one w (by omega), hs, if_pos (by omega), if_pos (by simp; omega), if_pos (by omega)]
  rw [shl_nat (2 ^ w - 1) low (by omega) (by omega), shl_nat v low (by omega) (by omega)]
  have h1 : (2 ^ w - 1) * 2 ^ low ≤ 65536 * 65536 := Nat.mul_le_mul (by omega) hq.2
  have h2 : v * 2 ^ low ≤ 65536 * 65536 := Nat.mul_le_mul (by omega) hq.2
  rw [andNotI _ _ (by omega) (by omega)]
  have h3 : x &&& (18446744073709551615 - (2 ^ w - 1) * 2 ^ low) ≤ x := Nat.and_le_left
  rw [orI _ _ (by omega) (by omega), field_bits x low w v hv hx hlw]
theorem ones_eq (x : Nat) (hx : x < 65536) : impl_CountOnes.f (x : Int) = some ((pop 16 x : Nat) : Int) := by
  unfold impl_CountOnes.f impl_isWord.f
  simp only [within, Option.bind_some]
  have hp : pop 24 x = pop 16 x := by
    rw [show 24 = 16 + 8 from rfl, pop_add, show x / 2 ^ 16 = 0 by omega, pop_zero]; omega
  rw [if_pos (by simp; omega), u64 (by omega) (by omega), count x (by omega), hp]
  rfl
theorem round_eq (x n : Nat) (hx : x < 10000) (hn : n < 8) : ∃ r : Nat, impl_RoundUp.f (x : Int) ((2 ^ n : Nat) : Int) = some (r : Int) ∧ x ≤ r ∧ r < x + 2 ^ n ∧ r % 2 ^ n = 0 ∧ impl_IsPower.f ((2 ^ n : Nat) : Int) = some true := by
  obtain ⟨b, h1, h2⟩ := impl_power ((2 ^ n : Nat) : Int)
  have hb : b = true := h2.mpr ⟨n, by omega, (two_cast n).symm⟩
  subst hb
  have hp : 2 ^ n ≤ 128 := Nat.pow_le_pow_right (show 0 < 2 by decide) (show n ≤ 7 by omega)
  have hq := Nat.two_pow_pos n
  clear h2
  generalize 2 ^ n = m at hp hq h1
  have hd := Nat.div_add_mod (x + m - 1) m
  have hm := Nat.mod_lt (x + m - 1) hq
  have hle : (x + m - 1) / m ≤ x + m - 1 := Nat.div_le_self _ _
  refine ⟨(x + m - 1) / m * m, ?_, ?_, ?_, Nat.mul_mod_left _ _, h1⟩
  · unfold impl_RoundUp.f
    rw [h1]
    simp only [within, Option.bind_some]
    rw [if_pos (by simp; omega), if_pos trivial, if_neg (by omega), w64 (n := (x : Int) + m) (by omega) (by omega), w64 (n := (x : Int) + m - 1) (by omega) (by omega), show (x : Int) + m - 1 = ((x + m - 1 : Nat) : Int) by omega, show Int.tdiv ((x + m - 1 : Nat) : Int) (m : Int) = (((x + m - 1) / m : Nat) : Int) from rfl]
    have h5 : (x + m - 1) / m * m ≤ x + m - 1 := Nat.div_mul_le_self _ _
    generalize (x + m - 1) / m = z at hle h5 ⊢
    rw [w64 (n := (z : Int)) (by omega) (by omega), ← Int.natCast_mul]
    generalize z * m = u at h5 ⊢
    rw [w64 (by omega) (by omega)]
  · rw [Nat.mul_comm]; omega
  · rw [Nat.mul_comm]; omega
theorem drawn (l : List Int) (hl : l.length ≤ 1048576) (hb : ∀ x ∈ l, (Lit.int .u8 x).wf = true) : ∃ x low w : Nat, spec_DrawField.f 4001 l = some ((x : Int), (low : Int), (w : Int)) ∧ x < 65536 ∧ low ≤ 15 ∧ 1 ≤ w ∧ low + w ≤ 16 := by
  obtain ⟨h, e, c⟩ := new_cur l hl hb 4001 (by decide)
  obtain ⟨v1, i1, h1, e1, c1, r1, s1, _⟩ := below_cur l 0 h 16 c
  obtain ⟨v2, i2, h2, e2, c2, r2, s2, _⟩ := below_cur l i1 h1 65536 c1
  obtain ⟨v3, i3, h3, e3, c3, r3, s3, _⟩ := below_cur l i2 h2 (16 - v1) c2
  have q1 := s1 (by decide)
  have q2 := s2 (by decide)
  have q3 := s3 (by omega)
  refine ⟨v2.toNat, v1.toNat, (1 + v3).toNat, ?_, by omega, by omega, by omega, by omega⟩
  unfold spec_DrawField.f
  rw [e]
  simp only [Option.bind_some]
  rw [e1]
  simp only [Option.bind_some]
  rw [e2]
  simp only [Option.bind_some]
  rw [w64 (n := 16 - v1) (by omega) (by omega), e3]
  simp only [Option.bind_some]
  rw [w64 (n := 1 + v3) (by omega) (by omega), Int.toNat_of_nonneg r2, Int.toNat_of_nonneg r1, Int.toNat_of_nonneg (by omega)]
theorem FnFields : laws_FnFields.Pure := by
  intro l0 _ _ hb
  refine ⟨4001, ?_⟩
  unfold laws_FnFields.f laws_big.f
  simp only [Option.bind_some]
  by_cases h : (l0.length : Int) > 1048576
  · rw [if_pos (by simpa using h)]
  · obtain ⟨x, low, w, e, hx, hl, hw, hlw⟩ := drawn l0 (by omega) hb
    obtain ⟨r, e2, hrl, hr⟩ := places l0 (by omega) hb 4001 (by decide)
    obtain ⟨p, ep, hp⟩ := place_at r hrl hr 0 (by decide)
    obtain ⟨q, eq, hq⟩ := place_at r hrl hr 1 (by decide)
    obtain ⟨s, es, hs⟩ := place_at r hrl hr 2 (by decide)
    have ep' : rd r 0 = p := ep
    have eq' : rd r 1 = q := eq
    have es' : rd r 2 = s := es
    have hpw := pw w (by omega)
    have hv : p % 2 ^ w < 2 ^ w := Nat.mod_lt _ hpw.1
    have hy := put_lt x low w (p % 2 ^ w) hv (by omega) hlw
    have hfl : fld x low w < 2 ^ w := Nat.mod_lt _ hpw.1
    have hfx : fld x low w < 65536 := Nat.lt_of_lt_of_le hfl hpw.2
    obtain ⟨t, r1, r2, r3, r4, r5⟩ := round_eq q (s % 8) hq (by omega)
    have hpop := pop_fld x low w hlw
    have hs7 : 2 ^ (s % 8) ≤ 128 := Nat.pow_le_pow_right (show 0 < 2 by decide) (show s % 8 ≤ 7 by omega)
    have hs0 := Nat.two_pow_pos (s % 8)
    rw [if_neg (by simpa using h), e]
    simp only [Option.bind_some]
    rw [e2]
    simp only [Option.bind_some]
    rw [if_pos (by omega), if_pos (by omega), shl_one w (by omega), if_neg (by omega), ep', show Int.tmod (p : Int) ((2 ^ w : Nat) : Int) = ((p % 2 ^ w : Nat) : Int) from rfl, with_eq x low w _ hx hl hw hlw hv, field_eq x low w hx hl hw hlw]
    simp only [Option.bind_some]
    rw [with_eq _ low w _ hy hl hw hlw hfl, put_back x low w _ hv]
    simp only [Option.bind_some]
    rw [if_pos (by omega), if_pos (by omega), es', eq', show Int.tmod (s : Int) 8 = ((s % 8 : Nat) : Int) from rfl, if_pos (by omega), shl_one (s % 8) (by omega), r1]
    simp only [Option.bind_some]
    rw [if_pos trivial, if_pos trivial, if_pos trivial, field_eq _ low w hy hl hw hlw, fld_put x low w _ hv]
    simp only [Option.bind_some]
    rw [if_pos trivial, ones_eq x hx]
    simp only [Option.bind_some]
    rw [ones_eq _ hfx]
    simp only [Option.bind_some]
    generalize 2 ^ (s % 8) = m at *
    rw [if_pos (by omega), if_pos (by omega), if_pos (by rw [w64 (by omega) (by omega)]; omega), if_neg (by omega), show Int.tmod (t : Int) (m : Int) = ((t % m : Nat) : Int) from rfl, if_pos (by omega), r5]
    rfl

end Go.Proofs.Ytaaomljhhlkmlaa.Pure
