/- A clamped number is in the range, is not changed again, and equals the number if this is in the range: at every draw. No condition. -/
import Derived.Test.YtaaomljhhlkmlaaPFnClampedx1
import Derived.Test.YtaaomljhhlkmlaaBits
namespace Go.Proofs.Ytaaomljhhlkmlaa.Pure
open Go.RowKit Go.Proofs.Ytaaomljhhlkmlaa.PFnClamped Go.Proofs.YtaaomljhhlkmlaaW.PrintWords Go.Proofs.YtaaomljhhlkmlaaW.PrintLast Go.Proofs.YtaaomljhhlkmlaaW.PrintMore Go.Proofs.Ytaaomljhhlkmlaa.Num
set_option linter.unusedVariables false
set_option linter.unusedSimpArgs false

theorem rd_nat (x : List Int) (i : Nat) (h : i < x.length) : rd x (i : Int) = x[i] := by
  unfold rd
  rw [Int.toNat_natCast, List.getD_eq_getElem?_getD, List.getElem?_eq_getElem h]
  rfl
/-- A cursor of the draws: it stands in its bytes. -/
def Cur (b : List Int) (i : Int) : Prop := b.length ≤ 1048576 ∧ 0 ≤ i ∧ i ≤ b.length ∧ ∀ x ∈ b, 0 ≤ x ∧ x ≤ 255
theorem new_loop (l : List Int) (d : Nat) : ∀ (k i : Nat) (h : Int), i + d = 4000 → d < k → ∃ h', spec_l01New.l0 k l h i = some (l, 0, h') := by
  induction d with
  | zero =>
    intro k i h hi hk
    obtain ⟨k, rfl⟩ : ∃ m, k = m + 1 := ⟨k - 1, by omega⟩
    rw [spec_l01New.l0]
    by_cases e : (i : Int) < (l.length : Int)
    · rw [if_pos e, if_neg (by omega)]; exact ⟨_, rfl⟩
    · rw [if_neg e]; exact ⟨_, rfl⟩
  | succ d ih =>
    intro k i h hi hk
    obtain ⟨k, rfl⟩ : ∃ m, k = m + 1 := ⟨k - 1, by omega⟩
    rw [spec_l01New.l0]
    by_cases e : (i : Int) < (l.length : Int)
    · rw [if_pos e, if_pos (by omega), if_pos (by omega), w64 (n := (i : Int) + 1) (by omega) (by omega), show ((i : Int) + 1) = ((i + 1 : Nat) : Int) by omega]
      exact ih k (i + 1) _ (by omega) (by omega)
    · rw [if_neg e]; exact ⟨_, rfl⟩
theorem new_cur (l : List Int) (hl : l.length ≤ 1048576) (hb : ∀ x ∈ l, (Lit.int .u8 x).wf = true) (k : Nat) (hk : 4000 < k) : ∃ h, spec_l01New.f k l = some (l, 0, h) ∧ Cur l 0 := by
  obtain ⟨h, e⟩ := new_loop l 4000 k 0 (wrap64 (98663 + (l.length : Int))) (by decide) hk
  refine ⟨h, e, hl, by omega, by omega, fun x hx => ?_⟩
  have h3 := hb x hx
  simp [Lit.wf] at h3
  exact h3
theorem byte_cur (b : List Int) (i h : Int) (hc : Cur b i) : ∃ v i' h', spec_l01Byte.f b i h = some (v, i', h') ∧ Cur b i' ∧ 0 ≤ v ∧ v ≤ 255 := by
  obtain ⟨h1, h2, h3, h4⟩ := hc
  unfold spec_l01Byte.f
  by_cases e : i < (b.length : Int)
  · rw [if_pos e, if_pos h2, w64 (n := i + 1) (by omega) (by omega)]
    exact ⟨_, _, _, rfl, ⟨h1, by omega, by omega, h4⟩, and255 _⟩
  · rw [if_neg e]
    exact ⟨_, _, _, rfl, ⟨h1, h2, h3, h4⟩, and255 _⟩
theorem below_cur (b : List Int) (i h n : Int) (hc : Cur b i) : ∃ v i' h', spec_l01Below.f b i h n = some (v, i', h') ∧ Cur b i' ∧ 0 ≤ v ∧ (0 < n → v < n) ∧ (n ≤ 0 → v = 0) := by
  unfold spec_l01Below.f
  by_cases e : n ≤ 0
  · rw [if_pos e]
    exact ⟨0, _, _, rfl, hc, by omega, by omega, fun _ => rfl⟩
  · rw [if_neg e]
    have tm : ∀ x : Int, 0 ≤ x → 0 ≤ Int.tmod x n ∧ Int.tmod x n < n := fun x hx => by
      rw [Int.tmod_eq_emod_of_nonneg hx]
      exact ⟨Int.emod_nonneg _ (by omega), Int.emod_lt_of_pos _ (by omega)⟩
    obtain ⟨v1, i1, h1, e1, c1, r1⟩ := byte_cur b i h hc
    by_cases e2 : n ≤ 256
    · rw [if_pos e2, e1]
      simp only [Option.bind_some]
      rw [if_neg (by omega)]
      exact ⟨_, _, _, rfl, c1, (tm _ r1.1).1, fun _ => (tm _ r1.1).2, fun h => absurd h e⟩
    · obtain ⟨v2, i2, h2, e3, c2, r2⟩ := byte_cur b i1 h1 c1
      obtain ⟨v3, i3, h3, e4, c3, r3⟩ := byte_cur b i2 h2 c2
      obtain ⟨v4, i4, h4, e5, c4, r4⟩ := byte_cur b i3 h3 c3
      rw [if_neg e2, e1]
      simp only [Option.bind_some]
      rw [e3]
      simp only [Option.bind_some]
      rw [e4]
      simp only [Option.bind_some]
      rw [e5]
      simp only [Option.bind_some]
      have hv : wrap64 (wrap64 (wrap64 (wrap64 (v1 * 16777216) + wrap64 (v2 * 65536)) + wrap64 (v3 * 256)) + v4) = v1 * 16777216 + v2 * 65536 + v3 * 256 + v4 := by
        rw [w64 (n := v1 * 16777216) (by omega) (by omega), w64 (n := v2 * 65536) (by omega) (by omega), w64 (n := v3 * 256) (by omega) (by omega), w64 (n := v1 * 16777216 + v2 * 65536) (by omega) (by omega), w64 (n := v1 * 16777216 + v2 * 65536 + v3 * 256) (by omega) (by omega), w64 (by omega) (by omega)]
      rw [if_neg (by omega), hv]
      have hnn : 0 ≤ v1 * 16777216 + v2 * 65536 + v3 * 256 + v4 := by omega
      exact ⟨_, _, _, rfl, c4, (tm _ hnn).1, fun _ => (tm _ hnn).2, fun h => absurd h e⟩
theorem once_cur (b : List Int) (i h n : Int) (hc : Cur b i) : ∃ v i' h', spec_l01Once.f b i h n = some (v, i', h') ∧ Cur b i' := by
  obtain ⟨v, i', h', e, c, _⟩ := below_cur b i h n hc
  unfold spec_l01Once.f
  rw [e]
  exact ⟨_, _, _, rfl, c⟩
theorem pick_cur (b : List Int) (i h : Int) (l : List Int) (hl : l ≠ []) (hc : Cur b i) : ∃ v i' h', spec_l01PickInt.f b i h l = some (v, i', h') ∧ Cur b i' ∧ v ∈ l := by
  have hn : 0 < l.length := List.length_pos_iff.mpr hl
  obtain ⟨v, i', h', e, c, r1, r2, _⟩ := below_cur b i h (l.length : Int) hc
  have r3 := r2 (by omega)
  unfold spec_l01PickInt.f
  rw [e]
  simp only [Option.bind_some]
  rw [if_pos r1, if_pos r3]
  refine ⟨_, _, _, rfl, c, ?_⟩
  obtain ⟨m, rfl⟩ := Int.eq_ofNat_of_zero_le r1
  rw [rd_nat l m (by omega)]
  exact List.getElem_mem _
theorem number_cur (b : List Int) (i h : Int) (hc : Cur b i) : ∃ v i' h', spec_l01Number.f b i h = some (v, i', h') ∧ Cur b i' := by
  obtain ⟨v, i', h', e, c, _⟩ := below_cur b i h 4 hc
  unfold spec_l01Number.f
  rw [e]
  simp only [Option.bind_some]
  by_cases e0 : v = 0
  · obtain ⟨v2, i2, h2, e2, c2, _⟩ := pick_cur b i' h' [(-1), 0, 127, 128, 16383, 16384, 1000000000, 1000000001, 9223372036854775807, (-9223372036854775808)] (by simp) c
    rw [if_pos e0, e2]
    exact ⟨_, _, _, rfl, c2⟩
  · by_cases e1 : v = 1
    · obtain ⟨v2, i2, h2, e2, c2, _⟩ := below_cur b i' h' 1000000000 c
      rw [if_neg e0, if_pos e1, e2]
      exact ⟨_, _, _, rfl, c2⟩
    · obtain ⟨v2, i2, h2, e2, c2, _⟩ := below_cur b i' h' 400 c
      rw [if_neg e0, if_neg e1, e2]
      exact ⟨_, _, _, rfl, c2⟩
theorem drawn (l : List Int) (hl : l.length ≤ 1048576) (hb : ∀ x ∈ l, (Lit.int .u8 x).wf = true) : ∃ n a b, spec_DrawClamp.f 4001 l = some (n, a, b) := by
  obtain ⟨h, e, c⟩ := new_cur l hl hb 4001 (by decide)
  obtain ⟨v1, i1, h1, e1, c1⟩ := once_cur l 0 h 4 c
  unfold spec_DrawClamp.f
  rw [e]
  simp only [Option.bind_some]
  rw [e1]
  simp only [Option.bind_some]
  cases v1 with
  | true =>
    obtain ⟨v2, i2, h2, e2, c2⟩ := number_cur l i1 h1 c1
    obtain ⟨v3, i3, h3, e3, c3⟩ := number_cur l i2 h2 c2
    obtain ⟨v4, i4, h4, e4, c4⟩ := number_cur l i3 h3 c3
    rw [if_pos rfl, e2]
    simp only [Option.bind_some]
    rw [e3]
    simp only [Option.bind_some]
    rw [e4]
    exact ⟨_, _, _, rfl⟩
  | false =>
    obtain ⟨v2, i2, h2, e2, c2, _⟩ := below_cur l i1 h1 40 c1
    obtain ⟨v3, i3, h3, e3, c3, _⟩ := below_cur l i2 h2 80 c2
    obtain ⟨v4, i4, h4, e4, c4, _⟩ := below_cur l i3 h3 30 c3
    rw [if_neg (by decide), e2]
    simp only [Option.bind_some]
    rw [e3]
    simp only [Option.bind_some]
    rw [e4]
    exact ⟨_, _, _, rfl⟩
theorem clamp_eq (n a b : Int) : impl_Clamp.f n a b = some (if b < a then a else if n < a then a else if b < n then b else n) := by
  unfold impl_Clamp.f
  by_cases h : b < a
  · rw [if_pos h, if_pos h]
  · rw [if_neg h, if_neg h]
    congr 1
    unfold mx mn
    (repeat' split) <;> omega
theorem FnClamped : laws_FnClamped.Pure := by
  intro l0 _ _ hb
  refine ⟨4001, ?_⟩
  unfold laws_FnClamped.f laws_big.f
  simp only [Option.bind_some]
  by_cases h : (l0.length : Int) > 1048576
  · rw [if_pos (by simpa using h)]
  · obtain ⟨n, a, b, e⟩ := drawn l0 (by omega) hb
    rw [if_neg (by simpa using h), e]
    simp only [Option.bind_some, clamp_eq]
    by_cases h1 : b < a
    · simp [h1]
    · by_cases h2 : n < a
      · simp [h1, h2] <;> omega
      · by_cases h3 : b < n
        · simp [h1, h2, h3] <;> omega
        · simp [h1, h2, h3] <;> omega

end Go.Proofs.Ytaaomljhhlkmlaa.Pure
