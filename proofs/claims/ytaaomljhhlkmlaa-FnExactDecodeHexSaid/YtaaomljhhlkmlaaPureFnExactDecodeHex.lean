/- DecodeHex of the program answers as DecodeHex of the reference at every argument. No condition. -/
import Derived.Test.YtaaomljhhlkmlaaPFnExactDecodeHexx1
import Derived.Test.YtaaomljhhlkmlaaBits
namespace Go.Proofs.Ytaaomljhhlkmlaa.Pure
open Go.RowKit Go.Proofs.Ytaaomljhhlkmlaa.PFnExactDecodeHex Go.Proofs.YtaaomljhhlkmlaaW.PrintWords Go.Proofs.YtaaomljhhlkmlaaW.PrintLast Go.Proofs.YtaaomljhhlkmlaaW.PrintMore Go.Proofs.Ytaaomljhhlkmlaa.Num
set_option linter.unusedVariables false
set_option linter.unusedSimpArgs false

/-- The value of a digit, as the program looks it up: -1 where it is none. -/
def val (b : Int) : Int := Lib.indexByte (⟨#[48, 49, 50, 51, 52, 53, 54, 55, 56, 57, 97, 98, 99, 100, 101, 102]⟩ : ByteArray).data.toList b.toNat.toUInt8
theorem val256 : ∀ n : Nat, n < 256 → spec_l01Value.f 1 (n : Int) = some (val (n : Int)) ∧ -1 ≤ val (n : Int) ∧ val (n : Int) ≤ 15 := by
  decide +kernel
theorem val_at (k : Nat) (x : ByteArray) (i : Int) : spec_l01Value.f (k + 1) (bt x i) = some (val (bt x i)) ∧ -1 ≤ val (bt x i) ∧ val (bt x i) ≤ 15 := by
  obtain ⟨h0, h1⟩ := bt_range x i
  obtain ⟨n, hn⟩ := Int.eq_ofNat_of_zero_le h0
  rw [hn]
  exact val256 n (by omega)
/-- The bytes of d pairs of digits from place i on, behind acc. -/
def pairs (x : ByteArray) : Nat → Nat → List Int → ByteArray × Bool
  | 0, _, acc => (strOfNums acc, true)
  | d + 1, i, acc => if val (bt x (i : Int)) < 0 then (⟨#[]⟩, false) else if val (bt x ((i + 1 : Nat) : Int)) < 0 then (⟨#[]⟩, false) else pairs x d (i + 2) (acc ++ [(wrap64 (wrap64 (16 * val (bt x (i : Int))) + val (bt x ((i + 1 : Nat) : Int)))) % 256])
theorem spec_unhex_loop (x : ByteArray) (hx : x.size ≤ 1048576) (d : Nat) : ∀ (k i : Nat) (acc : List Int), i + 2 * d = x.size → d + 1 < k → acc.length + d ≤ 100000000 →
    spec_DecodeHex.l0 k x acc i = some (pairs x d i acc) := by
  induction d with
  | zero =>
    intro k i acc hi hk _
    obtain ⟨k, rfl⟩ : ∃ m, k = m + 1 := ⟨k - 1, by omega⟩
    rw [spec_DecodeHex.l0]
    rw [if_neg (by omega)]
    rfl
  | succ d ih =>
    intro k i acc hi hk ha
    obtain ⟨k, rfl⟩ : ∃ m, k = m + 1 + 1 := ⟨k - 2, by omega⟩
    have e1 : wrap64 ((i : Int) + 1) = ((i + 1 : Nat) : Int) := by rw [w64 (by omega) (by omega)]; omega
    have e2 : wrap64 ((i : Int) + 2) = ((i + 2 : Nat) : Int) := by rw [w64 (by omega) (by omega)]; omega
    rw [spec_DecodeHex.l0]
    rw [if_pos (by omega), if_pos (by omega), (val_at k x i).1, Option.bind_some, e1, if_pos (by omega), if_pos (by omega), (val_at k x ((i + 1 : Nat) : Int)).1, Option.bind_some, if_pos (show acc.length < 140737488355328 by omega), e2, ih (k + 1) (i + 2) _ (by omega) (by omega) (by rw [List.length_append]; simp only [List.length_cons, List.length_nil]; omega)]
    simp only [pairs]
    (repeat' split) <;> rfl
theorem impl_unhex_loop (x : ByteArray) (hx : x.size ≤ 1048576) (d : Nat) : ∀ (k i : Nat) (acc : List Int), i + 2 * d = x.size → d + 1 < k → acc.length + d ≤ 100000000 →
    impl_DecodeHex.l0 k x acc i = some (pairs x d i acc) := by
  induction d with
  | zero =>
    intro k i acc hi hk _
    obtain ⟨k, rfl⟩ : ∃ m, k = m + 1 := ⟨k - 1, by omega⟩
    rw [impl_DecodeHex.l0]
    rw [if_neg (by omega)]
    rfl
  | succ d ih =>
    intro k i acc hi hk ha
    obtain ⟨k, rfl⟩ : ∃ m, k = m + 1 + 1 := ⟨k - 2, by omega⟩
    have e1 : wrap64 ((i : Int) + 1) = ((i + 1 : Nat) : Int) := by rw [w64 (by omega) (by omega)]; omega
    have e2 : wrap64 ((i : Int) + 2) = ((i + 2 : Nat) : Int) := by rw [w64 (by omega) (by omega)]; omega
    have v1 : strings_IndexByte.f (⟨#[48, 49, 50, 51, 52, 53, 54, 55, 56, 57, 97, 98, 99, 100, 101, 102]⟩ : ByteArray) (bt x i) = some (val (bt x i)) := rfl
    have v2 : strings_IndexByte.f (⟨#[48, 49, 50, 51, 52, 53, 54, 55, 56, 57, 97, 98, 99, 100, 101, 102]⟩ : ByteArray) (bt x ((i + 1 : Nat) : Int)) = some (val (bt x ((i + 1 : Nat) : Int))) := rfl
    rw [impl_DecodeHex.l0]
    rw [if_pos (by omega), if_pos (by omega), v1, Option.bind_some, e1, if_pos (by omega), if_pos (by omega), v2, Option.bind_some, if_pos (show acc.length < 140737488355328 by omega), e2, ih (k + 1) (i + 2) _ (by omega) (by omega) (by rw [List.length_append]; simp only [List.length_cons, List.length_nil]; omega)]
    simp only [pairs]
    (repeat' split) <;> rfl
/-- What both decodings answer. -/
def unhex (x : ByteArray) : ByteArray × Bool := if x.size > 40000 ∨ x.size % 2 = 1 then (⟨#[]⟩, false) else pairs x (x.size / 2) 0 []
theorem spec_unhex (x : ByteArray) (hx : x.size ≤ 1048576) (k : Nat) (hk : x.size + 5 < k) : spec_DecodeHex.f k x = some (unhex x) := by
  obtain ⟨k, rfl⟩ : ∃ m, k = m + 1 := ⟨k - 1, by omega⟩
  unfold spec_DecodeHex.f unhex
  by_cases h : x.size > 40000
  · rw [if_pos (by omega), if_pos (Or.inl h)]
    simp only [spec_DecodeHex.j0, if_true]
  · rw [if_neg (by omega)]
    by_cases h2 : x.size % 2 = 1
    · rw [if_pos (Or.inr h2), show (((x.size : Int) % 2) != 0) = true by simp; omega]
      simp only [spec_DecodeHex.j0, if_true]
    · rw [if_neg (by omega), show (((x.size : Int) % 2) != 0) = false by simp; omega]
      simp only [spec_DecodeHex.j0]
      rw [if_neg (by decide)]
      exact spec_unhex_loop x hx (x.size / 2) k 0 [] (by omega) (by omega) (by simp; omega)
theorem impl_unhex (x : ByteArray) (hx : x.size ≤ 1048576) (k : Nat) (hk : x.size + 5 < k) : impl_DecodeHex.f k x = some (unhex x) := by
  obtain ⟨k, rfl⟩ : ∃ m, k = m + 1 := ⟨k - 1, by omega⟩
  unfold impl_DecodeHex.f unhex
  have e : wrap64 ((x.size : Int) / 2) = (x.size : Int) / 2 := w64 (by omega) (by omega)
  by_cases h2 : x.size % 2 = 1
  · rw [if_pos (by omega), if_pos (Or.inr h2)]
    simp only [impl_DecodeHex.j0, if_true]
  · rw [if_neg (by omega), e]
    by_cases h : x.size > 40000
    · rw [if_pos (Or.inl h), show (decide ((x.size : Int) / 2 > 20000)) = true by simp; omega]
      simp only [impl_DecodeHex.j0, if_true]
    · rw [if_neg (by omega), show (decide ((x.size : Int) / 2 > 20000)) = false by simp; omega]
      simp only [impl_DecodeHex.j0]
      rw [if_neg (by decide), e, if_pos (by omega), if_pos (by omega)]
      exact impl_unhex_loop x hx (x.size / 2) k 0 [] (by omega) (by omega) (by simp; omega)
theorem FnExactDecodeHex : laws_FnExactDecodeHex.Pure := by
  intro x _
  refine ⟨x.size + 10, ?_⟩
  unfold laws_FnExactDecodeHex.f
  by_cases h : (x.size : Int) > 1048576
  · rw [if_pos h]
  · rw [if_neg h, spec_unhex x (by omega) _ (by omega), impl_unhex x (by omega) _ (by omega)]
    generalize unhex x = v
    simp only [Option.bind_some]
    rw [if_pos trivial, bne_self_eq_false, if_neg (by decide)]

end Go.Proofs.Ytaaomljhhlkmlaa.Pure
