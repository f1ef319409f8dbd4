/- EncodeHex of the program answers as EncodeHex of the reference at every argument. No condition. -/
import Derived.Test.YtaaomljhhlkmlaaPFnExactEncodeHexx1
import Derived.Test.YtaaomljhhlkmlaaBits
namespace Go.Proofs.Ytaaomljhhlkmlaa.Pure
open Go.RowKit Go.Proofs.Ytaaomljhhlkmlaa.PFnExactEncodeHex Go.Proofs.YtaaomljhhlkmlaaW.PrintWords Go.Proofs.YtaaomljhhlkmlaaW.PrintLast Go.Proofs.YtaaomljhhlkmlaaW.PrintMore Go.Proofs.Ytaaomljhhlkmlaa.Num
set_option linter.unusedVariables false
set_option linter.unusedSimpArgs false

/-- The two digits of a byte, as the program reads them off its table. -/
def hi (b : Int) : Int := bt (⟨#[48, 49, 50, 51, 52, 53, 54, 55, 56, 57, 97, 98, 99, 100, 101, 102]⟩ : ByteArray) (b / 16)
def lo (b : Int) : Int := bt (⟨#[48, 49, 50, 51, 52, 53, 54, 55, 56, 57, 97, 98, 99, 100, 101, 102]⟩ : ByteArray) (Go.bits .and .u8 b 15)
def digs (x : ByteArray) : Nat → Nat → List Int
  | 0, _ => []
  | d + 1, i => [hi (bt x (i : Int)), lo (bt x (i : Int))] ++ digs x d (i + 1)
theorem digs_length (x : ByteArray) (d : Nat) : ∀ i, (digs x d i).length = 2 * d := by
  induction d with
  | zero => intro i; rfl
  | succ d ih => intro i; simp only [digs, List.length_append, List.length_cons, List.length_nil, ih]; omega
theorem fig256 : ∀ n : Nat, n < 256 → spec_l01Figure.f (wrap64 (Int.tdiv (wrap64 (n : Int)) 16)) = some (hi (n : Int)) ∧ spec_l01Figure.f (Int.tmod (wrap64 (n : Int)) 16) = some (lo (n : Int)) ∧ 0 ≤ (n : Int) / 16 ∧ (n : Int) / 16 < 16 ∧ 0 ≤ Go.bits .and .u8 (n : Int) 15 ∧ Go.bits .and .u8 (n : Int) 15 < 16 := by
  decide +kernel
theorem fig (x : ByteArray) (i : Int) : spec_l01Figure.f (wrap64 (Int.tdiv (wrap64 (bt x i)) 16)) = some (hi (bt x i)) ∧ spec_l01Figure.f (Int.tmod (wrap64 (bt x i)) 16) = some (lo (bt x i)) ∧ 0 ≤ bt x i / 16 ∧ bt x i / 16 < 16 ∧ 0 ≤ Go.bits .and .u8 (bt x i) 15 ∧ Go.bits .and .u8 (bt x i) 15 < 16 := by
  obtain ⟨h0, h1⟩ := bt_range x i
  obtain ⟨n, hn⟩ := Int.eq_ofNat_of_zero_le h0
  rw [hn]
  exact fig256 n (by omega)
theorem spec_hex_loop (x : ByteArray) (hx : x.size ≤ 1048576) (d : Nat) : ∀ (k i : Nat) (acc : List Int), i + d = x.size → d < k → acc.length + 2 * d ≤ 100000000 →
    spec_EncodeHex.l0 k x acc i = some (strOfNums (acc ++ digs x d i), true) := by
  induction d with
  | zero =>
    intro k i acc hi hk _
    obtain ⟨k, rfl⟩ : ∃ m, k = m + 1 := ⟨k - 1, by omega⟩
    simp only [spec_EncodeHex.l0]
    rw [if_neg (by omega)]
    simp [digs]
  | succ d ih =>
    intro k i acc hi hk ha
    obtain ⟨k, rfl⟩ : ∃ m, k = m + 1 := ⟨k - 1, by omega⟩
    simp only [spec_EncodeHex.l0]
    rw [if_pos (by omega), if_pos (by omega), (fig x i).1, Option.bind_some, (fig x i).2.1, Option.bind_some, Option.bind_some, if_pos (by simp only [List.length_cons, List.length_nil]; omega), w64 (by omega) (by omega), show ((i : Int) + 1) = ((i + 1 : Nat) : Int) by omega, ih k (i + 1) _ (by omega) (by omega) (by rw [List.length_append]; simp only [List.length_cons, List.length_nil]; omega), List.append_assoc]
    rfl
theorem impl_hex_loop (x : ByteArray) (hx : x.size ≤ 1048576) (d : Nat) : ∀ (k i : Nat) (acc : List Int), i + d = x.size → d < k → acc.length + 2 * d ≤ 100000000 →
    impl_EncodeHex.l0 k x acc (x.size : Int) i = some (strOfNums (acc ++ digs x d i), true) := by
  induction d with
  | zero =>
    intro k i acc hi hk _
    obtain ⟨k, rfl⟩ : ∃ m, k = m + 1 := ⟨k - 1, by omega⟩
    simp only [impl_EncodeHex.l0]
    rw [if_neg (by omega)]
    simp [digs]
  | succ d ih =>
    intro k i acc hi hk ha
    obtain ⟨k, rfl⟩ : ∃ m, k = m + 1 := ⟨k - 1, by omega⟩
    obtain ⟨_, _, f1, f2, f3, f4⟩ := fig x i
    simp only [impl_EncodeHex.l0]
    rw [if_pos (by omega), if_pos (by omega), if_pos (by omega), if_pos f1, if_pos f2, if_pos f3, if_pos f4, Option.bind_some, if_pos (by simp only [List.length_cons, List.length_nil]; omega), w64 (by omega) (by omega), show ((i : Int) + 1) = ((i + 1 : Nat) : Int) by omega, ih k (i + 1) _ (by omega) (by omega) (by rw [List.length_append]; simp only [List.length_cons, List.length_nil]; omega), List.append_assoc]
    rfl
theorem impl_hex (x : ByteArray) (hx : x.size ≤ 1048576) (k : Nat) (hk : x.size < k) : impl_EncodeHex.f k x = some (if x.size > 20000 then (⟨#[]⟩, false) else (strOfNums (digs x x.size 0), true)) := by
  unfold impl_EncodeHex.f
  by_cases h : x.size > 20000
  · rw [if_pos (by omega), if_pos h]
  · have e : impl_EncodeHex.l0 k x (List.replicate 0 0) (x.size : Int) 0 = some (strOfNums (digs x x.size 0), true) := impl_hex_loop x hx x.size k 0 [] (by omega) (by omega) (by simp; omega)
    rw [if_neg (by omega), if_neg h, w64 (by omega) (by omega), if_pos (by omega), if_pos (by omega), e]
theorem spec_hex (x : ByteArray) (hx : x.size ≤ 1048576) (k : Nat) (hk : x.size < k) : spec_EncodeHex.f k x = some (if x.size > 20000 then (⟨#[]⟩, false) else (strOfNums (digs x x.size 0), true)) := by
  unfold spec_EncodeHex.f
  by_cases h : x.size > 20000
  · rw [if_pos (by omega), if_pos h]
  · have e : spec_EncodeHex.l0 k x [] 0 = some (strOfNums (digs x x.size 0), true) := spec_hex_loop x hx x.size k 0 [] (by omega) (by omega) (by simp; omega)
    rw [if_neg (by omega), if_neg h, e]
theorem FnExactEncodeHex : laws_FnExactEncodeHex.Pure := by
  intro x _
  refine ⟨x.size + 1, ?_⟩
  unfold laws_FnExactEncodeHex.f
  by_cases h : (x.size : Int) > 1048576
  · rw [if_pos h]
  · rw [if_neg h, spec_hex x (by omega) _ (by omega), impl_hex x (by omega) _ (by omega)]
    generalize (if x.size > 20000 then ((⟨#[]⟩ : ByteArray), false) else (strOfNums (digs x x.size 0), true)) = v
    simp only [Option.bind_some]
    rw [if_pos trivial, bne_self_eq_false, if_neg (by decide)]

end Go.Proofs.Ytaaomljhhlkmlaa.Pure
