/- A text is read back from its hexadecimal digits; a longer one is refused: at every draw. No condition. -/
import Derived.Test.YtbdbogpglkbafaaDoorPFnHexTextx2
import Derived.Test.YtbdbogpglkbafaaDoorBits
import Derived.Lib.ItoaLen
namespace Go.Proofs.YtbdbogpglkbafaaDoor.Pure
open Go.RowKit Go.Proofs.YtbdbogpglkbafaaDoor.PFnHexText Go.Proofs.YtbdbogpglkbafaaDoorW.PrintWords Go.Proofs.YtbdbogpglkbafaaDoorW.PrintLast Go.Proofs.YtbdbogpglkbafaaDoorW.PrintMore Go.Proofs.YtbdbogpglkbafaaDoor.Num
set_option linter.unusedVariables false
set_option linter.unusedSimpArgs false

/-- A cursor of the draws: it stands in its bytes. -/
def Cur (b : List Int) (i : Int) : Prop := b.length ≤ 1048576 ∧ 0 ≤ i ∧ i ≤ b.length ∧ ∀ x ∈ b, 0 ≤ x ∧ x ≤ 255
theorem new_loop (l : List Int) (d : Nat) : ∀ (k i : Nat) (h : Int), i + d = 4000 → d < k → ∃ h', spec_l01New.l0 k l h i = some (l, 0, h') := by
  induction d with
  | zero =>
    intro k i h hi hk
    obtain ⟨k, rfl⟩ : ∃ m, k = m + 1 := ⟨k - 1, by omega⟩
    rw [spec_l01New.l0]
    by_cases e : (i : Int) < (l.length : Int)
    · rw [if_pos e, if_neg (by omega)]; exact ⟨_, rfl⟩
    · rw [if_neg e]; exact ⟨_, rfl⟩
  | succ d ih =>
    intro k i h hi hk
    obtain ⟨k, rfl⟩ : ∃ m, k = m + 1 := ⟨k - 1, by omega⟩
    rw [spec_l01New.l0]
    by_cases e : (i : Int) < (l.length : Int)
    · rw [if_pos e, if_pos (by omega), if_pos (by omega), w64 (n := (i : Int) + 1) (by omega) (by omega), show ((i : Int) + 1) = ((i + 1 : Nat) : Int) by omega]
      exact ih k (i + 1) _ (by omega) (by omega)
    · rw [if_neg e]; exact ⟨_, rfl⟩
theorem new_cur (l : List Int) (hl : l.length ≤ 1048576) (hb : ∀ x ∈ l, (Lit.int .u8 x).wf = true) (k : Nat) (hk : 4000 < k) : ∃ h, spec_l01New.f k l = some (l, 0, h) ∧ Cur l 0 := by
  obtain ⟨h, e⟩ := new_loop l 4000 k 0 (wrap64 (98663 + (l.length : Int))) (by decide) hk
  refine ⟨h, e, hl, by omega, by omega, fun x hx => ?_⟩
  have h3 := hb x hx
  simp [Lit.wf] at h3
  exact h3
theorem byte_cur (b : List Int) (i h : Int) (hc : Cur b i) : ∃ v i' h', spec_l01Byte.f b i h = some (v, i', h') ∧ Cur b i' ∧ 0 ≤ v ∧ v ≤ 255 := by
  obtain ⟨h1, h2, h3, h4⟩ := hc
  unfold spec_l01Byte.f
  by_cases e : i < (b.length : Int)
  · rw [if_pos e, if_pos h2, w64 (n := i + 1) (by omega) (by omega)]
    exact ⟨_, _, _, rfl, ⟨h1, by omega, by omega, h4⟩, and255 _⟩
  · rw [if_neg e]
    exact ⟨_, _, _, rfl, ⟨h1, h2, h3, h4⟩, and255 _⟩
theorem below_cur (b : List Int) (i h n : Int) (hc : Cur b i) : ∃ v i' h', spec_l01Below.f b i h n = some (v, i', h') ∧ Cur b i' ∧ 0 ≤ v ∧ (0 < n → v < n) ∧ (n ≤ 0 → v = 0) := by
  unfold spec_l01Below.f
  by_cases e : n ≤ 0
  · rw [if_pos e]
    exact ⟨0, _, _, rfl, hc, by omega, by omega, fun _ => rfl⟩
  · rw [if_neg e]
    have tm : ∀ x : Int, 0 ≤ x → 0 ≤ Int.tmod x n ∧ Int.tmod x n < n := fun x hx => by
      rw [Int.tmod_eq_emod_of_nonneg hx]
      exact ⟨Int.emod_nonneg _ (by omega), Int.emod_lt_of_pos _ (by omega)⟩
    obtain ⟨v1, i1, h1, e1, c1, r1⟩ := byte_cur b i h hc
    by_cases e2 : n ≤ 256
    · rw [if_pos e2, e1]
      simp only [Option.bind_some]
      rw [if_neg (by omega)]
      exact ⟨_, _, _, rfl, c1, (tm _ r1.1).1, fun _ => (tm _ r1.1).2, fun h => absurd h e⟩
    · obtain ⟨v2, i2, h2, e3, c2, r2⟩ := byte_cur b i1 h1 c1
      obtain ⟨v3, i3, h3, e4, c3, r3⟩ := byte_cur b i2 h2 c2
      obtain ⟨v4, i4, h4, e5, c4, r4⟩ := byte_cur b i3 h3 c3
      rw [if_neg e2, e1]
      simp only [Option.bind_some]
      rw [e3]
      simp only [Option.bind_some]
      rw [e4]
      simp only [Option.bind_some]
      rw [e5]
      simp only [Option.bind_some]
      have hv : wrap64 (wrap64 (wrap64 (wrap64 (v1 * 16777216) + wrap64 (v2 * 65536)) + wrap64 (v3 * 256)) + v4) = v1 * 16777216 + v2 * 65536 + v3 * 256 + v4 := by
        rw [w64 (n := v1 * 16777216) (by omega) (by omega), w64 (n := v2 * 65536) (by omega) (by omega), w64 (n := v3 * 256) (by omega) (by omega), w64 (n := v1 * 16777216 + v2 * 65536) (by omega) (by omega), w64 (n := v1 * 16777216 + v2 * 65536 + v3 * 256) (by omega) (by omega), w64 (by omega) (by omega)]
      rw [if_neg (by omega), hv]
      have hnn : 0 ≤ v1 * 16777216 + v2 * 65536 + v3 * 256 + v4 := by omega
      exact ⟨_, _, _, rfl, c4, (tm _ hnn).1, fun _ => (tm _ hnn).2, fun h => absurd h e⟩
theorem once_cur (b : List Int) (i h n : Int) (hc : Cur b i) : ∃ v i' h', spec_l01Once.f b i h n = some (v, i', h') ∧ Cur b i' := by
  obtain ⟨v, i', h', e, c, _⟩ := below_cur b i h n hc
  unfold spec_l01Once.f
  rw [e]
  exact ⟨_, _, _, rfl, c⟩
theorem ba_app (a b : ByteArray) : (a ++ b).data.toList = a.data.toList ++ b.data.toList := by
  simp
theorem ba_size (a : ByteArray) : a.size = a.data.toList.length := by
  rw [Array.length_toList]
  rfl
theorem ba_of (s : ByteArray) (l : List UInt8) (h : s.data.toList = l) : s = ⟨l.toArray⟩ := by
  subst h
  rfl
theorem impl_format (a : Int) (h : -9223372036854775808 ≤ a ∧ a ≤ 9223372036854775807) : impl_FormatInt.f a = some ⟨(Lib.itoa a).toArray⟩ := by
  unfold impl_FormatInt.f strconv_Itoa_39.f
  rw [if_pos h]
  rfl
/-- The two digits of a byte, as the program reads them off its table. -/
def hi (b : Int) : Int := bt (⟨#[48, 49, 50, 51, 52, 53, 54, 55, 56, 57, 97, 98, 99, 100, 101, 102]⟩ : ByteArray) (b / 16)
def lo (b : Int) : Int := bt (⟨#[48, 49, 50, 51, 52, 53, 54, 55, 56, 57, 97, 98, 99, 100, 101, 102]⟩ : ByteArray) (Go.bits .and .u8 b 15)
def digs (x : ByteArray) : Nat → Nat → List Int
  | 0, _ => []
  | d + 1, i => [hi (bt x (i : Int)), lo (bt x (i : Int))] ++ digs x d (i + 1)
theorem digs_length (x : ByteArray) (d : Nat) : ∀ i, (digs x d i).length = 2 * d := by
  induction d with
  | zero => intro i; rfl
  | succ d ih => intro i; simp only [digs, List.length_append, List.length_cons, List.length_nil, ih]; omega
theorem fig256 : ∀ n : Nat, n < 256 → 0 ≤ (n : Int) / 16 ∧ (n : Int) / 16 < 16 ∧ 0 ≤ Go.bits .and .u8 (n : Int) 15 ∧ Go.bits .and .u8 (n : Int) 15 < 16 := by
  decide +kernel
theorem fig (x : ByteArray) (i : Int) : 0 ≤ bt x i / 16 ∧ bt x i / 16 < 16 ∧ 0 ≤ Go.bits .and .u8 (bt x i) 15 ∧ Go.bits .and .u8 (bt x i) 15 < 16 := by
  obtain ⟨h0, h1⟩ := bt_range x i
  obtain ⟨n, hn⟩ := Int.eq_ofNat_of_zero_le h0
  rw [hn]
  exact fig256 n (by omega)
theorem impl_hex_loop (x : ByteArray) (hx : x.size ≤ 1048576) (d : Nat) : ∀ (k i : Nat) (acc : List Int), i + d = x.size → d < k → acc.length + 2 * d ≤ 100000000 →
    impl_EncodeHex.l0 k x acc (x.size : Int) i = some (strOfNums (acc ++ digs x d i), true) := by
  induction d with
  | zero =>
    intro k i acc hi hk _
    obtain ⟨k, rfl⟩ : ∃ m, k = m + 1 := ⟨k - 1, by omega⟩
    simp only [impl_EncodeHex.l0]
    rw [if_neg (by omega)]
    simp [digs]
  | succ d ih =>
    intro k i acc hi hk ha
    obtain ⟨k, rfl⟩ : ∃ m, k = m + 1 := ⟨k - 1, by omega⟩
    obtain ⟨f1, f2, f3, f4⟩ := fig x i
    simp only [impl_EncodeHex.l0]
    rw [if_pos (by omega), if_pos (by omega), if_pos (by omega), if_pos f1, if_pos f2, if_pos f3, if_pos f4, Option.bind_some, if_pos (by simp only [List.length_cons, List.length_nil]; omega), w64 (by omega) (by omega), show ((i : Int) + 1) = ((i + 1 : Nat) : Int) by omega, ih k (i + 1) _ (by omega) (by omega) (by rw [List.length_append]; simp only [List.length_cons, List.length_nil]; omega), List.append_assoc]
    rfl
theorem impl_hex (x : ByteArray) (hx : x.size ≤ 1048576) (k : Nat) (hk : x.size < k) : impl_EncodeHex.f k x = some (if x.size > 20000 then (⟨#[]⟩, false) else (strOfNums (digs x x.size 0), true)) := by
  unfold impl_EncodeHex.f
  by_cases h : x.size > 20000
  · rw [if_pos (by omega), if_pos h]
  · have e : impl_EncodeHex.l0 k x (List.replicate 0 0) (x.size : Int) 0 = some (strOfNums (digs x x.size 0), true) := impl_hex_loop x hx x.size k 0 [] (by omega) (by omega) (by simp; omega)
    rw [if_neg (by omega), if_neg h, w64 (by omega) (by omega), if_pos (by omega), if_pos (by omega), e]
/-- The value of a digit, as the program looks it up: -1 where it is none. -/
def val (b : Int) : Int := Lib.indexByte (⟨#[48, 49, 50, 51, 52, 53, 54, 55, 56, 57, 97, 98, 99, 100, 101, 102]⟩ : ByteArray).data.toList b.toNat.toUInt8
/-- The bytes of d pairs of digits from place i on, behind acc. -/
def pairs (x : ByteArray) : Nat → Nat → List Int → ByteArray × Bool
  | 0, _, acc => (strOfNums acc, true)
  | d + 1, i, acc => if val (bt x (i : Int)) < 0 then (⟨#[]⟩, false) else if val (bt x ((i + 1 : Nat) : Int)) < 0 then (⟨#[]⟩, false) else pairs x d (i + 2) (acc ++ [(wrap64 (wrap64 (16 * val (bt x (i : Int))) + val (bt x ((i + 1 : Nat) : Int)))) % 256])
theorem impl_unhex_loop (x : ByteArray) (hx : x.size ≤ 1048576) (d : Nat) : ∀ (k i : Nat) (acc : List Int), i + 2 * d = x.size → d + 1 < k → acc.length + d ≤ 100000000 →
    impl_DecodeHex.l0 k x acc i = some (pairs x d i acc) := by
  induction d with
  | zero =>
    intro k i acc hi hk _
    obtain ⟨k, rfl⟩ : ∃ m, k = m + 1 := ⟨k - 1, by omega⟩
    rw [impl_DecodeHex.l0]
    rw [if_neg (by omega)]
    rfl
  | succ d ih =>
    intro k i acc hi hk ha
    obtain ⟨k, rfl⟩ : ∃ m, k = m + 1 + 1 := ⟨k - 2, by omega⟩
    have e1 : wrap64 ((i : Int) + 1) = ((i + 1 : Nat) : Int) := by rw [w64 (by omega) (by omega)]; omega
    have e2 : wrap64 ((i : Int) + 2) = ((i + 2 : Nat) : Int) := by rw [w64 (by omega) (by omega)]; omega
    have v1 : strings_IndexByte.f (⟨#[48, 49, 50, 51, 52, 53, 54, 55, 56, 57, 97, 98, 99, 100, 101, 102]⟩ : ByteArray) (bt x i) = some (val (bt x i)) := rfl
    have v2 : strings_IndexByte.f (⟨#[48, 49, 50, 51, 52, 53, 54, 55, 56, 57, 97, 98, 99, 100, 101, 102]⟩ : ByteArray) (bt x ((i + 1 : Nat) : Int)) = some (val (bt x ((i + 1 : Nat) : Int))) := rfl
    rw [impl_DecodeHex.l0]
    rw [if_pos (by omega), if_pos (by omega), v1, Option.bind_some, e1, if_pos (by omega), if_pos (by omega), v2, Option.bind_some, if_pos (show acc.length < 140737488355328 by omega), e2, ih (k + 1) (i + 2) _ (by omega) (by omega) (by rw [List.length_append]; simp only [List.length_cons, List.length_nil]; omega)]
    simp only [pairs]
    (repeat' split) <;> rfl
/-- What both decodings answer. -/
def unhex (x : ByteArray) : ByteArray × Bool := if x.size > 40000 ∨ x.size % 2 = 1 then (⟨#[]⟩, false) else pairs x (x.size / 2) 0 []
theorem impl_unhex (x : ByteArray) (hx : x.size ≤ 1048576) (k : Nat) (hk : x.size + 5 < k) : impl_DecodeHex.f k x = some (unhex x) := by
  obtain ⟨k, rfl⟩ : ∃ m, k = m + 1 := ⟨k - 1, by omega⟩
  unfold impl_DecodeHex.f unhex
  have e : wrap64 ((x.size : Int) / 2) = (x.size : Int) / 2 := w64 (by omega) (by omega)
  by_cases h2 : x.size % 2 = 1
  · rw [if_pos (by omega), if_pos (Or.inr h2)]
    simp only [impl_DecodeHex.j0, if_true]
  · rw [if_neg (by omega), e]
    by_cases h : x.size > 40000
    · rw [if_pos (Or.inl h), show (decide ((x.size : Int) / 2 > 20000)) = true by simp; omega]
      simp only [impl_DecodeHex.j0, if_true]
    · rw [if_neg (by omega), show (decide ((x.size : Int) / 2 > 20000)) = false by simp; omega]
      simp only [impl_DecodeHex.j0]
      rw [if_neg (by decide), e, if_pos (by omega), if_pos (by omega)]
      exact impl_unhex_loop x hx (x.size / 2) k 0 [] (by omega) (by omega) (by simp; omega)
theorem bt_strOf (L : List Int) (j : Nat) (v : Int) (hv : L[j]? = some v) (hr : 0 ≤ v ∧ v ≤ 255) : bt (strOfNums L) (j : Int) = v := by
  obtain ⟨hj, e⟩ := List.getElem?_eq_some_iff.mp hv
  unfold bt
  rw [Int.toNat_natCast, dif_pos (by rw [strOfNums_size]; exact hj)]
  have : (strOfNums L)[j]'(by rw [strOfNums_size]; exact hj) = UInt8.ofNat L[j].toNat := by
    show (strOfNums L).data[j]'_ = _
    simp [strOfNums]
  rw [this, e, UInt8.toNat_ofNat']
  omega
theorem digs_get (x : ByteArray) (d : Nat) : ∀ i j, j < d → (digs x d i)[2 * j]? = some (hi (bt x ((i + j : Nat) : Int))) ∧ (digs x d i)[2 * j + 1]? = some (lo (bt x ((i + j : Nat) : Int))) := by
  induction d with
  | zero => intro i j h; omega
  | succ d ih =>
    intro i j h
    cases j with
    | zero => exact ⟨rfl, rfl⟩
    | succ j =>
      obtain ⟨h1, h2⟩ := ih (i + 1) j (by omega)
      have e : i + 1 + j = i + (j + 1) := by omega
      rw [e] at h1 h2
      simp only [digs]
      rw [show 2 * (j + 1) = 2 * j + 1 + 1 by omega, show 2 * j + 1 + 1 + 1 = (2 * j + 1) + 1 + 1 by omega]
      simp only [List.cons_append, List.nil_append, List.getElem?_cons_succ]
      exact ⟨h1, h2⟩
theorem val_hex : ∀ n : Nat, n < 256 → val (hi (n : Int)) = (n : Int) / 16 ∧ val (lo (n : Int)) = (n : Int) % 16 := by
  decide +kernel
theorem nib (n : Nat) (h : n < 256) : ¬ (n : Int) / 16 < 0 ∧ ¬ (n : Int) % 16 < 0 ∧ wrap64 (wrap64 (16 * ((n : Int) / 16)) + (n : Int) % 16) % 256 = (n : Int) := by
  rw [w64 (n := 16 * ((n : Int) / 16)) (by omega) (by omega), w64 (by omega) (by omega)]
  omega
theorem pairs_back (x : ByteArray) (d : Nat) : ∀ i acc, i + d = x.size →
    pairs (strOfNums (digs x x.size 0)) d (2 * i) acc = (strOfNums (acc ++ (List.range' i d).map fun m : Nat => bt x (m : Int)), true) := by
  induction d with
  | zero => intro i acc _; simp [pairs]
  | succ d ih =>
    intro i acc h
    obtain ⟨g1, g2⟩ := digs_get x x.size 0 i (by omega)
    rw [Nat.zero_add] at g1 g2
    have b1 := bt_strOf _ _ _ g1 (by unfold hi; exact bt_range _ _)
    have b2 := bt_strOf _ _ _ g2 (by unfold lo; exact bt_range _ _)
    obtain ⟨r0, r1⟩ := bt_range x (i : Int)
    obtain ⟨n, hn⟩ := Int.eq_ofNat_of_zero_le r0
    obtain ⟨v1, v2⟩ := val_hex n (by omega)
    rw [hn] at b1 b2
    obtain ⟨w1, w2, w3⟩ := nib n (by omega)
    simp only [pairs]
    rw [b1, b2, v1, v2, if_neg w1, if_neg w2, w3, show 2 * i + 2 = 2 * (i + 1) by omega, ih (i + 1) _ (by omega), List.range'_succ, List.map_cons, List.append_assoc, hn]
    rfl
theorem bytes_back (x : ByteArray) : strOfNums ((List.range' 0 x.size).map fun m : Nat => bt x (m : Int)) = x := by
  have : (strOfNums ((List.range' 0 x.size).map fun m : Nat => bt x (m : Int))).data.toList = x.data.toList := by
    rw [strOfNums_data]
    apply List.ext_getElem
    · simp
    · intro j h1 h2
      have hj : j < x.size := by
        have e : x.data.toList.length = x.size := Array.length_toList
        omega
      simp only [List.getElem_map, List.getElem_range', Nat.zero_add, Nat.one_mul]
      unfold bt
      rw [Int.toNat_natCast, dif_pos hj, Int.toNat_natCast, UInt8.ofNat_toNat]
      rfl
  rw [ba_of _ _ this]
theorem unhex_hex (x : ByteArray) (h : x.size ≤ 20000) : unhex (strOfNums (digs x x.size 0)) = (x, true) := by
  unfold unhex
  have e : (strOfNums (digs x x.size 0)).size = 2 * x.size := by rw [strOfNums_size, digs_length]
  rw [e, if_neg (by omega), show 2 * x.size / 2 = x.size by omega]
  have h2 := pairs_back x x.size 0 [] (by omega)
  rw [Nat.mul_zero, List.nil_append, bytes_back] at h2
  exact h2
theorem long_loop (n b : Int) (hn : 0 ≤ n ∧ n ≤ 30000) (d : Nat) : ∀ (k i : Nat) (acc : List Int), (i : Int) + d = n → d < k → (acc.length : Int) = n → ∃ r, spec_l01Long.l0 k n b acc (i : Int) = some (strOfNums r) ∧ (r.length : Int) = n := by
  induction d with
  | zero =>
    intro k i acc hi hk ha
    obtain ⟨k, rfl⟩ : ∃ m, k = m + 1 := ⟨k - 1, by omega⟩
    rw [spec_l01Long.l0, if_neg (by omega)]
    exact ⟨acc, rfl, ha⟩
  | succ d ih =>
    intro k i acc hi hk ha
    obtain ⟨k, rfl⟩ : ∃ m, k = m + 1 := ⟨k - 1, by omega⟩
    rw [spec_l01Long.l0, if_pos (by omega), if_pos (by omega), if_pos (by omega), w64 (n := (i : Int) + 1) (by omega) (by omega), show ((i : Int) + 1) = ((i + 1 : Nat) : Int) by omega]
    exact ih k (i + 1) _ (by omega) (by omega) (by rw [List.length_set]; exact ha)
theorem long_f (n b : Int) (hn : 0 ≤ n ∧ n ≤ 30000) (k : Nat) (hk : 30010 < k) : ∃ x, spec_l01Long.f k n b = some x ∧ (x.size : Int) = n := by
  obtain ⟨r, e, h⟩ := long_loop n b hn n.toNat k 0 (List.replicate n.toNat 0) (by omega) (by omega) (by simp; omega)
  unfold spec_l01Long.f
  rw [if_pos hn.1, if_pos (by omega)]
  exact ⟨_, e, by rw [strOfNums_size]; exact h⟩
theorem text_loop (b : List Int) (n : Int) (hn : 0 ≤ n ∧ n ≤ 5000) (d : Nat) : ∀ (k m : Nat) (acc : List Int) (i h : Int), (m : Int) + d = n → d < k → acc.length = m → Cur b i →
    ∃ r i' h', spec_l01Text.l0 k n acc (m : Int) b i h = some (strOfNums r, i', h') ∧ (r.length : Int) = n ∧ Cur b i' := by
  induction d with
  | zero =>
    intro k m acc i h hi hk ha hc
    obtain ⟨k, rfl⟩ : ∃ q, k = q + 1 := ⟨k - 1, by omega⟩
    rw [spec_l01Text.l0, if_neg (by omega)]
    exact ⟨acc, i, h, rfl, by omega, hc⟩
  | succ d ih =>
    intro k m acc i h hi hk ha hc
    obtain ⟨k, rfl⟩ : ∃ q, k = q + 1 := ⟨k - 1, by omega⟩
    obtain ⟨v, i1, h1, e1, c1, _⟩ := byte_cur b i h hc
    rw [spec_l01Text.l0, if_pos (by omega), e1, Option.bind_some, if_pos (by omega), w64 (n := (m : Int) + 1) (by omega) (by omega), show ((m : Int) + 1) = ((m + 1 : Nat) : Int) by omega]
    exact ih k (m + 1) _ i1 h1 (by omega) (by omega) (by rw [List.length_append]; simp only [List.length_cons, List.length_nil]; omega) c1
theorem text_f (b : List Int) (i h n : Int) (hn : 0 ≤ n ∧ n ≤ 5000) (hc : Cur b i) (k : Nat) (hk : 5010 < k) : ∃ x i' h', spec_l01Text.f k b i h n = some (x, i', h') ∧ (x.size : Int) = n ∧ Cur b i' := by
  obtain ⟨k, rfl⟩ : ∃ q, k = q + 1 := ⟨k - 1, by omega⟩
  obtain ⟨r, i', h', e, l, c⟩ := text_loop b n hn n.toNat k 0 [] i h (by omega) (by omega) rfl hc
  unfold spec_l01Text.f
  rw [if_neg (by omega), spec_l01Text.j0]
  exact ⟨_, i', h', e, by rw [strOfNums_size]; exact l, c⟩
theorem draw_hex (l : List Int) (hl : l.length ≤ 1048576) (hb : ∀ x ∈ l, (Lit.int .u8 x).wf = true) (k : Nat) (hk : 40000 < k) : ∃ x, spec_DrawEncodeHex.f k l = some x ∧ x.size ≤ 20001 := by
  obtain ⟨h0, e0, c0⟩ := new_cur l hl hb k (by omega)
  obtain ⟨v, i1, h1, e1, c1⟩ := once_cur l 0 h0 60 c0
  unfold spec_DrawEncodeHex.f
  rw [e0, Option.bind_some]
  simp only
  rw [e1, Option.bind_some]
  simp only
  cases v with
  | true =>
    obtain ⟨n, i2, h2, e2, c2, r0, r1, _⟩ := below_cur l i1 h1 2 c1
    have r2 := r1 (by decide)
    obtain ⟨x, e3, hx⟩ := long_f (20000 + n) 200 (by omega) k (by omega)
    rw [if_pos rfl, e2, Option.bind_some]
    simp only
    rw [w64 (by omega) (by omega), e3]
    exact ⟨x, rfl, by omega⟩
  | false =>
    obtain ⟨n, i2, h2, e2, c2, r0, r1, _⟩ := below_cur l i1 h1 30 c1
    have r2 := r1 (by decide)
    obtain ⟨x, i3, h3, e3, hx, _⟩ := text_f l i2 h2 n (by omega) c2 k (by omega)
    rw [if_neg (by decide), e2, Option.bind_some]
    simp only
    rw [e3]
    exact ⟨x, rfl, by omega⟩
theorem FnHexText : laws_FnHexText.Pure := by
  intro l _ _ hb
  refine ⟨l.length + 50000, ?_⟩
  unfold laws_FnHexText.f laws_big.f
  simp only [Option.bind_some]
  by_cases h : (l.length : Int) > 1048576
  · rw [if_pos (by simpa using h)]
  · rw [if_neg (by simpa using h)]
    have hl : l.length ≤ 1048576 := by omega
    generalize hk : l.length + 50000 = k
    obtain ⟨x, e0, hx⟩ := draw_hex l hl hb k (by omega)
    rw [e0, Option.bind_some, impl_hex x (by omega) k (by omega), Option.bind_some]
    by_cases c : x.size > 20000
    · rw [if_pos (by omega), if_pos c]
      simp only
      have e : Lib.itoa 10 = [49, 48] := by
        have h := Lib.itoa_nonneg 10
        rw [Lib.decDigits_two (by decide) (by decide)] at h
        exact h
      rw [if_neg (by decide), if_pos (by simp [ByteArray.toList_eq]), impl_format 10 (by decide), Option.bind_some, e]
      simp [ByteArray.toList_eq]
    · rw [if_neg (by omega), if_neg c]
      simp only
      have hs : (strOfNums (digs x x.size 0)).size = 2 * x.size := by rw [strOfNums_size, digs_length]
      rw [impl_unhex _ (by omega) k (by omega), Option.bind_some, unhex_hex x (by omega)]
      simp only
      rw [if_pos trivial, if_pos trivial, if_pos trivial, hs, w64 (by omega) (by omega)]
      simp

end Go.Proofs.YtbdbogpglkbafaaDoor.Pure
