/- An id is read back from its text and made of its parts: at every draw. No condition. -/
import Derived.Test.YtbdbogpglkbafaaDoorPFnIdsx2
import Derived.Test.YtbdbogpglkbafaaDoorBits
import Derived.Lib.ItoaLen
import Derived.Lib.IndexBytes
namespace Go.Proofs.YtbdbogpglkbafaaDoor.Pure
open Go.RowKit Go.Proofs.YtbdbogpglkbafaaDoor.PFnIds Go.Proofs.YtbdbogpglkbafaaDoorW.PrintWords Go.Proofs.YtbdbogpglkbafaaDoorW.PrintLast Go.Proofs.YtbdbogpglkbafaaDoorW.PrintMore Go.Proofs.YtbdbogpglkbafaaDoor.Num
set_option linter.unusedVariables false
set_option linter.unusedSimpArgs false

/-- A cursor of the draws: it stands in its bytes. -/
def Cur (b : List Int) (i : Int) : Prop := b.length ≤ 1048576 ∧ 0 ≤ i ∧ i ≤ b.length ∧ ∀ x ∈ b, 0 ≤ x ∧ x ≤ 255
theorem new_loop (l : List Int) (d : Nat) : ∀ (k i : Nat) (h : Int), i + d = 4000 → d < k → ∃ h', spec_l01New.l0 k l h i = some (l, 0, h') := by
  induction d with
  | zero =>
    intro k i h hi hk
    obtain ⟨k, rfl⟩ : ∃ m, k = m + 1 := ⟨k - 1, by omega⟩
    rw [spec_l01New.l0]
    by_cases e : (i : Int) < (l.length : Int)
    · rw [if_pos e, if_neg (by omega)]; exact ⟨_, rfl⟩
    · rw [if_neg e]; exact ⟨_, rfl⟩
  | succ d ih =>
    intro k i h hi hk
    obtain ⟨k, rfl⟩ : ∃ m, k = m + 1 := ⟨k - 1, by omega⟩
    rw [spec_l01New.l0]
    by_cases e : (i : Int) < (l.length : Int)
    · rw [if_pos e, if_pos (by omega), if_pos (by omega), w64 (n := (i : Int) + 1) (by omega) (by omega), show ((i : Int) + 1) = ((i + 1 : Nat) : Int) by omega]
      exact ih k (i + 1) _ (by omega) (by omega)
    · rw [if_neg e]; exact ⟨_, rfl⟩
theorem new_cur (l : List Int) (hl : l.length ≤ 1048576) (hb : ∀ x ∈ l, (Lit.int .u8 x).wf = true) (k : Nat) (hk : 4000 < k) : ∃ h, spec_l01New.f k l = some (l, 0, h) ∧ Cur l 0 := by
  obtain ⟨h, e⟩ := new_loop l 4000 k 0 (wrap64 (98663 + (l.length : Int))) (by decide) hk
  refine ⟨h, e, hl, by omega, by omega, fun x hx => ?_⟩
  have h3 := hb x hx
  simp [Lit.wf] at h3
  exact h3
theorem byte_cur (b : List Int) (i h : Int) (hc : Cur b i) : ∃ v i' h', spec_l01Byte.f b i h = some (v, i', h') ∧ Cur b i' ∧ 0 ≤ v ∧ v ≤ 255 := by
  obtain ⟨h1, h2, h3, h4⟩ := hc
  unfold spec_l01Byte.f
  by_cases e : i < (b.length : Int)
  · rw [if_pos e, if_pos h2, w64 (n := i + 1) (by omega) (by omega)]
    exact ⟨_, _, _, rfl, ⟨h1, by omega, by omega, h4⟩, and255 _⟩
  · rw [if_neg e]
    exact ⟨_, _, _, rfl, ⟨h1, h2, h3, h4⟩, and255 _⟩
theorem below_cur (b : List Int) (i h n : Int) (hc : Cur b i) : ∃ v i' h', spec_l01Below.f b i h n = some (v, i', h') ∧ Cur b i' ∧ 0 ≤ v ∧ (0 < n → v < n) ∧ (n ≤ 0 → v = 0) := by
  unfold spec_l01Below.f
  by_cases e : n ≤ 0
  · rw [if_pos e]
    exact ⟨0, _, _, rfl, hc, by omega, by omega, fun _ => rfl⟩
  · rw [if_neg e]
    have tm : ∀ x : Int, 0 ≤ x → 0 ≤ Int.tmod x n ∧ Int.tmod x n < n := fun x hx => by
      rw [Int.tmod_eq_emod_of_nonneg hx]
      exact ⟨Int.emod_nonneg _ (by omega), Int.emod_lt_of_pos _ (by omega)⟩
    obtain ⟨v1, i1, h1, e1, c1, r1⟩ := byte_cur b i h hc
    by_cases e2 : n ≤ 256
    · rw [if_pos e2, e1]
      simp only [Option.bind_some]
      rw [if_neg (by omega)]
      exact ⟨_, _, _, rfl, c1, (tm _ r1.1).1, fun _ => (tm _ r1.1).2, fun h => absurd h e⟩
    · obtain ⟨v2, i2, h2, e3, c2, r2⟩ := byte_cur b i1 h1 c1
      obtain ⟨v3, i3, h3, e4, c3, r3⟩ := byte_cur b i2 h2 c2
      obtain ⟨v4, i4, h4, e5, c4, r4⟩ := byte_cur b i3 h3 c3
      rw [if_neg e2, e1]
      simp only [Option.bind_some]
      rw [e3]
      simp only [Option.bind_some]
      rw [e4]
      simp only [Option.bind_some]
      rw [e5]
      simp only [Option.bind_some]
      have hv : wrap64 (wrap64 (wrap64 (wrap64 (v1 * 16777216) + wrap64 (v2 * 65536)) + wrap64 (v3 * 256)) + v4) = v1 * 16777216 + v2 * 65536 + v3 * 256 + v4 := by
        rw [w64 (n := v1 * 16777216) (by omega) (by omega), w64 (n := v2 * 65536) (by omega) (by omega), w64 (n := v3 * 256) (by omega) (by omega), w64 (n := v1 * 16777216 + v2 * 65536) (by omega) (by omega), w64 (n := v1 * 16777216 + v2 * 65536 + v3 * 256) (by omega) (by omega), w64 (by omega) (by omega)]
      rw [if_neg (by omega), hv]
      have hnn : 0 ≤ v1 * 16777216 + v2 * 65536 + v3 * 256 + v4 := by omega
      exact ⟨_, _, _, rfl, c4, (tm _ hnn).1, fun _ => (tm _ hnn).2, fun h => absurd h e⟩
theorem ba_app (a b : ByteArray) : (a ++ b).data.toList = a.data.toList ++ b.data.toList := by
  simp
theorem ba_size (a : ByteArray) : a.size = a.data.toList.length := by
  rw [Array.length_toList]
  rfl
theorem ba_of (s : ByteArray) (l : List UInt8) (h : s.data.toList = l) : s = ⟨l.toArray⟩ := by
  subst h
  rfl
theorem impl_format (a : Int) (h : -9223372036854775808 ≤ a ∧ a ≤ 9223372036854775807) : impl_FormatInt.f a = some ⟨(Lib.itoa a).toArray⟩ := by
  unfold impl_FormatInt.f strconv_Itoa_39.f
  rw [if_pos h]
  rfl
theorem tl_iff (a b : ByteArray) : a.toList = b.toList ↔ a.data.toList = b.data.toList := by
  constructor
  · intro h
    simpa [ByteArray.toList_eq] using h
  · intro h
    simpa [ByteArray.toList_eq] using h
theorem sz (l : List UInt8) : (⟨l.toArray⟩ : ByteArray).size = l.length := by
  rw [ba_size]
theorem glue (a b : List UInt8) : (⟨a.toArray⟩ : ByteArray) ++ ⟨b.toArray⟩ = ⟨(a ++ b).toArray⟩ := by
  apply ba_of
  rw [ba_app]
theorem lit (b : UInt8) : (⟨#[b]⟩ : ByteArray) = ⟨[b].toArray⟩ := rfl
theorem dig_len (n : Nat) (h : n < 100) : (Lib.decDigits n).length ≤ 2 := by
  by_cases c : n < 10
  · rw [Lib.decDigits_one c]; simp
  · rw [Lib.decDigits_two c h]; simp
theorem dig_out (n : Nat) (h : n < 100) (c : UInt8) (hc : c = 58 ∨ c = 46) : c ∉ Lib.decDigits n := by
  have key : ∀ d : Nat, d < 10 → (58 : UInt8) ≠ UInt8.ofNat (48 + d) ∧ (46 : UInt8) ≠ UInt8.ofNat (48 + d) := by decide
  by_cases q : n < 10
  · rw [Lib.decDigits_one q]
    have k1 := key n q
    rcases hc with rfl | rfl
    · simp only [List.mem_cons, List.not_mem_nil, or_false]; exact k1.1
    · simp only [List.mem_cons, List.not_mem_nil, or_false]; exact k1.2
  · rw [Lib.decDigits_two q h]
    have k1 := key (n / 10) (by omega)
    have k2 := key (n % 10) (by omega)
    rcases hc with rfl | rfl
    · simp only [List.mem_cons, List.not_mem_nil, or_false, not_or]; exact ⟨k1.1, k2.1⟩
    · simp only [List.mem_cons, List.not_mem_nil, or_false, not_or]; exact ⟨k1.2, k2.2⟩
theorem index_at (c : UInt8) (a b : List UInt8) (h : c ∉ a) : Lib.indexByte (a ++ c :: b) c = (a.length : Int) := by
  induction a with
  | nil => simp [Lib.indexByte]
  | cons x a ih =>
    have hx : ¬ x = c := fun e => h (by simp [e])
    have h2 := ih (fun g => h (by simp [g]))
    rw [List.cons_append, Lib.indexByte, if_neg (by simpa using hx), h2, if_neg (by rw [beq_iff_eq]; omega), List.length_cons]
    omega
theorem cut_at (c : UInt8) (a b : List UInt8) (h : c ∉ a) : Lib.cut (a ++ c :: b) [c] = (a, b, true) := by
  unfold Lib.cut
  rw [Lib.index_one, index_at c a b h, if_pos (by omega), Int.toNat_natCast, List.take_left]
  have : (a ++ c :: b).drop (a.length + [c].length) = b := by
    rw [List.drop_append, List.drop_eq_nil_of_le (by simp)]
    simp
  rw [this]
/-- An id's text. -/
def T (i : Nat) : List UInt8 := Lib.decDigits (i / 16) ++ 58 :: (Lib.decDigits (i / 4 % 4) ++ 46 :: Lib.decDigits (i % 4))
theorem T_len (i : Nat) (h : i < 256) : (T i).length ≤ 8 := by
  have h1 := dig_len (i / 16) (by omega)
  have h2 := dig_len (i / 4 % 4) (by omega)
  have h3 := dig_len (i % 4) (by omega)
  unfold T
  simp only [List.length_append, List.length_cons]
  omega
theorem put (a b c : List UInt8) (ha : a.length ≤ 2) (hb : b.length ≤ 2) (hc : c.length ≤ 2) (g : ByteArray → Option ByteArray) (hg : g = some) :
    (if (⟨a.toArray⟩ : ByteArray).size + 1 ≤ 9223372036854775807 then (if ((⟨a.toArray⟩ : ByteArray) ++ (⟨#[58]⟩ : ByteArray)).size + (⟨b.toArray⟩ : ByteArray).size ≤ 9223372036854775807 then (if (((⟨a.toArray⟩ : ByteArray) ++ (⟨#[58]⟩ : ByteArray)) ++ ⟨b.toArray⟩).size + 1 ≤ 9223372036854775807 then (if ((((⟨a.toArray⟩ : ByteArray) ++ (⟨#[58]⟩ : ByteArray)) ++ ⟨b.toArray⟩) ++ (⟨#[46]⟩ : ByteArray)).size + (⟨c.toArray⟩ : ByteArray).size ≤ 9223372036854775807 then g ((((⟨a.toArray⟩ : ByteArray) ++ (⟨#[58]⟩ : ByteArray)) ++ ⟨b.toArray⟩) ++ (⟨#[46]⟩ : ByteArray) ++ ⟨c.toArray⟩) else none) else none) else none) else none) = some ⟨(a ++ 58 :: (b ++ 46 :: c)).toArray⟩ := by
  subst hg
  rw [lit 58, lit 46]
  simp only [glue, sz, List.length_append, List.length_cons, List.length_nil]
  rw [if_pos (by omega), if_pos (by omega), if_pos (by omega), if_pos (by omega)]
  simp
theorem within (n a b : Int) : impl_within.f n a b = some (decide (a ≤ n ∧ n ≤ b)) := by
  unfold impl_within.f
  by_cases h : n ≥ a
  · rw [if_pos h]
    by_cases h2 : n ≤ b
    · simp [h, h2]
    · simp [h2]
  · rw [if_neg h, decide_eq_false (by omega)]
theorem parts (i : Nat) (h : i < 256) : impl_IsId.f (i : Int) = some true ∧ impl_BusOf.f (i : Int) = some ((i / 16 : Nat) : Int) ∧ impl_DeviceOf.f (i : Int) = some ((i / 4 % 4 : Nat) : Int) ∧ impl_FunctionOf.f (i : Int) = some ((i % 4 : Nat) : Int) := by
  have h1 : impl_IsId.f (i : Int) = some true := by
    unfold impl_IsId.f
    rw [within, decide_eq_true (by omega)]
    rfl
  have w : ∀ n : Nat, n < 256 → wrap64 (n : Int) = (n : Int) := fun n hn => by unfold wrap64; omega
  refine ⟨h1, ?_, ?_, ?_⟩
  · unfold impl_BusOf.f
    rw [h1, Option.bind_some, if_pos rfl, show Int.tdiv (i : Int) 16 = ((i / 16 : Nat) : Int) from rfl, w _ (by omega)]
  · unfold impl_DeviceOf.f
    rw [h1, Option.bind_some, if_pos rfl, show Int.tdiv (i : Int) 4 = ((i / 4 : Nat) : Int) from rfl, w _ (by omega)]
    rfl
  · unfold impl_FunctionOf.f
    rw [h1, Option.bind_some, if_pos rfl]
    rfl
theorem impl_small (n : Nat) (h : n < 100) : impl_FormatInt.f (n : Int) = some ⟨(Lib.decDigits n).toArray⟩ := by
  rw [impl_format _ ⟨by omega, by omega⟩, Lib.itoa_nonneg]
theorem impl_formatId (i : Nat) (h : i < 256) : impl_FormatId.f (i : Int) = some ⟨(T i).toArray⟩ := by
  obtain ⟨h1, h2, h3, h4⟩ := parts i h
  have hp := put (Lib.decDigits (i / 16)) (Lib.decDigits (i / 4 % 4)) (Lib.decDigits (i % 4)) (dig_len _ (by omega)) (dig_len _ (by omega)) (dig_len _ (by omega)) some rfl
  unfold impl_FormatId.f T
  rw [h1, Option.bind_some, if_pos rfl, h2, Option.bind_some, impl_small _ (by omega), Option.bind_some, h3, Option.bind_some, impl_small _ (by omega), Option.bind_some, h4, Option.bind_some, impl_small _ (by omega), Option.bind_some]
  exact hp
theorem g_digits (n : Nat) (h : n < 100) : impl_ParseUint.g (Lib.decDigits n) = ((n : Int), true) := by
  have ok : ∀ n : Nat, n < 10 → Lib.atoiAll [UInt8.ofNat (48 + n)] = .ok (n : Int) := by decide
  have ok2 : ∀ n : Nat, n < 100 → ¬ n < 10 → Lib.atoiAll [UInt8.ofNat (48 + n / 10), UInt8.ofNat (48 + n % 10)] = .ok (n : Int) := by decide +kernel
  have ha : Lib.atoiAll (Lib.decDigits n) = .ok (n : Int) := by
    by_cases c : n < 10
    · rw [Lib.decDigits_one c]; exact ok n c
    · rw [Lib.decDigits_two c h]; exact ok2 n h c
  unfold impl_ParseUint.g
  rw [ha]
  dsimp only
  rw [if_pos ⟨by omega, by omega, Lib.itoa_nonneg n⟩]
theorem makeId (i : Nat) (h : i < 256) : impl_MakeId.f ((i / 16 : Nat) : Int) ((i / 4 % 4 : Nat) : Int) ((i % 4 : Nat) : Int) = some (i : Int) := by
  unfold impl_MakeId.f
  rw [within, decide_eq_true (by omega), Option.bind_some, if_pos rfl, within, decide_eq_true (by omega), Option.bind_some, if_pos rfl, within, decide_eq_true (by omega), Option.bind_some, if_pos rfl]
  have h1 : wrap64 (((i / 16 : Nat) : Int) * 16) = ((i / 16 : Nat) : Int) * 16 := by unfold wrap64; omega
  have h2 : wrap64 (((i / 4 % 4 : Nat) : Int) * 4) = ((i / 4 % 4 : Nat) : Int) * 4 := by unfold wrap64; omega
  have h3 : wrap64 (((i / 16 : Nat) : Int) * 16 + ((i / 4 % 4 : Nat) : Int) * 4) = ((i / 16 : Nat) : Int) * 16 + ((i / 4 % 4 : Nat) : Int) * 4 := by unfold wrap64; omega
  rw [h1, h2, h3, show wrap64 (((i / 16 : Nat) : Int) * 16 + ((i / 4 % 4 : Nat) : Int) * 4 + ((i % 4 : Nat) : Int)) = (i : Int) by unfold wrap64; omega]
theorem made (b d f : Int) : ∃ m, impl_MakeId.f b d f = some m ∧ (m < 0 ∨ ∃ i : Nat, i < 256 ∧ m = (i : Int)) := by
  unfold impl_MakeId.f
  rw [within]
  by_cases h1 : 0 ≤ b ∧ b ≤ 15
  · rw [decide_eq_true h1, Option.bind_some, if_pos rfl, within]
    by_cases h2 : 0 ≤ d ∧ d ≤ 3
    · rw [decide_eq_true h2, Option.bind_some, if_pos rfl, within]
      by_cases h3 : 0 ≤ f ∧ f ≤ 3
      · rw [decide_eq_true h3, Option.bind_some, if_pos rfl]
        refine ⟨_, rfl, Or.inr ⟨(b * 16 + d * 4 + f).toNat, by omega, ?_⟩⟩
        have w1 : wrap64 (b * 16) = b * 16 := by unfold wrap64; omega
        have w2 : wrap64 (d * 4) = d * 4 := by unfold wrap64; omega
        have w3 : wrap64 (b * 16 + d * 4) = b * 16 + d * 4 := by unfold wrap64; omega
        rw [w1, w2, w3, show wrap64 (b * 16 + d * 4 + f) = b * 16 + d * 4 + f by unfold wrap64; omega]
        omega
      · rw [decide_eq_false h3, Option.bind_some, if_neg (by decide)]
        exact ⟨_, rfl, Or.inl (by decide)⟩
    · rw [decide_eq_false h2, Option.bind_some, if_neg (by decide)]
      exact ⟨_, rfl, Or.inl (by decide)⟩
  · rw [decide_eq_false h1, Option.bind_some, if_neg (by decide)]
    exact ⟨_, rfl, Or.inl (by decide)⟩
theorem cut_f (s : ByteArray) (c : UInt8) (hs : s.size ≤ 140737488351232) : strings_Cut.f s ⟨#[c]⟩ = some (⟨(Lib.cut s.data.toList [c]).1.toArray⟩, ⟨(Lib.cut s.data.toList [c]).2.1.toArray⟩, (Lib.cut s.data.toList [c]).2.2) := by
  unfold strings_Cut.f
  rw [if_pos ⟨rfl, hs⟩]
theorem uint_f (l : List UInt8) (hs : l.length ≤ 140737488351232) : impl_ParseUint.f ⟨l.toArray⟩ = some (impl_ParseUint.g l) := by
  unfold impl_ParseUint.f
  rw [sz, if_pos hs]
theorem parse_T (i : Nat) (h : i < 256) : impl_ParseId.f ⟨(T i).toArray⟩ = some ((i : Int), true) := by
  have hl := T_len i h
  have l1 := dig_len (i / 16) (by omega)
  have l2 := dig_len (i / 4 % 4) (by omega)
  have l3 := dig_len (i % 4) (by omega)
  have c1 : Lib.cut (T i) [58] = (Lib.decDigits (i / 16), Lib.decDigits (i / 4 % 4) ++ 46 :: Lib.decDigits (i % 4), true) := cut_at 58 _ _ (dig_out _ (by omega) 58 (Or.inl rfl))
  have c2 : Lib.cut (Lib.decDigits (i / 4 % 4) ++ 46 :: Lib.decDigits (i % 4)) [46] = (Lib.decDigits (i / 4 % 4), Lib.decDigits (i % 4), true) := cut_at 46 _ _ (dig_out _ (by omega) 46 (Or.inr rfl))
  unfold impl_ParseId.f
  rw [cut_f _ 58 (by rw [sz]; omega), Option.bind_some]
  simp only
  rw [c1]
  simp only
  rw [cut_f _ 46 (by rw [sz, List.length_append, List.length_cons]; omega), Option.bind_some]
  simp only
  rw [c2]
  simp only
  rw [uint_f _ (by omega), Option.bind_some, uint_f _ (by omega), Option.bind_some, uint_f _ (by omega), Option.bind_some, g_digits _ (by omega), g_digits _ (by omega), g_digits _ (by omega)]
  simp only
  rw [makeId i h, Option.bind_some, if_neg (by omega), impl_formatId i h, Option.bind_some, if_pos rfl]
theorem T_inj (i j : Nat) (hi : i < 256) (hj : j < 256) (h : T i = T j) : i = j := by
  have h1 := parse_T i hi
  rw [h, parse_T j hj] at h1
  simp at h1
  omega
theorem FnIds : laws_FnIds.Pure := by
  intro l _ _ hb
  refine ⟨l.length + 6000, ?_⟩
  unfold laws_FnIds.f laws_big.f
  simp only [Option.bind_some]
  by_cases h : (l.length : Int) > 1048576
  · rw [if_pos (by simpa using h)]
  · rw [if_neg (by simpa using h)]
    have hl : l.length ≤ 1048576 := by omega
    generalize hk : l.length + 6000 = k
    obtain ⟨h0, e0, c0⟩ := new_cur l hl hb k (by omega)
    obtain ⟨v, i', h', e1, c1, r0, r1, _⟩ := below_cur l 0 h0 256 c0
    have r2 := r1 (by decide)
    obtain ⟨i, rfl⟩ := Int.eq_ofNat_of_zero_le r0
    have hi : i < 256 := by omega
    obtain ⟨p1, p2, p3, p4⟩ := parts i hi
    unfold spec_DrawId.f
    rw [e0, Option.bind_some]
    simp only
    rw [e1, Option.bind_some]
    simp only
    rw [Option.bind_some, impl_formatId i hi, Option.bind_some, parse_T i hi, Option.bind_some, p1, Option.bind_some]
    simp only
    rw [if_pos trivial, if_pos trivial, if_pos trivial, p2, Option.bind_some, p3, Option.bind_some, p4, Option.bind_some, makeId i hi, Option.bind_some]
    simp

end Go.Proofs.YtbdbogpglkbafaaDoor.Pure
