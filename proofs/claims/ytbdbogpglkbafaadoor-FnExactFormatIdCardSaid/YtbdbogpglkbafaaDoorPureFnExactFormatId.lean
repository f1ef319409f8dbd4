/- The program writes an id as the reference does: at every number. No condition. -/
import Derived.Test.YtbdbogpglkbafaaDoorPFnExactFormatIdx1
import Derived.Lib.ItoaLen
import Derived.Lib.IndexBytes
namespace Go.Proofs.YtbdbogpglkbafaaDoor.Pure
open Go.RowKit Go.Proofs.YtbdbogpglkbafaaDoor.PFnExactFormatId Go.Proofs.YtbdbogpglkbafaaDoorW.PrintWords Go.Proofs.YtbdbogpglkbafaaDoorW.PrintLast Go.Proofs.YtbdbogpglkbafaaDoorW.PrintMore
set_option linter.unusedVariables false
set_option linter.unusedSimpArgs false

theorem ba_app (a b : ByteArray) : (a ++ b).data.toList = a.data.toList ++ b.data.toList := by
  simp
theorem ba_size (a : ByteArray) : a.size = a.data.toList.length := by
  rw [Array.length_toList]
  rfl
theorem ba_of (s : ByteArray) (l : List UInt8) (h : s.data.toList = l) : s = ⟨l.toArray⟩ := by
  subst h
  rfl
theorem impl_format (a : Int) (h : -9223372036854775808 ≤ a ∧ a ≤ 9223372036854775807) : impl_FormatInt.f a = some ⟨(Lib.itoa a).toArray⟩ := by
  unfold impl_FormatInt.f strconv_Itoa_39.f
  rw [if_pos h]
  rfl
/-- The digits of a number, none of 0. -/
def D (u : Nat) : List UInt8 := if u = 0 then [] else Lib.decDigits u
theorem D_step (u : Nat) (h : u ≠ 0) : D u = D (u / 10) ++ [UInt8.ofNat (48 + u % 10)] := by
  unfold D
  rw [if_neg h, Lib.decDigits]
  by_cases c : u < 10
  · rw [dif_pos c, if_pos (by omega), show u % 10 = u by omega]
    rfl
  · rw [dif_neg c, if_neg (by omega)]
theorem figure (d : Int) (h : 0 ≤ d ∧ d < 10) : spec_l01Figure.f d = some (48 + d) := by
  unfold spec_l01Figure.f
  rw [if_pos h.2, show wrap64 (48 + d) = 48 + d from by unfold wrap64; omega, show (48 + d) % 256 = 48 + d by omega]
theorem one_byte (t : Int) : (strOfNums [t]).data.toList = [UInt8.ofNat t.toNat] := by
  simp [strOfNums]
theorem td (x : Int) : (x < 0 ∧ Int.tdiv x 10 = -((-x) / 10) ∧ Int.tmod x 10 = -((-x) % 10)) ∨ (0 ≤ x ∧ Int.tdiv x 10 = x / 10 ∧ Int.tmod x 10 = x % 10) := by
  by_cases h : x < 0
  · refine Or.inl ⟨h, ?_, ?_⟩
    · have := Int.neg_tdiv (-x) 10
      rw [Int.neg_neg] at this
      rw [this, Int.tdiv_eq_ediv_of_nonneg (by omega)]
    · have := Int.neg_tmod (-x) 10
      rw [Int.neg_neg] at this
      rw [this, Int.tmod_eq_emod_of_nonneg (by omega)]
  · exact Or.inr ⟨by omega, Int.tdiv_eq_ediv_of_nonneg (by omega), Int.tmod_eq_emod_of_nonneg (by omega)⟩
theorem fmt_loop (neg : Bool) : ∀ (u k : Nat) (x : Int) (acc : ByteArray), x.natAbs = u → (-9223372036854775808 ≤ x ∧ x ≤ 9223372036854775807) → u < k → acc.size + (D u).length + 1 ≤ 1000000 →
    ∃ s, spec_FormatInt.l0 k x neg acc = some s ∧ s.data.toList = (if neg = true then [45] else []) ++ (D u ++ acc.data.toList) := by
  intro u
  induction u using Nat.strongRecOn with
  | _ u ih =>
    intro k x acc hx hb hk hs
    obtain ⟨k, rfl⟩ : ∃ m, k = m + 1 := ⟨k - 1, by omega⟩
    rw [spec_FormatInt.l0]
    by_cases h0 : x = 0
    · have hu : u = 0 := by omega
      rw [if_pos h0]
      subst hu
      cases neg with
      | true =>
        rw [if_pos rfl, if_pos (by omega)]
        exact ⟨_, rfl, by rw [ba_app]; simp [D]⟩
      | false =>
        rw [if_neg (by decide)]
        exact ⟨_, rfl, by simp [D]⟩
    · have hu : u ≠ 0 := by omega
      have hd := td x
      generalize Int.tdiv x 10 = q at hd ⊢
      generalize Int.tmod x 10 = m at hd ⊢
      have hw : wrap64 q = q := by unfold wrap64; omega
      have hlen : (D u).length = (D (u / 10)).length + 1 := by rw [D_step u hu, List.length_append]; rfl
      have step : ∀ d : Int, d = ((u % 10 : Nat) : Int) → ∃ s, ((spec_l01Figure.f d).bind fun t => ((some (([t] : List Int) : List Int)).bind fun y => (if (strOfNums y).size + acc.size ≤ 9223372036854775807 then (spec_FormatInt.l0 k (wrap64 q) neg ((strOfNums y) ++ acc)) else (none)))) = some s ∧ s.data.toList = (if neg = true then [45] else []) ++ (D u ++ acc.data.toList) := by
        intro d hdd
        have h1 : (strOfNums [48 + d]).size = 1 := by rw [ba_size, one_byte]; rfl
        have h2 : (strOfNums [48 + d] ++ acc).size = 1 + acc.size := by rw [ByteArray.size_append, h1]
        rw [figure d (by omega), Option.bind_some, Option.bind_some, h1, if_pos (by omega), hw]
        obtain ⟨s, e1, e2⟩ := ih (u / 10) (by omega) k q (strOfNums [48 + d] ++ acc) (by omega) (by omega) (by omega) (by omega)
        refine ⟨s, e1, ?_⟩
        rw [e2, ba_app, one_byte, D_step u hu, hdd, show (48 + ((u % 10 : Nat) : Int)).toNat = 48 + u % 10 by omega, List.append_assoc]
      rw [if_neg h0]
      by_cases h1 : m < 0
      · rw [if_pos h1]
        have hw2 : wrap64 (-m) = -m := by unfold wrap64; omega
        rw [hw2]
        exact step _ (by omega)
      · rw [if_neg h1]
        exact step _ (by omega)
/-- The reference writes a number as the library does. -/
theorem spec_format (a : Int) (h : -9223372036854775808 ≤ a ∧ a ≤ 9223372036854775807) (k : Nat) (hk : a.natAbs < k) : spec_FormatInt.f k a = some ⟨(Lib.itoa a).toArray⟩ := by
  have hl := Lib.itoa_length_le a h.1 h.2
  unfold spec_FormatInt.f
  by_cases h0 : a = 0
  · subst h0
    rw [if_pos rfl]
    have : Lib.itoa 0 = [48] := by
      have h := Lib.itoa_nonneg 0
      rw [Lib.decDigits_one (by decide)] at h
      exact h
    rw [this]
  · rw [if_neg h0]
    unfold Lib.itoa at hl ⊢
    by_cases hn : a < 0
    · rw [if_pos hn] at hl ⊢
      rw [decide_eq_true hn]
      have hD : D a.natAbs = Lib.decDigits a.natAbs := by unfold D; rw [if_neg (by omega)]
      rw [List.length_cons, ← hD] at hl
      obtain ⟨s, e1, e2⟩ := fmt_loop true a.natAbs k a ⟨#[]⟩ rfl h hk (by show 0 + _ + 1 ≤ _; omega)
      rw [e1, ba_of s _ e2, hD]
      simp
    · rw [if_neg hn] at hl ⊢
      rw [decide_eq_false hn]
      have hD : D a.natAbs = Lib.decDigits a.toNat := by unfold D; rw [if_neg (by omega), show a.natAbs = a.toNat by omega]
      rw [← hD] at hl
      obtain ⟨s, e1, e2⟩ := fmt_loop false a.natAbs k a ⟨#[]⟩ rfl h hk (by show 0 + _ + 1 ≤ _; omega)
      rw [e1, ba_of s _ e2, hD]
      simp
theorem tl_iff (a b : ByteArray) : a.toList = b.toList ↔ a.data.toList = b.data.toList := by
  constructor
  · intro h
    simpa [ByteArray.toList_eq] using h
  · intro h
    simpa [ByteArray.toList_eq] using h
theorem sz (l : List UInt8) : (⟨l.toArray⟩ : ByteArray).size = l.length := by
  rw [ba_size]
theorem glue (a b : List UInt8) : (⟨a.toArray⟩ : ByteArray) ++ ⟨b.toArray⟩ = ⟨(a ++ b).toArray⟩ := by
  apply ba_of
  rw [ba_app]
theorem lit (b : UInt8) : (⟨#[b]⟩ : ByteArray) = ⟨[b].toArray⟩ := rfl
theorem dig_len (n : Nat) (h : n < 100) : (Lib.decDigits n).length ≤ 2 := by
  by_cases c : n < 10
  · rw [Lib.decDigits_one c]; simp
  · rw [Lib.decDigits_two c h]; simp
theorem dig_out (n : Nat) (h : n < 100) (c : UInt8) (hc : c = 58 ∨ c = 46) : c ∉ Lib.decDigits n := by
  have key : ∀ d : Nat, d < 10 → (58 : UInt8) ≠ UInt8.ofNat (48 + d) ∧ (46 : UInt8) ≠ UInt8.ofNat (48 + d) := by decide
  by_cases q : n < 10
  · rw [Lib.decDigits_one q]
    have k1 := key n q
    rcases hc with rfl | rfl
    · simp only [List.mem_cons, List.not_mem_nil, or_false]; exact k1.1
    · simp only [List.mem_cons, List.not_mem_nil, or_false]; exact k1.2
  · rw [Lib.decDigits_two q h]
    have k1 := key (n / 10) (by omega)
    have k2 := key (n % 10) (by omega)
    rcases hc with rfl | rfl
    · simp only [List.mem_cons, List.not_mem_nil, or_false, not_or]; exact ⟨k1.1, k2.1⟩
    · simp only [List.mem_cons, List.not_mem_nil, or_false, not_or]; exact ⟨k1.2, k2.2⟩
theorem index_at (c : UInt8) (a b : List UInt8) (h : c ∉ a) : Lib.indexByte (a ++ c :: b) c = (a.length : Int) := by
  induction a with
  | nil => simp [Lib.indexByte]
  | cons x a ih =>
    have hx : ¬ x = c := fun e => h (by simp [e])
    have h2 := ih (fun g => h (by simp [g]))
    rw [List.cons_append, Lib.indexByte, if_neg (by simpa using hx), h2, if_neg (by rw [beq_iff_eq]; omega), List.length_cons]
    omega
theorem cut_at (c : UInt8) (a b : List UInt8) (h : c ∉ a) : Lib.cut (a ++ c :: b) [c] = (a, b, true) := by
  unfold Lib.cut
  rw [Lib.index_one, index_at c a b h, if_pos (by omega), Int.toNat_natCast, List.take_left]
  have : (a ++ c :: b).drop (a.length + [c].length) = b := by
    rw [List.drop_append, List.drop_eq_nil_of_le (by simp)]
    simp
  rw [this]
/-- An id's text. -/
def T (i : Nat) : List UInt8 := Lib.decDigits (i / 16) ++ 58 :: (Lib.decDigits (i / 4 % 4) ++ 46 :: Lib.decDigits (i % 4))
theorem T_len (i : Nat) (h : i < 256) : (T i).length ≤ 8 := by
  have h1 := dig_len (i / 16) (by omega)
  have h2 := dig_len (i / 4 % 4) (by omega)
  have h3 := dig_len (i % 4) (by omega)
  unfold T
  simp only [List.length_append, List.length_cons]
  omega
theorem put (a b c : List UInt8) (ha : a.length ≤ 2) (hb : b.length ≤ 2) (hc : c.length ≤ 2) (g : ByteArray → Option ByteArray) (hg : g = some) :
    (if (⟨a.toArray⟩ : ByteArray).size + 1 ≤ 9223372036854775807 then (if ((⟨a.toArray⟩ : ByteArray) ++ (⟨#[58]⟩ : ByteArray)).size + (⟨b.toArray⟩ : ByteArray).size ≤ 9223372036854775807 then (if (((⟨a.toArray⟩ : ByteArray) ++ (⟨#[58]⟩ : ByteArray)) ++ ⟨b.toArray⟩).size + 1 ≤ 9223372036854775807 then (if ((((⟨a.toArray⟩ : ByteArray) ++ (⟨#[58]⟩ : ByteArray)) ++ ⟨b.toArray⟩) ++ (⟨#[46]⟩ : ByteArray)).size + (⟨c.toArray⟩ : ByteArray).size ≤ 9223372036854775807 then g ((((⟨a.toArray⟩ : ByteArray) ++ (⟨#[58]⟩ : ByteArray)) ++ ⟨b.toArray⟩) ++ (⟨#[46]⟩ : ByteArray) ++ ⟨c.toArray⟩) else none) else none) else none) else none) = some ⟨(a ++ 58 :: (b ++ 46 :: c)).toArray⟩ := by
  subst hg
  rw [lit 58, lit 46]
  simp only [glue, sz, List.length_append, List.length_cons, List.length_nil]
  rw [if_pos (by omega), if_pos (by omega), if_pos (by omega), if_pos (by omega)]
  simp
theorem within (n a b : Int) : impl_within.f n a b = some (decide (a ≤ n ∧ n ≤ b)) := by
  unfold impl_within.f
  by_cases h : n ≥ a
  · rw [if_pos h]
    by_cases h2 : n ≤ b
    · simp [h, h2]
    · simp [h2]
  · rw [if_neg h, decide_eq_false (by omega)]
theorem parts (i : Nat) (h : i < 256) : impl_IsId.f (i : Int) = some true ∧ impl_BusOf.f (i : Int) = some ((i / 16 : Nat) : Int) ∧ impl_DeviceOf.f (i : Int) = some ((i / 4 % 4 : Nat) : Int) ∧ impl_FunctionOf.f (i : Int) = some ((i % 4 : Nat) : Int) := by
  have h1 : impl_IsId.f (i : Int) = some true := by
    unfold impl_IsId.f
    rw [within, decide_eq_true (by omega)]
    rfl
  have w : ∀ n : Nat, n < 256 → wrap64 (n : Int) = (n : Int) := fun n hn => by unfold wrap64; omega
  refine ⟨h1, ?_, ?_, ?_⟩
  · unfold impl_BusOf.f
    rw [h1, Option.bind_some, if_pos rfl, show Int.tdiv (i : Int) 16 = ((i / 16 : Nat) : Int) from rfl, w _ (by omega)]
  · unfold impl_DeviceOf.f
    rw [h1, Option.bind_some, if_pos rfl, show Int.tdiv (i : Int) 4 = ((i / 4 : Nat) : Int) from rfl, w _ (by omega)]
    rfl
  · unfold impl_FunctionOf.f
    rw [h1, Option.bind_some, if_pos rfl]
    rfl
theorem impl_small (n : Nat) (h : n < 100) : impl_FormatInt.f (n : Int) = some ⟨(Lib.decDigits n).toArray⟩ := by
  rw [impl_format _ ⟨by omega, by omega⟩, Lib.itoa_nonneg]
theorem impl_formatId (i : Nat) (h : i < 256) : impl_FormatId.f (i : Int) = some ⟨(T i).toArray⟩ := by
  obtain ⟨h1, h2, h3, h4⟩ := parts i h
  have hp := put (Lib.decDigits (i / 16)) (Lib.decDigits (i / 4 % 4)) (Lib.decDigits (i % 4)) (dig_len _ (by omega)) (dig_len _ (by omega)) (dig_len _ (by omega)) some rfl
  unfold impl_FormatId.f T
  rw [h1, Option.bind_some, if_pos rfl, h2, Option.bind_some, impl_small _ (by omega), Option.bind_some, h3, Option.bind_some, impl_small _ (by omega), Option.bind_some, h4, Option.bind_some, impl_small _ (by omega), Option.bind_some]
  exact hp
theorem inRange (n a b : Int) : spec_l01In.f n a b = some (decide (a ≤ n ∧ n ≤ b)) := by
  unfold spec_l01In.f
  by_cases h : n ≥ a
  · rw [if_pos h]
    by_cases h2 : n ≤ b
    · simp [h, h2]
    · simp [h2]
  · rw [if_neg h, decide_eq_false (by omega)]
theorem spec_formatId (i : Nat) (h : i < 256) (k : Nat) (hk : 300 < k) : spec_FormatId.f k (i : Int) = some ⟨(T i).toArray⟩ := by
  have hp := put (Lib.decDigits (i / 16)) (Lib.decDigits (i / 4 % 4)) (Lib.decDigits (i % 4)) (dig_len _ (by omega)) (dig_len _ (by omega)) (dig_len _ (by omega)) some rfl
  have w : ∀ n : Nat, n < 256 → wrap64 (n : Int) = (n : Int) := fun n hn => by unfold wrap64; omega
  have h1 : spec_IsId.f (i : Int) = some true := by
    unfold spec_IsId.f
    rw [inRange, decide_eq_true (by omega)]
    rfl
  have f : ∀ n : Nat, n < 100 → spec_FormatInt.f k (n : Int) = some ⟨(Lib.decDigits n).toArray⟩ := fun n hn => by
    rw [spec_format _ ⟨by omega, by omega⟩ k (by omega), Lib.itoa_nonneg]
  unfold spec_FormatId.f T
  rw [h1, Option.bind_some, if_pos rfl, show Int.tdiv (i : Int) 16 = ((i / 16 : Nat) : Int) from rfl, w _ (by omega), f _ (by omega), Option.bind_some, show Int.tdiv (i : Int) 4 = ((i / 4 : Nat) : Int) from rfl, w _ (by omega), show Int.tmod ((i / 4 : Nat) : Int) 4 = ((i / 4 % 4 : Nat) : Int) from rfl, f _ (by omega), Option.bind_some, show Int.tmod (i : Int) 4 = ((i % 4 : Nat) : Int) from rfl, f _ (by omega), Option.bind_some]
  exact hp
theorem FnExactFormatId : laws_FnExactFormatId.Pure := by
  intro a ha
  refine ⟨1000, ?_⟩
  unfold laws_FnExactFormatId.f
  by_cases h : 0 ≤ a ∧ a ≤ 255
  · obtain ⟨i, rfl⟩ := Int.eq_ofNat_of_zero_le h.1
    rw [spec_formatId i (by omega) 1000 (by decide), Option.bind_some, impl_formatId i (by omega), Option.bind_some, if_pos rfl]
  · unfold spec_FormatId.f impl_FormatId.f spec_IsId.f impl_IsId.f
    rw [inRange, within, decide_eq_false (by omega)]
    simp

end Go.Proofs.YtbdbogpglkbafaaDoor.Pure
