/- The program reads an id as the reference does: at every text of at most 2^20 bytes (longer ones the law passes by). No condition. -/
import Derived.Test.YtbdbogpglkbafaaDoorPFnExactParseIdx2
import Derived.Lib.ItoaLen
import Derived.Lib.IndexBytes
namespace Go.Proofs.YtbdbogpglkbafaaDoor.Pure
open Go.RowKit Go.Proofs.YtbdbogpglkbafaaDoor.PFnExactParseId Go.Proofs.YtbdbogpglkbafaaDoorW.PrintWords Go.Proofs.YtbdbogpglkbafaaDoorW.PrintLast Go.Proofs.YtbdbogpglkbafaaDoorW.PrintMore
set_option linter.unusedVariables false
set_option linter.unusedSimpArgs false

theorem ba_app (a b : ByteArray) : (a ++ b).data.toList = a.data.toList ++ b.data.toList := by
  simp
theorem ba_size (a : ByteArray) : a.size = a.data.toList.length := by
  rw [Array.length_toList]
  rfl
theorem ba_of (s : ByteArray) (l : List UInt8) (h : s.data.toList = l) : s = ⟨l.toArray⟩ := by
  subst h
  rfl
theorem impl_format (a : Int) (h : -9223372036854775808 ≤ a ∧ a ≤ 9223372036854775807) : impl_FormatInt.f a = some ⟨(Lib.itoa a).toArray⟩ := by
  unfold impl_FormatInt.f strconv_Itoa_39.f
  rw [if_pos h]
  rfl
/-- The digits of a number, none of 0. -/
def D (u : Nat) : List UInt8 := if u = 0 then [] else Lib.decDigits u
theorem D_step (u : Nat) (h : u ≠ 0) : D u = D (u / 10) ++ [UInt8.ofNat (48 + u % 10)] := by
  unfold D
  rw [if_neg h, Lib.decDigits]
  by_cases c : u < 10
  · rw [dif_pos c, if_pos (by omega), show u % 10 = u by omega]
    rfl
  · rw [dif_neg c, if_neg (by omega)]
theorem figure (d : Int) (h : 0 ≤ d ∧ d < 10) : spec_l01Figure.f d = some (48 + d) := by
  unfold spec_l01Figure.f
  rw [if_pos h.2, show wrap64 (48 + d) = 48 + d from by unfold wrap64; omega, show (48 + d) % 256 = 48 + d by omega]
theorem one_byte (t : Int) : (strOfNums [t]).data.toList = [UInt8.ofNat t.toNat] := by
  simp [strOfNums]
theorem td (x : Int) : (x < 0 ∧ Int.tdiv x 10 = -((-x) / 10) ∧ Int.tmod x 10 = -((-x) % 10)) ∨ (0 ≤ x ∧ Int.tdiv x 10 = x / 10 ∧ Int.tmod x 10 = x % 10) := by
  by_cases h : x < 0
  · refine Or.inl ⟨h, ?_, ?_⟩
    · have := Int.neg_tdiv (-x) 10
      rw [Int.neg_neg] at this
      rw [this, Int.tdiv_eq_ediv_of_nonneg (by omega)]
    · have := Int.neg_tmod (-x) 10
      rw [Int.neg_neg] at this
      rw [this, Int.tmod_eq_emod_of_nonneg (by omega)]
  · exact Or.inr ⟨by omega, Int.tdiv_eq_ediv_of_nonneg (by omega), Int.tmod_eq_emod_of_nonneg (by omega)⟩
theorem fmt_loop (neg : Bool) : ∀ (u k : Nat) (x : Int) (acc : ByteArray), x.natAbs = u → (-9223372036854775808 ≤ x ∧ x ≤ 9223372036854775807) → u < k → acc.size + (D u).length + 1 ≤ 1000000 →
    ∃ s, spec_FormatInt.l0 k x neg acc = some s ∧ s.data.toList = (if neg = true then [45] else []) ++ (D u ++ acc.data.toList) := by
  intro u
  induction u using Nat.strongRecOn with
  | _ u ih =>
    intro k x acc hx hb hk hs
    obtain ⟨k, rfl⟩ : ∃ m, k = m + 1 := ⟨k - 1, by omega⟩
    rw [spec_FormatInt.l0]
    by_cases h0 : x = 0
    · have hu : u = 0 := by omega
      rw [if_pos h0]
      subst hu
      cases neg with
      | true =>
        rw [if_pos rfl, if_pos (by omega)]
        exact ⟨_, rfl, by rw [ba_app]; simp [D]⟩
      | false =>
        rw [if_neg (by decide)]
        exact ⟨_, rfl, by simp [D]⟩
    · have hu : u ≠ 0 := by omega
      have hd := td x
      generalize Int.tdiv x 10 = q at hd ⊢
      generalize Int.tmod x 10 = m at hd ⊢
      have hw : wrap64 q = q := by unfold wrap64; omega
      have hlen : (D u).length = (D (u / 10)).length + 1 := by rw [D_step u hu, List.length_append]; rfl
      have step : ∀ d : Int, d = ((u % 10 : Nat) : Int) → ∃ s, ((spec_l01Figure.f d).bind fun t => ((some (([t] : List Int) : List Int)).bind fun y => (if (strOfNums y).size + acc.size ≤ 9223372036854775807 then (spec_FormatInt.l0 k (wrap64 q) neg ((strOfNums y) ++ acc)) else (none)))) = some s ∧ s.data.toList = (if neg = true then [45] else []) ++ (D u ++ acc.data.toList) := by
        intro d hdd
        have h1 : (strOfNums [48 + d]).size = 1 := by rw [ba_size, one_byte]; rfl
        have h2 : (strOfNums [48 + d] ++ acc).size = 1 + acc.size := by rw [ByteArray.size_append, h1]
        rw [figure d (by omega), Option.bind_some, Option.bind_some, h1, if_pos (by omega), hw]
        obtain ⟨s, e1, e2⟩ := ih (u / 10) (by omega) k q (strOfNums [48 + d] ++ acc) (by omega) (by omega) (by omega) (by omega)
        refine ⟨s, e1, ?_⟩
        rw [e2, ba_app, one_byte, D_step u hu, hdd, show (48 + ((u % 10 : Nat) : Int)).toNat = 48 + u % 10 by omega, List.append_assoc]
      rw [if_neg h0]
      by_cases h1 : m < 0
      · rw [if_pos h1]
        have hw2 : wrap64 (-m) = -m := by unfold wrap64; omega
        rw [hw2]
        exact step _ (by omega)
      · rw [if_neg h1]
        exact step _ (by omega)
/-- The reference writes a number as the library does. -/
theorem spec_format (a : Int) (h : -9223372036854775808 ≤ a ∧ a ≤ 9223372036854775807) (k : Nat) (hk : a.natAbs < k) : spec_FormatInt.f k a = some ⟨(Lib.itoa a).toArray⟩ := by
  have hl := Lib.itoa_length_le a h.1 h.2
  unfold spec_FormatInt.f
  by_cases h0 : a = 0
  · subst h0
    rw [if_pos rfl]
    have : Lib.itoa 0 = [48] := by
      have h := Lib.itoa_nonneg 0
      rw [Lib.decDigits_one (by decide)] at h
      exact h
    rw [this]
  · rw [if_neg h0]
    unfold Lib.itoa at hl ⊢
    by_cases hn : a < 0
    · rw [if_pos hn] at hl ⊢
      rw [decide_eq_true hn]
      have hD : D a.natAbs = Lib.decDigits a.natAbs := by unfold D; rw [if_neg (by omega)]
      rw [List.length_cons, ← hD] at hl
      obtain ⟨s, e1, e2⟩ := fmt_loop true a.natAbs k a ⟨#[]⟩ rfl h hk (by show 0 + _ + 1 ≤ _; omega)
      rw [e1, ba_of s _ e2, hD]
      simp
    · rw [if_neg hn] at hl ⊢
      rw [decide_eq_false hn]
      have hD : D a.natAbs = Lib.decDigits a.toNat := by unfold D; rw [if_neg (by omega), show a.natAbs = a.toNat by omega]
      rw [← hD] at hl
      obtain ⟨s, e1, e2⟩ := fmt_loop false a.natAbs k a ⟨#[]⟩ rfl h hk (by show 0 + _ + 1 ≤ _; omega)
      rw [e1, ba_of s _ e2, hD]
      simp
theorem tl_iff (a b : ByteArray) : a.toList = b.toList ↔ a.data.toList = b.data.toList := by
  constructor
  · intro h
    simpa [ByteArray.toList_eq] using h
  · intro h
    simpa [ByteArray.toList_eq] using h
theorem sz (l : List UInt8) : (⟨l.toArray⟩ : ByteArray).size = l.length := by
  rw [ba_size]
theorem glue (a b : List UInt8) : (⟨a.toArray⟩ : ByteArray) ++ ⟨b.toArray⟩ = ⟨(a ++ b).toArray⟩ := by
  apply ba_of
  rw [ba_app]
theorem lit (b : UInt8) : (⟨#[b]⟩ : ByteArray) = ⟨[b].toArray⟩ := rfl
theorem dig_len (n : Nat) (h : n < 100) : (Lib.decDigits n).length ≤ 2 := by
  by_cases c : n < 10
  · rw [Lib.decDigits_one c]; simp
  · rw [Lib.decDigits_two c h]; simp
theorem dig_out (n : Nat) (h : n < 100) (c : UInt8) (hc : c = 58 ∨ c = 46) : c ∉ Lib.decDigits n := by
  have key : ∀ d : Nat, d < 10 → (58 : UInt8) ≠ UInt8.ofNat (48 + d) ∧ (46 : UInt8) ≠ UInt8.ofNat (48 + d) := by decide
  by_cases q : n < 10
  · rw [Lib.decDigits_one q]
    have k1 := key n q
    rcases hc with rfl | rfl
    · simp only [List.mem_cons, List.not_mem_nil, or_false]; exact k1.1
    · simp only [List.mem_cons, List.not_mem_nil, or_false]; exact k1.2
  · rw [Lib.decDigits_two q h]
    have k1 := key (n / 10) (by omega)
    have k2 := key (n % 10) (by omega)
    rcases hc with rfl | rfl
    · simp only [List.mem_cons, List.not_mem_nil, or_false, not_or]; exact ⟨k1.1, k2.1⟩
    · simp only [List.mem_cons, List.not_mem_nil, or_false, not_or]; exact ⟨k1.2, k2.2⟩
theorem index_at (c : UInt8) (a b : List UInt8) (h : c ∉ a) : Lib.indexByte (a ++ c :: b) c = (a.length : Int) := by
  induction a with
  | nil => simp [Lib.indexByte]
  | cons x a ih =>
    have hx : ¬ x = c := fun e => h (by simp [e])
    have h2 := ih (fun g => h (by simp [g]))
    rw [List.cons_append, Lib.indexByte, if_neg (by simpa using hx), h2, if_neg (by rw [beq_iff_eq]; omega), List.length_cons]
    omega
theorem cut_at (c : UInt8) (a b : List UInt8) (h : c ∉ a) : Lib.cut (a ++ c :: b) [c] = (a, b, true) := by
  unfold Lib.cut
  rw [Lib.index_one, index_at c a b h, if_pos (by omega), Int.toNat_natCast, List.take_left]
  have : (a ++ c :: b).drop (a.length + [c].length) = b := by
    rw [List.drop_append, List.drop_eq_nil_of_le (by simp)]
    simp
  rw [this]
/-- An id's text. -/
def T (i : Nat) : List UInt8 := Lib.decDigits (i / 16) ++ 58 :: (Lib.decDigits (i / 4 % 4) ++ 46 :: Lib.decDigits (i % 4))
theorem T_len (i : Nat) (h : i < 256) : (T i).length ≤ 8 := by
  have h1 := dig_len (i / 16) (by omega)
  have h2 := dig_len (i / 4 % 4) (by omega)
  have h3 := dig_len (i % 4) (by omega)
  unfold T
  simp only [List.length_append, List.length_cons]
  omega
theorem put (a b c : List UInt8) (ha : a.length ≤ 2) (hb : b.length ≤ 2) (hc : c.length ≤ 2) (g : ByteArray → Option ByteArray) (hg : g = some) :
    (if (⟨a.toArray⟩ : ByteArray).size + 1 ≤ 9223372036854775807 then (if ((⟨a.toArray⟩ : ByteArray) ++ (⟨#[58]⟩ : ByteArray)).size + (⟨b.toArray⟩ : ByteArray).size ≤ 9223372036854775807 then (if (((⟨a.toArray⟩ : ByteArray) ++ (⟨#[58]⟩ : ByteArray)) ++ ⟨b.toArray⟩).size + 1 ≤ 9223372036854775807 then (if ((((⟨a.toArray⟩ : ByteArray) ++ (⟨#[58]⟩ : ByteArray)) ++ ⟨b.toArray⟩) ++ (⟨#[46]⟩ : ByteArray)).size + (⟨c.toArray⟩ : ByteArray).size ≤ 9223372036854775807 then g ((((⟨a.toArray⟩ : ByteArray) ++ (⟨#[58]⟩ : ByteArray)) ++ ⟨b.toArray⟩) ++ (⟨#[46]⟩ : ByteArray) ++ ⟨c.toArray⟩) else none) else none) else none) else none) = some ⟨(a ++ 58 :: (b ++ 46 :: c)).toArray⟩ := by
  subst hg
  rw [lit 58, lit 46]
  simp only [glue, sz, List.length_append, List.length_cons, List.length_nil]
  rw [if_pos (by omega), if_pos (by omega), if_pos (by omega), if_pos (by omega)]
  simp
theorem within (n a b : Int) : impl_within.f n a b = some (decide (a ≤ n ∧ n ≤ b)) := by
  unfold impl_within.f
  by_cases h : n ≥ a
  · rw [if_pos h]
    by_cases h2 : n ≤ b
    · simp [h, h2]
    · simp [h2]
  · rw [if_neg h, decide_eq_false (by omega)]
theorem parts (i : Nat) (h : i < 256) : impl_IsId.f (i : Int) = some true ∧ impl_BusOf.f (i : Int) = some ((i / 16 : Nat) : Int) ∧ impl_DeviceOf.f (i : Int) = some ((i / 4 % 4 : Nat) : Int) ∧ impl_FunctionOf.f (i : Int) = some ((i % 4 : Nat) : Int) := by
  have h1 : impl_IsId.f (i : Int) = some true := by
    unfold impl_IsId.f
    rw [within, decide_eq_true (by omega)]
    rfl
  have w : ∀ n : Nat, n < 256 → wrap64 (n : Int) = (n : Int) := fun n hn => by unfold wrap64; omega
  refine ⟨h1, ?_, ?_, ?_⟩
  · unfold impl_BusOf.f
    rw [h1, Option.bind_some, if_pos rfl, show Int.tdiv (i : Int) 16 = ((i / 16 : Nat) : Int) from rfl, w _ (by omega)]
  · unfold impl_DeviceOf.f
    rw [h1, Option.bind_some, if_pos rfl, show Int.tdiv (i : Int) 4 = ((i / 4 : Nat) : Int) from rfl, w _ (by omega)]
    rfl
  · unfold impl_FunctionOf.f
    rw [h1, Option.bind_some, if_pos rfl]
    rfl
theorem impl_small (n : Nat) (h : n < 100) : impl_FormatInt.f (n : Int) = some ⟨(Lib.decDigits n).toArray⟩ := by
  rw [impl_format _ ⟨by omega, by omega⟩, Lib.itoa_nonneg]
theorem impl_formatId (i : Nat) (h : i < 256) : impl_FormatId.f (i : Int) = some ⟨(T i).toArray⟩ := by
  obtain ⟨h1, h2, h3, h4⟩ := parts i h
  have hp := put (Lib.decDigits (i / 16)) (Lib.decDigits (i / 4 % 4)) (Lib.decDigits (i % 4)) (dig_len _ (by omega)) (dig_len _ (by omega)) (dig_len _ (by omega)) some rfl
  unfold impl_FormatId.f T
  rw [h1, Option.bind_some, if_pos rfl, h2, Option.bind_some, impl_small _ (by omega), Option.bind_some, h3, Option.bind_some, impl_small _ (by omega), Option.bind_some, h4, Option.bind_some, impl_small _ (by omega), Option.bind_some]
  exact hp
theorem inRange (n a b : Int) : spec_l01In.f n a b = some (decide (a ≤ n ∧ n ≤ b)) := by
  unfold spec_l01In.f
  by_cases h : n ≥ a
  · rw [if_pos h]
    by_cases h2 : n ≤ b
    · simp [h, h2]
    · simp [h2]
  · rw [if_neg h, decide_eq_false (by omega)]
theorem spec_formatId (i : Nat) (h : i < 256) (k : Nat) (hk : 300 < k) : spec_FormatId.f k (i : Int) = some ⟨(T i).toArray⟩ := by
  have hp := put (Lib.decDigits (i / 16)) (Lib.decDigits (i / 4 % 4)) (Lib.decDigits (i % 4)) (dig_len _ (by omega)) (dig_len _ (by omega)) (dig_len _ (by omega)) some rfl
  have w : ∀ n : Nat, n < 256 → wrap64 (n : Int) = (n : Int) := fun n hn => by unfold wrap64; omega
  have h1 : spec_IsId.f (i : Int) = some true := by
    unfold spec_IsId.f
    rw [inRange, decide_eq_true (by omega)]
    rfl
  have f : ∀ n : Nat, n < 100 → spec_FormatInt.f k (n : Int) = some ⟨(Lib.decDigits n).toArray⟩ := fun n hn => by
    rw [spec_format _ ⟨by omega, by omega⟩ k (by omega), Lib.itoa_nonneg]
  unfold spec_FormatId.f T
  rw [h1, Option.bind_some, if_pos rfl, show Int.tdiv (i : Int) 16 = ((i / 16 : Nat) : Int) from rfl, w _ (by omega), f _ (by omega), Option.bind_some, show Int.tdiv (i : Int) 4 = ((i / 4 : Nat) : Int) from rfl, w _ (by omega), show Int.tmod ((i / 4 : Nat) : Int) 4 = ((i / 4 % 4 : Nat) : Int) from rfl, f _ (by omega), Option.bind_some, show Int.tmod (i : Int) 4 = ((i % 4 : Nat) : Int) from rfl, f _ (by omega), Option.bind_some]
  exact hp
theorem g_digits (n : Nat) (h : n < 100) : impl_ParseUint.g (Lib.decDigits n) = ((n : Int), true) := by
  have ok : ∀ n : Nat, n < 10 → Lib.atoiAll [UInt8.ofNat (48 + n)] = .ok (n : Int) := by decide
  have ok2 : ∀ n : Nat, n < 100 → ¬ n < 10 → Lib.atoiAll [UInt8.ofNat (48 + n / 10), UInt8.ofNat (48 + n % 10)] = .ok (n : Int) := by decide +kernel
  have ha : Lib.atoiAll (Lib.decDigits n) = .ok (n : Int) := by
    by_cases c : n < 10
    · rw [Lib.decDigits_one c]; exact ok n c
    · rw [Lib.decDigits_two c h]; exact ok2 n h c
  unfold impl_ParseUint.g
  rw [ha]
  dsimp only
  rw [if_pos ⟨by omega, by omega, Lib.itoa_nonneg n⟩]
theorem makeId (i : Nat) (h : i < 256) : impl_MakeId.f ((i / 16 : Nat) : Int) ((i / 4 % 4 : Nat) : Int) ((i % 4 : Nat) : Int) = some (i : Int) := by
  unfold impl_MakeId.f
  rw [within, decide_eq_true (by omega), Option.bind_some, if_pos rfl, within, decide_eq_true (by omega), Option.bind_some, if_pos rfl, within, decide_eq_true (by omega), Option.bind_some, if_pos rfl]
  have h1 : wrap64 (((i / 16 : Nat) : Int) * 16) = ((i / 16 : Nat) : Int) * 16 := by unfold wrap64; omega
  have h2 : wrap64 (((i / 4 % 4 : Nat) : Int) * 4) = ((i / 4 % 4 : Nat) : Int) * 4 := by unfold wrap64; omega
  have h3 : wrap64 (((i / 16 : Nat) : Int) * 16 + ((i / 4 % 4 : Nat) : Int) * 4) = ((i / 16 : Nat) : Int) * 16 + ((i / 4 % 4 : Nat) : Int) * 4 := by unfold wrap64; omega
  rw [h1, h2, h3, show wrap64 (((i / 16 : Nat) : Int) * 16 + ((i / 4 % 4 : Nat) : Int) * 4 + ((i % 4 : Nat) : Int)) = (i : Int) by unfold wrap64; omega]
theorem made (b d f : Int) : ∃ m, impl_MakeId.f b d f = some m ∧ (m < 0 ∨ ∃ i : Nat, i < 256 ∧ m = (i : Int)) := by
  unfold impl_MakeId.f
  rw [within]
  by_cases h1 : 0 ≤ b ∧ b ≤ 15
  · rw [decide_eq_true h1, Option.bind_some, if_pos rfl, within]
    by_cases h2 : 0 ≤ d ∧ d ≤ 3
    · rw [decide_eq_true h2, Option.bind_some, if_pos rfl, within]
      by_cases h3 : 0 ≤ f ∧ f ≤ 3
      · rw [decide_eq_true h3, Option.bind_some, if_pos rfl]
        refine ⟨_, rfl, Or.inr ⟨(b * 16 + d * 4 + f).toNat, by omega, ?_⟩⟩
        have w1 : wrap64 (b * 16) = b * 16 := by unfold wrap64; omega
        have w2 : wrap64 (d * 4) = d * 4 := by unfold wrap64; omega
        have w3 : wrap64 (b * 16 + d * 4) = b * 16 + d * 4 := by unfold wrap64; omega
        rw [w1, w2, w3, show wrap64 (b * 16 + d * 4 + f) = b * 16 + d * 4 + f by unfold wrap64; omega]
        omega
      · rw [decide_eq_false h3, Option.bind_some, if_neg (by decide)]
        exact ⟨_, rfl, Or.inl (by decide)⟩
    · rw [decide_eq_false h2, Option.bind_some, if_neg (by decide)]
      exact ⟨_, rfl, Or.inl (by decide)⟩
  · rw [decide_eq_false h1, Option.bind_some, if_neg (by decide)]
    exact ⟨_, rfl, Or.inl (by decide)⟩
theorem cut_f (s : ByteArray) (c : UInt8) (hs : s.size ≤ 140737488351232) : strings_Cut.f s ⟨#[c]⟩ = some (⟨(Lib.cut s.data.toList [c]).1.toArray⟩, ⟨(Lib.cut s.data.toList [c]).2.1.toArray⟩, (Lib.cut s.data.toList [c]).2.2) := by
  unfold strings_Cut.f
  rw [if_pos ⟨rfl, hs⟩]
theorem uint_f (l : List UInt8) (hs : l.length ≤ 140737488351232) : impl_ParseUint.f ⟨l.toArray⟩ = some (impl_ParseUint.g l) := by
  unfold impl_ParseUint.f
  rw [sz, if_pos hs]
theorem parse_T (i : Nat) (h : i < 256) : impl_ParseId.f ⟨(T i).toArray⟩ = some ((i : Int), true) := by
  have hl := T_len i h
  have l1 := dig_len (i / 16) (by omega)
  have l2 := dig_len (i / 4 % 4) (by omega)
  have l3 := dig_len (i % 4) (by omega)
  have c1 : Lib.cut (T i) [58] = (Lib.decDigits (i / 16), Lib.decDigits (i / 4 % 4) ++ 46 :: Lib.decDigits (i % 4), true) := cut_at 58 _ _ (dig_out _ (by omega) 58 (Or.inl rfl))
  have c2 : Lib.cut (Lib.decDigits (i / 4 % 4) ++ 46 :: Lib.decDigits (i % 4)) [46] = (Lib.decDigits (i / 4 % 4), Lib.decDigits (i % 4), true) := cut_at 46 _ _ (dig_out _ (by omega) 46 (Or.inr rfl))
  unfold impl_ParseId.f
  rw [cut_f _ 58 (by rw [sz]; omega), Option.bind_some]
  simp only
  rw [c1]
  simp only
  rw [cut_f _ 46 (by rw [sz, List.length_append, List.length_cons]; omega), Option.bind_some]
  simp only
  rw [c2]
  simp only
  rw [uint_f _ (by omega), Option.bind_some, uint_f _ (by omega), Option.bind_some, uint_f _ (by omega), Option.bind_some, g_digits _ (by omega), g_digits _ (by omega), g_digits _ (by omega)]
  simp only
  rw [makeId i h, Option.bind_some, if_neg (by omega), impl_formatId i h, Option.bind_some, if_pos rfl]
theorem T_inj (i j : Nat) (hi : i < 256) (hj : j < 256) (h : T i = T j) : i = j := by
  have h1 := parse_T i hi
  rw [h, parse_T j hj] at h1
  simp at h1
  omega
theorem impl_none (s : ByteArray) (hs : s.size ≤ 1048576) (h : ∀ i, i < 256 → T i ≠ s.data.toList) : impl_ParseId.f s = some (0, false) := by
  have hlen : s.data.toList.length ≤ 1048576 := by rw [← ba_size]; exact hs
  have cl : ∀ (l : List UInt8) (c : UInt8), (Lib.cut l [c]).1.length ≤ l.length ∧ (Lib.cut l [c]).2.1.length ≤ l.length := by
    intro l c
    unfold Lib.cut
    split
    · exact ⟨by rw [List.length_take]; omega, by rw [List.length_drop]; omega⟩
    · exact ⟨Nat.le_refl _, by simp⟩
  unfold impl_ParseId.f
  rw [cut_f s 58 (by omega), Option.bind_some]
  simp only
  have k1 := cl s.data.toList 58
  generalize Lib.cut s.data.toList [58] = q1 at k1 ⊢
  rw [cut_f _ 46 (by rw [sz]; omega), Option.bind_some]
  simp only
  have k2 := cl q1.2.1 46
  generalize Lib.cut q1.2.1 [46] = q2 at k2 ⊢
  rw [uint_f _ (by omega), Option.bind_some, uint_f _ (by omega), Option.bind_some, uint_f _ (by omega), Option.bind_some]
  obtain ⟨m, e, hm⟩ := made (impl_ParseUint.g q1.1).1 (impl_ParseUint.g q2.1).1 (impl_ParseUint.g q2.2.1).1
  rw [e, Option.bind_some]
  rcases hm with hm | ⟨i, hi, rfl⟩
  · rw [if_pos hm]
  · rw [if_neg (by omega), impl_formatId i hi, Option.bind_some, if_neg (fun g => h i hi ((tl_iff _ _).mp g))]
theorem spec_hit (s : ByteArray) (j : Nat) (hj : j < 256) (h : T j = s.data.toList) (d : Nat) : ∀ k i : Nat, i + d = j → d + 400 < k → spec_ParseId.l0 k s (i : Int) = some ((j : Int), true) := by
  induction d with
  | zero =>
    intro k i hi hk
    obtain ⟨k, rfl⟩ : ∃ m, k = m + 1 := ⟨k - 1, by omega⟩
    obtain rfl : i = j := by omega
    rw [spec_ParseId.l0, if_pos (by omega), spec_formatId i hj k (by omega), Option.bind_some, if_pos ((tl_iff _ _).mpr h)]
  | succ d ih =>
    intro k i hi hk
    obtain ⟨k, rfl⟩ : ∃ m, k = m + 1 := ⟨k - 1, by omega⟩
    have hne : ¬ (⟨(T i).toArray⟩ : ByteArray).toList = s.toList := by
      intro g
      have := T_inj i j (by omega) hj (((tl_iff _ _).mp g).trans h.symm)
      omega
    rw [spec_ParseId.l0, if_pos (by omega), spec_formatId i (by omega) k (by omega), Option.bind_some, if_neg hne, show wrap64 ((i : Int) + 1) = ((i + 1 : Nat) : Int) by unfold wrap64; omega]
    exact ih k (i + 1) (by omega) (by omega)
theorem spec_miss (s : ByteArray) (h : ∀ i, i < 256 → T i ≠ s.data.toList) (d : Nat) : ∀ k i : Nat, i + d = 256 → d + 400 < k → spec_ParseId.l0 k s (i : Int) = some (0, false) := by
  induction d with
  | zero =>
    intro k i hi hk
    obtain ⟨k, rfl⟩ : ∃ m, k = m + 1 := ⟨k - 1, by omega⟩
    rw [spec_ParseId.l0, if_neg (by omega)]
  | succ d ih =>
    intro k i hi hk
    obtain ⟨k, rfl⟩ : ∃ m, k = m + 1 := ⟨k - 1, by omega⟩
    rw [spec_ParseId.l0, if_pos (by omega), spec_formatId i (by omega) k (by omega), Option.bind_some, if_neg (fun g => h i (by omega) ((tl_iff _ _).mp g)), show wrap64 ((i : Int) + 1) = ((i + 1 : Nat) : Int) by unfold wrap64; omega]
    exact ih k (i + 1) (by omega) (by omega)
theorem FnExactParseId : laws_FnExactParseId.Pure := by
  intro s hs
  refine ⟨1000, ?_⟩
  unfold laws_FnExactParseId.f
  by_cases hb : (s.size : Int) > 1048576
  · rw [if_pos hb]
  · rw [if_neg hb]
    unfold spec_ParseId.f
    by_cases h : ∃ i, i < 256 ∧ T i = s.data.toList
    · obtain ⟨i, hi, e⟩ := h
      have h1 : impl_ParseId.f s = some ((i : Int), true) := by
        rw [ba_of s _ e.symm]
        exact parse_T i hi
      have h2 : spec_ParseId.l0 1000 s 0 = some ((i : Int), true) := spec_hit s i hi e i 1000 0 (by omega) (by omega)
      rw [h2, Option.bind_some, h1, Option.bind_some, if_pos rfl, if_neg (by simp)]
    · have hm : ∀ i, i < 256 → T i ≠ s.data.toList := fun i hi e => h ⟨i, hi, e⟩
      have h2 : spec_ParseId.l0 1000 s 0 = some (0, false) := spec_miss s hm 256 1000 0 (by omega) (by omega)
      rw [h2, Option.bind_some, impl_none s (by omega) hm, Option.bind_some, if_pos rfl, if_neg (by decide)]

end Go.Proofs.YtbdbogpglkbafaaDoor.Pure
