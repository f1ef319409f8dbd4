/- A drawn packet is a packet, its class and its units lie in their bounds, it is the same as itself, and its kind has a name: at every draw. No condition. -/
import Derived.Test.YtdnekkbchlibhaaPFnPacketsx6
import Derived.Test.YtdnekkbchlibhaaBits
namespace Go.Proofs.Ytdnekkbchlibhaa.Pure
open Go.RowKit Go.Proofs.Ytdnekkbchlibhaa.PFnPackets Go.Proofs.YtdnekkbchlibhaaW.PrintWords Go.Proofs.YtdnekkbchlibhaaW.PrintLast Go.Proofs.YtdnekkbchlibhaaW.PrintMore Go.Proofs.Ytdnekkbchlibhaa.Num
set_option linter.unusedVariables false
set_option linter.unusedSimpArgs false

theorem within (a b c : Int) : impl_within.f a b c = some (decide (b ≤ a ∧ a ≤ c)) := by
  unfold impl_within.f
  by_cases h : b ≤ a <;> simp [h]
theorem rd_nat (x : List Int) (i : Nat) (h : i < x.length) : rd x (i : Int) = x[i] := by
  unfold rd
  rw [Int.toNat_natCast, List.getD_eq_getElem?_getD, List.getElem?_eq_getElem h]
  rfl
/-- A cursor of the draws: it stands in its bytes. -/
def Cur (b : List Int) (i : Int) : Prop := b.length ≤ 1048576 ∧ 0 ≤ i ∧ i ≤ b.length ∧ ∀ x ∈ b, 0 ≤ x ∧ x ≤ 255
theorem new_loop (l : List Int) (d : Nat) : ∀ (k i : Nat) (h : Int), i + d = 4000 → d < k → ∃ h', spec_l01New.l0 k l h i = some (l, 0, h') := by
  induction d with
  | zero =>
    intro k i h hi hk
    obtain ⟨k, rfl⟩ : ∃ m, k = m + 1 := ⟨k - 1, by omega⟩
    rw [spec_l01New.l0]
    by_cases e : (i : Int) < (l.length : Int)
    · rw [if_pos e, if_neg (by omega)]; exact ⟨_, rfl⟩
    · rw [if_neg e]; exact ⟨_, rfl⟩
  | succ d ih =>
    intro k i h hi hk
    obtain ⟨k, rfl⟩ : ∃ m, k = m + 1 := ⟨k - 1, by omega⟩
    rw [spec_l01New.l0]
    by_cases e : (i : Int) < (l.length : Int)
    · rw [if_pos e, if_pos (by omega), if_pos (by omega), w64 (n := (i : Int) + 1) (by omega) (by omega), show ((i : Int) + 1) = ((i + 1 : Nat) : Int) by omega]
      exact ih k (i + 1) _ (by omega) (by omega)
    · rw [if_neg e]; exact ⟨_, rfl⟩
theorem new_cur (l : List Int) (hl : l.length ≤ 1048576) (hb : ∀ x ∈ l, (Lit.int .u8 x).wf = true) (k : Nat) (hk : 4000 < k) : ∃ h, spec_l01New.f k l = some (l, 0, h) ∧ Cur l 0 := by
  obtain ⟨h, e⟩ := new_loop l 4000 k 0 (wrap64 (98663 + (l.length : Int))) (by decide) hk
  refine ⟨h, e, hl, by omega, by omega, fun x hx => ?_⟩
  have h3 := hb x hx
  simp [Lit.wf] at h3
  exact h3
theorem byte_cur (b : List Int) (i h : Int) (hc : Cur b i) : ∃ v i' h', spec_l01Byte.f b i h = some (v, i', h') ∧ Cur b i' ∧ 0 ≤ v ∧ v ≤ 255 := by
  obtain ⟨h1, h2, h3, h4⟩ := hc
  unfold spec_l01Byte.f
  by_cases e : i < (b.length : Int)
  · rw [if_pos e, if_pos h2, w64 (n := i + 1) (by omega) (by omega)]
    exact ⟨_, _, _, rfl, ⟨h1, by omega, by omega, h4⟩, and255 _⟩
  · rw [if_neg e]
    exact ⟨_, _, _, rfl, ⟨h1, h2, h3, h4⟩, and255 _⟩
theorem below_cur (b : List Int) (i h n : Int) (hc : Cur b i) : ∃ v i' h', spec_l01Below.f b i h n = some (v, i', h') ∧ Cur b i' ∧ 0 ≤ v ∧ (0 < n → v < n) ∧ (n ≤ 0 → v = 0) := by
  unfold spec_l01Below.f
  by_cases e : n ≤ 0
  · rw [if_pos e]
    exact ⟨0, _, _, rfl, hc, by omega, by omega, fun _ => rfl⟩
  · rw [if_neg e]
    have tm : ∀ x : Int, 0 ≤ x → 0 ≤ Int.tmod x n ∧ Int.tmod x n < n := fun x hx => by
      rw [Int.tmod_eq_emod_of_nonneg hx]
      exact ⟨Int.emod_nonneg _ (by omega), Int.emod_lt_of_pos _ (by omega)⟩
    obtain ⟨v1, i1, h1, e1, c1, r1⟩ := byte_cur b i h hc
    by_cases e2 : n ≤ 256
    · rw [if_pos e2, e1]
      simp only [Option.bind_some]
      rw [if_neg (by omega)]
      exact ⟨_, _, _, rfl, c1, (tm _ r1.1).1, fun _ => (tm _ r1.1).2, fun h => absurd h e⟩
    · obtain ⟨v2, i2, h2, e3, c2, r2⟩ := byte_cur b i1 h1 c1
      obtain ⟨v3, i3, h3, e4, c3, r3⟩ := byte_cur b i2 h2 c2
      obtain ⟨v4, i4, h4, e5, c4, r4⟩ := byte_cur b i3 h3 c3
      rw [if_neg e2, e1]
      simp only [Option.bind_some]
      rw [e3]
      simp only [Option.bind_some]
      rw [e4]
      simp only [Option.bind_some]
      rw [e5]
      simp only [Option.bind_some]
      have hv : wrap64 (wrap64 (wrap64 (wrap64 (v1 * 16777216) + wrap64 (v2 * 65536)) + wrap64 (v3 * 256)) + v4) = v1 * 16777216 + v2 * 65536 + v3 * 256 + v4 := by
        rw [w64 (n := v1 * 16777216) (by omega) (by omega), w64 (n := v2 * 65536) (by omega) (by omega), w64 (n := v3 * 256) (by omega) (by omega), w64 (n := v1 * 16777216 + v2 * 65536) (by omega) (by omega), w64 (n := v1 * 16777216 + v2 * 65536 + v3 * 256) (by omega) (by omega), w64 (by omega) (by omega)]
      rw [if_neg (by omega), hv]
      have hnn : 0 ≤ v1 * 16777216 + v2 * 65536 + v3 * 256 + v4 := by omega
      exact ⟨_, _, _, rfl, c4, (tm _ hnn).1, fun _ => (tm _ hnn).2, fun h => absurd h e⟩
theorem pick_cur (b : List Int) (i h : Int) (l : List Int) (hl : l ≠ []) (hc : Cur b i) : ∃ v i' h', spec_l01PickInt.f b i h l = some (v, i', h') ∧ Cur b i' ∧ v ∈ l := by
  have hn : 0 < l.length := List.length_pos_iff.mpr hl
  obtain ⟨v, i', h', e, c, r1, r2, _⟩ := below_cur b i h (l.length : Int) hc
  have r3 := r2 (by omega)
  unfold spec_l01PickInt.f
  rw [e]
  simp only [Option.bind_some]
  rw [if_pos r1, if_pos r3]
  refine ⟨_, _, _, rfl, c, ?_⟩
  obtain ⟨m, rfl⟩ := Int.eq_ofNat_of_zero_le r1
  rw [rd_nat l m (by omega)]
  exact List.getElem_mem _
theorem equal_loop (x y : List Int) (hxy : x.length = y.length) (hx : x.length ≤ 1048576) (d : Nat) : ∀ (k i : Nat), i + d = x.length → d < k →
    slices_Equal_int_int.l0 k x y (x.length : Int) i = some (decide (x.drop i = y.drop i)) := by
  induction d with
  | zero =>
    intro k i hi hk
    obtain ⟨k, rfl⟩ : ∃ m, k = m + 1 := ⟨k - 1, by omega⟩
    rw [slices_Equal_int_int.l0, if_neg (by omega), List.drop_of_length_le (by omega), List.drop_of_length_le (by omega)]
    simp
  | succ d ih =>
    intro k i hi hk
    obtain ⟨k, rfl⟩ : ∃ m, k = m + 1 := ⟨k - 1, by omega⟩
    have h1 : i < x.length := by omega
    have h2 : i < y.length := by omega
    rw [slices_Equal_int_int.l0, if_pos (by omega), if_pos (by omega), if_pos (by omega), if_pos (by omega), rd_nat x i h1, rd_nat y i h2, w64 (by omega) (by omega)]
    by_cases e : x[i] = y[i]
    · have key : (x.drop i = y.drop i) ↔ (x.drop (i + 1) = y.drop (i + 1)) := by
        rw [List.drop_eq_getElem_cons h1, List.drop_eq_getElem_cons h2, e]
        exact ⟨fun h => (List.cons.inj h).2, fun h => by rw [h]⟩
      rw [if_pos e, show ((i : Int) + 1) = ((i + 1 : Nat) : Int) by omega, ih k (i + 1) (by omega) (by omega)]
      simp only [key]
    · have key : ¬ (x.drop i = y.drop i) := by
        rw [List.drop_eq_getElem_cons h1, List.drop_eq_getElem_cons h2]
        exact fun h => e (List.cons.inj h).1
      rw [if_neg e, decide_eq_false key]
theorem equal (x y : List Int) (hx : x.length ≤ 1048576) (k : Nat) (hk : x.length < k) : slices_Equal_int_int.f k x y = some (decide (x = y)) := by
  unfold slices_Equal_int_int.f
  by_cases h : x.length = y.length
  · rw [if_pos (by omega)]
    exact equal_loop x y h hx x.length k 0 (by omega) hk
  · rw [if_neg (by omega)]
    have : x ≠ y := fun e => h (by rw [e])
    simp [this]
def wordsOk (l : List Int) : Bool := l.all (fun b => decide (0 ≤ b) && decide (b ≤ 65535))
theorem wordsOk_iff (l : List Int) : wordsOk l = true ↔ ∀ b ∈ l, 0 ≤ b ∧ b ≤ 65535 := by
  simp [wordsOk]
/-- A valid packet, by its numbers, the number of its words, and whether these are words. -/
def PkOk (kd fr too ad ln tg st n : Int) (w : Bool) : Prop :=
  0 ≤ fr ∧ fr ≤ 255 ∧ w = true ∧
  ((kd = 1 ∧ 1 ≤ n ∧ n ≤ 8 ∧ 0 ≤ ad ∧ ad ≤ 65536 - n ∧ st = 0 ∧ too = 0 ∧ ln = 0 ∧ tg = 0) ∨
   (kd = 2 ∧ 1 ≤ n ∧ n ≤ 8 ∧ ad = 0 ∧ st = 0 ∧ too = 0 ∧ ln = 0 ∧ tg = 0) ∨
   (kd = 3 ∧ n = 0 ∧ 1 ≤ ln ∧ ln ≤ 64 ∧ 0 ≤ ad ∧ ad ≤ 65536 - ln ∧ 0 ≤ tg ∧ tg ≤ 7 ∧ st = 0 ∧ too = 0) ∨
   (kd = 4 ∧ n = 0 ∧ 0 ≤ ad ∧ ad ≤ 63 ∧ 0 ≤ too ∧ too ≤ 255 ∧ 0 ≤ tg ∧ tg ≤ 7 ∧ st = 0 ∧ ln = 0) ∨
   (kd = 5 ∧ n = 1 ∧ 0 ≤ ad ∧ ad ≤ 63 ∧ 0 ≤ too ∧ too ≤ 255 ∧ 0 ≤ tg ∧ tg ≤ 7 ∧ st = 0 ∧ ln = 0) ∨
   (kd = 6 ∧ ad = 0 ∧ 0 ≤ too ∧ too ≤ 255 ∧ 0 ≤ tg ∧ tg ≤ 7 ∧ 0 ≤ st ∧ st ≤ 2 ∧ 0 ≤ ln ∧ ln ≤ 64 ∧ (n = 0 ∨ st = 0 ∧ n ≤ 8 ∧ n ≤ ln)))
theorem impl_words (l : List Int) : slices_ContainsFunc_int_int.f l 101 = some (!wordsOk l) := by
  unfold slices_ContainsFunc_int_int.f wordsOk
  rw [if_pos (Or.inr rfl)]
  have e : (slices_ContainsFunc_int_int.p 101) = fun x => !(decide (0 ≤ x) && decide (x ≤ 65535)) := by
    funext y
    simp [slices_ContainsFunc_int_int.p]
  rw [e]
  congr 1
  induction l with
  | nil => rfl
  | cons x t ih => rw [List.any_cons, List.all_cons, ih]; cases (decide (0 ≤ x) && decide (x ≤ 65535)) <;> rfl
theorem data_ok (kd fr too ad ln tg st : Int) (l : List Int) (k : Nat) : ∃ b, impl_Packet_dataOk.f (k + 1) kd fr too ad ln tg st l = some b ∧
    (b = true ↔ wordsOk l = true ∧ ((kd = 1 ∨ kd = 2) → 1 ≤ (l.length : Int) ∧ (l.length : Int) ≤ 8) ∧ (kd = 5 → (l.length : Int) = 1) ∧ ((kd = 6 ∧ st = 0) → (l.length : Int) ≤ 8 ∧ (l.length : Int) ≤ ln) ∧ (¬ kd = 1 → ¬ kd = 2 → ¬ kd = 5 → ¬ (kd = 6 ∧ st = 0) → (l.length : Int) = 0)) := by
  unfold impl_Packet_dataOk.f
  rw [impl_words]
  generalize (l.length : Int) = n
  cases wordsOk l with
  | false => exact ⟨false, rfl, by simp⟩
  | true =>
    simp only [impl_Packet_dataOk.j0, within, Option.bind_some, Bool.not_true]
    rw [if_neg (by decide)]
    by_cases h1 : kd = 1
    · subst h1
      refine ⟨decide (1 ≤ n ∧ n ≤ 8), by simp, by simp⟩
    · by_cases h2 : kd = 2
      · subst h2
        refine ⟨decide (1 ≤ n ∧ n ≤ 8), by simp, by simp⟩
      · rw [if_neg h1, if_neg (by simpa using h2)]
        by_cases h5 : kd = 5
        · subst h5
          exact ⟨_, by rw [if_pos rfl], by simp⟩
        · by_cases h6 : kd = 6
          · subst h6
            by_cases hs : st = 0
            · by_cases hn : n ≤ 8
              · exact ⟨_, by rw [if_neg h5, if_pos rfl, if_pos hs, if_pos hn], by simp [hs, hn]⟩
              · exact ⟨_, by rw [if_neg h5, if_pos rfl, if_pos hs, if_neg hn], by simp [hs]; omega⟩
            · exact ⟨_, by rw [if_neg h5, if_pos rfl, if_neg hs], by simp [hs]⟩
          · exact ⟨_, by rw [if_neg h5, if_neg h6], by simp [h1, h2, h5, h6]⟩
theorem addr_ok (kd fr too ad ln tg st : Int) (l : List Int) (hl : l.length ≤ 1048576) (hn : -9223372036854775808 ≤ ln ∧ ln ≤ 9223372036854775807) (k : Nat) : ∃ b, impl_Packet_addressOk.f (k + 1) kd fr too ad ln tg st l = some b ∧
    (b = true ↔ ((kd = 1 → 0 ≤ ad ∧ ad ≤ 65535 ∧ (l.length : Int) ≤ 65536 - ad) ∧ (kd = 3 → 0 ≤ ad ∧ ad ≤ 65535 ∧ ln ≤ 65536 - ad) ∧ ((kd = 4 ∨ kd = 5) → 0 ≤ ad ∧ ad ≤ 63) ∧ (¬ kd = 1 → ¬ kd = 3 → ¬ kd = 4 → ¬ kd = 5 → ad = 0))) := by
  unfold impl_Packet_addressOk.f
  simp only [impl_Packet_addressOk.j0, impl_Packet_words.f, within, Option.bind_some]
  generalize (l.length : Int) = n
  by_cases h1 : kd = 1
  · subst h1
    by_cases ha : 0 ≤ ad ∧ ad ≤ 65535
    · rw [if_pos rfl, if_pos (by decide), if_pos (by simpa using ha), if_neg (by decide), w64 (by omega) (by omega)]
      exact ⟨_, rfl, by simp; omega⟩
    · rw [if_pos rfl, if_pos (by decide), if_neg (by simpa using ha)]
      exact ⟨_, rfl, by simp; omega⟩
  · rw [if_neg h1]
    by_cases h3 : kd = 3
    · subst h3
      by_cases ha : 0 ≤ ad ∧ ad ≤ 65535
      · rw [if_pos (by decide), if_pos (by simpa using ha), if_pos rfl, w64 (by omega) (by omega)]
        exact ⟨_, rfl, by simp; omega⟩
      · rw [if_pos (by decide), if_neg (by simpa using ha)]
        exact ⟨_, rfl, by simp; omega⟩
    · rw [if_neg (by simpa using h3)]
      by_cases h4 : kd = 4
      · rw [if_pos h4]
        exact ⟨_, rfl, by simp [h4]⟩
      · by_cases h5 : kd = 5
        · rw [if_neg h4, if_pos h5]
          exact ⟨_, rfl, by simp [h5]⟩
        · rw [if_neg h4, if_neg h5]
          exact ⟨_, rfl, by simp [h1, h3, h4, h5]⟩
theorem len_ok (kd fr too ad ln tg st : Int) (l : List Int) : ∃ b, impl_Packet_lengthOk.f kd fr too ad ln tg st l = some b ∧
    (b = true ↔ ((kd = 3 → 1 ≤ ln ∧ ln ≤ 64) ∧ (kd = 6 → 0 ≤ ln ∧ ln ≤ 64) ∧ (¬ kd = 3 → ¬ kd = 6 → ln = 0))) := by
  unfold impl_Packet_lengthOk.f
  simp only [within, Option.bind_some]
  by_cases h3 : kd = 3
  · rw [if_pos h3]
    exact ⟨_, rfl, by simp [h3]⟩
  · by_cases h6 : kd = 6
    · rw [if_neg h3, if_pos h6]
      exact ⟨_, rfl, by simp [h6]⟩
    · rw [if_neg h3, if_neg h6]
      exact ⟨_, rfl, by simp [h3, h6]⟩
theorem j2_ok (kd fr too ad ln tg st : Int) (l : List Int) (k : Nat) (x : Bool) : ∃ b, impl_IsPacket.j2 (k + 1 + 1) x kd fr too ad ln tg st l = some b ∧
    (b = true ↔ x = false ∧ ((kd = 6 → 0 ≤ st ∧ st ≤ 2) ∧ (¬ kd = 6 → st = 0)) ∧ wordsOk l = true ∧ ((kd = 1 ∨ kd = 2) → 1 ≤ (l.length : Int) ∧ (l.length : Int) ≤ 8) ∧ (kd = 5 → (l.length : Int) = 1) ∧ ((kd = 6 ∧ st = 0) → (l.length : Int) ≤ 8 ∧ (l.length : Int) ≤ ln) ∧ (¬ kd = 1 → ¬ kd = 2 → ¬ kd = 5 → ¬ (kd = 6 ∧ st = 0) → (l.length : Int) = 0)) := by
  obtain ⟨b, h1, h2⟩ := data_ok kd fr too ad ln tg st l k
  rw [impl_IsPacket.j2]
  cases x with
  | true => exact ⟨false, rfl, by simp⟩
  | false =>
    rw [if_neg (by decide), h1]
    simp only [within, Option.bind_some]
    by_cases h6 : kd = 6
    · by_cases hs : 0 ≤ st ∧ st ≤ 2
      · exact ⟨b, by rw [if_pos h6, if_pos (by simpa using hs)], by rw [h2]; simp [h6, hs]⟩
      · exact ⟨false, by rw [if_pos h6, if_neg (by simpa using hs)], by simp [h6]; omega⟩
    · by_cases hs : st = 0
      · exact ⟨b, by rw [if_neg h6, if_pos hs], by rw [h2]; simp [h6, hs]⟩
      · exact ⟨false, by rw [if_neg h6, if_neg hs], by simp [h6, hs]⟩
theorem bad (P : Prop) (hP : ¬ P) : ∃ b, some false = some b ∧ (b = true ↔ P) := ⟨false, rfl, (fun h => by cases h), fun h => absurd h hP⟩
theorem ends (P Q : Prop) (o : Option Bool) (h : ∃ b, o = some b ∧ (b = true ↔ P)) (hPQ : P ↔ Q) : ∃ b, o = some b ∧ (b = true ↔ Q) := by
  obtain ⟨b, h1, h2⟩ := h
  exact ⟨b, h1, h2.trans hPQ⟩
theorem pk1 (fr too ad ln tg st n : Int) (w : Bool) : PkOk 1 fr too ad ln tg st n w ↔ 0 ≤ fr ∧ fr ≤ 255 ∧ w = true ∧ (1 ≤ n ∧ n ≤ 8 ∧ 0 ≤ ad ∧ ad ≤ 65536 - n ∧ st = 0 ∧ too = 0 ∧ ln = 0 ∧ tg = 0) := by
  simp [PkOk]
theorem pk2 (fr too ad ln tg st n : Int) (w : Bool) : PkOk 2 fr too ad ln tg st n w ↔ 0 ≤ fr ∧ fr ≤ 255 ∧ w = true ∧ (1 ≤ n ∧ n ≤ 8 ∧ ad = 0 ∧ st = 0 ∧ too = 0 ∧ ln = 0 ∧ tg = 0) := by
  simp [PkOk]
theorem pk3 (fr too ad ln tg st n : Int) (w : Bool) : PkOk 3 fr too ad ln tg st n w ↔ 0 ≤ fr ∧ fr ≤ 255 ∧ w = true ∧ (n = 0 ∧ 1 ≤ ln ∧ ln ≤ 64 ∧ 0 ≤ ad ∧ ad ≤ 65536 - ln ∧ 0 ≤ tg ∧ tg ≤ 7 ∧ st = 0 ∧ too = 0) := by
  simp [PkOk]
theorem pk4 (fr too ad ln tg st n : Int) (w : Bool) : PkOk 4 fr too ad ln tg st n w ↔ 0 ≤ fr ∧ fr ≤ 255 ∧ w = true ∧ (n = 0 ∧ 0 ≤ ad ∧ ad ≤ 63 ∧ 0 ≤ too ∧ too ≤ 255 ∧ 0 ≤ tg ∧ tg ≤ 7 ∧ st = 0 ∧ ln = 0) := by
  simp [PkOk]
theorem pk5 (fr too ad ln tg st n : Int) (w : Bool) : PkOk 5 fr too ad ln tg st n w ↔ 0 ≤ fr ∧ fr ≤ 255 ∧ w = true ∧ (n = 1 ∧ 0 ≤ ad ∧ ad ≤ 63 ∧ 0 ≤ too ∧ too ≤ 255 ∧ 0 ≤ tg ∧ tg ≤ 7 ∧ st = 0 ∧ ln = 0) := by
  simp [PkOk]
theorem pk6 (fr too ad ln tg st n : Int) (w : Bool) : PkOk 6 fr too ad ln tg st n w ↔ 0 ≤ fr ∧ fr ≤ 255 ∧ w = true ∧ (ad = 0 ∧ 0 ≤ too ∧ too ≤ 255 ∧ 0 ≤ tg ∧ tg ≤ 7 ∧ 0 ≤ st ∧ st ≤ 2 ∧ 0 ≤ ln ∧ ln ≤ 64 ∧ (n = 0 ∨ st = 0 ∧ n ≤ 8 ∧ n ≤ ln)) := by
  simp [PkOk]
theorem pk_none (kd fr too ad ln tg st n : Int) (w : Bool) (h : ¬ (1 ≤ kd ∧ kd ≤ 6)) : ¬ PkOk kd fr too ad ln tg st n w := by
  intro hp
  have h2 := hp.2.2.2
  rcases h2 with h2 | h2 | h2 | h2 | h2 | h2 <;> (have := h2.1; omega)
theorem impl_packet1 (fr too ad ln tg st : Int) (l : List Int) (hl : l.length ≤ 1048576) (hn : -9223372036854775808 ≤ ln ∧ ln ≤ 9223372036854775807) (k : Nat) : ∃ b, impl_IsPacket.f (k + 1 + 1 + 1 + 1) 1 fr too ad ln tg st l = some b ∧
    (b = true ↔ PkOk 1 fr too ad ln tg st (l.length : Int) (wordsOk l)) := by
  obtain ⟨b1, a1, a2⟩ := addr_ok 1 fr too ad ln tg st l hl hn (k + 1 + 1 + 1)
  obtain ⟨b2, c1, c2⟩ := len_ok 1 fr too ad ln tg st l
  have hj := fun x => j2_ok 1 fr too ad ln tg st l k x
  have hn0 : 0 ≤ (l.length : Int) := by omega
  unfold impl_IsPacket.f
  rw [a1, c1, pk1]
  simp only [impl_IsPacket.j0, impl_IsPacket.j1, impl_IsId.f, within, Option.bind_some]
  clear a1 c1 hl hn
  generalize (l.length : Int) = n at *
  generalize wordsOk l = w at *
  have a3 : b1 = true ↔ 0 ≤ ad ∧ ad ≤ 65535 ∧ n ≤ 65536 - ad := by rw [a2]; simp
  have c3 : b2 = true ↔ ln = 0 := by rw [c2]; simp
  have hj2 : ∀ x, ∃ b, impl_IsPacket.j2 (k + 1 + 1) x 1 fr too ad ln tg st l = some b ∧ (b = true ↔ x = false ∧ (st = 0) ∧ w = true ∧ 1 ≤ n ∧ n ≤ 8) := by
    intro x
    obtain ⟨b, e1, e2⟩ := hj x
    refine ⟨b, e1, ?_⟩
    rw [e2]
    simp
  clear a2 c2 hj
  by_cases q2 : 0 ≤ fr ∧ fr ≤ 255
  · have p2 : decide (0 ≤ fr ∧ fr ≤ 255) = true := decide_eq_true q2
    cases b1 with
    | false =>
      simp only [p2, ↓reduceIte, Bool.not_false, Bool.not_true, Bool.false_eq_true, Int.reduceLE, Int.reduceEq, and_false, false_and, and_true, true_and, and_self, decide_false, decide_true, decide_eq_true_eq, Int.reduceNe, bne_self_eq_false]
      refine bad _ fun h => absurd (a3.mpr ?_) (by decide)
      obtain ⟨_, _, _, h⟩ := h
      omega
    | true =>
      have a4 := a3.mp rfl
      cases b2 with
      | false =>
        simp only [p2, ↓reduceIte, Bool.not_false, Bool.not_true, Bool.false_eq_true, Int.reduceLE, Int.reduceEq, and_false, false_and, and_true, true_and, and_self, decide_false, decide_true, decide_eq_true_eq, Int.reduceNe, bne_self_eq_false]
        refine bad _ fun h => absurd (c3.mpr ?_) (by decide)
        obtain ⟨_, _, _, h⟩ := h
        omega
      | true =>
        have c4 := c3.mp rfl
        clear a3 c3
        by_cases q4 : too = 0
        · have p4 : (too != 0) = false := by simpa using q4
          by_cases q5 : tg = 0
          · have p5 : (tg != 0) = false := by simpa using q5
            simp only [p2, p4, p5, ↓reduceIte, Bool.not_false, Bool.not_true, Bool.false_eq_true, Int.reduceLE, Int.reduceEq, and_false, false_and, and_true, true_and, and_self, decide_false, decide_true, decide_eq_true_eq, Int.reduceNe, bne_self_eq_false]
            refine ends _ _ _ (hj2 false) ?_
            clear hj2
            constructor
            · intro h
              obtain ⟨h0, h1, h2, h3⟩ := h
              exact ⟨q2.1, q2.2, h2, by omega⟩
            · intro h
              obtain ⟨_, _, h2, h3⟩ := h
              exact ⟨rfl, by omega, h2, by omega⟩
          · have p5 : (tg != 0) = true := by simpa using q5
            simp only [p2, p4, p5, ↓reduceIte, Bool.not_false, Bool.not_true, Bool.false_eq_true, Int.reduceLE, Int.reduceEq, and_false, false_and, and_true, true_and, and_self, decide_false, decide_true, decide_eq_true_eq, Int.reduceNe, bne_self_eq_false]
            refine ends _ _ _ (hj2 true) ?_
            clear hj2
            constructor
            · intro h
              obtain ⟨h0, h1, h2, h3⟩ := h
              cases h0
            · intro h
              obtain ⟨_, _, h2, h3⟩ := h
              exfalso; omega
        · have p4 : (too != 0) = true := by simpa using q4
          simp only [p2, p4, ↓reduceIte, Bool.not_false, Bool.not_true, Bool.false_eq_true, Int.reduceLE, Int.reduceEq, and_false, false_and, and_true, true_and, and_self, decide_false, decide_true, decide_eq_true_eq, Int.reduceNe, bne_self_eq_false]
          refine bad _ fun h => ?_
          obtain ⟨_, _, _, h⟩ := h
          omega
  · have p2 : decide (0 ≤ fr ∧ fr ≤ 255) = false := decide_eq_false q2
    simp only [p2, ↓reduceIte, Bool.not_false, Bool.not_true, Bool.false_eq_true, Int.reduceLE, Int.reduceEq, and_false, false_and, and_true, true_and, and_self, decide_false, decide_true, decide_eq_true_eq, Int.reduceNe, bne_self_eq_false]
    refine bad _ fun h => ?_
    omega
theorem impl_packet2 (fr too ad ln tg st : Int) (l : List Int) (hl : l.length ≤ 1048576) (hn : -9223372036854775808 ≤ ln ∧ ln ≤ 9223372036854775807) (k : Nat) : ∃ b, impl_IsPacket.f (k + 1 + 1 + 1 + 1) 2 fr too ad ln tg st l = some b ∧
    (b = true ↔ PkOk 2 fr too ad ln tg st (l.length : Int) (wordsOk l)) := by
  obtain ⟨b1, a1, a2⟩ := addr_ok 2 fr too ad ln tg st l hl hn (k + 1 + 1 + 1)
  obtain ⟨b2, c1, c2⟩ := len_ok 2 fr too ad ln tg st l
  have hj := fun x => j2_ok 2 fr too ad ln tg st l k x
  have hn0 : 0 ≤ (l.length : Int) := by omega
  unfold impl_IsPacket.f
  rw [a1, c1, pk2]
  simp only [impl_IsPacket.j0, impl_IsPacket.j1, impl_IsId.f, within, Option.bind_some]
  clear a1 c1 hl hn
  generalize (l.length : Int) = n at *
  generalize wordsOk l = w at *
  have a3 : b1 = true ↔ ad = 0 := by rw [a2]; simp
  have c3 : b2 = true ↔ ln = 0 := by rw [c2]; simp
  have hj2 : ∀ x, ∃ b, impl_IsPacket.j2 (k + 1 + 1) x 2 fr too ad ln tg st l = some b ∧ (b = true ↔ x = false ∧ (st = 0) ∧ w = true ∧ 1 ≤ n ∧ n ≤ 8) := by
    intro x
    obtain ⟨b, e1, e2⟩ := hj x
    refine ⟨b, e1, ?_⟩
    rw [e2]
    simp
  clear a2 c2 hj
  by_cases q2 : 0 ≤ fr ∧ fr ≤ 255
  · have p2 : decide (0 ≤ fr ∧ fr ≤ 255) = true := decide_eq_true q2
    cases b1 with
    | false =>
      simp only [p2, ↓reduceIte, Bool.not_false, Bool.not_true, Bool.false_eq_true, Int.reduceLE, Int.reduceEq, and_false, false_and, and_true, true_and, and_self, decide_false, decide_true, decide_eq_true_eq, Int.reduceNe, bne_self_eq_false]
      refine bad _ fun h => absurd (a3.mpr ?_) (by decide)
      obtain ⟨_, _, _, h⟩ := h
      omega
    | true =>
      have a4 := a3.mp rfl
      cases b2 with
      | false =>
        simp only [p2, ↓reduceIte, Bool.not_false, Bool.not_true, Bool.false_eq_true, Int.reduceLE, Int.reduceEq, and_false, false_and, and_true, true_and, and_self, decide_false, decide_true, decide_eq_true_eq, Int.reduceNe, bne_self_eq_false]
        refine bad _ fun h => absurd (c3.mpr ?_) (by decide)
        obtain ⟨_, _, _, h⟩ := h
        omega
      | true =>
        have c4 := c3.mp rfl
        clear a3 c3
        by_cases q4 : too = 0
        · have p4 : (too != 0) = false := by simpa using q4
          by_cases q5 : tg = 0
          · have p5 : (tg != 0) = false := by simpa using q5
            simp only [p2, p4, p5, ↓reduceIte, Bool.not_false, Bool.not_true, Bool.false_eq_true, Int.reduceLE, Int.reduceEq, and_false, false_and, and_true, true_and, and_self, decide_false, decide_true, decide_eq_true_eq, Int.reduceNe, bne_self_eq_false]
            refine ends _ _ _ (hj2 false) ?_
            clear hj2
            constructor
            · intro h
              obtain ⟨h0, h1, h2, h3⟩ := h
              exact ⟨q2.1, q2.2, h2, by omega⟩
            · intro h
              obtain ⟨_, _, h2, h3⟩ := h
              exact ⟨rfl, by omega, h2, by omega⟩
          · have p5 : (tg != 0) = true := by simpa using q5
            simp only [p2, p4, p5, ↓reduceIte, Bool.not_false, Bool.not_true, Bool.false_eq_true, Int.reduceLE, Int.reduceEq, and_false, false_and, and_true, true_and, and_self, decide_false, decide_true, decide_eq_true_eq, Int.reduceNe, bne_self_eq_false]
            refine ends _ _ _ (hj2 true) ?_
            clear hj2
            constructor
            · intro h
              obtain ⟨h0, h1, h2, h3⟩ := h
              cases h0
            · intro h
              obtain ⟨_, _, h2, h3⟩ := h
              exfalso; omega
        · have p4 : (too != 0) = true := by simpa using q4
          simp only [p2, p4, ↓reduceIte, Bool.not_false, Bool.not_true, Bool.false_eq_true, Int.reduceLE, Int.reduceEq, and_false, false_and, and_true, true_and, and_self, decide_false, decide_true, decide_eq_true_eq, Int.reduceNe, bne_self_eq_false]
          refine bad _ fun h => ?_
          obtain ⟨_, _, _, h⟩ := h
          omega
  · have p2 : decide (0 ≤ fr ∧ fr ≤ 255) = false := decide_eq_false q2
    simp only [p2, ↓reduceIte, Bool.not_false, Bool.not_true, Bool.false_eq_true, Int.reduceLE, Int.reduceEq, and_false, false_and, and_true, true_and, and_self, decide_false, decide_true, decide_eq_true_eq, Int.reduceNe, bne_self_eq_false]
    refine bad _ fun h => ?_
    omega
theorem impl_packet3 (fr too ad ln tg st : Int) (l : List Int) (hl : l.length ≤ 1048576) (hn : -9223372036854775808 ≤ ln ∧ ln ≤ 9223372036854775807) (k : Nat) : ∃ b, impl_IsPacket.f (k + 1 + 1 + 1 + 1) 3 fr too ad ln tg st l = some b ∧
    (b = true ↔ PkOk 3 fr too ad ln tg st (l.length : Int) (wordsOk l)) := by
  obtain ⟨b1, a1, a2⟩ := addr_ok 3 fr too ad ln tg st l hl hn (k + 1 + 1 + 1)
  obtain ⟨b2, c1, c2⟩ := len_ok 3 fr too ad ln tg st l
  have hj := fun x => j2_ok 3 fr too ad ln tg st l k x
  have hn0 : 0 ≤ (l.length : Int) := by omega
  unfold impl_IsPacket.f
  rw [a1, c1, pk3]
  simp only [impl_IsPacket.j0, impl_IsPacket.j1, impl_IsId.f, within, Option.bind_some]
  clear a1 c1 hl hn
  generalize (l.length : Int) = n at *
  generalize wordsOk l = w at *
  have a3 : b1 = true ↔ 0 ≤ ad ∧ ad ≤ 65535 ∧ ln ≤ 65536 - ad := by rw [a2]; simp
  have c3 : b2 = true ↔ 1 ≤ ln ∧ ln ≤ 64 := by rw [c2]; simp
  have hj2 : ∀ x, ∃ b, impl_IsPacket.j2 (k + 1 + 1) x 3 fr too ad ln tg st l = some b ∧ (b = true ↔ x = false ∧ (st = 0) ∧ w = true ∧ n = 0) := by
    intro x
    obtain ⟨b, e1, e2⟩ := hj x
    refine ⟨b, e1, ?_⟩
    rw [e2]
    simp
  clear a2 c2 hj
  by_cases q2 : 0 ≤ fr ∧ fr ≤ 255
  · have p2 : decide (0 ≤ fr ∧ fr ≤ 255) = true := decide_eq_true q2
    cases b1 with
    | false =>
      simp only [p2, ↓reduceIte, Bool.not_false, Bool.not_true, Bool.false_eq_true, Int.reduceLE, Int.reduceEq, and_false, false_and, and_true, true_and, and_self, decide_false, decide_true, decide_eq_true_eq, Int.reduceNe, bne_self_eq_false]
      refine bad _ fun h => absurd (a3.mpr ?_) (by decide)
      obtain ⟨_, _, _, h⟩ := h
      omega
    | true =>
      have a4 := a3.mp rfl
      cases b2 with
      | false =>
        simp only [p2, ↓reduceIte, Bool.not_false, Bool.not_true, Bool.false_eq_true, Int.reduceLE, Int.reduceEq, and_false, false_and, and_true, true_and, and_self, decide_false, decide_true, decide_eq_true_eq, Int.reduceNe, bne_self_eq_false]
        refine bad _ fun h => absurd (c3.mpr ?_) (by decide)
        obtain ⟨_, _, _, h⟩ := h
        omega
      | true =>
        have c4 := c3.mp rfl
        clear a3 c3
        by_cases q4 : too = 0
        · have p4 : (too != 0) = false := by simpa using q4
          by_cases q5 : 0 ≤ tg ∧ tg ≤ 7
          · have p5 : decide (0 ≤ tg ∧ tg ≤ 7) = true := by simpa using q5
            simp only [p2, p4, p5, ↓reduceIte, Bool.not_false, Bool.not_true, Bool.false_eq_true, Int.reduceLE, Int.reduceEq, and_false, false_and, and_true, true_and, and_self, decide_false, decide_true, decide_eq_true_eq, Int.reduceNe, bne_self_eq_false]
            refine ends _ _ _ (hj2 false) ?_
            clear hj2
            constructor
            · intro h
              obtain ⟨h0, h1, h2, h3⟩ := h
              exact ⟨q2.1, q2.2, h2, by omega⟩
            · intro h
              obtain ⟨_, _, h2, h3⟩ := h
              exact ⟨rfl, by omega, h2, by omega⟩
          · have p5 : decide (0 ≤ tg ∧ tg ≤ 7) = false := by simpa using q5
            simp only [p2, p4, p5, ↓reduceIte, Bool.not_false, Bool.not_true, Bool.false_eq_true, Int.reduceLE, Int.reduceEq, and_false, false_and, and_true, true_and, and_self, decide_false, decide_true, decide_eq_true_eq, Int.reduceNe, bne_self_eq_false]
            refine ends _ _ _ (hj2 true) ?_
            clear hj2
            constructor
            · intro h
              obtain ⟨h0, h1, h2, h3⟩ := h
              cases h0
            · intro h
              obtain ⟨_, _, h2, h3⟩ := h
              exfalso; omega
        · have p4 : (too != 0) = true := by simpa using q4
          simp only [p2, p4, ↓reduceIte, Bool.not_false, Bool.not_true, Bool.false_eq_true, Int.reduceLE, Int.reduceEq, and_false, false_and, and_true, true_and, and_self, decide_false, decide_true, decide_eq_true_eq, Int.reduceNe, bne_self_eq_false]
          refine bad _ fun h => ?_
          obtain ⟨_, _, _, h⟩ := h
          omega
  · have p2 : decide (0 ≤ fr ∧ fr ≤ 255) = false := decide_eq_false q2
    simp only [p2, ↓reduceIte, Bool.not_false, Bool.not_true, Bool.false_eq_true, Int.reduceLE, Int.reduceEq, and_false, false_and, and_true, true_and, and_self, decide_false, decide_true, decide_eq_true_eq, Int.reduceNe, bne_self_eq_false]
    refine bad _ fun h => ?_
    omega
theorem impl_packet4 (fr too ad ln tg st : Int) (l : List Int) (hl : l.length ≤ 1048576) (hn : -9223372036854775808 ≤ ln ∧ ln ≤ 9223372036854775807) (k : Nat) : ∃ b, impl_IsPacket.f (k + 1 + 1 + 1 + 1) 4 fr too ad ln tg st l = some b ∧
    (b = true ↔ PkOk 4 fr too ad ln tg st (l.length : Int) (wordsOk l)) := by
  obtain ⟨b1, a1, a2⟩ := addr_ok 4 fr too ad ln tg st l hl hn (k + 1 + 1 + 1)
  obtain ⟨b2, c1, c2⟩ := len_ok 4 fr too ad ln tg st l
  have hj := fun x => j2_ok 4 fr too ad ln tg st l k x
  have hn0 : 0 ≤ (l.length : Int) := by omega
  unfold impl_IsPacket.f
  rw [a1, c1, pk4]
  simp only [impl_IsPacket.j0, impl_IsPacket.j1, impl_IsId.f, within, Option.bind_some]
  clear a1 c1 hl hn
  generalize (l.length : Int) = n at *
  generalize wordsOk l = w at *
  have a3 : b1 = true ↔ 0 ≤ ad ∧ ad ≤ 63 := by rw [a2]; simp
  have c3 : b2 = true ↔ ln = 0 := by rw [c2]; simp
  have hj2 : ∀ x, ∃ b, impl_IsPacket.j2 (k + 1 + 1) x 4 fr too ad ln tg st l = some b ∧ (b = true ↔ x = false ∧ (st = 0) ∧ w = true ∧ n = 0) := by
    intro x
    obtain ⟨b, e1, e2⟩ := hj x
    refine ⟨b, e1, ?_⟩
    rw [e2]
    simp
  clear a2 c2 hj
  by_cases q2 : 0 ≤ fr ∧ fr ≤ 255
  · have p2 : decide (0 ≤ fr ∧ fr ≤ 255) = true := decide_eq_true q2
    cases b1 with
    | false =>
      simp only [p2, ↓reduceIte, Bool.not_false, Bool.not_true, Bool.false_eq_true, Int.reduceLE, Int.reduceEq, and_false, false_and, and_true, true_and, and_self, decide_false, decide_true, decide_eq_true_eq, Int.reduceNe, bne_self_eq_false]
      refine bad _ fun h => absurd (a3.mpr ?_) (by decide)
      obtain ⟨_, _, _, h⟩ := h
      omega
    | true =>
      have a4 := a3.mp rfl
      cases b2 with
      | false =>
        simp only [p2, ↓reduceIte, Bool.not_false, Bool.not_true, Bool.false_eq_true, Int.reduceLE, Int.reduceEq, and_false, false_and, and_true, true_and, and_self, decide_false, decide_true, decide_eq_true_eq, Int.reduceNe, bne_self_eq_false]
        refine bad _ fun h => absurd (c3.mpr ?_) (by decide)
        obtain ⟨_, _, _, h⟩ := h
        omega
      | true =>
        have c4 := c3.mp rfl
        clear a3 c3
        by_cases q4 : 0 ≤ too ∧ too ≤ 255
        · have p4 : decide (0 ≤ too ∧ too ≤ 255) = true := by simpa using q4
          by_cases q5 : 0 ≤ tg ∧ tg ≤ 7
          · have p5 : decide (0 ≤ tg ∧ tg ≤ 7) = true := by simpa using q5
            simp only [p2, p4, p5, ↓reduceIte, Bool.not_false, Bool.not_true, Bool.false_eq_true, Int.reduceLE, Int.reduceEq, and_false, false_and, and_true, true_and, and_self, decide_false, decide_true, decide_eq_true_eq, Int.reduceNe, bne_self_eq_false]
            refine ends _ _ _ (hj2 false) ?_
            clear hj2
            constructor
            · intro h
              obtain ⟨h0, h1, h2, h3⟩ := h
              exact ⟨q2.1, q2.2, h2, by omega⟩
            · intro h
              obtain ⟨_, _, h2, h3⟩ := h
              exact ⟨rfl, by omega, h2, by omega⟩
          · have p5 : decide (0 ≤ tg ∧ tg ≤ 7) = false := by simpa using q5
            simp only [p2, p4, p5, ↓reduceIte, Bool.not_false, Bool.not_true, Bool.false_eq_true, Int.reduceLE, Int.reduceEq, and_false, false_and, and_true, true_and, and_self, decide_false, decide_true, decide_eq_true_eq, Int.reduceNe, bne_self_eq_false]
            refine ends _ _ _ (hj2 true) ?_
            clear hj2
            constructor
            · intro h
              obtain ⟨h0, h1, h2, h3⟩ := h
              cases h0
            · intro h
              obtain ⟨_, _, h2, h3⟩ := h
              exfalso; omega
        · have p4 : decide (0 ≤ too ∧ too ≤ 255) = false := by simpa using q4
          simp only [p2, p4, ↓reduceIte, Bool.not_false, Bool.not_true, Bool.false_eq_true, Int.reduceLE, Int.reduceEq, and_false, false_and, and_true, true_and, and_self, decide_false, decide_true, decide_eq_true_eq, Int.reduceNe, bne_self_eq_false]
          refine bad _ fun h => ?_
          obtain ⟨_, _, _, h⟩ := h
          omega
  · have p2 : decide (0 ≤ fr ∧ fr ≤ 255) = false := decide_eq_false q2
    simp only [p2, ↓reduceIte, Bool.not_false, Bool.not_true, Bool.false_eq_true, Int.reduceLE, Int.reduceEq, and_false, false_and, and_true, true_and, and_self, decide_false, decide_true, decide_eq_true_eq, Int.reduceNe, bne_self_eq_false]
    refine bad _ fun h => ?_
    omega
theorem impl_packet5 (fr too ad ln tg st : Int) (l : List Int) (hl : l.length ≤ 1048576) (hn : -9223372036854775808 ≤ ln ∧ ln ≤ 9223372036854775807) (k : Nat) : ∃ b, impl_IsPacket.f (k + 1 + 1 + 1 + 1) 5 fr too ad ln tg st l = some b ∧
    (b = true ↔ PkOk 5 fr too ad ln tg st (l.length : Int) (wordsOk l)) := by
  obtain ⟨b1, a1, a2⟩ := addr_ok 5 fr too ad ln tg st l hl hn (k + 1 + 1 + 1)
  obtain ⟨b2, c1, c2⟩ := len_ok 5 fr too ad ln tg st l
  have hj := fun x => j2_ok 5 fr too ad ln tg st l k x
  have hn0 : 0 ≤ (l.length : Int) := by omega
  unfold impl_IsPacket.f
  rw [a1, c1, pk5]
  simp only [impl_IsPacket.j0, impl_IsPacket.j1, impl_IsId.f, within, Option.bind_some]
  clear a1 c1 hl hn
  generalize (l.length : Int) = n at *
  generalize wordsOk l = w at *
  have a3 : b1 = true ↔ 0 ≤ ad ∧ ad ≤ 63 := by rw [a2]; simp
  have c3 : b2 = true ↔ ln = 0 := by rw [c2]; simp
  have hj2 : ∀ x, ∃ b, impl_IsPacket.j2 (k + 1 + 1) x 5 fr too ad ln tg st l = some b ∧ (b = true ↔ x = false ∧ (st = 0) ∧ w = true ∧ n = 1) := by
    intro x
    obtain ⟨b, e1, e2⟩ := hj x
    refine ⟨b, e1, ?_⟩
    rw [e2]
    simp
  clear a2 c2 hj
  by_cases q2 : 0 ≤ fr ∧ fr ≤ 255
  · have p2 : decide (0 ≤ fr ∧ fr ≤ 255) = true := decide_eq_true q2
    cases b1 with
    | false =>
      simp only [p2, ↓reduceIte, Bool.not_false, Bool.not_true, Bool.false_eq_true, Int.reduceLE, Int.reduceEq, and_false, false_and, and_true, true_and, and_self, decide_false, decide_true, decide_eq_true_eq, Int.reduceNe, bne_self_eq_false]
      refine bad _ fun h => absurd (a3.mpr ?_) (by decide)
      obtain ⟨_, _, _, h⟩ := h
      omega
    | true =>
      have a4 := a3.mp rfl
      cases b2 with
      | false =>
        simp only [p2, ↓reduceIte, Bool.not_false, Bool.not_true, Bool.false_eq_true, Int.reduceLE, Int.reduceEq, and_false, false_and, and_true, true_and, and_self, decide_false, decide_true, decide_eq_true_eq, Int.reduceNe, bne_self_eq_false]
        refine bad _ fun h => absurd (c3.mpr ?_) (by decide)
        obtain ⟨_, _, _, h⟩ := h
        omega
      | true =>
        have c4 := c3.mp rfl
        clear a3 c3
        by_cases q4 : 0 ≤ too ∧ too ≤ 255
        · have p4 : decide (0 ≤ too ∧ too ≤ 255) = true := by simpa using q4
          by_cases q5 : 0 ≤ tg ∧ tg ≤ 7
          · have p5 : decide (0 ≤ tg ∧ tg ≤ 7) = true := by simpa using q5
            simp only [p2, p4, p5, ↓reduceIte, Bool.not_false, Bool.not_true, Bool.false_eq_true, Int.reduceLE, Int.reduceEq, and_false, false_and, and_true, true_and, and_self, decide_false, decide_true, decide_eq_true_eq, Int.reduceNe, bne_self_eq_false]
            refine ends _ _ _ (hj2 false) ?_
            clear hj2
            constructor
            · intro h
              obtain ⟨h0, h1, h2, h3⟩ := h
              exact ⟨q2.1, q2.2, h2, by omega⟩
            · intro h
              obtain ⟨_, _, h2, h3⟩ := h
              exact ⟨rfl, by omega, h2, by omega⟩
          · have p5 : decide (0 ≤ tg ∧ tg ≤ 7) = false := by simpa using q5
            simp only [p2, p4, p5, ↓reduceIte, Bool.not_false, Bool.not_true, Bool.false_eq_true, Int.reduceLE, Int.reduceEq, and_false, false_and, and_true, true_and, and_self, decide_false, decide_true, decide_eq_true_eq, Int.reduceNe, bne_self_eq_false]
            refine ends _ _ _ (hj2 true) ?_
            clear hj2
            constructor
            · intro h
              obtain ⟨h0, h1, h2, h3⟩ := h
              cases h0
            · intro h
              obtain ⟨_, _, h2, h3⟩ := h
              exfalso; omega
        · have p4 : decide (0 ≤ too ∧ too ≤ 255) = false := by simpa using q4
          simp only [p2, p4, ↓reduceIte, Bool.not_false, Bool.not_true, Bool.false_eq_true, Int.reduceLE, Int.reduceEq, and_false, false_and, and_true, true_and, and_self, decide_false, decide_true, decide_eq_true_eq, Int.reduceNe, bne_self_eq_false]
          refine bad _ fun h => ?_
          obtain ⟨_, _, _, h⟩ := h
          omega
  · have p2 : decide (0 ≤ fr ∧ fr ≤ 255) = false := decide_eq_false q2
    simp only [p2, ↓reduceIte, Bool.not_false, Bool.not_true, Bool.false_eq_true, Int.reduceLE, Int.reduceEq, and_false, false_and, and_true, true_and, and_self, decide_false, decide_true, decide_eq_true_eq, Int.reduceNe, bne_self_eq_false]
    refine bad _ fun h => ?_
    omega
theorem impl_packet6 (fr too ad ln tg st : Int) (l : List Int) (hl : l.length ≤ 1048576) (hn : -9223372036854775808 ≤ ln ∧ ln ≤ 9223372036854775807) (k : Nat) : ∃ b, impl_IsPacket.f (k + 1 + 1 + 1 + 1) 6 fr too ad ln tg st l = some b ∧
    (b = true ↔ PkOk 6 fr too ad ln tg st (l.length : Int) (wordsOk l)) := by
  obtain ⟨b1, a1, a2⟩ := addr_ok 6 fr too ad ln tg st l hl hn (k + 1 + 1 + 1)
  obtain ⟨b2, c1, c2⟩ := len_ok 6 fr too ad ln tg st l
  have hj := fun x => j2_ok 6 fr too ad ln tg st l k x
  have hn0 : 0 ≤ (l.length : Int) := by omega
  unfold impl_IsPacket.f
  rw [a1, c1, pk6]
  simp only [impl_IsPacket.j0, impl_IsPacket.j1, impl_IsId.f, within, Option.bind_some]
  clear a1 c1 hl hn
  generalize (l.length : Int) = n at *
  generalize wordsOk l = w at *
  have a3 : b1 = true ↔ ad = 0 := by rw [a2]; simp
  have c3 : b2 = true ↔ 0 ≤ ln ∧ ln ≤ 64 := by rw [c2]; simp
  have hj2 : ∀ x, ∃ b, impl_IsPacket.j2 (k + 1 + 1) x 6 fr too ad ln tg st l = some b ∧ (b = true ↔ x = false ∧ (0 ≤ st ∧ st ≤ 2) ∧ w = true ∧ (st = 0 → n ≤ 8 ∧ n ≤ ln) ∧ (¬ st = 0 → n = 0)) := by
    intro x
    obtain ⟨b, e1, e2⟩ := hj x
    refine ⟨b, e1, ?_⟩
    rw [e2]
    simp
  clear a2 c2 hj
  by_cases q2 : 0 ≤ fr ∧ fr ≤ 255
  · have p2 : decide (0 ≤ fr ∧ fr ≤ 255) = true := decide_eq_true q2
    cases b1 with
    | false =>
      simp only [p2, ↓reduceIte, Bool.not_false, Bool.not_true, Bool.false_eq_true, Int.reduceLE, Int.reduceEq, and_false, false_and, and_true, true_and, and_self, decide_false, decide_true, decide_eq_true_eq, Int.reduceNe, bne_self_eq_false]
      refine bad _ fun h => absurd (a3.mpr ?_) (by decide)
      obtain ⟨_, _, _, h⟩ := h
      omega
    | true =>
      have a4 := a3.mp rfl
      cases b2 with
      | false =>
        simp only [p2, ↓reduceIte, Bool.not_false, Bool.not_true, Bool.false_eq_true, Int.reduceLE, Int.reduceEq, and_false, false_and, and_true, true_and, and_self, decide_false, decide_true, decide_eq_true_eq, Int.reduceNe, bne_self_eq_false]
        refine bad _ fun h => absurd (c3.mpr ?_) (by decide)
        obtain ⟨_, _, _, h⟩ := h
        omega
      | true =>
        have c4 := c3.mp rfl
        clear a3 c3
        by_cases q4 : 0 ≤ too ∧ too ≤ 255
        · have p4 : decide (0 ≤ too ∧ too ≤ 255) = true := by simpa using q4
          by_cases q5 : 0 ≤ tg ∧ tg ≤ 7
          · have p5 : decide (0 ≤ tg ∧ tg ≤ 7) = true := by simpa using q5
            simp only [p2, p4, p5, ↓reduceIte, Bool.not_false, Bool.not_true, Bool.false_eq_true, Int.reduceLE, Int.reduceEq, and_false, false_and, and_true, true_and, and_self, decide_false, decide_true, decide_eq_true_eq, Int.reduceNe, bne_self_eq_false]
            refine ends _ _ _ (hj2 false) ?_
            clear hj2
            constructor
            · intro h
              obtain ⟨h0, h1, h2, h3⟩ := h
              exact ⟨q2.1, q2.2, h2, by omega⟩
            · intro h
              obtain ⟨_, _, h2, h3⟩ := h
              exact ⟨rfl, by omega, h2, by omega⟩
          · have p5 : decide (0 ≤ tg ∧ tg ≤ 7) = false := by simpa using q5
            simp only [p2, p4, p5, ↓reduceIte, Bool.not_false, Bool.not_true, Bool.false_eq_true, Int.reduceLE, Int.reduceEq, and_false, false_and, and_true, true_and, and_self, decide_false, decide_true, decide_eq_true_eq, Int.reduceNe, bne_self_eq_false]
            refine ends _ _ _ (hj2 true) ?_
            clear hj2
            constructor
            · intro h
              obtain ⟨h0, h1, h2, h3⟩ := h
              cases h0
            · intro h
              obtain ⟨_, _, h2, h3⟩ := h
              exfalso; omega
        · have p4 : decide (0 ≤ too ∧ too ≤ 255) = false := by simpa using q4
          simp only [p2, p4, ↓reduceIte, Bool.not_false, Bool.not_true, Bool.false_eq_true, Int.reduceLE, Int.reduceEq, and_false, false_and, and_true, true_and, and_self, decide_false, decide_true, decide_eq_true_eq, Int.reduceNe, bne_self_eq_false]
          refine bad _ fun h => ?_
          obtain ⟨_, _, _, h⟩ := h
          omega
  · have p2 : decide (0 ≤ fr ∧ fr ≤ 255) = false := decide_eq_false q2
    simp only [p2, ↓reduceIte, Bool.not_false, Bool.not_true, Bool.false_eq_true, Int.reduceLE, Int.reduceEq, and_false, false_and, and_true, true_and, and_self, decide_false, decide_true, decide_eq_true_eq, Int.reduceNe, bne_self_eq_false]
    refine bad _ fun h => ?_
    omega
theorem impl_packet (kd fr too ad ln tg st : Int) (l : List Int) (hl : l.length ≤ 1048576) (hn : -9223372036854775808 ≤ ln ∧ ln ≤ 9223372036854775807) (k : Nat) (hk : 8 < k) : ∃ b, impl_IsPacket.f k kd fr too ad ln tg st l = some b ∧
    (b = true ↔ PkOk kd fr too ad ln tg st (l.length : Int) (wordsOk l)) := by
  obtain ⟨k, rfl⟩ : ∃ m, k = m + 1 + 1 + 1 + 1 := ⟨k - 4, by omega⟩
  by_cases q : 1 ≤ kd ∧ kd ≤ 6
  · have : kd = 1 ∨ kd = 2 ∨ kd = 3 ∨ kd = 4 ∨ kd = 5 ∨ kd = 6 := by omega
    rcases this with rfl | rfl | rfl | rfl | rfl | rfl
    · exact impl_packet1 fr too ad ln tg st l hl hn k
    · exact impl_packet2 fr too ad ln tg st l hl hn k
    · exact impl_packet3 fr too ad ln tg st l hl hn k
    · exact impl_packet4 fr too ad ln tg st l hl hn k
    · exact impl_packet5 fr too ad ln tg st l hl hn k
    · exact impl_packet6 fr too ad ln tg st l hl hn k
  · unfold impl_IsPacket.f
    simp only [impl_IsPacket.j0, within, Option.bind_some]
    have q' : decide (1 ≤ kd ∧ kd ≤ 6) = false := decide_eq_false q
    simp only [q', Bool.not_false, ↓reduceIte, Bool.false_eq_true]
    exact bad _ (pk_none _ _ _ _ _ _ _ _ _ q)
theorem intB {n : Int} (h : (Lit.int .i64 n).wf = true) : -9223372036854775808 ≤ n ∧ n ≤ 9223372036854775807 := by
  simp [Lit.wf, IntKind.min, IntKind.max, IntKind.signed, IntKind.bits] at h
  omega
theorem eqB {a b : Bool} {P : Prop} (h1 : a = true ↔ P) (h2 : b = true ↔ P) : a = b := by
  have h : a = true ↔ b = true := h1.trans h2.symm
  cases a <;> cases b <;> simp_all
theorem data_loop (b : List Int) (d : Nat) : ∀ (k m : Nat) (out : List Int) (i h n : Int), (m : Int) + d = n → n ≤ 100 → d < k → out.length = m → (∀ x ∈ out, 0 ≤ x ∧ x ≤ 65535) → Cur b i →
    ∃ v i' h', spec_l04Data.l0 k n out m b i h = some (v, i', h') ∧ Cur b i' ∧ (v.length : Int) = n ∧ ∀ x ∈ v, 0 ≤ x ∧ x ≤ 65535 := by
  induction d with
  | zero =>
    intro k m out i h n hn h8 hk ho hr hc
    obtain ⟨k, rfl⟩ : ∃ m, k = m + 1 := ⟨k - 1, by omega⟩
    rw [spec_l04Data.l0, if_neg (by omega)]
    exact ⟨out, _, _, rfl, hc, by omega, hr⟩
  | succ d ih =>
    intro k m out i h n hn h8 hk ho hr hc
    obtain ⟨k, rfl⟩ : ∃ m, k = m + 1 := ⟨k - 1, by omega⟩
    obtain ⟨v1, i1, h1, e1, c1, r1, s1, _⟩ := below_cur b i h 256 hc
    obtain ⟨v2, i2, h2, e2, c2, r2, s2, _⟩ := below_cur b i1 h1 65536 c1
    obtain ⟨v3, i3, h3, e3, c3, r3⟩ := pick_cur b i2 h2 [0, 1, 65535, v1, v2] (by simp) c2
    have s1 := s1 (by decide)
    have s2 := s2 (by decide)
    have b3 : 0 ≤ v3 ∧ v3 ≤ 65535 := by
      simp only [List.mem_cons, List.not_mem_nil, or_false] at r3
      omega
    rw [spec_l04Data.l0, if_pos (by omega), e1, Option.bind_some]
    simp only
    rw [e2, Option.bind_some]
    simp only
    rw [e3, Option.bind_some]
    simp only
    rw [if_pos (by omega), w64 (by omega) (by omega), show ((m : Int) + 1) = ((m + 1 : Nat) : Int) by omega]
    refine ih k (m + 1) (out ++ [v3]) i3 h3 n (by omega) h8 (by omega) (by simp [ho]) (fun x hx => ?_) c3
    rcases List.mem_append.mp hx with hx | hx
    · exact hr x hx
    · rw [List.mem_singleton.mp hx]
      exact b3
theorem data_cur (b : List Int) (i h n : Int) (h0 : 0 ≤ n) (h8 : n ≤ 100) (hc : Cur b i) (k : Nat) (hk : 200 < k) : ∃ v i' h', spec_l04Data.f k b i h n = some (v, i', h') ∧ Cur b i' ∧ (v.length : Int) = n ∧ wordsOk v = true := by
  obtain ⟨v, i', h', e, c, hl, hr⟩ := data_loop b n.toNat k 0 [] i h n (by omega) h8 (by omega) rfl (by simp) hc
  exact ⟨v, i', h', e, c, hl, (wordsOk_iff v).mpr hr⟩
/-- A packet was drawn, and it is a packet. -/
def Drew (b : List Int) (o : Option (Int × Int × Int × Int × Int × Int × Int × List Int × Int × Int)) : Prop :=
  ∃ kd fr too ad ln tg st dat i' h', o = some (kd, fr, too, ad, ln, tg, st, dat, i', h') ∧ Cur b i' ∧ PkOk kd fr too ad ln tg st (dat.length : Int) (wordsOk dat)
theorem drew_45 (b : List Int) (i h kd fr : Int) (hk4 : kd = 4 ∨ kd = 5) (hf : 0 ≤ fr ∧ fr ≤ 255) (hc : Cur b i) (k : Nat) (hk : 200 < k) : Drew b (spec_l04Packet.j1 (k + 1) kd true b i h kd fr 0 0 0 0 0) := by
  obtain ⟨v1, i1, h1, e1, c1, r1, s1, _⟩ := below_cur b i h 256 hc
  obtain ⟨v2, i2, h2, e2, c2, r2, s2, _⟩ := below_cur b i1 h1 64 c1
  obtain ⟨v3, i3, h3, e3, c3, r3, s3, _⟩ := below_cur b i2 h2 8 c2
  obtain ⟨v, i4, h4, e4, c4, hl, hw⟩ := data_cur b i3 h3 1 (by decide) (by decide) c3 k hk
  have s1 := s1 (by decide)
  have s2 := s2 (by decide)
  have s3 := s3 (by decide)
  simp only [spec_l04Packet.j1, if_true, e1, e2, e3, e4, Option.bind_some]
  rcases hk4 with rfl | rfl
  · rw [if_neg (by decide)]
    exact ⟨_, _, _, _, _, _, _, _, _, _, rfl, c3, (pk4 _ _ _ _ _ _ _ _).mpr ⟨hf.1, hf.2, rfl, rfl, by omega, by omega, by omega, by omega, by omega, by omega, rfl, rfl⟩⟩
  · rw [if_pos rfl]
    exact ⟨_, _, _, _, _, _, _, _, _, _, rfl, c4, (pk5 _ _ _ _ _ _ _ _).mpr ⟨hf.1, hf.2, hw, hl, by omega, by omega, by omega, by omega, by omega, by omega, rfl, rfl⟩⟩
theorem drew_6 (b : List Int) (i h fr : Int) (hf : 0 ≤ fr ∧ fr ≤ 255) (hc : Cur b i) (k : Nat) (hk : 200 < k) : Drew b (spec_l04Packet.j1 (k + 1) 6 false b i h 6 fr 0 0 0 0 0) := by
  obtain ⟨v1, i1, h1, e1, c1, r1, s1, _⟩ := below_cur b i h 256 hc
  obtain ⟨v2, i2, h2, e2, c2, r2, s2, _⟩ := below_cur b i1 h1 8 c1
  obtain ⟨v3, i3, h3, e3, c3, r3⟩ := pick_cur b i2 h2 [0, 0, 0, 1, 2] (by simp) c2
  obtain ⟨v4, i4, h4, e4, c4, r4⟩ := pick_cur b i3 h3 [8, 0, 20, 64] (by simp) c3
  obtain ⟨v5, i5, h5, e5, c5, r5, s5, _⟩ := below_cur b i4 h4 9 c4
  have s1 := s1 (by decide)
  have s2 := s2 (by decide)
  have s5 := s5 (by decide)
  have b3 : 0 ≤ v3 ∧ v3 ≤ 2 := by
    simp only [List.mem_cons, List.not_mem_nil, or_false] at r3
    omega
  have b4 : 0 ≤ v4 ∧ v4 ≤ 64 := by
    simp only [List.mem_cons, List.not_mem_nil, or_false] at r4
    omega
  have hm : 0 ≤ mn v4 v5 ∧ mn v4 v5 ≤ 8 ∧ mn v4 v5 ≤ v4 := by
    unfold mn
    split <;> omega
  obtain ⟨v, i6, h6, e6, c6, hl, hw⟩ := data_cur b i5 h5 (mn v4 v5) hm.1 (by omega) c5 k hk
  simp only [spec_l04Packet.j1, if_true, e1, e2, e3, e4, e5, e6, Option.bind_some]
  rw [if_neg (by decide)]
  by_cases hz : v3 = 0
  · rw [if_pos hz]
    exact ⟨_, _, _, _, _, _, _, _, _, _, rfl, c6, (pk6 _ _ _ _ _ _ _ _).mpr ⟨hf.1, hf.2, hw, rfl, by omega, by omega, by omega, by omega, by omega, by omega, by omega, by omega, .inr ⟨hz, by omega, by omega⟩⟩⟩
  · rw [if_neg hz]
    exact ⟨_, _, _, _, _, _, _, _, _, _, rfl, c4, (pk6 _ _ _ _ _ _ _ _).mpr ⟨hf.1, hf.2, rfl, rfl, by omega, by omega, by omega, by omega, by omega, by omega, by omega, by omega, .inl rfl⟩⟩
theorem drew_3 (b : List Int) (i h fr : Int) (hf : 0 ≤ fr ∧ fr ≤ 255) (hc : Cur b i) (k : Nat) : Drew b (spec_l04Packet.j0 (k + 1) 3 false b i h 3 fr 0 0 0 0 0) := by
  obtain ⟨v1, i1, h1, e1, c1, r1⟩ := pick_cur b i h [1, 4, 8, 20, 64] (by simp) hc
  obtain ⟨v2, i2, h2, e2, c2, r2, s2, _⟩ := below_cur b i1 h1 60000 c1
  obtain ⟨v3, i3, h3, e3, c3, r3⟩ := pick_cur b i2 h2 [0, 100, 4096, 65472, v2] (by simp) c2
  obtain ⟨v4, i4, h4, e4, c4, r4, s4, _⟩ := below_cur b i3 h3 8 c3
  have s2 := s2 (by decide)
  have s4 := s4 (by decide)
  have b1 : 1 ≤ v1 ∧ v1 ≤ 64 := by
    simp only [List.mem_cons, List.not_mem_nil, or_false] at r1
    omega
  have b3 : 0 ≤ v3 ∧ v3 ≤ 65472 := by
    simp only [List.mem_cons, List.not_mem_nil, or_false] at r3
    omega
  simp only [spec_l04Packet.j0, if_true, e1, e2, e3, e4, Option.bind_some]
  rw [if_neg (by decide)]
  exact ⟨_, _, _, _, _, _, _, _, _, _, rfl, c4, (pk3 _ _ _ _ _ _ _ _).mpr ⟨hf.1, hf.2, rfl, rfl, by omega, by omega, by omega, by omega, by omega, by omega, rfl, rfl⟩⟩
theorem drew_12 (b : List Int) (i h kd fr : Int) (hk1 : kd = 1 ∨ kd = 2) (hf : 0 ≤ fr ∧ fr ≤ 255) (hc : Cur b i) (k : Nat) (hk : 200 < k) : Drew b (spec_l04Packet.j0 (k + 1) kd true b i h kd fr 0 0 0 0 0) := by
  obtain ⟨v1, i1, h1, e1, c1, r1, s1, _⟩ := below_cur b i h 8 hc
  have s1 := s1 (by decide)
  obtain ⟨v, i2, h2, e2, c2, hl, hw⟩ := data_cur b i1 h1 (wrap64 (1 + v1)) (by rw [w64 (by omega) (by omega)]; omega) (by rw [w64 (by omega) (by omega)]; omega) c1 k hk
  rw [w64 (n := 1 + v1) (by omega) (by omega)] at hl
  obtain ⟨v3, i3, h3, e3, c3, r3, s3, _⟩ := below_cur b i2 h2 60000 c2
  have s3 := s3 (by decide)
  obtain ⟨v4, i4, h4, e4, c4, r4⟩ := pick_cur b i3 h3 [0, 100, 4096, 65528, v3] (by simp) c3
  have b4 : 0 ≤ v4 ∧ v4 ≤ 65528 := by
    simp only [List.mem_cons, List.not_mem_nil, or_false] at r4
    omega
  simp only [spec_l04Packet.j0, if_true, e1, e2, e3, e4, Option.bind_some]
  rcases hk1 with rfl | rfl
  · rw [if_pos rfl]
    exact ⟨_, _, _, _, _, _, _, _, _, _, rfl, c4, (pk1 _ _ _ _ _ _ _ _).mpr ⟨hf.1, hf.2, hw, by omega, by omega, by omega, by omega, rfl, rfl, rfl, rfl⟩⟩
  · rw [if_neg (by decide)]
    exact ⟨_, _, _, _, _, _, _, _, _, _, rfl, c2, (pk2 _ _ _ _ _ _ _ _).mpr ⟨hf.1, hf.2, hw, by omega, by omega, rfl, rfl, rfl, rfl, rfl⟩⟩
theorem drew (b : List Int) (i h : Int) (hc : Cur b i) (k : Nat) (hk : 300 < k) : Drew b (spec_l04Packet.f k b i h) := by
  obtain ⟨k, rfl⟩ : ∃ m, k = m + 1 + 1 := ⟨k - 2, by omega⟩
  obtain ⟨v1, i1, h1, e1, c1, r1, s1, _⟩ := below_cur b i h 6 hc
  obtain ⟨v2, i2, h2, e2, c2, r2, s2, _⟩ := below_cur b i1 h1 256 c1
  have s1 := s1 (by decide)
  have s2 := s2 (by decide)
  have hf : 0 ≤ v2 ∧ v2 ≤ 255 := by omega
  unfold spec_l04Packet.f
  simp only [e1, e2, Option.bind_some]
  rw [w64 (n := 1 + v1) (by omega) (by omega)]
  have : v1 = 0 ∨ v1 = 1 ∨ v1 = 2 ∨ v1 = 3 ∨ v1 = 4 ∨ v1 = 5 := by omega
  rcases this with rfl | rfl | rfl | rfl | rfl | rfl
  · exact drew_12 b i2 h2 1 v2 (.inl rfl) hf c2 (k + 1) (by omega)
  · exact drew_12 b i2 h2 2 v2 (.inr rfl) hf c2 (k + 1) (by omega)
  · exact drew_3 b i2 h2 v2 hf c2 (k + 1)
  · exact drew_45 b i2 h2 4 v2 (.inl rfl) hf c2 k (by omega)
  · exact drew_45 b i2 h2 5 v2 (.inr rfl) hf c2 k (by omega)
  · exact drew_6 b i2 h2 v2 hf c2 k (by omega)
theorem draw_packet (l : List Int) (hl : l.length ≤ 1048576) (hb : ∀ x ∈ l, (Lit.int .u8 x).wf = true) (k : Nat) (hk : 5000 < k) : ∃ kd fr too ad ln tg st dat, spec_DrawPacket.f k l = some (kd, fr, too, ad, ln, tg, st, dat) ∧ PkOk kd fr too ad ln tg st (dat.length : Int) (wordsOk dat) := by
  obtain ⟨h, e, c⟩ := new_cur l hl hb k (by omega)
  obtain ⟨kd, fr, too, ad, ln, tg, st, dat, i', h', e2, _, hp⟩ := drew l 0 h c k (by omega)
  refine ⟨kd, fr, too, ad, ln, tg, st, dat, ?_, hp⟩
  unfold spec_DrawPacket.f
  rw [e, Option.bind_some]
  simp only
  rw [e2, Option.bind_some]
theorem pk_ln {kd fr too ad ln tg st n : Int} {w : Bool} (h : PkOk kd fr too ad ln tg st n w) : -9223372036854775808 ≤ ln ∧ ln ≤ 9223372036854775807 := by
  obtain ⟨_, _, _, h⟩ := h
  rcases h with h | h | h | h | h | h <;> omega
theorem pk_n8 {kd fr too ad ln tg st n : Int} {w : Bool} (h : PkOk kd fr too ad ln tg st n w) : n ≤ 8 := by
  obtain ⟨_, _, _, h⟩ := h
  rcases h with h | h | h | h | h | h
  · omega
  · omega
  · omega
  · omega
  · omega
  · obtain ⟨_, _, _, _, _, _, _, _, _, _, h⟩ := h
    omega
theorem pk_kd {kd fr too ad ln tg st n : Int} {w : Bool} (h : PkOk kd fr too ad ln tg st n w) : kd = 1 ∨ kd = 2 ∨ kd = 3 ∨ kd = 4 ∨ kd = 5 ∨ kd = 6 := by
  obtain ⟨_, _, _, h⟩ := h
  rcases h with h | h | h | h | h | h <;> simp [h.1]
theorem class_ok (a : Int) (h : a = 1 ∨ a = 2 ∨ a = 3 ∨ a = 4 ∨ a = 5 ∨ a = 6) (k : Nat) : ∃ v, impl_classOf.f (k + 1) a = some v ∧ 0 ≤ v ∧ v ≤ 2 := by
  rcases h with rfl | rfl | rfl | rfl | rfl | rfl
  · exact ⟨0, rfl, by omega, by omega⟩
  · exact ⟨0, rfl, by omega, by omega⟩
  · exact ⟨1, rfl, by omega, by omega⟩
  · exact ⟨1, rfl, by omega, by omega⟩
  · exact ⟨1, rfl, by omega, by omega⟩
  · exact ⟨2, rfl, by omega, by omega⟩
theorem name_ok (a : Int) (h : a = 1 ∨ a = 2 ∨ a = 3 ∨ a = 4 ∨ a = 5 ∨ a = 6) : ∃ v, impl_KindName.f a = some v ∧ (v.toList != ([] : List UInt8)) = true := by
  rcases h with rfl | rfl | rfl | rfl | rfl | rfl <;> exact ⟨_, rfl, by decide +kernel⟩
theorem FnPackets : laws_FnPackets.Pure := by
  intro l _ _ hb
  refine ⟨l.length + 6000, ?_⟩
  unfold laws_FnPackets.f laws_big.f
  simp only [Option.bind_some]
  by_cases h : (l.length : Int) > 1048576
  · rw [if_pos (by simpa using h)]
  · rw [if_neg (by simpa using h)]
    have hl : l.length ≤ 1048576 := by omega
    obtain ⟨k, hk⟩ : ∃ k, l.length + 6000 = k + 1 := ⟨l.length + 5999, rfl⟩
    rw [hk]
    obtain ⟨kd, fr, too, ad, ln, tg, st, dat, e, hp⟩ := draw_packet l hl hb (k + 1) (by omega)
    have h8 := pk_n8 hp
    have hkd := pk_kd hp
    obtain ⟨b, i1, i2⟩ := impl_packet kd fr too ad ln tg st dat (by omega) (pk_ln hp) (k + 1) (by omega)
    obtain rfl : b = true := i2.mpr hp
    obtain ⟨cv, c1, c2, c3⟩ := class_ok kd hkd k
    obtain ⟨nv, n1, n2⟩ := name_ok kd hkd
    have ec : impl_ClassOf.f (k + 1) kd fr too ad ln tg st dat = some cv := by
      unfold impl_ClassOf.f
      rw [i1, Option.bind_some, if_pos rfl, c1]
      rfl
    have hu : wrap64 (Int.tdiv (wrap64 ((dat.length : Int) + 3)) 4) = ((dat.length : Int) + 3) / 4 := by
      rw [w64 (n := (dat.length : Int) + 3) (by omega) (by omega), Int.tdiv_eq_ediv_of_nonneg (by omega), w64 (by omega) (by omega)]
    have eu : impl_PacketUnits.f (k + 1) kd fr too ad ln tg st dat = some (((dat.length : Int) + 3) / 4) := by
      unfold impl_PacketUnits.f
      rw [i1, Option.bind_some, if_pos rfl, hu]
    have es : impl_SamePacket.f (k + 1) kd fr too ad ln tg st dat kd fr too ad ln tg st dat = some true := by
      unfold impl_SamePacket.f
      rw [if_pos rfl, if_pos rfl, if_pos rfl, if_pos rfl, if_pos rfl, if_pos rfl, if_pos rfl, equal dat dat (by omega) _ (by omega)]
      simp
    rw [e, Option.bind_some]
    simp only
    rw [ec, Option.bind_some, eu, Option.bind_some, i1, Option.bind_some, if_pos rfl, if_pos (by omega), if_pos (by omega), if_pos (by omega), if_pos (by omega)]
    have hb1 : (((dat.length : Int) + 3) / 4 == 0) = ((dat.length : Int) == 0) := by
      rw [Bool.eq_iff_iff]
      simp only [beq_iff_eq]
      omega
    rw [if_pos (by rw [hb1]; exact beq_self_eq_true _), es, Option.bind_some, if_pos rfl, n1, Option.bind_some, n2]

end Go.Proofs.Ytdnekkbchlibhaa.Pure
