/- A packet's bytes are decoded to the packet again, and what is decoded is encoded to the same bytes; a word is put together from its halves: at every draw. No condition. -/
import Derived.Test.YtdnekkbchlibhaaPFnWirex12
import Derived.Test.YtdnekkbchlibhaaBits
namespace Go.Proofs.Ytdnekkbchlibhaa.Pure
open Go.RowKit Go.Proofs.Ytdnekkbchlibhaa.PFnWire Go.Proofs.YtdnekkbchlibhaaW.PrintWords Go.Proofs.YtdnekkbchlibhaaW.PrintLast Go.Proofs.YtdnekkbchlibhaaW.PrintMore Go.Proofs.Ytdnekkbchlibhaa.Num
set_option linter.unusedVariables false
set_option linter.unusedSimpArgs false

theorem inRange (a b c : Int) : spec_l01In.f a b c = some (decide (b ≤ a ∧ a ≤ c)) := by
  unfold spec_l01In.f
  by_cases h : b ≤ a <;> simp [h]
theorem within (a b c : Int) : impl_within.f a b c = some (decide (b ≤ a ∧ a ≤ c)) := by
  unfold impl_within.f
  by_cases h : b ≤ a <;> simp [h]
theorem rd_nat (x : List Int) (i : Nat) (h : i < x.length) : rd x (i : Int) = x[i] := by
  unfold rd
  rw [Int.toNat_natCast, List.getD_eq_getElem?_getD, List.getElem?_eq_getElem h]
  rfl
/-- A cursor of the draws: it stands in its bytes. -/
def Cur (b : List Int) (i : Int) : Prop := b.length ≤ 1048576 ∧ 0 ≤ i ∧ i ≤ b.length ∧ ∀ x ∈ b, 0 ≤ x ∧ x ≤ 255
theorem new_loop (l : List Int) (d : Nat) : ∀ (k i : Nat) (h : Int), i + d = 4000 → d < k → ∃ h', spec_l01New.l0 k l h i = some (l, 0, h') := by
  induction d with
  | zero =>
    intro k i h hi hk
    obtain ⟨k, rfl⟩ : ∃ m, k = m + 1 := ⟨k - 1, by omega⟩
    rw [spec_l01New.l0]
    by_cases e : (i : Int) < (l.length : Int)
    · rw [if_pos e, if_neg (by omega)]; exact ⟨_, rfl⟩
    · rw [if_neg e]; exact ⟨_, rfl⟩
  | succ d ih =>
    intro k i h hi hk
    obtain ⟨k, rfl⟩ : ∃ m, k = m + 1 := ⟨k - 1, by omega⟩
    rw [spec_l01New.l0]
    by_cases e : (i : Int) < (l.length : Int)
    · rw [if_pos e, if_pos (by omega), if_pos (by omega), w64 (n := (i : Int) + 1) (by omega) (by omega), show ((i : Int) + 1) = ((i + 1 : Nat) : Int) by omega]
      exact ih k (i + 1) _ (by omega) (by omega)
    · rw [if_neg e]; exact ⟨_, rfl⟩
theorem new_cur (l : List Int) (hl : l.length ≤ 1048576) (hb : ∀ x ∈ l, (Lit.int .u8 x).wf = true) (k : Nat) (hk : 4000 < k) : ∃ h, spec_l01New.f k l = some (l, 0, h) ∧ Cur l 0 := by
  obtain ⟨h, e⟩ := new_loop l 4000 k 0 (wrap64 (98663 + (l.length : Int))) (by decide) hk
  refine ⟨h, e, hl, by omega, by omega, fun x hx => ?_⟩
  have h3 := hb x hx
  simp [Lit.wf] at h3
  exact h3
theorem byte_cur (b : List Int) (i h : Int) (hc : Cur b i) : ∃ v i' h', spec_l01Byte.f b i h = some (v, i', h') ∧ Cur b i' ∧ 0 ≤ v ∧ v ≤ 255 := by
  obtain ⟨h1, h2, h3, h4⟩ := hc
  unfold spec_l01Byte.f
  by_cases e : i < (b.length : Int)
  · rw [if_pos e, if_pos h2, w64 (n := i + 1) (by omega) (by omega)]
    exact ⟨_, _, _, rfl, ⟨h1, by omega, by omega, h4⟩, and255 _⟩
  · rw [if_neg e]
    exact ⟨_, _, _, rfl, ⟨h1, h2, h3, h4⟩, and255 _⟩
theorem below_cur (b : List Int) (i h n : Int) (hc : Cur b i) : ∃ v i' h', spec_l01Below.f b i h n = some (v, i', h') ∧ Cur b i' ∧ 0 ≤ v ∧ (0 < n → v < n) ∧ (n ≤ 0 → v = 0) := by
  unfold spec_l01Below.f
  by_cases e : n ≤ 0
  · rw [if_pos e]
    exact ⟨0, _, _, rfl, hc, by omega, by omega, fun _ => rfl⟩
  · rw [if_neg e]
    have tm : ∀ x : Int, 0 ≤ x → 0 ≤ Int.tmod x n ∧ Int.tmod x n < n := fun x hx => by
      rw [Int.tmod_eq_emod_of_nonneg hx]
      exact ⟨Int.emod_nonneg _ (by omega), Int.emod_lt_of_pos _ (by omega)⟩
    obtain ⟨v1, i1, h1, e1, c1, r1⟩ := byte_cur b i h hc
    by_cases e2 : n ≤ 256
    · rw [if_pos e2, e1]
      simp only [Option.bind_some]
      rw [if_neg (by omega)]
      exact ⟨_, _, _, rfl, c1, (tm _ r1.1).1, fun _ => (tm _ r1.1).2, fun h => absurd h e⟩
    · obtain ⟨v2, i2, h2, e3, c2, r2⟩ := byte_cur b i1 h1 c1
      obtain ⟨v3, i3, h3, e4, c3, r3⟩ := byte_cur b i2 h2 c2
      obtain ⟨v4, i4, h4, e5, c4, r4⟩ := byte_cur b i3 h3 c3
      rw [if_neg e2, e1]
      simp only [Option.bind_some]
      rw [e3]
      simp only [Option.bind_some]
      rw [e4]
      simp only [Option.bind_some]
      rw [e5]
      simp only [Option.bind_some]
      have hv : wrap64 (wrap64 (wrap64 (wrap64 (v1 * 16777216) + wrap64 (v2 * 65536)) + wrap64 (v3 * 256)) + v4) = v1 * 16777216 + v2 * 65536 + v3 * 256 + v4 := by
        rw [w64 (n := v1 * 16777216) (by omega) (by omega), w64 (n := v2 * 65536) (by omega) (by omega), w64 (n := v3 * 256) (by omega) (by omega), w64 (n := v1 * 16777216 + v2 * 65536) (by omega) (by omega), w64 (n := v1 * 16777216 + v2 * 65536 + v3 * 256) (by omega) (by omega), w64 (by omega) (by omega)]
      rw [if_neg (by omega), hv]
      have hnn : 0 ≤ v1 * 16777216 + v2 * 65536 + v3 * 256 + v4 := by omega
      exact ⟨_, _, _, rfl, c4, (tm _ hnn).1, fun _ => (tm _ hnn).2, fun h => absurd h e⟩
theorem pick_cur (b : List Int) (i h : Int) (l : List Int) (hl : l ≠ []) (hc : Cur b i) : ∃ v i' h', spec_l01PickInt.f b i h l = some (v, i', h') ∧ Cur b i' ∧ v ∈ l := by
  have hn : 0 < l.length := List.length_pos_iff.mpr hl
  obtain ⟨v, i', h', e, c, r1, r2, _⟩ := below_cur b i h (l.length : Int) hc
  have r3 := r2 (by omega)
  unfold spec_l01PickInt.f
  rw [e]
  simp only [Option.bind_some]
  rw [if_pos r1, if_pos r3]
  refine ⟨_, _, _, rfl, c, ?_⟩
  obtain ⟨m, rfl⟩ := Int.eq_ofNat_of_zero_le r1
  rw [rd_nat l m (by omega)]
  exact List.getElem_mem _
theorem sameInts_loop (x y : List Int) (hxy : x.length = y.length) (hx : x.length ≤ 1048576) (d : Nat) : ∀ (k i : Nat), i + d = x.length → d < k →
    laws_sameInts.l0 k x y i = some (decide (x.drop i = y.drop i)) := by
  induction d with
  | zero =>
    intro k i hi hk
    obtain ⟨k, rfl⟩ : ∃ m, k = m + 1 := ⟨k - 1, by omega⟩
    simp only [laws_sameInts.l0]
    rw [if_neg (by omega), List.drop_of_length_le (by omega), List.drop_of_length_le (by omega)]
    simp
  | succ d ih =>
    intro k i hi hk
    obtain ⟨k, rfl⟩ : ∃ m, k = m + 1 := ⟨k - 1, by omega⟩
    have h1 : i < x.length := by omega
    have h2 : i < y.length := by omega
    simp only [laws_sameInts.l0]
    rw [if_pos (by omega), if_pos (by omega), if_pos (by omega), rd_nat x i h1, rd_nat y i h2, w64 (by omega) (by omega)]
    by_cases e : x[i] = y[i]
    · have key : (x.drop i = y.drop i) ↔ (x.drop (i + 1) = y.drop (i + 1)) := by
        rw [List.drop_eq_getElem_cons h1, List.drop_eq_getElem_cons h2, e]
        exact ⟨fun h => (List.cons.inj h).2, fun h => by rw [h]⟩
      rw [if_pos e, show ((i : Int) + 1) = ((i + 1 : Nat) : Int) by omega, ih k (i + 1) (by omega) (by omega)]
      simp only [key]
    · have key : ¬ (x.drop i = y.drop i) := by
        rw [List.drop_eq_getElem_cons h1, List.drop_eq_getElem_cons h2]
        exact fun h => e (List.cons.inj h).1
      rw [if_neg e, decide_eq_false key]
theorem sameInts (x y : List Int) (hx : x.length ≤ 1048576) (k : Nat) (hk : x.length < k) : laws_sameInts.f k x y = some (decide (x = y)) := by
  unfold laws_sameInts.f
  by_cases h : x.length = y.length
  · rw [if_pos (by omega)]
    exact sameInts_loop x y h hx x.length k 0 (by omega) hk
  · rw [if_neg (by omega)]
    have : x ≠ y := fun e => h (by rw [e])
    simp [this]
theorem sameInts_self (x : List Int) (hx : x.length ≤ 1048576) (k : Nat) (hk : x.length < k) : laws_sameInts.f k x x = some true := by
  rw [sameInts x x hx k hk]; simp
def okB (l : List Int) : Bool := decide (l.length ≤ 40) && l.all (fun b => decide (0 ≤ b) && decide (b ≤ 255))
theorem okB_iff (l : List Int) : okB l = true ↔ l.length ≤ 40 ∧ ∀ b ∈ l, 0 ≤ b ∧ b ≤ 255 := by
  simp [okB]
theorem any_not (l : List Int) : l.any (fun x => !(decide (0 ≤ x) && decide (x ≤ 255))) = !(l.all (fun b => decide (0 ≤ b) && decide (b ≤ 255))) := by
  induction l with
  | nil => rfl
  | cons x t ih => rw [List.any_cons, List.all_cons, ih]; cases (decide (0 ≤ x) && decide (x ≤ 255)) <;> rfl
theorem impl_bytes (x : List Int) : impl_AreBytes.f x = some (okB x) := by
  unfold impl_AreBytes.f slices_ContainsFunc_int_int.f okB
  rw [if_pos (Or.inl rfl)]
  have e : (slices_ContainsFunc_int_int.p 68) = fun x => !(decide (0 ≤ x) && decide (x ≤ 255)) := by
    funext y
    simp [slices_ContainsFunc_int_int.p]
  rw [e, any_not]
  by_cases h : x.length ≤ 40
  · rw [if_pos (by omega)]; simp [h]
  · rw [if_neg (by omega)]; simp [h]
theorem equal_loop (x y : List Int) (hxy : x.length = y.length) (hx : x.length ≤ 1048576) (d : Nat) : ∀ (k i : Nat), i + d = x.length → d < k →
    slices_Equal_int_int.l0 k x y (x.length : Int) i = some (decide (x.drop i = y.drop i)) := by
  induction d with
  | zero =>
    intro k i hi hk
    obtain ⟨k, rfl⟩ : ∃ m, k = m + 1 := ⟨k - 1, by omega⟩
    rw [slices_Equal_int_int.l0, if_neg (by omega), List.drop_of_length_le (by omega), List.drop_of_length_le (by omega)]
    simp
  | succ d ih =>
    intro k i hi hk
    obtain ⟨k, rfl⟩ : ∃ m, k = m + 1 := ⟨k - 1, by omega⟩
    have h1 : i < x.length := by omega
    have h2 : i < y.length := by omega
    rw [slices_Equal_int_int.l0, if_pos (by omega), if_pos (by omega), if_pos (by omega), if_pos (by omega), rd_nat x i h1, rd_nat y i h2, w64 (by omega) (by omega)]
    by_cases e : x[i] = y[i]
    · have key : (x.drop i = y.drop i) ↔ (x.drop (i + 1) = y.drop (i + 1)) := by
        rw [List.drop_eq_getElem_cons h1, List.drop_eq_getElem_cons h2, e]
        exact ⟨fun h => (List.cons.inj h).2, fun h => by rw [h]⟩
      rw [if_pos e, show ((i : Int) + 1) = ((i + 1 : Nat) : Int) by omega, ih k (i + 1) (by omega) (by omega)]
      simp only [key]
    · have key : ¬ (x.drop i = y.drop i) := by
        rw [List.drop_eq_getElem_cons h1, List.drop_eq_getElem_cons h2]
        exact fun h => e (List.cons.inj h).1
      rw [if_neg e, decide_eq_false key]
theorem equal (x y : List Int) (hx : x.length ≤ 1048576) (k : Nat) (hk : x.length < k) : slices_Equal_int_int.f k x y = some (decide (x = y)) := by
  unfold slices_Equal_int_int.f
  by_cases h : x.length = y.length
  · rw [if_pos (by omega)]
    exact equal_loop x y h hx x.length k 0 (by omega) hk
  · rw [if_neg (by omega)]
    have : x ≠ y := fun e => h (by rw [e])
    simp [this]
def wordsOk (l : List Int) : Bool := l.all (fun b => decide (0 ≤ b) && decide (b ≤ 65535))
theorem wordsOk_iff (l : List Int) : wordsOk l = true ↔ ∀ b ∈ l, 0 ≤ b ∧ b ≤ 65535 := by
  simp [wordsOk]
/-- A valid packet, by its numbers, the number of its words, and whether these are words. -/
def PkOk (kd fr too ad ln tg st n : Int) (w : Bool) : Prop :=
  0 ≤ fr ∧ fr ≤ 255 ∧ w = true ∧
  ((kd = 1 ∧ 1 ≤ n ∧ n ≤ 8 ∧ 0 ≤ ad ∧ ad ≤ 65536 - n ∧ st = 0 ∧ too = 0 ∧ ln = 0 ∧ tg = 0) ∨
   (kd = 2 ∧ 1 ≤ n ∧ n ≤ 8 ∧ ad = 0 ∧ st = 0 ∧ too = 0 ∧ ln = 0 ∧ tg = 0) ∨
   (kd = 3 ∧ n = 0 ∧ 1 ≤ ln ∧ ln ≤ 64 ∧ 0 ≤ ad ∧ ad ≤ 65536 - ln ∧ 0 ≤ tg ∧ tg ≤ 7 ∧ st = 0 ∧ too = 0) ∨
   (kd = 4 ∧ n = 0 ∧ 0 ≤ ad ∧ ad ≤ 63 ∧ 0 ≤ too ∧ too ≤ 255 ∧ 0 ≤ tg ∧ tg ≤ 7 ∧ st = 0 ∧ ln = 0) ∨
   (kd = 5 ∧ n = 1 ∧ 0 ≤ ad ∧ ad ≤ 63 ∧ 0 ≤ too ∧ too ≤ 255 ∧ 0 ≤ tg ∧ tg ≤ 7 ∧ st = 0 ∧ ln = 0) ∨
   (kd = 6 ∧ ad = 0 ∧ 0 ≤ too ∧ too ≤ 255 ∧ 0 ≤ tg ∧ tg ≤ 7 ∧ 0 ≤ st ∧ st ≤ 2 ∧ 0 ≤ ln ∧ ln ≤ 64 ∧ (n = 0 ∨ st = 0 ∧ n ≤ 8 ∧ n ≤ ln)))
theorem bad (P : Prop) (hP : ¬ P) : ∃ b, some false = some b ∧ (b = true ↔ P) := ⟨false, rfl, (fun h => by cases h), fun h => absurd h hP⟩
theorem ends (P Q : Prop) (o : Option Bool) (h : ∃ b, o = some b ∧ (b = true ↔ P)) (hPQ : P ↔ Q) : ∃ b, o = some b ∧ (b = true ↔ Q) := by
  obtain ⟨b, h1, h2⟩ := h
  exact ⟨b, h1, h2.trans hPQ⟩
theorem pk1 (fr too ad ln tg st n : Int) (w : Bool) : PkOk 1 fr too ad ln tg st n w ↔ 0 ≤ fr ∧ fr ≤ 255 ∧ w = true ∧ (1 ≤ n ∧ n ≤ 8 ∧ 0 ≤ ad ∧ ad ≤ 65536 - n ∧ st = 0 ∧ too = 0 ∧ ln = 0 ∧ tg = 0) := by
  simp [PkOk]
theorem pk2 (fr too ad ln tg st n : Int) (w : Bool) : PkOk 2 fr too ad ln tg st n w ↔ 0 ≤ fr ∧ fr ≤ 255 ∧ w = true ∧ (1 ≤ n ∧ n ≤ 8 ∧ ad = 0 ∧ st = 0 ∧ too = 0 ∧ ln = 0 ∧ tg = 0) := by
  simp [PkOk]
theorem pk3 (fr too ad ln tg st n : Int) (w : Bool) : PkOk 3 fr too ad ln tg st n w ↔ 0 ≤ fr ∧ fr ≤ 255 ∧ w = true ∧ (n = 0 ∧ 1 ≤ ln ∧ ln ≤ 64 ∧ 0 ≤ ad ∧ ad ≤ 65536 - ln ∧ 0 ≤ tg ∧ tg ≤ 7 ∧ st = 0 ∧ too = 0) := by
  simp [PkOk]
theorem pk4 (fr too ad ln tg st n : Int) (w : Bool) : PkOk 4 fr too ad ln tg st n w ↔ 0 ≤ fr ∧ fr ≤ 255 ∧ w = true ∧ (n = 0 ∧ 0 ≤ ad ∧ ad ≤ 63 ∧ 0 ≤ too ∧ too ≤ 255 ∧ 0 ≤ tg ∧ tg ≤ 7 ∧ st = 0 ∧ ln = 0) := by
  simp [PkOk]
theorem pk5 (fr too ad ln tg st n : Int) (w : Bool) : PkOk 5 fr too ad ln tg st n w ↔ 0 ≤ fr ∧ fr ≤ 255 ∧ w = true ∧ (n = 1 ∧ 0 ≤ ad ∧ ad ≤ 63 ∧ 0 ≤ too ∧ too ≤ 255 ∧ 0 ≤ tg ∧ tg ≤ 7 ∧ st = 0 ∧ ln = 0) := by
  simp [PkOk]
theorem pk6 (fr too ad ln tg st n : Int) (w : Bool) : PkOk 6 fr too ad ln tg st n w ↔ 0 ≤ fr ∧ fr ≤ 255 ∧ w = true ∧ (ad = 0 ∧ 0 ≤ too ∧ too ≤ 255 ∧ 0 ≤ tg ∧ tg ≤ 7 ∧ 0 ≤ st ∧ st ≤ 2 ∧ 0 ≤ ln ∧ ln ≤ 64 ∧ (n = 0 ∨ st = 0 ∧ n ≤ 8 ∧ n ≤ ln)) := by
  simp [PkOk]
theorem pk_none (kd fr too ad ln tg st n : Int) (w : Bool) (h : ¬ (1 ≤ kd ∧ kd ≤ 6)) : ¬ PkOk kd fr too ad ln tg st n w := by
  intro hp
  have h2 := hp.2.2.2
  rcases h2 with h2 | h2 | h2 | h2 | h2 | h2 <;> (have := h2.1; omega)
theorem spec_words_loop (x : List Int) (hx : x.length ≤ 1048576) (d : Nat) : ∀ (k i : Nat), i + d = x.length → d < k →
    spec_l04Words.l0 k x i = some ((x.drop i).all (fun b => decide (0 ≤ b) && decide (b ≤ 65535))) := by
  induction d with
  | zero =>
    intro k i hi hk
    obtain ⟨k, rfl⟩ : ∃ m, k = m + 1 := ⟨k - 1, by omega⟩
    rw [spec_l04Words.l0, if_neg (by omega), List.drop_of_length_le (by omega)]
    rfl
  | succ d ih =>
    intro k i hi hk
    obtain ⟨k, rfl⟩ : ∃ m, k = m + 1 := ⟨k - 1, by omega⟩
    have h1 : i < x.length := by omega
    rw [spec_l04Words.l0, if_pos (by omega), if_pos (by omega), rd_nat x i h1, inRange, w64 (by omega) (by omega), List.drop_eq_getElem_cons h1, show ((i : Int) + 1) = ((i + 1 : Nat) : Int) by omega, ih k (i + 1) (by omega) (by omega)]
    simp only [Option.bind_some, List.all_cons]
    by_cases e : 0 ≤ x[i] ∧ x[i] ≤ 65535
    · simp [e]
    · rw [show (decide (0 ≤ x[i] ∧ x[i] ≤ 65535)) = false by simpa using e]
      have : (decide (0 ≤ x[i]) && decide (x[i] ≤ 65535)) = false := by rw [← Bool.decide_and]; simpa using e
      rw [this]
      simp
theorem spec_words (x : List Int) (hx : x.length ≤ 1048576) (k : Nat) (hk : x.length < k) : spec_l04Words.f k x = some (wordsOk x) := by
  have := spec_words_loop x hx x.length k 0 (by omega) hk
  simpa [spec_l04Words.f, wordsOk] using this
theorem zero_eq (kd fr too ad ln tg st : Int) (l : List Int) (a b c : Bool) : spec_l04Zero.f kd fr too ad ln tg st l a b c = some ((a || decide (too = 0)) && (b || decide (ln = 0)) && (c || decide (tg = 0))) := by
  unfold spec_l04Zero.f
  by_cases h1 : too = 0 <;> by_cases h2 : ln = 0 <;> by_cases h3 : tg = 0 <;> cases a <;> cases b <;> cases c <;> simp [h1, h2, h3]
theorem spec_packet1 (fr too ad ln tg st : Int) (l : List Int) (hl : l.length ≤ 1048576) (k : Nat) (hk : l.length + 2 < k + 1) : ∃ b, spec_IsPacket.f (k + 1) 1 fr too ad ln tg st l = some b ∧
    (b = true ↔ PkOk 1 fr too ad ln tg st (l.length : Int) (wordsOk l)) := by
  unfold spec_IsPacket.f
  rw [spec_words l hl (k + 1) (by omega), pk1]
  have hn : (l.length : Int) ≤ 1048576 ∧ 0 ≤ (l.length : Int) := by omega
  simp only [spec_IsPacket.j0, spec_IsId.f, inRange, zero_eq, Option.bind_some]
  generalize (l.length : Int) = n at *
  generalize wordsOk l = w at *
  clear hl hk
  by_cases q2 : 0 ≤ fr ∧ fr ≤ 255
  · have p2 : decide (0 ≤ fr ∧ fr ≤ 255) = true := decide_eq_true q2
    simp only [p2, ↓reduceIte, Bool.not_false, Bool.not_true, Bool.false_eq_true, Int.reduceLE, Int.reduceEq, and_false, false_and, and_true, true_and, and_self, decide_false, decide_true, decide_eq_true_eq, Int.reduceNe, bne_self_eq_false]
    cases w with
    | false => exact bad _ (by simp)
    | true =>
      simp only [↓reduceIte, Bool.not_false, Bool.not_true, Bool.false_eq_true, Int.reduceLE, Int.reduceEq, and_false, false_and, and_true, true_and, and_self, decide_false, decide_true, decide_eq_true_eq, Int.reduceNe, bne_self_eq_false]
      by_cases c0 : 1 ≤ n ∧ n ≤ 8
      · rw [if_pos (by simpa using c0)]
        rw [w64 (by omega) (by omega)]
        by_cases c2 : 0 ≤ ad ∧ ad ≤ 65536 - n
        · rw [if_pos (by simpa using c2)]
          by_cases c3 : st = 0
          · rw [if_pos c3]
            refine ⟨_, rfl, ?_⟩
            simp
            omega
          · rw [if_neg c3]
            refine bad _ fun h => ?_
            obtain ⟨_, _, _, h⟩ := h
            omega
        · rw [if_neg (by simpa using c2)]
          refine bad _ fun h => ?_
          obtain ⟨_, _, _, h⟩ := h
          omega
      · rw [if_neg (by simpa using c0)]
        refine bad _ fun h => ?_
        obtain ⟨_, _, _, h⟩ := h
        omega
  · have p2 : decide (0 ≤ fr ∧ fr ≤ 255) = false := decide_eq_false q2
    simp only [p2, ↓reduceIte, Bool.not_false, Bool.not_true, Bool.false_eq_true, Int.reduceLE, Int.reduceEq, and_false, false_and, and_true, true_and, and_self, decide_false, decide_true, decide_eq_true_eq, Int.reduceNe, bne_self_eq_false]
    refine bad _ fun h => ?_
    omega
theorem spec_packet2 (fr too ad ln tg st : Int) (l : List Int) (hl : l.length ≤ 1048576) (k : Nat) (hk : l.length + 2 < k + 1) : ∃ b, spec_IsPacket.f (k + 1) 2 fr too ad ln tg st l = some b ∧
    (b = true ↔ PkOk 2 fr too ad ln tg st (l.length : Int) (wordsOk l)) := by
  unfold spec_IsPacket.f
  rw [spec_words l hl (k + 1) (by omega), pk2]
  have hn : (l.length : Int) ≤ 1048576 ∧ 0 ≤ (l.length : Int) := by omega
  simp only [spec_IsPacket.j0, spec_IsId.f, inRange, zero_eq, Option.bind_some]
  generalize (l.length : Int) = n at *
  generalize wordsOk l = w at *
  clear hl hk
  by_cases q2 : 0 ≤ fr ∧ fr ≤ 255
  · have p2 : decide (0 ≤ fr ∧ fr ≤ 255) = true := decide_eq_true q2
    simp only [p2, ↓reduceIte, Bool.not_false, Bool.not_true, Bool.false_eq_true, Int.reduceLE, Int.reduceEq, and_false, false_and, and_true, true_and, and_self, decide_false, decide_true, decide_eq_true_eq, Int.reduceNe, bne_self_eq_false]
    cases w with
    | false => exact bad _ (by simp)
    | true =>
      simp only [↓reduceIte, Bool.not_false, Bool.not_true, Bool.false_eq_true, Int.reduceLE, Int.reduceEq, and_false, false_and, and_true, true_and, and_self, decide_false, decide_true, decide_eq_true_eq, Int.reduceNe, bne_self_eq_false]
      by_cases c0 : 1 ≤ n ∧ n ≤ 8
      · rw [if_pos (by simpa using c0)]
        by_cases c1 : ad = 0
        · rw [if_pos c1]
          by_cases c2 : st = 0
          · rw [if_pos c2]
            refine ⟨_, rfl, ?_⟩
            simp
            omega
          · rw [if_neg c2]
            refine bad _ fun h => ?_
            obtain ⟨_, _, _, h⟩ := h
            omega
        · rw [if_neg c1]
          refine bad _ fun h => ?_
          obtain ⟨_, _, _, h⟩ := h
          omega
      · rw [if_neg (by simpa using c0)]
        refine bad _ fun h => ?_
        obtain ⟨_, _, _, h⟩ := h
        omega
  · have p2 : decide (0 ≤ fr ∧ fr ≤ 255) = false := decide_eq_false q2
    simp only [p2, ↓reduceIte, Bool.not_false, Bool.not_true, Bool.false_eq_true, Int.reduceLE, Int.reduceEq, and_false, false_and, and_true, true_and, and_self, decide_false, decide_true, decide_eq_true_eq, Int.reduceNe, bne_self_eq_false]
    refine bad _ fun h => ?_
    omega
theorem spec_packet3 (fr too ad ln tg st : Int) (l : List Int) (hl : l.length ≤ 1048576) (k : Nat) (hk : l.length + 2 < k + 1) : ∃ b, spec_IsPacket.f (k + 1) 3 fr too ad ln tg st l = some b ∧
    (b = true ↔ PkOk 3 fr too ad ln tg st (l.length : Int) (wordsOk l)) := by
  unfold spec_IsPacket.f
  rw [spec_words l hl (k + 1) (by omega), pk3]
  have hn : (l.length : Int) ≤ 1048576 ∧ 0 ≤ (l.length : Int) := by omega
  simp only [spec_IsPacket.j0, spec_IsId.f, inRange, zero_eq, Option.bind_some]
  generalize (l.length : Int) = n at *
  generalize wordsOk l = w at *
  clear hl hk
  by_cases q2 : 0 ≤ fr ∧ fr ≤ 255
  · have p2 : decide (0 ≤ fr ∧ fr ≤ 255) = true := decide_eq_true q2
    simp only [p2, ↓reduceIte, Bool.not_false, Bool.not_true, Bool.false_eq_true, Int.reduceLE, Int.reduceEq, and_false, false_and, and_true, true_and, and_self, decide_false, decide_true, decide_eq_true_eq, Int.reduceNe, bne_self_eq_false]
    cases w with
    | false => exact bad _ (by simp)
    | true =>
      simp only [↓reduceIte, Bool.not_false, Bool.not_true, Bool.false_eq_true, Int.reduceLE, Int.reduceEq, and_false, false_and, and_true, true_and, and_self, decide_false, decide_true, decide_eq_true_eq, Int.reduceNe, bne_self_eq_false]
      by_cases c0 : n = 0
      · rw [if_pos c0]
        by_cases c1 : 1 ≤ ln ∧ ln ≤ 64
        · rw [if_pos (by simpa using c1)]
          rw [w64 (by omega) (by omega)]
          by_cases c3 : 0 ≤ ad ∧ ad ≤ 65536 - ln
          · rw [if_pos (by simpa using c3)]
            by_cases c4 : 0 ≤ tg ∧ tg ≤ 7
            · rw [if_pos (by simpa using c4)]
              by_cases c5 : st = 0
              · rw [if_pos c5]
                refine ⟨_, rfl, ?_⟩
                simp
                omega
              · rw [if_neg c5]
                refine bad _ fun h => ?_
                obtain ⟨_, _, _, h⟩ := h
                omega
            · rw [if_neg (by simpa using c4)]
              refine bad _ fun h => ?_
              obtain ⟨_, _, _, h⟩ := h
              omega
          · rw [if_neg (by simpa using c3)]
            refine bad _ fun h => ?_
            obtain ⟨_, _, _, h⟩ := h
            omega
        · rw [if_neg (by simpa using c1)]
          refine bad _ fun h => ?_
          obtain ⟨_, _, _, h⟩ := h
          omega
      · rw [if_neg c0]
        refine bad _ fun h => ?_
        obtain ⟨_, _, _, h⟩ := h
        omega
  · have p2 : decide (0 ≤ fr ∧ fr ≤ 255) = false := decide_eq_false q2
    simp only [p2, ↓reduceIte, Bool.not_false, Bool.not_true, Bool.false_eq_true, Int.reduceLE, Int.reduceEq, and_false, false_and, and_true, true_and, and_self, decide_false, decide_true, decide_eq_true_eq, Int.reduceNe, bne_self_eq_false]
    refine bad _ fun h => ?_
    omega
theorem spec_packet4 (fr too ad ln tg st : Int) (l : List Int) (hl : l.length ≤ 1048576) (k : Nat) (hk : l.length + 2 < k + 1) : ∃ b, spec_IsPacket.f (k + 1) 4 fr too ad ln tg st l = some b ∧
    (b = true ↔ PkOk 4 fr too ad ln tg st (l.length : Int) (wordsOk l)) := by
  unfold spec_IsPacket.f
  rw [spec_words l hl (k + 1) (by omega), pk4]
  have hn : (l.length : Int) ≤ 1048576 ∧ 0 ≤ (l.length : Int) := by omega
  simp only [spec_IsPacket.j0, spec_IsId.f, inRange, zero_eq, Option.bind_some]
  generalize (l.length : Int) = n at *
  generalize wordsOk l = w at *
  clear hl hk
  by_cases q2 : 0 ≤ fr ∧ fr ≤ 255
  · have p2 : decide (0 ≤ fr ∧ fr ≤ 255) = true := decide_eq_true q2
    simp only [p2, ↓reduceIte, Bool.not_false, Bool.not_true, Bool.false_eq_true, Int.reduceLE, Int.reduceEq, and_false, false_and, and_true, true_and, and_self, decide_false, decide_true, decide_eq_true_eq, Int.reduceNe, bne_self_eq_false]
    cases w with
    | false => exact bad _ (by simp)
    | true =>
      simp only [↓reduceIte, Bool.not_false, Bool.not_true, Bool.false_eq_true, Int.reduceLE, Int.reduceEq, and_false, false_and, and_true, true_and, and_self, decide_false, decide_true, decide_eq_true_eq, Int.reduceNe, bne_self_eq_false]
      by_cases c0 : n = 0
      · rw [if_pos c0]
        by_cases c1 : 0 ≤ ad ∧ ad ≤ 63
        · rw [if_pos (by simpa using c1)]
          by_cases c2 : 0 ≤ too ∧ too ≤ 255
          · rw [if_pos (by simpa using c2)]
            by_cases c3 : 0 ≤ tg ∧ tg ≤ 7
            · rw [if_pos (by simpa using c3)]
              by_cases c4 : st = 0
              · rw [if_pos c4]
                refine ⟨_, rfl, ?_⟩
                simp
                omega
              · rw [if_neg c4]
                refine bad _ fun h => ?_
                obtain ⟨_, _, _, h⟩ := h
                omega
            · rw [if_neg (by simpa using c3)]
              refine bad _ fun h => ?_
              obtain ⟨_, _, _, h⟩ := h
              omega
          · rw [if_neg (by simpa using c2)]
            refine bad _ fun h => ?_
            obtain ⟨_, _, _, h⟩ := h
            omega
        · rw [if_neg (by simpa using c1)]
          refine bad _ fun h => ?_
          obtain ⟨_, _, _, h⟩ := h
          omega
      · rw [if_neg c0]
        refine bad _ fun h => ?_
        obtain ⟨_, _, _, h⟩ := h
        omega
  · have p2 : decide (0 ≤ fr ∧ fr ≤ 255) = false := decide_eq_false q2
    simp only [p2, ↓reduceIte, Bool.not_false, Bool.not_true, Bool.false_eq_true, Int.reduceLE, Int.reduceEq, and_false, false_and, and_true, true_and, and_self, decide_false, decide_true, decide_eq_true_eq, Int.reduceNe, bne_self_eq_false]
    refine bad _ fun h => ?_
    omega
theorem spec_packet5 (fr too ad ln tg st : Int) (l : List Int) (hl : l.length ≤ 1048576) (k : Nat) (hk : l.length + 2 < k + 1) : ∃ b, spec_IsPacket.f (k + 1) 5 fr too ad ln tg st l = some b ∧
    (b = true ↔ PkOk 5 fr too ad ln tg st (l.length : Int) (wordsOk l)) := by
  unfold spec_IsPacket.f
  rw [spec_words l hl (k + 1) (by omega), pk5]
  have hn : (l.length : Int) ≤ 1048576 ∧ 0 ≤ (l.length : Int) := by omega
  simp only [spec_IsPacket.j0, spec_IsId.f, inRange, zero_eq, Option.bind_some]
  generalize (l.length : Int) = n at *
  generalize wordsOk l = w at *
  clear hl hk
  by_cases q2 : 0 ≤ fr ∧ fr ≤ 255
  · have p2 : decide (0 ≤ fr ∧ fr ≤ 255) = true := decide_eq_true q2
    simp only [p2, ↓reduceIte, Bool.not_false, Bool.not_true, Bool.false_eq_true, Int.reduceLE, Int.reduceEq, and_false, false_and, and_true, true_and, and_self, decide_false, decide_true, decide_eq_true_eq, Int.reduceNe, bne_self_eq_false]
    cases w with
    | false => exact bad _ (by simp)
    | true =>
      simp only [↓reduceIte, Bool.not_false, Bool.not_true, Bool.false_eq_true, Int.reduceLE, Int.reduceEq, and_false, false_and, and_true, true_and, and_self, decide_false, decide_true, decide_eq_true_eq, Int.reduceNe, bne_self_eq_false]
      by_cases c0 : n = 1
      · rw [if_pos c0]
        by_cases c1 : 0 ≤ ad ∧ ad ≤ 63
        · rw [if_pos (by simpa using c1)]
          by_cases c2 : 0 ≤ too ∧ too ≤ 255
          · rw [if_pos (by simpa using c2)]
            by_cases c3 : 0 ≤ tg ∧ tg ≤ 7
            · rw [if_pos (by simpa using c3)]
              by_cases c4 : st = 0
              · rw [if_pos c4]
                refine ⟨_, rfl, ?_⟩
                simp
                omega
              · rw [if_neg c4]
                refine bad _ fun h => ?_
                obtain ⟨_, _, _, h⟩ := h
                omega
            · rw [if_neg (by simpa using c3)]
              refine bad _ fun h => ?_
              obtain ⟨_, _, _, h⟩ := h
              omega
          · rw [if_neg (by simpa using c2)]
            refine bad _ fun h => ?_
            obtain ⟨_, _, _, h⟩ := h
            omega
        · rw [if_neg (by simpa using c1)]
          refine bad _ fun h => ?_
          obtain ⟨_, _, _, h⟩ := h
          omega
      · rw [if_neg c0]
        refine bad _ fun h => ?_
        obtain ⟨_, _, _, h⟩ := h
        omega
  · have p2 : decide (0 ≤ fr ∧ fr ≤ 255) = false := decide_eq_false q2
    simp only [p2, ↓reduceIte, Bool.not_false, Bool.not_true, Bool.false_eq_true, Int.reduceLE, Int.reduceEq, and_false, false_and, and_true, true_and, and_self, decide_false, decide_true, decide_eq_true_eq, Int.reduceNe, bne_self_eq_false]
    refine bad _ fun h => ?_
    omega
theorem spec_packet6 (fr too ad ln tg st : Int) (l : List Int) (hl : l.length ≤ 1048576) (k : Nat) (hk : l.length + 2 < k + 1) : ∃ b, spec_IsPacket.f (k + 1) 6 fr too ad ln tg st l = some b ∧
    (b = true ↔ PkOk 6 fr too ad ln tg st (l.length : Int) (wordsOk l)) := by
  unfold spec_IsPacket.f
  rw [spec_words l hl (k + 1) (by omega), pk6]
  have hn : (l.length : Int) ≤ 1048576 ∧ 0 ≤ (l.length : Int) := by omega
  simp only [spec_IsPacket.j0, spec_IsId.f, inRange, zero_eq, Option.bind_some]
  generalize (l.length : Int) = n at *
  generalize wordsOk l = w at *
  clear hl hk
  by_cases q2 : 0 ≤ fr ∧ fr ≤ 255
  · have p2 : decide (0 ≤ fr ∧ fr ≤ 255) = true := decide_eq_true q2
    simp only [p2, ↓reduceIte, Bool.not_false, Bool.not_true, Bool.false_eq_true, Int.reduceLE, Int.reduceEq, and_false, false_and, and_true, true_and, and_self, decide_false, decide_true, decide_eq_true_eq, Int.reduceNe, bne_self_eq_false]
    cases w with
    | false => exact bad _ (by simp)
    | true =>
      simp only [↓reduceIte, Bool.not_false, Bool.not_true, Bool.false_eq_true, Int.reduceLE, Int.reduceEq, and_false, false_and, and_true, true_and, and_self, decide_false, decide_true, decide_eq_true_eq, Int.reduceNe, bne_self_eq_false]
      by_cases c0 : ad = 0
      · rw [if_pos c0]
        by_cases c1 : 0 ≤ too ∧ too ≤ 255
        · rw [if_pos (by simpa using c1)]
          by_cases c2 : 0 ≤ tg ∧ tg ≤ 7
          · rw [if_pos (by simpa using c2)]
            by_cases c3 : 0 ≤ st ∧ st ≤ 2
            · rw [if_pos (by simpa using c3)]
              by_cases c4 : 0 ≤ ln ∧ ln ≤ 64
              · rw [if_pos (by simpa using c4)]
                by_cases c7 : n = 0
                · rw [if_pos c7]
                  refine ⟨_, rfl, ?_⟩
                  simp
                  omega
                · by_cases c8 : st = 0
                  · rw [if_neg c7, if_pos c8]
                    refine ⟨_, rfl, ?_⟩
                    have hm : n ≤ mn 8 ln ↔ n ≤ 8 ∧ n ≤ ln := by
                      unfold mn
                      split <;> omega
                    rw [decide_eq_true_iff, hm]
                    omega
                  · rw [if_neg c7, if_neg c8]
                    refine bad _ fun h => ?_
                    obtain ⟨_, _, _, h⟩ := h
                    omega
              · rw [if_neg (by simpa using c4)]
                refine bad _ fun h => ?_
                obtain ⟨_, _, _, h⟩ := h
                omega
            · rw [if_neg (by simpa using c3)]
              refine bad _ fun h => ?_
              obtain ⟨_, _, _, h⟩ := h
              omega
          · rw [if_neg (by simpa using c2)]
            refine bad _ fun h => ?_
            obtain ⟨_, _, _, h⟩ := h
            omega
        · rw [if_neg (by simpa using c1)]
          refine bad _ fun h => ?_
          obtain ⟨_, _, _, h⟩ := h
          omega
      · rw [if_neg c0]
        refine bad _ fun h => ?_
        obtain ⟨_, _, _, h⟩ := h
        omega
  · have p2 : decide (0 ≤ fr ∧ fr ≤ 255) = false := decide_eq_false q2
    simp only [p2, ↓reduceIte, Bool.not_false, Bool.not_true, Bool.false_eq_true, Int.reduceLE, Int.reduceEq, and_false, false_and, and_true, true_and, and_self, decide_false, decide_true, decide_eq_true_eq, Int.reduceNe, bne_self_eq_false]
    refine bad _ fun h => ?_
    omega
theorem spec_packet (kd fr too ad ln tg st : Int) (l : List Int) (hl : l.length ≤ 1048576) (k : Nat) (hk : l.length + 2 < k) : ∃ b, spec_IsPacket.f k kd fr too ad ln tg st l = some b ∧
    (b = true ↔ PkOk kd fr too ad ln tg st (l.length : Int) (wordsOk l)) := by
  obtain ⟨k, rfl⟩ : ∃ m, k = m + 1 := ⟨k - 1, by omega⟩
  by_cases q : 1 ≤ kd ∧ kd ≤ 6
  · have : kd = 1 ∨ kd = 2 ∨ kd = 3 ∨ kd = 4 ∨ kd = 5 ∨ kd = 6 := by omega
    rcases this with rfl | rfl | rfl | rfl | rfl | rfl
    · exact spec_packet1 fr too ad ln tg st l hl k hk
    · exact spec_packet2 fr too ad ln tg st l hl k hk
    · exact spec_packet3 fr too ad ln tg st l hl k hk
    · exact spec_packet4 fr too ad ln tg st l hl k hk
    · exact spec_packet5 fr too ad ln tg st l hl k hk
    · exact spec_packet6 fr too ad ln tg st l hl k hk
  · unfold spec_IsPacket.f
    rw [spec_words l hl (k + 1) (by omega)]
    simp only [spec_IsPacket.j0, spec_IsId.f, inRange, zero_eq, Option.bind_some]
    have hb := pk_none kd fr too ad ln tg st (l.length : Int) (wordsOk l) q
    rw [if_neg (show ¬ kd = 1 by omega), if_neg (show ¬ kd = 2 by omega), if_neg (show ¬ kd = 3 by omega), if_neg (show ¬ kd = 4 by omega), if_neg (show ¬ kd = 5 by omega), if_neg (show ¬ kd = 6 by omega)]
    generalize wordsOk l = w at *
    have hb' := bad _ hb
    by_cases q2 : 0 ≤ fr ∧ fr ≤ 255 <;> cases w <;> simpa [q2] using hb
theorem impl_words (l : List Int) : slices_ContainsFunc_int_int.f l 101 = some (!wordsOk l) := by
  unfold slices_ContainsFunc_int_int.f wordsOk
  rw [if_pos (Or.inr rfl)]
  have e : (slices_ContainsFunc_int_int.p 101) = fun x => !(decide (0 ≤ x) && decide (x ≤ 65535)) := by
    funext y
    simp [slices_ContainsFunc_int_int.p]
  rw [e]
  congr 1
  induction l with
  | nil => rfl
  | cons x t ih => rw [List.any_cons, List.all_cons, ih]; cases (decide (0 ≤ x) && decide (x ≤ 65535)) <;> rfl
theorem data_ok (kd fr too ad ln tg st : Int) (l : List Int) (k : Nat) : ∃ b, impl_Packet_dataOk.f (k + 1) kd fr too ad ln tg st l = some b ∧
    (b = true ↔ wordsOk l = true ∧ ((kd = 1 ∨ kd = 2) → 1 ≤ (l.length : Int) ∧ (l.length : Int) ≤ 8) ∧ (kd = 5 → (l.length : Int) = 1) ∧ ((kd = 6 ∧ st = 0) → (l.length : Int) ≤ 8 ∧ (l.length : Int) ≤ ln) ∧ (¬ kd = 1 → ¬ kd = 2 → ¬ kd = 5 → ¬ (kd = 6 ∧ st = 0) → (l.length : Int) = 0)) := by
  unfold impl_Packet_dataOk.f
  rw [impl_words]
  generalize (l.length : Int) = n
  cases wordsOk l with
  | false => exact ⟨false, rfl, by simp⟩
  | true =>
    simp only [impl_Packet_dataOk.j0, within, Option.bind_some, Bool.not_true]
    rw [if_neg (by decide)]
    by_cases h1 : kd = 1
    · subst h1
      refine ⟨decide (1 ≤ n ∧ n ≤ 8), by simp, by simp⟩
    · by_cases h2 : kd = 2
      · subst h2
        refine ⟨decide (1 ≤ n ∧ n ≤ 8), by simp, by simp⟩
      · rw [if_neg h1, if_neg (by simpa using h2)]
        by_cases h5 : kd = 5
        · subst h5
          exact ⟨_, by rw [if_pos rfl], by simp⟩
        · by_cases h6 : kd = 6
          · subst h6
            by_cases hs : st = 0
            · by_cases hn : n ≤ 8
              · exact ⟨_, by rw [if_neg h5, if_pos rfl, if_pos hs, if_pos hn], by simp [hs, hn]⟩
              · exact ⟨_, by rw [if_neg h5, if_pos rfl, if_pos hs, if_neg hn], by simp [hs]; omega⟩
            · exact ⟨_, by rw [if_neg h5, if_pos rfl, if_neg hs], by simp [hs]⟩
          · exact ⟨_, by rw [if_neg h5, if_neg h6], by simp [h1, h2, h5, h6]⟩
theorem addr_ok (kd fr too ad ln tg st : Int) (l : List Int) (hl : l.length ≤ 1048576) (hn : -9223372036854775808 ≤ ln ∧ ln ≤ 9223372036854775807) (k : Nat) : ∃ b, impl_Packet_addressOk.f (k + 1) kd fr too ad ln tg st l = some b ∧
    (b = true ↔ ((kd = 1 → 0 ≤ ad ∧ ad ≤ 65535 ∧ (l.length : Int) ≤ 65536 - ad) ∧ (kd = 3 → 0 ≤ ad ∧ ad ≤ 65535 ∧ ln ≤ 65536 - ad) ∧ ((kd = 4 ∨ kd = 5) → 0 ≤ ad ∧ ad ≤ 63) ∧ (¬ kd = 1 → ¬ kd = 3 → ¬ kd = 4 → ¬ kd = 5 → ad = 0))) := by
  unfold impl_Packet_addressOk.f
  simp only [impl_Packet_addressOk.j0, impl_Packet_words.f, within, Option.bind_some]
  generalize (l.length : Int) = n
  by_cases h1 : kd = 1
  · subst h1
    by_cases ha : 0 ≤ ad ∧ ad ≤ 65535
    · rw [if_pos rfl, if_pos (by decide), if_pos (by simpa using ha), if_neg (by decide), w64 (by omega) (by omega)]
      exact ⟨_, rfl, by simp; omega⟩
    · rw [if_pos rfl, if_pos (by decide), if_neg (by simpa using ha)]
      exact ⟨_, rfl, by simp; omega⟩
  · rw [if_neg h1]
    by_cases h3 : kd = 3
    · subst h3
      by_cases ha : 0 ≤ ad ∧ ad ≤ 65535
      · rw [if_pos (by decide), if_pos (by simpa using ha), if_pos rfl, w64 (by omega) (by omega)]
        exact ⟨_, rfl, by simp; omega⟩
      · rw [if_pos (by decide), if_neg (by simpa using ha)]
        exact ⟨_, rfl, by simp; omega⟩
    · rw [if_neg (by simpa using h3)]
      by_cases h4 : kd = 4
      · rw [if_pos h4]
        exact ⟨_, rfl, by simp [h4]⟩
      · by_cases h5 : kd = 5
        · rw [if_neg h4, if_pos h5]
          exact ⟨_, rfl, by simp [h5]⟩
        · rw [if_neg h4, if_neg h5]
          exact ⟨_, rfl, by simp [h1, h3, h4, h5]⟩
theorem len_ok (kd fr too ad ln tg st : Int) (l : List Int) : ∃ b, impl_Packet_lengthOk.f kd fr too ad ln tg st l = some b ∧
    (b = true ↔ ((kd = 3 → 1 ≤ ln ∧ ln ≤ 64) ∧ (kd = 6 → 0 ≤ ln ∧ ln ≤ 64) ∧ (¬ kd = 3 → ¬ kd = 6 → ln = 0))) := by
  unfold impl_Packet_lengthOk.f
  simp only [within, Option.bind_some]
  by_cases h3 : kd = 3
  · rw [if_pos h3]
    exact ⟨_, rfl, by simp [h3]⟩
  · by_cases h6 : kd = 6
    · rw [if_neg h3, if_pos h6]
      exact ⟨_, rfl, by simp [h6]⟩
    · rw [if_neg h3, if_neg h6]
      exact ⟨_, rfl, by simp [h3, h6]⟩
theorem j2_ok (kd fr too ad ln tg st : Int) (l : List Int) (k : Nat) (x : Bool) : ∃ b, impl_IsPacket.j2 (k + 1 + 1) x kd fr too ad ln tg st l = some b ∧
    (b = true ↔ x = false ∧ ((kd = 6 → 0 ≤ st ∧ st ≤ 2) ∧ (¬ kd = 6 → st = 0)) ∧ wordsOk l = true ∧ ((kd = 1 ∨ kd = 2) → 1 ≤ (l.length : Int) ∧ (l.length : Int) ≤ 8) ∧ (kd = 5 → (l.length : Int) = 1) ∧ ((kd = 6 ∧ st = 0) → (l.length : Int) ≤ 8 ∧ (l.length : Int) ≤ ln) ∧ (¬ kd = 1 → ¬ kd = 2 → ¬ kd = 5 → ¬ (kd = 6 ∧ st = 0) → (l.length : Int) = 0)) := by
  obtain ⟨b, h1, h2⟩ := data_ok kd fr too ad ln tg st l k
  rw [impl_IsPacket.j2]
  cases x with
  | true => exact ⟨false, rfl, by simp⟩
  | false =>
    rw [if_neg (by decide), h1]
    simp only [within, Option.bind_some]
    by_cases h6 : kd = 6
    · by_cases hs : 0 ≤ st ∧ st ≤ 2
      · exact ⟨b, by rw [if_pos h6, if_pos (by simpa using hs)], by rw [h2]; simp [h6, hs]⟩
      · exact ⟨false, by rw [if_pos h6, if_neg (by simpa using hs)], by simp [h6]; omega⟩
    · by_cases hs : st = 0
      · exact ⟨b, by rw [if_neg h6, if_pos hs], by rw [h2]; simp [h6, hs]⟩
      · exact ⟨false, by rw [if_neg h6, if_neg hs], by simp [h6, hs]⟩
theorem impl_packet1 (fr too ad ln tg st : Int) (l : List Int) (hl : l.length ≤ 1048576) (hn : -9223372036854775808 ≤ ln ∧ ln ≤ 9223372036854775807) (k : Nat) : ∃ b, impl_IsPacket.f (k + 1 + 1 + 1 + 1) 1 fr too ad ln tg st l = some b ∧
    (b = true ↔ PkOk 1 fr too ad ln tg st (l.length : Int) (wordsOk l)) := by
  obtain ⟨b1, a1, a2⟩ := addr_ok 1 fr too ad ln tg st l hl hn (k + 1 + 1 + 1)
  obtain ⟨b2, c1, c2⟩ := len_ok 1 fr too ad ln tg st l
  have hj := fun x => j2_ok 1 fr too ad ln tg st l k x
  have hn0 : 0 ≤ (l.length : Int) := by omega
  unfold impl_IsPacket.f
  rw [a1, c1, pk1]
  simp only [impl_IsPacket.j0, impl_IsPacket.j1, impl_IsId.f, within, Option.bind_some]
  clear a1 c1 hl hn
  generalize (l.length : Int) = n at *
  generalize wordsOk l = w at *
  have a3 : b1 = true ↔ 0 ≤ ad ∧ ad ≤ 65535 ∧ n ≤ 65536 - ad := by rw [a2]; simp
  have c3 : b2 = true ↔ ln = 0 := by rw [c2]; simp
  have hj2 : ∀ x, ∃ b, impl_IsPacket.j2 (k + 1 + 1) x 1 fr too ad ln tg st l = some b ∧ (b = true ↔ x = false ∧ (st = 0) ∧ w = true ∧ 1 ≤ n ∧ n ≤ 8) := by
    intro x
    obtain ⟨b, e1, e2⟩ := hj x
    refine ⟨b, e1, ?_⟩
    rw [e2]
    simp
  clear a2 c2 hj
  by_cases q2 : 0 ≤ fr ∧ fr ≤ 255
  · have p2 : decide (0 ≤ fr ∧ fr ≤ 255) = true := decide_eq_true q2
    cases b1 with
    | false =>
      simp only [p2, ↓reduceIte, Bool.not_false, Bool.not_true, Bool.false_eq_true, Int.reduceLE, Int.reduceEq, and_false, false_and, and_true, true_and, and_self, decide_false, decide_true, decide_eq_true_eq, Int.reduceNe, bne_self_eq_false]
      refine bad _ fun h => absurd (a3.mpr ?_) (by decide)
      obtain ⟨_, _, _, h⟩ := h
      omega
    | true =>
      have a4 := a3.mp rfl
      cases b2 with
      | false =>
        simp only [p2, ↓reduceIte, Bool.not_false, Bool.not_true, Bool.false_eq_true, Int.reduceLE, Int.reduceEq, and_false, false_and, and_true, true_and, and_self, decide_false, decide_true, decide_eq_true_eq, Int.reduceNe, bne_self_eq_false]
        refine bad _ fun h => absurd (c3.mpr ?_) (by decide)
        obtain ⟨_, _, _, h⟩ := h
        omega
      | true =>
        have c4 := c3.mp rfl
        clear a3 c3
        by_cases q4 : too = 0
        · have p4 : (too != 0) = false := by simpa using q4
          by_cases q5 : tg = 0
          · have p5 : (tg != 0) = false := by simpa using q5
            simp only [p2, p4, p5, ↓reduceIte, Bool.not_false, Bool.not_true, Bool.false_eq_true, Int.reduceLE, Int.reduceEq, and_false, false_and, and_true, true_and, and_self, decide_false, decide_true, decide_eq_true_eq, Int.reduceNe, bne_self_eq_false]
            refine ends _ _ _ (hj2 false) ?_
            clear hj2
            constructor
            · intro h
              obtain ⟨h0, h1, h2, h3⟩ := h
              exact ⟨q2.1, q2.2, h2, by omega⟩
            · intro h
              obtain ⟨_, _, h2, h3⟩ := h
              exact ⟨rfl, by omega, h2, by omega⟩
          · have p5 : (tg != 0) = true := by simpa using q5
            simp only [p2, p4, p5, ↓reduceIte, Bool.not_false, Bool.not_true, Bool.false_eq_true, Int.reduceLE, Int.reduceEq, and_false, false_and, and_true, true_and, and_self, decide_false, decide_true, decide_eq_true_eq, Int.reduceNe, bne_self_eq_false]
            refine ends _ _ _ (hj2 true) ?_
            clear hj2
            constructor
            · intro h
              obtain ⟨h0, h1, h2, h3⟩ := h
              cases h0
            · intro h
              obtain ⟨_, _, h2, h3⟩ := h
              exfalso; omega
        · have p4 : (too != 0) = true := by simpa using q4
          simp only [p2, p4, ↓reduceIte, Bool.not_false, Bool.not_true, Bool.false_eq_true, Int.reduceLE, Int.reduceEq, and_false, false_and, and_true, true_and, and_self, decide_false, decide_true, decide_eq_true_eq, Int.reduceNe, bne_self_eq_false]
          refine bad _ fun h => ?_
          obtain ⟨_, _, _, h⟩ := h
          omega
  · have p2 : decide (0 ≤ fr ∧ fr ≤ 255) = false := decide_eq_false q2
    simp only [p2, ↓reduceIte, Bool.not_false, Bool.not_true, Bool.false_eq_true, Int.reduceLE, Int.reduceEq, and_false, false_and, and_true, true_and, and_self, decide_false, decide_true, decide_eq_true_eq, Int.reduceNe, bne_self_eq_false]
    refine bad _ fun h => ?_
    omega
theorem impl_packet2 (fr too ad ln tg st : Int) (l : List Int) (hl : l.length ≤ 1048576) (hn : -9223372036854775808 ≤ ln ∧ ln ≤ 9223372036854775807) (k : Nat) : ∃ b, impl_IsPacket.f (k + 1 + 1 + 1 + 1) 2 fr too ad ln tg st l = some b ∧
    (b = true ↔ PkOk 2 fr too ad ln tg st (l.length : Int) (wordsOk l)) := by
  obtain ⟨b1, a1, a2⟩ := addr_ok 2 fr too ad ln tg st l hl hn (k + 1 + 1 + 1)
  obtain ⟨b2, c1, c2⟩ := len_ok 2 fr too ad ln tg st l
  have hj := fun x => j2_ok 2 fr too ad ln tg st l k x
  have hn0 : 0 ≤ (l.length : Int) := by omega
  unfold impl_IsPacket.f
  rw [a1, c1, pk2]
  simp only [impl_IsPacket.j0, impl_IsPacket.j1, impl_IsId.f, within, Option.bind_some]
  clear a1 c1 hl hn
  generalize (l.length : Int) = n at *
  generalize wordsOk l = w at *
  have a3 : b1 = true ↔ ad = 0 := by rw [a2]; simp
  have c3 : b2 = true ↔ ln = 0 := by rw [c2]; simp
  have hj2 : ∀ x, ∃ b, impl_IsPacket.j2 (k + 1 + 1) x 2 fr too ad ln tg st l = some b ∧ (b = true ↔ x = false ∧ (st = 0) ∧ w = true ∧ 1 ≤ n ∧ n ≤ 8) := by
    intro x
    obtain ⟨b, e1, e2⟩ := hj x
    refine ⟨b, e1, ?_⟩
    rw [e2]
    simp
  clear a2 c2 hj
  by_cases q2 : 0 ≤ fr ∧ fr ≤ 255
  · have p2 : decide (0 ≤ fr ∧ fr ≤ 255) = true := decide_eq_true q2
    cases b1 with
    | false =>
      simp only [p2, ↓reduceIte, Bool.not_false, Bool.not_true, Bool.false_eq_true, Int.reduceLE, Int.reduceEq, and_false, false_and, and_true, true_and, and_self, decide_false, decide_true, decide_eq_true_eq, Int.reduceNe, bne_self_eq_false]
      refine bad _ fun h => absurd (a3.mpr ?_) (by decide)
      obtain ⟨_, _, _, h⟩ := h
      omega
    | true =>
      have a4 := a3.mp rfl
      cases b2 with
      | false =>
        simp only [p2, ↓reduceIte, Bool.not_false, Bool.not_true, Bool.false_eq_true, Int.reduceLE, Int.reduceEq, and_false, false_and, and_true, true_and, and_self, decide_false, decide_true, decide_eq_true_eq, Int.reduceNe, bne_self_eq_false]
        refine bad _ fun h => absurd (c3.mpr ?_) (by decide)
        obtain ⟨_, _, _, h⟩ := h
        omega
      | true =>
        have c4 := c3.mp rfl
        clear a3 c3
        by_cases q4 : too = 0
        · have p4 : (too != 0) = false := by simpa using q4
          by_cases q5 : tg = 0
          · have p5 : (tg != 0) = false := by simpa using q5
            simp only [p2, p4, p5, ↓reduceIte, Bool.not_false, Bool.not_true, Bool.false_eq_true, Int.reduceLE, Int.reduceEq, and_false, false_and, and_true, true_and, and_self, decide_false, decide_true, decide_eq_true_eq, Int.reduceNe, bne_self_eq_false]
            refine ends _ _ _ (hj2 false) ?_
            clear hj2
            constructor
            · intro h
              obtain ⟨h0, h1, h2, h3⟩ := h
              exact ⟨q2.1, q2.2, h2, by omega⟩
            · intro h
              obtain ⟨_, _, h2, h3⟩ := h
              exact ⟨rfl, by omega, h2, by omega⟩
          · have p5 : (tg != 0) = true := by simpa using q5
            simp only [p2, p4, p5, ↓reduceIte, Bool.not_false, Bool.not_true, Bool.false_eq_true, Int.reduceLE, Int.reduceEq, and_false, false_and, and_true, true_and, and_self, decide_false, decide_true, decide_eq_true_eq, Int.reduceNe, bne_self_eq_false]
            refine ends _ _ _ (hj2 true) ?_
            clear hj2
            constructor
            · intro h
              obtain ⟨h0, h1, h2, h3⟩ := h
              cases h0
            · intro h
              obtain ⟨_, _, h2, h3⟩ := h
              exfalso; omega
        · have p4 : (too != 0) = true := by simpa using q4
          simp only [p2, p4, ↓reduceIte, Bool.not_false, Bool.not_true, Bool.false_eq_true, Int.reduceLE, Int.reduceEq, and_false, false_and, and_true, true_and, and_self, decide_false, decide_true, decide_eq_true_eq, Int.reduceNe, bne_self_eq_false]
          refine bad _ fun h => ?_
          obtain ⟨_, _, _, h⟩ := h
          omega
  · have p2 : decide (0 ≤ fr ∧ fr ≤ 255) = false := decide_eq_false q2
    simp only [p2, ↓reduceIte, Bool.not_false, Bool.not_true, Bool.false_eq_true, Int.reduceLE, Int.reduceEq, and_false, false_and, and_true, true_and, and_self, decide_false, decide_true, decide_eq_true_eq, Int.reduceNe, bne_self_eq_false]
    refine bad _ fun h => ?_
    omega
theorem impl_packet3 (fr too ad ln tg st : Int) (l : List Int) (hl : l.length ≤ 1048576) (hn : -9223372036854775808 ≤ ln ∧ ln ≤ 9223372036854775807) (k : Nat) : ∃ b, impl_IsPacket.f (k + 1 + 1 + 1 + 1) 3 fr too ad ln tg st l = some b ∧
    (b = true ↔ PkOk 3 fr too ad ln tg st (l.length : Int) (wordsOk l)) := by
  obtain ⟨b1, a1, a2⟩ := addr_ok 3 fr too ad ln tg st l hl hn (k + 1 + 1 + 1)
  obtain ⟨b2, c1, c2⟩ := len_ok 3 fr too ad ln tg st l
  have hj := fun x => j2_ok 3 fr too ad ln tg st l k x
  have hn0 : 0 ≤ (l.length : Int) := by omega
  unfold impl_IsPacket.f
  rw [a1, c1, pk3]
  simp only [impl_IsPacket.j0, impl_IsPacket.j1, impl_IsId.f, within, Option.bind_some]
  clear a1 c1 hl hn
  generalize (l.length : Int) = n at *
  generalize wordsOk l = w at *
  have a3 : b1 = true ↔ 0 ≤ ad ∧ ad ≤ 65535 ∧ ln ≤ 65536 - ad := by rw [a2]; simp
  have c3 : b2 = true ↔ 1 ≤ ln ∧ ln ≤ 64 := by rw [c2]; simp
  have hj2 : ∀ x, ∃ b, impl_IsPacket.j2 (k + 1 + 1) x 3 fr too ad ln tg st l = some b ∧ (b = true ↔ x = false ∧ (st = 0) ∧ w = true ∧ n = 0) := by
    intro x
    obtain ⟨b, e1, e2⟩ := hj x
    refine ⟨b, e1, ?_⟩
    rw [e2]
    simp
  clear a2 c2 hj
  by_cases q2 : 0 ≤ fr ∧ fr ≤ 255
  · have p2 : decide (0 ≤ fr ∧ fr ≤ 255) = true := decide_eq_true q2
    cases b1 with
    | false =>
      simp only [p2, ↓reduceIte, Bool.not_false, Bool.not_true, Bool.false_eq_true, Int.reduceLE, Int.reduceEq, and_false, false_and, and_true, true_and, and_self, decide_false, decide_true, decide_eq_true_eq, Int.reduceNe, bne_self_eq_false]
      refine bad _ fun h => absurd (a3.mpr ?_) (by decide)
      obtain ⟨_, _, _, h⟩ := h
      omega
    | true =>
      have a4 := a3.mp rfl
      cases b2 with
      | false =>
        simp only [p2, ↓reduceIte, Bool.not_false, Bool.not_true, Bool.false_eq_true, Int.reduceLE, Int.reduceEq, and_false, false_and, and_true, true_and, and_self, decide_false, decide_true, decide_eq_true_eq, Int.reduceNe, bne_self_eq_false]
        refine bad _ fun h => absurd (c3.mpr ?_) (by decide)
        obtain ⟨_, _, _, h⟩ := h
        omega
      | true =>
        have c4 := c3.mp rfl
        clear a3 c3
        by_cases q4 : too = 0
        · have p4 : (too != 0) = false := by simpa using q4
          by_cases q5 : 0 ≤ tg ∧ tg ≤ 7
          · have p5 : decide (0 ≤ tg ∧ tg ≤ 7) = true := by simpa using q5
            simp only [p2, p4, p5, ↓reduceIte, Bool.not_false, Bool.not_true, Bool.false_eq_true, Int.reduceLE, Int.reduceEq, and_false, false_and, and_true, true_and, and_self, decide_false, decide_true, decide_eq_true_eq, Int.reduceNe, bne_self_eq_false]
            refine ends _ _ _ (hj2 false) ?_
            clear hj2
            constructor
            · intro h
              obtain ⟨h0, h1, h2, h3⟩ := h
              exact ⟨q2.1, q2.2, h2, by omega⟩
            · intro h
              obtain ⟨_, _, h2, h3⟩ := h
              exact ⟨rfl, by omega, h2, by omega⟩
          · have p5 : decide (0 ≤ tg ∧ tg ≤ 7) = false := by simpa using q5
            simp only [p2, p4, p5, ↓reduceIte, Bool.not_false, Bool.not_true, Bool.false_eq_true, Int.reduceLE, Int.reduceEq, and_false, false_and, and_true, true_and, and_self, decide_false, decide_true, decide_eq_true_eq, Int.reduceNe, bne_self_eq_false]
            refine ends _ _ _ (hj2 true) ?_
            clear hj2
            constructor
            · intro h
              obtain ⟨h0, h1, h2, h3⟩ := h
              cases h0
            · intro h
              obtain ⟨_, _, h2, h3⟩ := h
              exfalso; omega
        · have p4 : (too != 0) = true := by simpa using q4
          simp only [p2, p4, ↓reduceIte, Bool.not_false, Bool.not_true, Bool.false_eq_true, Int.reduceLE, Int.reduceEq, and_false, false_and, and_true, true_and, and_self, decide_false, decide_true, decide_eq_true_eq, Int.reduceNe, bne_self_eq_false]
          refine bad _ fun h => ?_
          obtain ⟨_, _, _, h⟩ := h
          omega
  · have p2 : decide (0 ≤ fr ∧ fr ≤ 255) = false := decide_eq_false q2
    simp only [p2, ↓reduceIte, Bool.not_false, Bool.not_true, Bool.false_eq_true, Int.reduceLE, Int.reduceEq, and_false, false_and, and_true, true_and, and_self, decide_false, decide_true, decide_eq_true_eq, Int.reduceNe, bne_self_eq_false]
    refine bad _ fun h => ?_
    omega
theorem impl_packet4 (fr too ad ln tg st : Int) (l : List Int) (hl : l.length ≤ 1048576) (hn : -9223372036854775808 ≤ ln ∧ ln ≤ 9223372036854775807) (k : Nat) : ∃ b, impl_IsPacket.f (k + 1 + 1 + 1 + 1) 4 fr too ad ln tg st l = some b ∧
    (b = true ↔ PkOk 4 fr too ad ln tg st (l.length : Int) (wordsOk l)) := by
  obtain ⟨b1, a1, a2⟩ := addr_ok 4 fr too ad ln tg st l hl hn (k + 1 + 1 + 1)
  obtain ⟨b2, c1, c2⟩ := len_ok 4 fr too ad ln tg st l
  have hj := fun x => j2_ok 4 fr too ad ln tg st l k x
  have hn0 : 0 ≤ (l.length : Int) := by omega
  unfold impl_IsPacket.f
  rw [a1, c1, pk4]
  simp only [impl_IsPacket.j0, impl_IsPacket.j1, impl_IsId.f, within, Option.bind_some]
  clear a1 c1 hl hn
  generalize (l.length : Int) = n at *
  generalize wordsOk l = w at *
  have a3 : b1 = true ↔ 0 ≤ ad ∧ ad ≤ 63 := by rw [a2]; simp
  have c3 : b2 = true ↔ ln = 0 := by rw [c2]; simp
  have hj2 : ∀ x, ∃ b, impl_IsPacket.j2 (k + 1 + 1) x 4 fr too ad ln tg st l = some b ∧ (b = true ↔ x = false ∧ (st = 0) ∧ w = true ∧ n = 0) := by
    intro x
    obtain ⟨b, e1, e2⟩ := hj x
    refine ⟨b, e1, ?_⟩
    rw [e2]
    simp
  clear a2 c2 hj
  by_cases q2 : 0 ≤ fr ∧ fr ≤ 255
  · have p2 : decide (0 ≤ fr ∧ fr ≤ 255) = true := decide_eq_true q2
    cases b1 with
    | false =>
      simp only [p2, ↓reduceIte, Bool.not_false, Bool.not_true, Bool.false_eq_true, Int.reduceLE, Int.reduceEq, and_false, false_and, and_true, true_and, and_self, decide_false, decide_true, decide_eq_true_eq, Int.reduceNe, bne_self_eq_false]
      refine bad _ fun h => absurd (a3.mpr ?_) (by decide)
      obtain ⟨_, _, _, h⟩ := h
      omega
    | true =>
      have a4 := a3.mp rfl
      cases b2 with
      | false =>
        simp only [p2, ↓reduceIte, Bool.not_false, Bool.not_true, Bool.false_eq_true, Int.reduceLE, Int.reduceEq, and_false, false_and, and_true, true_and, and_self, decide_false, decide_true, decide_eq_true_eq, Int.reduceNe, bne_self_eq_false]
        refine bad _ fun h => absurd (c3.mpr ?_) (by decide)
        obtain ⟨_, _, _, h⟩ := h
        omega
      | true =>
        have c4 := c3.mp rfl
        clear a3 c3
        by_cases q4 : 0 ≤ too ∧ too ≤ 255
        · have p4 : decide (0 ≤ too ∧ too ≤ 255) = true := by simpa using q4
          by_cases q5 : 0 ≤ tg ∧ tg ≤ 7
          · have p5 : decide (0 ≤ tg ∧ tg ≤ 7) = true := by simpa using q5
            simp only [p2, p4, p5, ↓reduceIte, Bool.not_false, Bool.not_true, Bool.false_eq_true, Int.reduceLE, Int.reduceEq, and_false, false_and, and_true, true_and, and_self, decide_false, decide_true, decide_eq_true_eq, Int.reduceNe, bne_self_eq_false]
            refine ends _ _ _ (hj2 false) ?_
            clear hj2
            constructor
            · intro h
              obtain ⟨h0, h1, h2, h3⟩ := h
              exact ⟨q2.1, q2.2, h2, by omega⟩
            · intro h
              obtain ⟨_, _, h2, h3⟩ := h
              exact ⟨rfl, by omega, h2, by omega⟩
          · have p5 : decide (0 ≤ tg ∧ tg ≤ 7) = false := by simpa using q5
            simp only [p2, p4, p5, ↓reduceIte, Bool.not_false, Bool.not_true, Bool.false_eq_true, Int.reduceLE, Int.reduceEq, and_false, false_and, and_true, true_and, and_self, decide_false, decide_true, decide_eq_true_eq, Int.reduceNe, bne_self_eq_false]
            refine ends _ _ _ (hj2 true) ?_
            clear hj2
            constructor
            · intro h
              obtain ⟨h0, h1, h2, h3⟩ := h
              cases h0
            · intro h
              obtain ⟨_, _, h2, h3⟩ := h
              exfalso; omega
        · have p4 : decide (0 ≤ too ∧ too ≤ 255) = false := by simpa using q4
          simp only [p2, p4, ↓reduceIte, Bool.not_false, Bool.not_true, Bool.false_eq_true, Int.reduceLE, Int.reduceEq, and_false, false_and, and_true, true_and, and_self, decide_false, decide_true, decide_eq_true_eq, Int.reduceNe, bne_self_eq_false]
          refine bad _ fun h => ?_
          obtain ⟨_, _, _, h⟩ := h
          omega
  · have p2 : decide (0 ≤ fr ∧ fr ≤ 255) = false := decide_eq_false q2
    simp only [p2, ↓reduceIte, Bool.not_false, Bool.not_true, Bool.false_eq_true, Int.reduceLE, Int.reduceEq, and_false, false_and, and_true, true_and, and_self, decide_false, decide_true, decide_eq_true_eq, Int.reduceNe, bne_self_eq_false]
    refine bad _ fun h => ?_
    omega
theorem impl_packet5 (fr too ad ln tg st : Int) (l : List Int) (hl : l.length ≤ 1048576) (hn : -9223372036854775808 ≤ ln ∧ ln ≤ 9223372036854775807) (k : Nat) : ∃ b, impl_IsPacket.f (k + 1 + 1 + 1 + 1) 5 fr too ad ln tg st l = some b ∧
    (b = true ↔ PkOk 5 fr too ad ln tg st (l.length : Int) (wordsOk l)) := by
  obtain ⟨b1, a1, a2⟩ := addr_ok 5 fr too ad ln tg st l hl hn (k + 1 + 1 + 1)
  obtain ⟨b2, c1, c2⟩ := len_ok 5 fr too ad ln tg st l
  have hj := fun x => j2_ok 5 fr too ad ln tg st l k x
  have hn0 : 0 ≤ (l.length : Int) := by omega
  unfold impl_IsPacket.f
  rw [a1, c1, pk5]
  simp only [impl_IsPacket.j0, impl_IsPacket.j1, impl_IsId.f, within, Option.bind_some]
  clear a1 c1 hl hn
  generalize (l.length : Int) = n at *
  generalize wordsOk l = w at *
  have a3 : b1 = true ↔ 0 ≤ ad ∧ ad ≤ 63 := by rw [a2]; simp
  have c3 : b2 = true ↔ ln = 0 := by rw [c2]; simp
  have hj2 : ∀ x, ∃ b, impl_IsPacket.j2 (k + 1 + 1) x 5 fr too ad ln tg st l = some b ∧ (b = true ↔ x = false ∧ (st = 0) ∧ w = true ∧ n = 1) := by
    intro x
    obtain ⟨b, e1, e2⟩ := hj x
    refine ⟨b, e1, ?_⟩
    rw [e2]
    simp
  clear a2 c2 hj
  by_cases q2 : 0 ≤ fr ∧ fr ≤ 255
  · have p2 : decide (0 ≤ fr ∧ fr ≤ 255) = true := decide_eq_true q2
    cases b1 with
    | false =>
      simp only [p2, ↓reduceIte, Bool.not_false, Bool.not_true, Bool.false_eq_true, Int.reduceLE, Int.reduceEq, and_false, false_and, and_true, true_and, and_self, decide_false, decide_true, decide_eq_true_eq, Int.reduceNe, bne_self_eq_false]
      refine bad _ fun h => absurd (a3.mpr ?_) (by decide)
      obtain ⟨_, _, _, h⟩ := h
      omega
    | true =>
      have a4 := a3.mp rfl
      cases b2 with
      | false =>
        simp only [p2, ↓reduceIte, Bool.not_false, Bool.not_true, Bool.false_eq_true, Int.reduceLE, Int.reduceEq, and_false, false_and, and_true, true_and, and_self, decide_false, decide_true, decide_eq_true_eq, Int.reduceNe, bne_self_eq_false]
        refine bad _ fun h => absurd (c3.mpr ?_) (by decide)
        obtain ⟨_, _, _, h⟩ := h
        omega
      | true =>
        have c4 := c3.mp rfl
        clear a3 c3
        by_cases q4 : 0 ≤ too ∧ too ≤ 255
        · have p4 : decide (0 ≤ too ∧ too ≤ 255) = true := by simpa using q4
          by_cases q5 : 0 ≤ tg ∧ tg ≤ 7
          · have p5 : decide (0 ≤ tg ∧ tg ≤ 7) = true := by simpa using q5
            simp only [p2, p4, p5, ↓reduceIte, Bool.not_false, Bool.not_true, Bool.false_eq_true, Int.reduceLE, Int.reduceEq, and_false, false_and, and_true, true_and, and_self, decide_false, decide_true, decide_eq_true_eq, Int.reduceNe, bne_self_eq_false]
            refine ends _ _ _ (hj2 false) ?_
            clear hj2
            constructor
            · intro h
              obtain ⟨h0, h1, h2, h3⟩ := h
              exact ⟨q2.1, q2.2, h2, by omega⟩
            · intro h
              obtain ⟨_, _, h2, h3⟩ := h
              exact ⟨rfl, by omega, h2, by omega⟩
          · have p5 : decide (0 ≤ tg ∧ tg ≤ 7) = false := by simpa using q5
            simp only [p2, p4, p5, ↓reduceIte, Bool.not_false, Bool.not_true, Bool.false_eq_true, Int.reduceLE, Int.reduceEq, and_false, false_and, and_true, true_and, and_self, decide_false, decide_true, decide_eq_true_eq, Int.reduceNe, bne_self_eq_false]
            refine ends _ _ _ (hj2 true) ?_
            clear hj2
            constructor
            · intro h
              obtain ⟨h0, h1, h2, h3⟩ := h
              cases h0
            · intro h
              obtain ⟨_, _, h2, h3⟩ := h
              exfalso; omega
        · have p4 : decide (0 ≤ too ∧ too ≤ 255) = false := by simpa using q4
          simp only [p2, p4, ↓reduceIte, Bool.not_false, Bool.not_true, Bool.false_eq_true, Int.reduceLE, Int.reduceEq, and_false, false_and, and_true, true_and, and_self, decide_false, decide_true, decide_eq_true_eq, Int.reduceNe, bne_self_eq_false]
          refine bad _ fun h => ?_
          obtain ⟨_, _, _, h⟩ := h
          omega
  · have p2 : decide (0 ≤ fr ∧ fr ≤ 255) = false := decide_eq_false q2
    simp only [p2, ↓reduceIte, Bool.not_false, Bool.not_true, Bool.false_eq_true, Int.reduceLE, Int.reduceEq, and_false, false_and, and_true, true_and, and_self, decide_false, decide_true, decide_eq_true_eq, Int.reduceNe, bne_self_eq_false]
    refine bad _ fun h => ?_
    omega
theorem impl_packet6 (fr too ad ln tg st : Int) (l : List Int) (hl : l.length ≤ 1048576) (hn : -9223372036854775808 ≤ ln ∧ ln ≤ 9223372036854775807) (k : Nat) : ∃ b, impl_IsPacket.f (k + 1 + 1 + 1 + 1) 6 fr too ad ln tg st l = some b ∧
    (b = true ↔ PkOk 6 fr too ad ln tg st (l.length : Int) (wordsOk l)) := by
  obtain ⟨b1, a1, a2⟩ := addr_ok 6 fr too ad ln tg st l hl hn (k + 1 + 1 + 1)
  obtain ⟨b2, c1, c2⟩ := len_ok 6 fr too ad ln tg st l
  have hj := fun x => j2_ok 6 fr too ad ln tg st l k x
  have hn0 : 0 ≤ (l.length : Int) := by omega
  unfold impl_IsPacket.f
  rw [a1, c1, pk6]
  simp only [impl_IsPacket.j0, impl_IsPacket.j1, impl_IsId.f, within, Option.bind_some]
  clear a1 c1 hl hn
  generalize (l.length : Int) = n at *
  generalize wordsOk l = w at *
  have a3 : b1 = true ↔ ad = 0 := by rw [a2]; simp
  have c3 : b2 = true ↔ 0 ≤ ln ∧ ln ≤ 64 := by rw [c2]; simp
  have hj2 : ∀ x, ∃ b, impl_IsPacket.j2 (k + 1 + 1) x 6 fr too ad ln tg st l = some b ∧ (b = true ↔ x = false ∧ (0 ≤ st ∧ st ≤ 2) ∧ w = true ∧ (st = 0 → n ≤ 8 ∧ n ≤ ln) ∧ (¬ st = 0 → n = 0)) := by
    intro x
    obtain ⟨b, e1, e2⟩ := hj x
    refine ⟨b, e1, ?_⟩
    rw [e2]
    simp
  clear a2 c2 hj
  by_cases q2 : 0 ≤ fr ∧ fr ≤ 255
  · have p2 : decide (0 ≤ fr ∧ fr ≤ 255) = true := decide_eq_true q2
    cases b1 with
    | false =>
      simp only [p2, ↓reduceIte, Bool.not_false, Bool.not_true, Bool.false_eq_true, Int.reduceLE, Int.reduceEq, and_false, false_and, and_true, true_and, and_self, decide_false, decide_true, decide_eq_true_eq, Int.reduceNe, bne_self_eq_false]
      refine bad _ fun h => absurd (a3.mpr ?_) (by decide)
      obtain ⟨_, _, _, h⟩ := h
      omega
    | true =>
      have a4 := a3.mp rfl
      cases b2 with
      | false =>
        simp only [p2, ↓reduceIte, Bool.not_false, Bool.not_true, Bool.false_eq_true, Int.reduceLE, Int.reduceEq, and_false, false_and, and_true, true_and, and_self, decide_false, decide_true, decide_eq_true_eq, Int.reduceNe, bne_self_eq_false]
        refine bad _ fun h => absurd (c3.mpr ?_) (by decide)
        obtain ⟨_, _, _, h⟩ := h
        omega
      | true =>
        have c4 := c3.mp rfl
        clear a3 c3
        by_cases q4 : 0 ≤ too ∧ too ≤ 255
        · have p4 : decide (0 ≤ too ∧ too ≤ 255) = true := by simpa using q4
          by_cases q5 : 0 ≤ tg ∧ tg ≤ 7
          · have p5 : decide (0 ≤ tg ∧ tg ≤ 7) = true := by simpa using q5
            simp only [p2, p4, p5, ↓reduceIte, Bool.not_false, Bool.not_true, Bool.false_eq_true, Int.reduceLE, Int.reduceEq, and_false, false_and, and_true, true_and, and_self, decide_false, decide_true, decide_eq_true_eq, Int.reduceNe, bne_self_eq_false]
            refine ends _ _ _ (hj2 false) ?_
            clear hj2
            constructor
            · intro h
              obtain ⟨h0, h1, h2, h3⟩ := h
              exact ⟨q2.1, q2.2, h2, by omega⟩
            · intro h
              obtain ⟨_, _, h2, h3⟩ := h
              exact ⟨rfl, by omega, h2, by omega⟩
          · have p5 : decide (0 ≤ tg ∧ tg ≤ 7) = false := by simpa using q5
            simp only [p2, p4, p5, ↓reduceIte, Bool.not_false, Bool.not_true, Bool.false_eq_true, Int.reduceLE, Int.reduceEq, and_false, false_and, and_true, true_and, and_self, decide_false, decide_true, decide_eq_true_eq, Int.reduceNe, bne_self_eq_false]
            refine ends _ _ _ (hj2 true) ?_
            clear hj2
            constructor
            · intro h
              obtain ⟨h0, h1, h2, h3⟩ := h
              cases h0
            · intro h
              obtain ⟨_, _, h2, h3⟩ := h
              exfalso; omega
        · have p4 : decide (0 ≤ too ∧ too ≤ 255) = false := by simpa using q4
          simp only [p2, p4, ↓reduceIte, Bool.not_false, Bool.not_true, Bool.false_eq_true, Int.reduceLE, Int.reduceEq, and_false, false_and, and_true, true_and, and_self, decide_false, decide_true, decide_eq_true_eq, Int.reduceNe, bne_self_eq_false]
          refine bad _ fun h => ?_
          obtain ⟨_, _, _, h⟩ := h
          omega
  · have p2 : decide (0 ≤ fr ∧ fr ≤ 255) = false := decide_eq_false q2
    simp only [p2, ↓reduceIte, Bool.not_false, Bool.not_true, Bool.false_eq_true, Int.reduceLE, Int.reduceEq, and_false, false_and, and_true, true_and, and_self, decide_false, decide_true, decide_eq_true_eq, Int.reduceNe, bne_self_eq_false]
    refine bad _ fun h => ?_
    omega
theorem impl_packet (kd fr too ad ln tg st : Int) (l : List Int) (hl : l.length ≤ 1048576) (hn : -9223372036854775808 ≤ ln ∧ ln ≤ 9223372036854775807) (k : Nat) (hk : 8 < k) : ∃ b, impl_IsPacket.f k kd fr too ad ln tg st l = some b ∧
    (b = true ↔ PkOk kd fr too ad ln tg st (l.length : Int) (wordsOk l)) := by
  obtain ⟨k, rfl⟩ : ∃ m, k = m + 1 + 1 + 1 + 1 := ⟨k - 4, by omega⟩
  by_cases q : 1 ≤ kd ∧ kd ≤ 6
  · have : kd = 1 ∨ kd = 2 ∨ kd = 3 ∨ kd = 4 ∨ kd = 5 ∨ kd = 6 := by omega
    rcases this with rfl | rfl | rfl | rfl | rfl | rfl
    · exact impl_packet1 fr too ad ln tg st l hl hn k
    · exact impl_packet2 fr too ad ln tg st l hl hn k
    · exact impl_packet3 fr too ad ln tg st l hl hn k
    · exact impl_packet4 fr too ad ln tg st l hl hn k
    · exact impl_packet5 fr too ad ln tg st l hl hn k
    · exact impl_packet6 fr too ad ln tg st l hl hn k
  · unfold impl_IsPacket.f
    simp only [impl_IsPacket.j0, within, Option.bind_some]
    have q' : decide (1 ≤ kd ∧ kd ≤ 6) = false := decide_eq_false q
    simp only [q', Bool.not_false, ↓reduceIte, Bool.false_eq_true]
    exact bad _ (pk_none _ _ _ _ _ _ _ _ _ q)
theorem data_loop (b : List Int) (d : Nat) : ∀ (k m : Nat) (out : List Int) (i h n : Int), (m : Int) + d = n → n ≤ 100 → d < k → out.length = m → (∀ x ∈ out, 0 ≤ x ∧ x ≤ 65535) → Cur b i →
    ∃ v i' h', spec_l04Data.l0 k n out m b i h = some (v, i', h') ∧ Cur b i' ∧ (v.length : Int) = n ∧ ∀ x ∈ v, 0 ≤ x ∧ x ≤ 65535 := by
  induction d with
  | zero =>
    intro k m out i h n hn h8 hk ho hr hc
    obtain ⟨k, rfl⟩ : ∃ m, k = m + 1 := ⟨k - 1, by omega⟩
    rw [spec_l04Data.l0, if_neg (by omega)]
    exact ⟨out, _, _, rfl, hc, by omega, hr⟩
  | succ d ih =>
    intro k m out i h n hn h8 hk ho hr hc
    obtain ⟨k, rfl⟩ : ∃ m, k = m + 1 := ⟨k - 1, by omega⟩
    obtain ⟨v1, i1, h1, e1, c1, r1, s1, _⟩ := below_cur b i h 256 hc
    obtain ⟨v2, i2, h2, e2, c2, r2, s2, _⟩ := below_cur b i1 h1 65536 c1
    obtain ⟨v3, i3, h3, e3, c3, r3⟩ := pick_cur b i2 h2 [0, 1, 65535, v1, v2] (by simp) c2
    have s1 := s1 (by decide)
    have s2 := s2 (by decide)
    have b3 : 0 ≤ v3 ∧ v3 ≤ 65535 := by
      simp only [List.mem_cons, List.not_mem_nil, or_false] at r3
      omega
    rw [spec_l04Data.l0, if_pos (by omega), e1, Option.bind_some]
    simp only
    rw [e2, Option.bind_some]
    simp only
    rw [e3, Option.bind_some]
    simp only
    rw [if_pos (by omega), w64 (by omega) (by omega), show ((m : Int) + 1) = ((m + 1 : Nat) : Int) by omega]
    refine ih k (m + 1) (out ++ [v3]) i3 h3 n (by omega) h8 (by omega) (by simp [ho]) (fun x hx => ?_) c3
    rcases List.mem_append.mp hx with hx | hx
    · exact hr x hx
    · rw [List.mem_singleton.mp hx]
      exact b3
theorem data_cur (b : List Int) (i h n : Int) (h0 : 0 ≤ n) (h8 : n ≤ 100) (hc : Cur b i) (k : Nat) (hk : 200 < k) : ∃ v i' h', spec_l04Data.f k b i h n = some (v, i', h') ∧ Cur b i' ∧ (v.length : Int) = n ∧ wordsOk v = true := by
  obtain ⟨v, i', h', e, c, hl, hr⟩ := data_loop b n.toNat k 0 [] i h n (by omega) h8 (by omega) rfl (by simp) hc
  exact ⟨v, i', h', e, c, hl, (wordsOk_iff v).mpr hr⟩
/-- A packet was drawn, and it is a packet. -/
def Drew (b : List Int) (o : Option (Int × Int × Int × Int × Int × Int × Int × List Int × Int × Int)) : Prop :=
  ∃ kd fr too ad ln tg st dat i' h', o = some (kd, fr, too, ad, ln, tg, st, dat, i', h') ∧ Cur b i' ∧ PkOk kd fr too ad ln tg st (dat.length : Int) (wordsOk dat)
theorem drew_45 (b : List Int) (i h kd fr : Int) (hk4 : kd = 4 ∨ kd = 5) (hf : 0 ≤ fr ∧ fr ≤ 255) (hc : Cur b i) (k : Nat) (hk : 200 < k) : Drew b (spec_l04Packet.j1 (k + 1) kd true b i h kd fr 0 0 0 0 0) := by
  obtain ⟨v1, i1, h1, e1, c1, r1, s1, _⟩ := below_cur b i h 256 hc
  obtain ⟨v2, i2, h2, e2, c2, r2, s2, _⟩ := below_cur b i1 h1 64 c1
  obtain ⟨v3, i3, h3, e3, c3, r3, s3, _⟩ := below_cur b i2 h2 8 c2
  obtain ⟨v, i4, h4, e4, c4, hl, hw⟩ := data_cur b i3 h3 1 (by decide) (by decide) c3 k hk
  have s1 := s1 (by decide)
  have s2 := s2 (by decide)
  have s3 := s3 (by decide)
  simp only [spec_l04Packet.j1, if_true, e1, e2, e3, e4, Option.bind_some]
  rcases hk4 with rfl | rfl
  · rw [if_neg (by decide)]
    exact ⟨_, _, _, _, _, _, _, _, _, _, rfl, c3, (pk4 _ _ _ _ _ _ _ _).mpr ⟨hf.1, hf.2, rfl, rfl, by omega, by omega, by omega, by omega, by omega, by omega, rfl, rfl⟩⟩
  · rw [if_pos rfl]
    exact ⟨_, _, _, _, _, _, _, _, _, _, rfl, c4, (pk5 _ _ _ _ _ _ _ _).mpr ⟨hf.1, hf.2, hw, hl, by omega, by omega, by omega, by omega, by omega, by omega, rfl, rfl⟩⟩
theorem drew_6 (b : List Int) (i h fr : Int) (hf : 0 ≤ fr ∧ fr ≤ 255) (hc : Cur b i) (k : Nat) (hk : 200 < k) : Drew b (spec_l04Packet.j1 (k + 1) 6 false b i h 6 fr 0 0 0 0 0) := by
  obtain ⟨v1, i1, h1, e1, c1, r1, s1, _⟩ := below_cur b i h 256 hc
  obtain ⟨v2, i2, h2, e2, c2, r2, s2, _⟩ := below_cur b i1 h1 8 c1
  obtain ⟨v3, i3, h3, e3, c3, r3⟩ := pick_cur b i2 h2 [0, 0, 0, 1, 2] (by simp) c2
  obtain ⟨v4, i4, h4, e4, c4, r4⟩ := pick_cur b i3 h3 [8, 0, 20, 64] (by simp) c3
  obtain ⟨v5, i5, h5, e5, c5, r5, s5, _⟩ := below_cur b i4 h4 9 c4
  have s1 := s1 (by decide)
  have s2 := s2 (by decide)
  have s5 := s5 (by decide)
  have b3 : 0 ≤ v3 ∧ v3 ≤ 2 := by
    simp only [List.mem_cons, List.not_mem_nil, or_false] at r3
    omega
  have b4 : 0 ≤ v4 ∧ v4 ≤ 64 := by
    simp only [List.mem_cons, List.not_mem_nil, or_false] at r4
    omega
  have hm : 0 ≤ mn v4 v5 ∧ mn v4 v5 ≤ 8 ∧ mn v4 v5 ≤ v4 := by
    unfold mn
    split <;> omega
  obtain ⟨v, i6, h6, e6, c6, hl, hw⟩ := data_cur b i5 h5 (mn v4 v5) hm.1 (by omega) c5 k hk
  simp only [spec_l04Packet.j1, if_true, e1, e2, e3, e4, e5, e6, Option.bind_some]
  rw [if_neg (by decide)]
  by_cases hz : v3 = 0
  · rw [if_pos hz]
    exact ⟨_, _, _, _, _, _, _, _, _, _, rfl, c6, (pk6 _ _ _ _ _ _ _ _).mpr ⟨hf.1, hf.2, hw, rfl, by omega, by omega, by omega, by omega, by omega, by omega, by omega, by omega, .inr ⟨hz, by omega, by omega⟩⟩⟩
  · rw [if_neg hz]
    exact ⟨_, _, _, _, _, _, _, _, _, _, rfl, c4, (pk6 _ _ _ _ _ _ _ _).mpr ⟨hf.1, hf.2, rfl, rfl, by omega, by omega, by omega, by omega, by omega, by omega, by omega, by omega, .inl rfl⟩⟩
theorem drew_3 (b : List Int) (i h fr : Int) (hf : 0 ≤ fr ∧ fr ≤ 255) (hc : Cur b i) (k : Nat) : Drew b (spec_l04Packet.j0 (k + 1) 3 false b i h 3 fr 0 0 0 0 0) := by
  obtain ⟨v1, i1, h1, e1, c1, r1⟩ := pick_cur b i h [1, 4, 8, 20, 64] (by simp) hc
  obtain ⟨v2, i2, h2, e2, c2, r2, s2, _⟩ := below_cur b i1 h1 60000 c1
  obtain ⟨v3, i3, h3, e3, c3, r3⟩ := pick_cur b i2 h2 [0, 100, 4096, 65472, v2] (by simp) c2
  obtain ⟨v4, i4, h4, e4, c4, r4, s4, _⟩ := below_cur b i3 h3 8 c3
  have s2 := s2 (by decide)
  have s4 := s4 (by decide)
  have b1 : 1 ≤ v1 ∧ v1 ≤ 64 := by
    simp only [List.mem_cons, List.not_mem_nil, or_false] at r1
    omega
  have b3 : 0 ≤ v3 ∧ v3 ≤ 65472 := by
    simp only [List.mem_cons, List.not_mem_nil, or_false] at r3
    omega
  simp only [spec_l04Packet.j0, if_true, e1, e2, e3, e4, Option.bind_some]
  rw [if_neg (by decide)]
  exact ⟨_, _, _, _, _, _, _, _, _, _, rfl, c4, (pk3 _ _ _ _ _ _ _ _).mpr ⟨hf.1, hf.2, rfl, rfl, by omega, by omega, by omega, by omega, by omega, by omega, rfl, rfl⟩⟩
theorem drew_12 (b : List Int) (i h kd fr : Int) (hk1 : kd = 1 ∨ kd = 2) (hf : 0 ≤ fr ∧ fr ≤ 255) (hc : Cur b i) (k : Nat) (hk : 200 < k) : Drew b (spec_l04Packet.j0 (k + 1) kd true b i h kd fr 0 0 0 0 0) := by
  obtain ⟨v1, i1, h1, e1, c1, r1, s1, _⟩ := below_cur b i h 8 hc
  have s1 := s1 (by decide)
  obtain ⟨v, i2, h2, e2, c2, hl, hw⟩ := data_cur b i1 h1 (wrap64 (1 + v1)) (by rw [w64 (by omega) (by omega)]; omega) (by rw [w64 (by omega) (by omega)]; omega) c1 k hk
  rw [w64 (n := 1 + v1) (by omega) (by omega)] at hl
  obtain ⟨v3, i3, h3, e3, c3, r3, s3, _⟩ := below_cur b i2 h2 60000 c2
  have s3 := s3 (by decide)
  obtain ⟨v4, i4, h4, e4, c4, r4⟩ := pick_cur b i3 h3 [0, 100, 4096, 65528, v3] (by simp) c3
  have b4 : 0 ≤ v4 ∧ v4 ≤ 65528 := by
    simp only [List.mem_cons, List.not_mem_nil, or_false] at r4
    omega
  simp only [spec_l04Packet.j0, if_true, e1, e2, e3, e4, Option.bind_some]
  rcases hk1 with rfl | rfl
  · rw [if_pos rfl]
    exact ⟨_, _, _, _, _, _, _, _, _, _, rfl, c4, (pk1 _ _ _ _ _ _ _ _).mpr ⟨hf.1, hf.2, hw, by omega, by omega, by omega, by omega, rfl, rfl, rfl, rfl⟩⟩
  · rw [if_neg (by decide)]
    exact ⟨_, _, _, _, _, _, _, _, _, _, rfl, c2, (pk2 _ _ _ _ _ _ _ _).mpr ⟨hf.1, hf.2, hw, by omega, by omega, rfl, rfl, rfl, rfl, rfl⟩⟩
theorem drew (b : List Int) (i h : Int) (hc : Cur b i) (k : Nat) (hk : 300 < k) : Drew b (spec_l04Packet.f k b i h) := by
  obtain ⟨k, rfl⟩ : ∃ m, k = m + 1 + 1 := ⟨k - 2, by omega⟩
  obtain ⟨v1, i1, h1, e1, c1, r1, s1, _⟩ := below_cur b i h 6 hc
  obtain ⟨v2, i2, h2, e2, c2, r2, s2, _⟩ := below_cur b i1 h1 256 c1
  have s1 := s1 (by decide)
  have s2 := s2 (by decide)
  have hf : 0 ≤ v2 ∧ v2 ≤ 255 := by omega
  unfold spec_l04Packet.f
  simp only [e1, e2, Option.bind_some]
  rw [w64 (n := 1 + v1) (by omega) (by omega)]
  have : v1 = 0 ∨ v1 = 1 ∨ v1 = 2 ∨ v1 = 3 ∨ v1 = 4 ∨ v1 = 5 := by omega
  rcases this with rfl | rfl | rfl | rfl | rfl | rfl
  · exact drew_12 b i2 h2 1 v2 (.inl rfl) hf c2 (k + 1) (by omega)
  · exact drew_12 b i2 h2 2 v2 (.inr rfl) hf c2 (k + 1) (by omega)
  · exact drew_3 b i2 h2 v2 hf c2 (k + 1)
  · exact drew_45 b i2 h2 4 v2 (.inl rfl) hf c2 k (by omega)
  · exact drew_45 b i2 h2 5 v2 (.inr rfl) hf c2 k (by omega)
  · exact drew_6 b i2 h2 v2 hf c2 k (by omega)
theorem draw_packet (l : List Int) (hl : l.length ≤ 1048576) (hb : ∀ x ∈ l, (Lit.int .u8 x).wf = true) (k : Nat) (hk : 5000 < k) : ∃ kd fr too ad ln tg st dat, spec_DrawPacket.f k l = some (kd, fr, too, ad, ln, tg, st, dat) ∧ PkOk kd fr too ad ln tg st (dat.length : Int) (wordsOk dat) := by
  obtain ⟨h, e, c⟩ := new_cur l hl hb k (by omega)
  obtain ⟨kd, fr, too, ad, ln, tg, st, dat, i', h', e2, _, hp⟩ := drew l 0 h c k (by omega)
  refine ⟨kd, fr, too, ad, ln, tg, st, dat, ?_, hp⟩
  unfold spec_DrawPacket.f
  rw [e, Option.bind_some]
  simp only
  rw [e2, Option.bind_some]
/-- The words, two bytes each. -/
def enc (l : List Int) : List Int := l.flatMap fun x => [wrap64 (Int.tdiv x 256), Int.tmod x 256]
theorem enc_cons (x : Int) (l : List Int) : enc (x :: l) = [wrap64 (Int.tdiv x 256), Int.tmod x 256] ++ enc l := by simp [enc]
theorem enc_length (l : List Int) : (enc l).length = 2 * l.length := by
  induction l with
  | nil => rfl
  | cons x l ih => rw [enc_cons, List.length_append, ih]; simp; omega
/-- What both encodings answer: at a packet that is none, nothing. -/
def coded (kd fr too ad ln tg st : Int) (l : List Int) : List Int := [kd, fr, too, wrap64 (Int.tdiv ad 256), Int.tmod ad 256, ln, wrap64 (wrap64 (tg * 16) + st), (l.length : Int)] ++ enc l
theorem coded_length (kd fr too ad ln tg st : Int) (l : List Int) (b : Bool) : (if b = true then coded kd fr too ad ln tg st l else []).length ≤ 8 + 2 * l.length := by
  cases b with
  | false => simp
  | true => simp [coded, enc_length]; omega
theorem spec_enc_loop (kd fr too ad ln tg st : Int) (x : List Int) (hx : x.length ≤ 1048576) (d : Nat) : ∀ (k i : Nat) (acc : List Int), i + d = x.length → d < k → acc.length + 2 * d ≤ 17592186044414 →
    spec_EncodePacket.l0 k acc i kd fr too ad ln tg st x = some (acc ++ enc (x.drop i)) := by
  induction d with
  | zero =>
    intro k i acc hi hk _
    obtain ⟨k, rfl⟩ : ∃ m, k = m + 1 := ⟨k - 1, by omega⟩
    simp only [spec_EncodePacket.l0]
    rw [if_neg (by omega), List.drop_of_length_le (by omega)]
    simp [enc]
  | succ d ih =>
    intro k i acc hi hk ha
    obtain ⟨k, rfl⟩ : ∃ m, k = m + 1 := ⟨k - 1, by omega⟩
    have h1 : i < x.length := by omega
    simp only [spec_EncodePacket.l0]
    rw [if_pos (by omega), if_pos (by omega), rd_nat x i h1, w64 (n := (i : Int) + 1) (by omega) (by omega), List.drop_eq_getElem_cons h1, enc_cons, Option.bind_some]
    rw [if_pos (by simp only [List.length_cons, List.length_nil]; omega), show ((i : Int) + 1) = ((i + 1 : Nat) : Int) by omega, ih k (i + 1) _ (by omega) (by omega) (by rw [List.length_append]; simp only [List.length_cons, List.length_nil]; omega), List.append_assoc]
theorem spec_encode (kd fr too ad ln tg st : Int) (l : List Int) (hl : l.length ≤ 1048576) (k : Nat) (hk : l.length + 2 < k) (b : Bool) (hb : spec_IsPacket.f k kd fr too ad ln tg st l = some b) :
    spec_EncodePacket.f k kd fr too ad ln tg st l = some (if b = true then coded kd fr too ad ln tg st l else []) := by
  unfold spec_EncodePacket.f
  rw [hb, Option.bind_some]
  cases b with
  | false => rfl
  | true =>
    have h := spec_enc_loop kd fr too ad ln tg st l hl l.length k 0 [kd, fr, too, wrap64 (Int.tdiv ad 256), Int.tmod ad 256, ln, wrap64 (wrap64 (tg * 16) + st), (l.length : Int)] (by omega) (by omega) (by simp only [List.length_cons, List.length_nil]; omega)
    rw [if_pos rfl, if_pos rfl]
    exact h
theorem impl_enc_loop (x : List Int) (hx : x.length ≤ 1048576) (d : Nat) : ∀ (k i : Nat) (acc : List Int), i + d = x.length → d < k → acc.length + 2 * d ≤ 17592186044414 →
    impl_EncodePacket.l0 k acc x (x.length : Int) i = some (acc ++ enc (x.drop i)) := by
  induction d with
  | zero =>
    intro k i acc hi hk _
    obtain ⟨k, rfl⟩ : ∃ m, k = m + 1 := ⟨k - 1, by omega⟩
    simp only [impl_EncodePacket.l0]
    rw [if_neg (by omega), List.drop_of_length_le (by omega)]
    simp [enc]
  | succ d ih =>
    intro k i acc hi hk ha
    obtain ⟨k, rfl⟩ : ∃ m, k = m + 1 := ⟨k - 1, by omega⟩
    have h1 : i < x.length := by omega
    simp only [impl_EncodePacket.l0]
    rw [if_pos (by omega), if_pos (by omega), if_pos (by omega), rd_nat x i h1, w64 (n := (i : Int) + 1) (by omega) (by omega), List.drop_eq_getElem_cons h1, enc_cons, Option.bind_some]
    rw [if_pos (by simp only [List.length_cons, List.length_nil]; omega), show ((i : Int) + 1) = ((i + 1 : Nat) : Int) by omega, ih k (i + 1) _ (by omega) (by omega) (by rw [List.length_append]; simp only [List.length_cons, List.length_nil]; omega), List.append_assoc]
theorem impl_encode (kd fr too ad ln tg st : Int) (l : List Int) (hl : l.length ≤ 1048576) (k : Nat) (hk : l.length + 2 < k) (b : Bool) (hb : impl_IsPacket.f k kd fr too ad ln tg st l = some b) :
    impl_EncodePacket.f k kd fr too ad ln tg st l = some (if b = true then coded kd fr too ad ln tg st l else []) := by
  unfold impl_EncodePacket.f
  rw [hb, Option.bind_some]
  cases b with
  | false => rfl
  | true =>
    have h := impl_enc_loop l hl l.length k 0 [kd, fr, too, wrap64 (Int.tdiv ad 256), Int.tmod ad 256, ln, wrap64 (wrap64 (tg * 16) + st), (l.length : Int)] (by omega) (by omega) (by simp only [List.length_cons, List.length_nil]; omega)
    rw [if_pos rfl, if_pos rfl]
    exact h
/-- The words behind the head: two bytes each; a last odd one is left out. -/
def dec : List Int → List Int
  | a :: b :: t => wrap64 (wrap64 (a * 256) + b) :: dec t
  | _ => []
theorem dec_length (t : List Int) : (dec t).length = t.length / 2 := by
  fun_induction dec t with
  | case1 a b t ih => simp only [List.length_cons, ih]; omega
  | case2 t h =>
    match t, h with
    | [], _ => rfl
    | [a], _ => simp
    | a :: b :: t, h => exact absurd rfl (h a b t)
theorem enc_dec (t : List Int) (hb : ∀ x ∈ t, 0 ≤ x ∧ x ≤ 255) (he : t.length % 2 = 0) : enc (dec t) = t := by
  fun_induction dec t with
  | case1 a b t ih =>
    have h1 := hb a (by simp)
    have h2 := hb b (by simp)
    have e1 : wrap64 (wrap64 (a * 256) + b) = a * 256 + b := by rw [w64 (n := a * 256) (by omega) (by omega), w64 (by omega) (by omega)]
    have e2 : Int.tdiv (a * 256 + b) 256 = a := by rw [Int.tdiv_eq_ediv_of_nonneg (by omega)]; omega
    have e3 : Int.tmod (a * 256 + b) 256 = b := by rw [Int.tmod_eq_emod_of_nonneg (by omega)]; omega
    rw [enc_cons, ih (fun x hx => hb x (by simp [hx])) (by simp only [List.length_cons] at he; omega), e1, e2, e3, w64 (by omega) (by omega)]
    rfl
  | case2 t h =>
    match t, h with
    | [], _ => rfl
    | [a], _ => simp at he
    | a :: b :: t, h => exact absurd rfl (h a b t)
/-- What is answered where there is no packet. -/
abbrev noPk : Int × Int × Int × Int × Int × Int × Int × List Int × Bool := (0, 0, 0, 0, 0, 0, 0, ([] : List Int), false)
theorem drop2 (x : List Int) (i : Nat) (h : i + 1 < x.length) : x.drop i = x[i]'(by omega) :: x[i + 1] :: x.drop (i + 2) := by
  rw [List.drop_eq_getElem_cons (show i < x.length by omega), List.drop_eq_getElem_cons (show i + 1 < x.length by omega)]
theorem rd_nat1 (x : List Int) (hx : x.length ≤ 1048576) (i : Nat) (h : i + 1 < x.length) : rd x (wrap64 ((i : Int) + 1)) = x[i + 1] := by
  rw [w64 (by omega) (by omega), show ((i : Int) + 1) = ((i + 1 : Nat) : Int) by omega, rd_nat x (i + 1) h]
theorem impl_dec_loop (x : List Int) (hx : x.length ≤ 1048576) (h0 h1 h2 h3 h4 h5 h6 : Int) (d : Nat) : ∀ (k i : Nat) (acc : List Int), i + 2 * d ≤ x.length → x.length < i + 2 * d + 2 → d < k → acc.length + d ≤ 1048576 →
    impl_DecodePacket.l0 k x i h0 h1 h2 h3 h4 h5 h6 acc = (impl_IsPacket.f (k - d - 1) h0 h1 h2 h3 h4 h5 h6 (acc ++ dec (x.drop i))).bind fun t => (if t = true then ((impl_EncodePacket.f (k - d - 1) h0 h1 h2 h3 h4 h5 h6 (acc ++ dec (x.drop i))).bind fun u => ((slices_Equal_int_int.f (k - d - 1) u x).bind fun v => (if v = true then (some (h0, h1, h2, h3, h4, h5, h6, acc ++ dec (x.drop i), true)) else (some noPk)))) else (some noPk)) := by
  induction d with
  | zero =>
    intro k i acc hi hi2 hk _
    obtain ⟨k, rfl⟩ : ∃ m, k = m + 1 := ⟨k - 1, by omega⟩
    have hd : dec (x.drop i) = [] := List.eq_nil_of_length_eq_zero (by rw [dec_length, List.length_drop]; omega)
    simp only [impl_DecodePacket.l0]
    rw [if_neg (by rw [w64 (by omega) (by omega)]; omega), hd, List.append_nil]
    rfl
  | succ d ih =>
    intro k i acc hi hi2 hk ha
    obtain ⟨k, rfl⟩ : ∃ m, k = m + 1 := ⟨k - 1, by omega⟩
    have hlt : i + 1 < x.length := by omega
    simp only [impl_DecodePacket.l0]
    have hw : wrap64 ((i : Int) + 1) = ((i + 1 : Nat) : Int) := by rw [w64 (by omega) (by omega)]; omega
    rw [rd_nat1 x hx i hlt, rd_nat x i (by omega), hw, if_pos (by omega), if_pos (by omega), if_pos (by omega), if_pos (by omega), if_pos (by omega), w64 (n := (i : Int) + 2) (by omega) (by omega), show ((i : Int) + 2) = ((i + 2 : Nat) : Int) by omega, ih k (i + 2) _ (by omega) (by omega) (by omega) (by rw [List.length_append]; simp only [List.length_cons, List.length_nil]; omega)]
    rw [drop2 x i hlt]
    simp only [dec, List.append_assoc, List.singleton_append]
    rw [show k + 1 - (d + 1) - 1 = k - d - 1 by omega]
theorem intB {n : Int} (h : (Lit.int .i64 n).wf = true) : -9223372036854775808 ≤ n ∧ n ≤ 9223372036854775807 := by
  simp [Lit.wf, IntKind.min, IntKind.max, IntKind.signed, IntKind.bits] at h
  omega
theorem eqB {a b : Bool} {P : Prop} (h1 : a = true ↔ P) (h2 : b = true ↔ P) : a = b := by
  have h : a = true ↔ b = true := h1.trans h2.symm
  cases a <;> cases b <;> simp_all
theorem pk_len8 {kd fr too ad ln tg st n : Int} {w : Bool} (h : PkOk kd fr too ad ln tg st n w) : n ≤ 8 := by
  obtain ⟨_, _, _, h⟩ := h
  rcases h with h | h | h | h | h | h
  · omega
  · omega
  · omega
  · omega
  · omega
  · obtain ⟨_, _, _, _, _, _, _, _, _, _, h⟩ := h
    omega
theorem pk_bounds {kd fr too ad ln tg st n : Int} {w : Bool} (h : PkOk kd fr too ad ln tg st n w) (hn : 0 ≤ n) : w = true ∧ (1 ≤ kd ∧ kd ≤ 6) ∧ (0 ≤ fr ∧ fr ≤ 255) ∧ (0 ≤ too ∧ too ≤ 255) ∧ (0 ≤ ad ∧ ad ≤ 65535) ∧ (0 ≤ ln ∧ ln ≤ 64) ∧ (0 ≤ tg ∧ tg ≤ 7) ∧ (0 ≤ st ∧ st ≤ 2) := by
  obtain ⟨h1, h2, h3, h⟩ := h
  refine ⟨h3, ?_⟩
  rcases h with h | h | h | h | h | h
  · omega
  · omega
  · omega
  · omega
  · omega
  · obtain ⟨a, b, c, d, e, f, g, i, j, l, _⟩ := h
    omega
theorem enc_ok (l : List Int) (h : ∀ b ∈ l, 0 ≤ b ∧ b ≤ 65535) : (∀ b ∈ enc l, 0 ≤ b ∧ b ≤ 255) ∧ dec (enc l) = l := by
  induction l with
  | nil => exact ⟨by simp [enc], rfl⟩
  | cons x l ih =>
    obtain ⟨i1, i2⟩ := ih (fun b hb => h b (List.mem_cons_of_mem _ hb))
    have hx := h x (by simp)
    have e1 : wrap64 (Int.tdiv x 256) = x / 256 := by rw [Int.tdiv_eq_ediv_of_nonneg (by omega), w64 (by omega) (by omega)]
    have e2 : Int.tmod x 256 = x % 256 := Int.tmod_eq_emod_of_nonneg (by omega)
    rw [enc_cons, e1, e2]
    constructor
    · intro b hb
      simp only [List.cons_append, List.nil_append, List.mem_cons] at hb
      rcases hb with hb | hb | hb
      · omega
      · omega
      · exact i1 b hb
    · simp only [List.cons_append, List.nil_append, dec, i2]
      rw [w64 (n := x / 256 * 256) (by omega) (by omega), w64 (by omega) (by omega), show x / 256 * 256 + x % 256 = x by omega]
/-- The bytes of a packet are bytes. -/
theorem coded_ok (kd fr too ad ln tg st : Int) (l : List Int) (h : PkOk kd fr too ad ln tg st (l.length : Int) (wordsOk l)) : okB (coded kd fr too ad ln tg st l) = true := by
  have h8 := pk_len8 h
  obtain ⟨hw, b1, b2, b3, b4, b5, b6, b7⟩ := pk_bounds h (by omega)
  obtain ⟨i1, _⟩ := enc_ok l ((wordsOk_iff l).mp hw)
  have e1 : wrap64 (Int.tdiv ad 256) = ad / 256 := by rw [Int.tdiv_eq_ediv_of_nonneg (by omega), w64 (by omega) (by omega)]
  have e2 : Int.tmod ad 256 = ad % 256 := Int.tmod_eq_emod_of_nonneg (by omega)
  have e3 : wrap64 (wrap64 (tg * 16) + st) = tg * 16 + st := by rw [w64 (n := tg * 16) (by omega) (by omega), w64 (by omega) (by omega)]
  refine (okB_iff _).mpr ⟨by unfold coded; rw [List.length_append, enc_length]; simp only [List.length_cons, List.length_nil]; omega, fun b hb => ?_⟩
  unfold coded at hb
  rw [e1, e2, e3] at hb
  rcases List.mem_append.mp hb with hb | hb
  · simp only [List.mem_cons, List.not_mem_nil, or_false] at hb
    rcases hb with hb | hb | hb | hb | hb | hb | hb | hb <;> omega
  · exact i1 b hb
theorem pk_ln {kd fr too ad ln tg st n : Int} {w : Bool} (h : PkOk kd fr too ad ln tg st n w) : -9223372036854775808 ≤ ln ∧ ln ≤ 9223372036854775807 := by
  obtain ⟨_, _, _, h⟩ := h
  rcases h with h | h | h | h | h | h <;> omega
theorem decode_coded (kd fr too ad ln tg st : Int) (W : List Int) (hp : PkOk kd fr too ad ln tg st (W.length : Int) (wordsOk W)) (k : Nat) (hk : 500 < k) :
    impl_DecodePacket.f k (coded kd fr too ad ln tg st W) = some (kd, fr, too, ad, ln, tg, st, W, true) := by
  obtain ⟨k, rfl⟩ : ∃ m, k = m + 1 := ⟨k - 1, by omega⟩
  have h8 := pk_len8 hp
  obtain ⟨hw, b1, b2, b3, b4, b5, b6, b7⟩ := pk_bounds hp (by omega)
  have ho := coded_ok kd fr too ad ln tg st W hp
  obtain ⟨_, hde⟩ := enc_ok W ((wordsOk_iff W).mp hw)
  have hel := enc_length W
  have e1 : wrap64 (Int.tdiv ad 256) = ad / 256 := by rw [Int.tdiv_eq_ediv_of_nonneg (by omega), w64 (by omega) (by omega)]
  have e2 : Int.tmod ad 256 = ad % 256 := Int.tmod_eq_emod_of_nonneg (by omega)
  have e3 : wrap64 (wrap64 (tg * 16) + st) = tg * 16 + st := by rw [w64 (n := tg * 16) (by omega) (by omega), w64 (by omega) (by omega)]
  have hl : (coded kd fr too ad ln tg st W).length = 8 + 2 * W.length := by unfold coded; rw [List.length_append, hel]; simp only [List.length_cons, List.length_nil]
  have r0 : rd (coded kd fr too ad ln tg st W) 0 = kd := rfl
  have r1 : rd (coded kd fr too ad ln tg st W) 1 = fr := rfl
  have r2 : rd (coded kd fr too ad ln tg st W) 2 = too := rfl
  have r3 : rd (coded kd fr too ad ln tg st W) 3 = ad / 256 := e1
  have r4 : rd (coded kd fr too ad ln tg st W) 4 = ad % 256 := e2
  have r5 : rd (coded kd fr too ad ln tg st W) 5 = ln := rfl
  have r6 : rd (coded kd fr too ad ln tg st W) 6 = tg * 16 + st := e3
  have hd : dec ((coded kd fr too ad ln tg st W).drop 8) = W := hde
  obtain ⟨b, s1, s2⟩ := impl_packet kd fr too ad ln tg st W (by omega) (by omega) (k - W.length - 1) (by omega)
  have he := impl_encode kd fr too ad ln tg st W (by omega) (k - W.length - 1) (by omega) b s1
  have hlp := impl_dec_loop (coded kd fr too ad ln tg st W) (by omega) kd fr too ad ln tg st W.length k 8 [] (by omega) (by omega) (by omega) (by simp only [List.length_nil]; omega)
  rw [List.nil_append, hd, he, s1, s2.mpr hp, Option.bind_some, if_pos rfl, if_pos rfl, Option.bind_some, equal _ _ (by omega) _ (by omega), Option.bind_some, if_pos (by simp)] at hlp
  generalize coded kd fr too ad ln tg st W = l at *
  unfold impl_DecodePacket.f
  rw [impl_bytes, Option.bind_some, ho, if_neg (by omega)]
  simp only [impl_DecodePacket.j0]
  rw [if_neg (by decide), if_pos (by omega), if_pos (by omega), if_pos (by omega), if_pos (by omega), if_pos (by omega), if_pos (by omega), if_pos (by omega), r0, r1, r2, r3, r4, r5, r6]
  have q1 : wrap64 (wrap64 (ad / 256 * 256) + ad % 256) = ad := by rw [w64 (n := ad / 256 * 256) (by omega) (by omega), w64 (by omega) (by omega)]; omega
  have q2 : wrap64 (Int.tdiv (tg * 16 + st) 16) = tg := by rw [Int.tdiv_eq_ediv_of_nonneg (by omega), w64 (by omega) (by omega)]; omega
  have q3 : Int.tmod (tg * 16 + st) 16 = st := by rw [Int.tmod_eq_emod_of_nonneg (by omega)]; omega
  rw [q1, q2, q3]
  exact hlp
theorem decode_any (l : List Int) (hl : l.length ≤ 1000) (k : Nat) (hk : 5000 < k) : ∃ q0 q1 q2 q3 q4 q5 q6 Q ok, impl_DecodePacket.f k l = some (q0, q1, q2, q3, q4, q5, q6, Q, ok) ∧ (ok = true → impl_EncodePacket.f k q0 q1 q2 q3 q4 q5 q6 Q = some l) := by
  obtain ⟨k, rfl⟩ : ∃ m, k = m + 1 := ⟨k - 1, by omega⟩
  unfold impl_DecodePacket.f
  by_cases h8 : (l.length : Int) < 8
  · rw [if_pos h8, impl_DecodePacket.j0, if_pos rfl]
    exact ⟨_, _, _, _, _, _, _, _, _, rfl, by simp⟩
  · rw [if_neg h8, impl_bytes, Option.bind_some, impl_DecodePacket.j0]
    by_cases hb : okB l = true
    · obtain ⟨h40, hx⟩ := (okB_iff l).mp hb
      have hb5 : 0 ≤ rd l 5 ∧ rd l 5 ≤ 255 := by
        have : rd l ((5 : Nat) : Int) = l[5] := rd_nat l 5 (by omega)
        have h5 := hx l[5] (List.getElem_mem (by omega))
        rw [← this] at h5
        exact h5
      rw [hb, if_neg (by decide), if_pos (by omega), if_pos (by omega), if_pos (by omega), if_pos (by omega), if_pos (by omega), if_pos (by omega), if_pos (by omega)]
      generalize rd l 0 = x0
      generalize rd l 1 = x1
      generalize rd l 2 = x2
      generalize wrap64 (wrap64 (rd l 3 * 256) + rd l 4) = x3
      generalize rd l 5 = x5 at hb5
      generalize wrap64 (Int.tdiv (rd l 6) 16) = x6
      generalize Int.tmod (rd l 6) 16 = x7
      have hlp := impl_dec_loop l (by omega) x0 x1 x2 x3 x5 x6 x7 ((l.length - 8) / 2) k 8 [] (by omega) (by omega) (by omega) (by simp only [List.length_nil]; omega)
      have hdl := dec_length (l.drop 8)
      rw [List.length_drop] at hdl
      rw [List.nil_append] at hlp
      generalize dec (l.drop 8) = W at *
      obtain ⟨b, s1, s2⟩ := impl_packet x0 x1 x2 x3 x5 x6 x7 W (by omega) (by omega) (k - (l.length - 8) / 2 - 1) (by omega)
      obtain ⟨b', t1, t2⟩ := impl_packet x0 x1 x2 x3 x5 x6 x7 W (by omega) (by omega) (k + 1) (by omega)
      obtain rfl : b' = b := eqB t2 s2
      have he := impl_encode x0 x1 x2 x3 x5 x6 x7 W (by omega) (k - (l.length - 8) / 2 - 1) (by omega) b' s1
      have he' := impl_encode x0 x1 x2 x3 x5 x6 x7 W (by omega) (k + 1) (by omega) b' t1
      have hcl := coded_length x0 x1 x2 x3 x5 x6 x7 W b'
      rw [s1, Option.bind_some, he, Option.bind_some, equal _ l (by omega) _ (by omega), Option.bind_some] at hlp
      cases b' with
      | false =>
        rw [if_neg (by decide)] at hlp
        exact ⟨_, _, _, _, _, _, _, _, _, hlp, by simp⟩
      | true =>
        rw [if_pos rfl, if_pos rfl] at hlp
        rw [if_pos rfl] at he'
        by_cases hq : coded x0 x1 x2 x3 x5 x6 x7 W = l
        · rw [if_pos (by simpa using hq)] at hlp
          exact ⟨_, _, _, _, _, _, _, _, _, hlp, fun _ => by rw [he', hq]⟩
        · rw [if_neg (by simpa using hq)] at hlp
          exact ⟨_, _, _, _, _, _, _, _, _, hlp, by simp⟩
    · have hb' : okB l = false := by simpa using hb
      rw [hb', if_pos (by decide)]
      exact ⟨_, _, _, _, _, _, _, _, _, rfl, by simp⟩
theorem draw_bytes (l : List Int) (hl : l.length ≤ 1048576) (hb : ∀ x ∈ l, (Lit.int .u8 x).wf = true) (k : Nat) (hk : 5000 < k) : ∃ B, spec_DrawDecodePacket.f k l = some B ∧ B.length ≤ 100 := by
  obtain ⟨h, e, c⟩ := new_cur l hl hb k (by omega)
  obtain ⟨kd, fr, too, ad, ln, tg, st, dat, i1, h1, e1, c1, hp⟩ := drew l 0 h c k (by omega)
  have h8 := pk_len8 hp
  obtain ⟨p, s1, s2⟩ := spec_packet kd fr too ad ln tg st dat (by omega) k (by omega)
  have e2 := spec_encode kd fr too ad ln tg st dat (by omega) k (by omega) p s1
  rw [s2.mpr hp, if_pos rfl] at e2
  have hcl : (coded kd fr too ad ln tg st dat).length = 8 + 2 * dat.length := by unfold coded; rw [List.length_append, enc_length]; simp only [List.length_cons, List.length_nil]
  generalize coded kd fr too ad ln tg st dat = S at e2 hcl
  obtain ⟨v, i2, h2, e3, c2, _⟩ := below_cur l i1 h1 8 c1
  obtain ⟨v3, i3, h3, e4, c3, r3, r4, _⟩ := below_cur l i2 h2 (S.length : Int) c2
  obtain ⟨v4, i4, h4, e5, c4, _⟩ := pick_cur l i3 h3 [0, 1, 255, 256, (-1), 16, 3] (by simp) c3
  have r4 := r4 (by omega)
  have hf : ∃ B i' h', spec_l05Bytes.f k l 0 h = some (B, i', h') ∧ B.length ≤ 100 := by
    unfold spec_l05Bytes.f
    rw [e1, Option.bind_some]
    simp only
    rw [e2, Option.bind_some, e3, Option.bind_some]
    simp only
    by_cases h0 : v = 0
    · rw [if_pos h0, w64 (by omega) (by omega), if_pos (by omega), if_pos (by omega)]
      exact ⟨_, _, _, rfl, by rw [List.length_take]; omega⟩
    · by_cases hv1 : v = 1
      · rw [if_neg h0, if_pos hv1, e4, Option.bind_some]
        simp only
        rw [e5, Option.bind_some]
        simp only
        rw [if_pos r3, if_pos r4]
        exact ⟨_, _, _, rfl, by rw [List.length_set]; omega⟩
      · by_cases hv2 : v = 2
        · rw [if_neg h0, if_neg hv1, if_pos hv2, if_pos (by omega)]
          exact ⟨_, _, _, rfl, by rw [List.length_append]; simp only [List.length_cons, List.length_nil]; omega⟩
        · rw [if_neg h0, if_neg hv1, if_neg hv2]
          exact ⟨_, _, _, rfl, by omega⟩
  obtain ⟨B, i', h', f1, f2⟩ := hf
  refine ⟨B, ?_, f2⟩
  unfold spec_DrawDecodePacket.f
  rw [e, Option.bind_some]
  simp only
  rw [f1, Option.bind_some]
theorem FnWire : laws_FnWire.Pure := by
  intro l _ _ hb
  refine ⟨l.length + 6000, ?_⟩
  unfold laws_FnWire.f laws_big.f
  simp only [Option.bind_some]
  by_cases h : (l.length : Int) > 1048576
  · rw [if_pos (by simpa using h)]
  · rw [if_neg (by simpa using h)]
    have hl : l.length ≤ 1048576 := by omega
    obtain ⟨k, hk⟩ : ∃ k, l.length + 6000 = k := ⟨_, rfl⟩
    rw [hk]
    obtain ⟨kd, fr, too, ad, ln, tg, st, W, e, hp⟩ := draw_packet l hl hb k (by omega)
    have h8 := pk_len8 hp
    obtain ⟨hw, b1, b2, b3, b4, b5, b6, b7⟩ := pk_bounds hp (by omega)
    obtain ⟨b, i1, i2⟩ := impl_packet kd fr too ad ln tg st W (by omega) (by omega) k (by omega)
    have he := impl_encode kd fr too ad ln tg st W (by omega) k (by omega) b i1
    rw [i2.mpr hp, if_pos rfl] at he
    have hd := decode_coded kd fr too ad ln tg st W hp k (by omega)
    obtain ⟨B, d1, d2⟩ := draw_bytes l hl hb k (by omega)
    obtain ⟨q0, q1, q2, q3, q4, q5, q6, Q, ok, g1, g2⟩ := decode_any B (by omega) k (by omega)
    have ho := coded_ok kd fr too ad ln tg st W hp
    have hcl : (coded kd fr too ad ln tg st W).length = 8 + 2 * W.length := by unfold coded; rw [List.length_append, enc_length]; simp only [List.length_cons, List.length_nil]
    have es : impl_SamePacket.f k kd fr too ad ln tg st W kd fr too ad ln tg st W = some true := by
      unfold impl_SamePacket.f
      rw [if_pos rfl, if_pos rfl, if_pos rfl, if_pos rfl, if_pos rfl, if_pos rfl, if_pos rfl, equal W W (by omega) _ (by omega)]
      simp
    have hsp : impl_SplitWord.f ad = some (ad / 256, ad % 256) := by
      unfold impl_SplitWord.f impl_isWord.f
      rw [within, Option.bind_some, Option.bind_some, if_pos (by simpa using b4), Int.tdiv_eq_ediv_of_nonneg (by omega), Int.tmod_eq_emod_of_nonneg (by omega), w64 (by omega) (by omega)]
    have hjoin : (wrap64 (wrap64 (ad / 256 * 256) + ad % 256) == ad) = true := by
      rw [beq_iff_eq, w64 (n := ad / 256 * 256) (by omega) (by omega), w64 (by omega) (by omega)]
      omega
    rw [e, Option.bind_some]
    simp only
    rw [he, Option.bind_some, hd, Option.bind_some, d1, Option.bind_some, g1, Option.bind_some]
    simp only
    rw [hsp, Option.bind_some]
    simp only
    rw [if_pos trivial, es, Option.bind_some, if_pos rfl, impl_bytes, Option.bind_some, if_pos ho, w64 (n := 2 * (W.length : Int)) (by omega) (by omega), w64 (n := 8 + 2 * (W.length : Int)) (by omega) (by omega), if_pos (by omega)]
    cases ok with
    | false => rw [if_neg (by decide), hjoin]
    | true =>
      rw [if_pos rfl, g2 rfl, Option.bind_some, sameInts B B (by omega) k (by omega), Option.bind_some, if_pos (by simp), hjoin]

end Go.Proofs.Ytdnekkbchlibhaa.Pure
