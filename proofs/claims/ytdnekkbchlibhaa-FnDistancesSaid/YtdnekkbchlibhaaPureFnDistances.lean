/- A distance is the same both ways, one flipped bit is at distance 1, and flipped again it is as it was: at every draw. No condition. -/
import Derived.Test.YtdnekkbchlibhaaPFnDistancesx7
import Derived.Test.YtdnekkbchlibhaaBits
namespace Go.Proofs.Ytdnekkbchlibhaa.Pure
open Go.RowKit Go.Proofs.Ytdnekkbchlibhaa.PFnDistances Go.Proofs.YtdnekkbchlibhaaW.PrintWords Go.Proofs.YtdnekkbchlibhaaW.PrintLast Go.Proofs.YtdnekkbchlibhaaW.PrintMore Go.Proofs.Ytdnekkbchlibhaa.Num
set_option linter.unusedVariables false
set_option linter.unusedSimpArgs false

theorem inRange (a b c : Int) : spec_l01In.f a b c = some (decide (b ≤ a ∧ a ≤ c)) := by
  unfold spec_l01In.f
  by_cases h : b ≤ a <;> simp [h]
theorem within (a b c : Int) : impl_within.f a b c = some (decide (b ≤ a ∧ a ≤ c)) := by
  unfold impl_within.f
  by_cases h : b ≤ a <;> simp [h]
theorem rd_nat (x : List Int) (i : Nat) (h : i < x.length) : rd x (i : Int) = x[i] := by
  unfold rd
  rw [Int.toNat_natCast, List.getD_eq_getElem?_getD, List.getElem?_eq_getElem h]
  rfl
/-- A cursor of the draws: it stands in its bytes. -/
def Cur (b : List Int) (i : Int) : Prop := b.length ≤ 1048576 ∧ 0 ≤ i ∧ i ≤ b.length ∧ ∀ x ∈ b, 0 ≤ x ∧ x ≤ 255
theorem new_loop (l : List Int) (d : Nat) : ∀ (k i : Nat) (h : Int), i + d = 4000 → d < k → ∃ h', spec_l01New.l0 k l h i = some (l, 0, h') := by
  induction d with
  | zero =>
    intro k i h hi hk
    obtain ⟨k, rfl⟩ : ∃ m, k = m + 1 := ⟨k - 1, by omega⟩
    rw [spec_l01New.l0]
    by_cases e : (i : Int) < (l.length : Int)
    · rw [if_pos e, if_neg (by omega)]; exact ⟨_, rfl⟩
    · rw [if_neg e]; exact ⟨_, rfl⟩
  | succ d ih =>
    intro k i h hi hk
    obtain ⟨k, rfl⟩ : ∃ m, k = m + 1 := ⟨k - 1, by omega⟩
    rw [spec_l01New.l0]
    by_cases e : (i : Int) < (l.length : Int)
    · rw [if_pos e, if_pos (by omega), if_pos (by omega), w64 (n := (i : Int) + 1) (by omega) (by omega), show ((i : Int) + 1) = ((i + 1 : Nat) : Int) by omega]
      exact ih k (i + 1) _ (by omega) (by omega)
    · rw [if_neg e]; exact ⟨_, rfl⟩
theorem new_cur (l : List Int) (hl : l.length ≤ 1048576) (hb : ∀ x ∈ l, (Lit.int .u8 x).wf = true) (k : Nat) (hk : 4000 < k) : ∃ h, spec_l01New.f k l = some (l, 0, h) ∧ Cur l 0 := by
  obtain ⟨h, e⟩ := new_loop l 4000 k 0 (wrap64 (98663 + (l.length : Int))) (by decide) hk
  refine ⟨h, e, hl, by omega, by omega, fun x hx => ?_⟩
  have h3 := hb x hx
  simp [Lit.wf] at h3
  exact h3
theorem byte_cur (b : List Int) (i h : Int) (hc : Cur b i) : ∃ v i' h', spec_l01Byte.f b i h = some (v, i', h') ∧ Cur b i' ∧ 0 ≤ v ∧ v ≤ 255 := by
  obtain ⟨h1, h2, h3, h4⟩ := hc
  unfold spec_l01Byte.f
  by_cases e : i < (b.length : Int)
  · rw [if_pos e, if_pos h2, w64 (n := i + 1) (by omega) (by omega)]
    exact ⟨_, _, _, rfl, ⟨h1, by omega, by omega, h4⟩, and255 _⟩
  · rw [if_neg e]
    exact ⟨_, _, _, rfl, ⟨h1, h2, h3, h4⟩, and255 _⟩
theorem below_cur (b : List Int) (i h n : Int) (hc : Cur b i) : ∃ v i' h', spec_l01Below.f b i h n = some (v, i', h') ∧ Cur b i' ∧ 0 ≤ v ∧ (0 < n → v < n) ∧ (n ≤ 0 → v = 0) := by
  unfold spec_l01Below.f
  by_cases e : n ≤ 0
  · rw [if_pos e]
    exact ⟨0, _, _, rfl, hc, by omega, by omega, fun _ => rfl⟩
  · rw [if_neg e]
    have tm : ∀ x : Int, 0 ≤ x → 0 ≤ Int.tmod x n ∧ Int.tmod x n < n := fun x hx => by
      rw [Int.tmod_eq_emod_of_nonneg hx]
      exact ⟨Int.emod_nonneg _ (by omega), Int.emod_lt_of_pos _ (by omega)⟩
    obtain ⟨v1, i1, h1, e1, c1, r1⟩ := byte_cur b i h hc
    by_cases e2 : n ≤ 256
    · rw [if_pos e2, e1]
      simp only [Option.bind_some]
      rw [if_neg (by omega)]
      exact ⟨_, _, _, rfl, c1, (tm _ r1.1).1, fun _ => (tm _ r1.1).2, fun h => absurd h e⟩
    · obtain ⟨v2, i2, h2, e3, c2, r2⟩ := byte_cur b i1 h1 c1
      obtain ⟨v3, i3, h3, e4, c3, r3⟩ := byte_cur b i2 h2 c2
      obtain ⟨v4, i4, h4, e5, c4, r4⟩ := byte_cur b i3 h3 c3
      rw [if_neg e2, e1]
      simp only [Option.bind_some]
      rw [e3]
      simp only [Option.bind_some]
      rw [e4]
      simp only [Option.bind_some]
      rw [e5]
      simp only [Option.bind_some]
      have hv : wrap64 (wrap64 (wrap64 (wrap64 (v1 * 16777216) + wrap64 (v2 * 65536)) + wrap64 (v3 * 256)) + v4) = v1 * 16777216 + v2 * 65536 + v3 * 256 + v4 := by
        rw [w64 (n := v1 * 16777216) (by omega) (by omega), w64 (n := v2 * 65536) (by omega) (by omega), w64 (n := v3 * 256) (by omega) (by omega), w64 (n := v1 * 16777216 + v2 * 65536) (by omega) (by omega), w64 (n := v1 * 16777216 + v2 * 65536 + v3 * 256) (by omega) (by omega), w64 (by omega) (by omega)]
      rw [if_neg (by omega), hv]
      have hnn : 0 ≤ v1 * 16777216 + v2 * 65536 + v3 * 256 + v4 := by omega
      exact ⟨_, _, _, rfl, c4, (tm _ hnn).1, fun _ => (tm _ hnn).2, fun h => absurd h e⟩
theorem once_cur (b : List Int) (i h n : Int) (hc : Cur b i) : ∃ v i' h', spec_l01Once.f b i h n = some (v, i', h') ∧ Cur b i' := by
  obtain ⟨v, i', h', e, c, _⟩ := below_cur b i h n hc
  unfold spec_l01Once.f
  rw [e]
  exact ⟨_, _, _, rfl, c⟩
theorem pick_cur (b : List Int) (i h : Int) (l : List Int) (hl : l ≠ []) (hc : Cur b i) : ∃ v i' h', spec_l01PickInt.f b i h l = some (v, i', h') ∧ Cur b i' ∧ v ∈ l := by
  have hn : 0 < l.length := List.length_pos_iff.mpr hl
  obtain ⟨v, i', h', e, c, r1, r2, _⟩ := below_cur b i h (l.length : Int) hc
  have r3 := r2 (by omega)
  unfold spec_l01PickInt.f
  rw [e]
  simp only [Option.bind_some]
  rw [if_pos r1, if_pos r3]
  refine ⟨_, _, _, rfl, c, ?_⟩
  obtain ⟨m, rfl⟩ := Int.eq_ofNat_of_zero_le r1
  rw [rd_nat l m (by omega)]
  exact List.getElem_mem _
theorem sameInts_loop (x y : List Int) (hxy : x.length = y.length) (hx : x.length ≤ 1048576) (d : Nat) : ∀ (k i : Nat), i + d = x.length → d < k →
    laws_sameInts.l0 k x y i = some (decide (x.drop i = y.drop i)) := by
  induction d with
  | zero =>
    intro k i hi hk
    obtain ⟨k, rfl⟩ : ∃ m, k = m + 1 := ⟨k - 1, by omega⟩
    simp only [laws_sameInts.l0]
    rw [if_neg (by omega), List.drop_of_length_le (by omega), List.drop_of_length_le (by omega)]
    simp
  | succ d ih =>
    intro k i hi hk
    obtain ⟨k, rfl⟩ : ∃ m, k = m + 1 := ⟨k - 1, by omega⟩
    have h1 : i < x.length := by omega
    have h2 : i < y.length := by omega
    simp only [laws_sameInts.l0]
    rw [if_pos (by omega), if_pos (by omega), if_pos (by omega), rd_nat x i h1, rd_nat y i h2, w64 (by omega) (by omega)]
    by_cases e : x[i] = y[i]
    · have key : (x.drop i = y.drop i) ↔ (x.drop (i + 1) = y.drop (i + 1)) := by
        rw [List.drop_eq_getElem_cons h1, List.drop_eq_getElem_cons h2, e]
        exact ⟨fun h => (List.cons.inj h).2, fun h => by rw [h]⟩
      rw [if_pos e, show ((i : Int) + 1) = ((i + 1 : Nat) : Int) by omega, ih k (i + 1) (by omega) (by omega)]
      simp only [key]
    · have key : ¬ (x.drop i = y.drop i) := by
        rw [List.drop_eq_getElem_cons h1, List.drop_eq_getElem_cons h2]
        exact fun h => e (List.cons.inj h).1
      rw [if_neg e, decide_eq_false key]
theorem sameInts (x y : List Int) (hx : x.length ≤ 1048576) (k : Nat) (hk : x.length < k) : laws_sameInts.f k x y = some (decide (x = y)) := by
  unfold laws_sameInts.f
  by_cases h : x.length = y.length
  · rw [if_pos (by omega)]
    exact sameInts_loop x y h hx x.length k 0 (by omega) hk
  · rw [if_neg (by omega)]
    have : x ≠ y := fun e => h (by rw [e])
    simp [this]
theorem sameInts_self (x : List Int) (hx : x.length ≤ 1048576) (k : Nat) (hk : x.length < k) : laws_sameInts.f k x x = some true := by
  rw [sameInts x x hx k hk]; simp
def okB (l : List Int) : Bool := decide (l.length ≤ 40) && l.all (fun b => decide (0 ≤ b) && decide (b ≤ 255))
theorem okB_iff (l : List Int) : okB l = true ↔ l.length ≤ 40 ∧ ∀ b ∈ l, 0 ≤ b ∧ b ≤ 255 := by
  simp [okB]
theorem spec_bytes_loop (x : List Int) (hx : x.length ≤ 1048576) (d : Nat) : ∀ (k i : Nat), i + d = x.length → d < k →
    spec_AreBytes.l0 k x i = some (decide (x.length ≤ 40) && (x.drop i).all (fun b => decide (0 ≤ b) && decide (b ≤ 255))) := by
  induction d with
  | zero =>
    intro k i hi hk
    obtain ⟨k, rfl⟩ : ∃ m, k = m + 1 := ⟨k - 1, by omega⟩
    simp only [spec_AreBytes.l0]
    rw [if_neg (by omega), List.drop_of_length_le (by omega)]
    simp
    omega
  | succ d ih =>
    intro k i hi hk
    obtain ⟨k, rfl⟩ : ∃ m, k = m + 1 := ⟨k - 1, by omega⟩
    have h1 : i < x.length := by omega
    simp only [spec_AreBytes.l0]
    rw [if_pos (by omega), if_pos (by omega), rd_nat x i h1, inRange, w64 (by omega) (by omega), List.drop_eq_getElem_cons h1, show ((i : Int) + 1) = ((i + 1 : Nat) : Int) by omega, ih k (i + 1) (by omega) (by omega)]
    simp only [Option.bind_some, List.all_cons]
    by_cases e : 0 ≤ x[i] ∧ x[i] ≤ 255
    · simp [e]
    · rw [show (decide (0 ≤ x[i] ∧ x[i] ≤ 255)) = false by simpa using e]
      have : (decide (0 ≤ x[i]) && decide (x[i] ≤ 255)) = false := by rw [← Bool.decide_and]; simpa using e
      rw [this]
      simp
theorem spec_bytes (x : List Int) (hx : x.length ≤ 1048576) (k : Nat) (hk : x.length < k) : spec_AreBytes.f k x = some (okB x) := by
  have := spec_bytes_loop x hx x.length k 0 (by omega) hk
  simpa [spec_AreBytes.f, okB] using this
theorem any_not (l : List Int) : l.any (fun x => !(decide (0 ≤ x) && decide (x ≤ 255))) = !(l.all (fun b => decide (0 ≤ b) && decide (b ≤ 255))) := by
  induction l with
  | nil => rfl
  | cons x t ih => rw [List.any_cons, List.all_cons, ih]; cases (decide (0 ≤ x) && decide (x ≤ 255)) <;> rfl
theorem impl_bytes (x : List Int) : impl_AreBytes.f x = some (okB x) := by
  unfold impl_AreBytes.f slices_ContainsFunc_int_int.f okB
  rw [if_pos (Or.inl rfl)]
  have e : (slices_ContainsFunc_int_int.p 68) = fun x => !(decide (0 ≤ x) && decide (x ≤ 255)) := by
    funext y
    simp [slices_ContainsFunc_int_int.p]
  rw [e, any_not]
  by_cases h : x.length ≤ 40
  · rw [if_pos (by omega)]; simp [h]
  · rw [if_neg (by omega)]; simp [h]
theorem clone (l : List Int) (hl : l.length ≤ 1048576) : slices_Clone_int_int.f l = some l := by
  unfold slices_Clone_int_int.f
  rw [if_pos (by omega)]
def wordsOk (l : List Int) : Bool := l.all (fun b => decide (0 ≤ b) && decide (b ≤ 65535))
theorem wordsOk_iff (l : List Int) : wordsOk l = true ↔ ∀ b ∈ l, 0 ≤ b ∧ b ≤ 65535 := by
  simp [wordsOk]
/-- A valid packet, by its numbers, the number of its words, and whether these are words. -/
def PkOk (kd fr too ad ln tg st n : Int) (w : Bool) : Prop :=
  0 ≤ fr ∧ fr ≤ 255 ∧ w = true ∧
  ((kd = 1 ∧ 1 ≤ n ∧ n ≤ 8 ∧ 0 ≤ ad ∧ ad ≤ 65536 - n ∧ st = 0 ∧ too = 0 ∧ ln = 0 ∧ tg = 0) ∨
   (kd = 2 ∧ 1 ≤ n ∧ n ≤ 8 ∧ ad = 0 ∧ st = 0 ∧ too = 0 ∧ ln = 0 ∧ tg = 0) ∨
   (kd = 3 ∧ n = 0 ∧ 1 ≤ ln ∧ ln ≤ 64 ∧ 0 ≤ ad ∧ ad ≤ 65536 - ln ∧ 0 ≤ tg ∧ tg ≤ 7 ∧ st = 0 ∧ too = 0) ∨
   (kd = 4 ∧ n = 0 ∧ 0 ≤ ad ∧ ad ≤ 63 ∧ 0 ≤ too ∧ too ≤ 255 ∧ 0 ≤ tg ∧ tg ≤ 7 ∧ st = 0 ∧ ln = 0) ∨
   (kd = 5 ∧ n = 1 ∧ 0 ≤ ad ∧ ad ≤ 63 ∧ 0 ≤ too ∧ too ≤ 255 ∧ 0 ≤ tg ∧ tg ≤ 7 ∧ st = 0 ∧ ln = 0) ∨
   (kd = 6 ∧ ad = 0 ∧ 0 ≤ too ∧ too ≤ 255 ∧ 0 ≤ tg ∧ tg ≤ 7 ∧ 0 ≤ st ∧ st ≤ 2 ∧ 0 ≤ ln ∧ ln ≤ 64 ∧ (n = 0 ∨ st = 0 ∧ n ≤ 8 ∧ n ≤ ln)))
theorem bad (P : Prop) (hP : ¬ P) : ∃ b, some false = some b ∧ (b = true ↔ P) := ⟨false, rfl, (fun h => by cases h), fun h => absurd h hP⟩
theorem ends (P Q : Prop) (o : Option Bool) (h : ∃ b, o = some b ∧ (b = true ↔ P)) (hPQ : P ↔ Q) : ∃ b, o = some b ∧ (b = true ↔ Q) := by
  obtain ⟨b, h1, h2⟩ := h
  exact ⟨b, h1, h2.trans hPQ⟩
theorem pk1 (fr too ad ln tg st n : Int) (w : Bool) : PkOk 1 fr too ad ln tg st n w ↔ 0 ≤ fr ∧ fr ≤ 255 ∧ w = true ∧ (1 ≤ n ∧ n ≤ 8 ∧ 0 ≤ ad ∧ ad ≤ 65536 - n ∧ st = 0 ∧ too = 0 ∧ ln = 0 ∧ tg = 0) := by
  simp [PkOk]
theorem pk2 (fr too ad ln tg st n : Int) (w : Bool) : PkOk 2 fr too ad ln tg st n w ↔ 0 ≤ fr ∧ fr ≤ 255 ∧ w = true ∧ (1 ≤ n ∧ n ≤ 8 ∧ ad = 0 ∧ st = 0 ∧ too = 0 ∧ ln = 0 ∧ tg = 0) := by
  simp [PkOk]
theorem pk3 (fr too ad ln tg st n : Int) (w : Bool) : PkOk 3 fr too ad ln tg st n w ↔ 0 ≤ fr ∧ fr ≤ 255 ∧ w = true ∧ (n = 0 ∧ 1 ≤ ln ∧ ln ≤ 64 ∧ 0 ≤ ad ∧ ad ≤ 65536 - ln ∧ 0 ≤ tg ∧ tg ≤ 7 ∧ st = 0 ∧ too = 0) := by
  simp [PkOk]
theorem pk4 (fr too ad ln tg st n : Int) (w : Bool) : PkOk 4 fr too ad ln tg st n w ↔ 0 ≤ fr ∧ fr ≤ 255 ∧ w = true ∧ (n = 0 ∧ 0 ≤ ad ∧ ad ≤ 63 ∧ 0 ≤ too ∧ too ≤ 255 ∧ 0 ≤ tg ∧ tg ≤ 7 ∧ st = 0 ∧ ln = 0) := by
  simp [PkOk]
theorem pk5 (fr too ad ln tg st n : Int) (w : Bool) : PkOk 5 fr too ad ln tg st n w ↔ 0 ≤ fr ∧ fr ≤ 255 ∧ w = true ∧ (n = 1 ∧ 0 ≤ ad ∧ ad ≤ 63 ∧ 0 ≤ too ∧ too ≤ 255 ∧ 0 ≤ tg ∧ tg ≤ 7 ∧ st = 0 ∧ ln = 0) := by
  simp [PkOk]
theorem pk6 (fr too ad ln tg st n : Int) (w : Bool) : PkOk 6 fr too ad ln tg st n w ↔ 0 ≤ fr ∧ fr ≤ 255 ∧ w = true ∧ (ad = 0 ∧ 0 ≤ too ∧ too ≤ 255 ∧ 0 ≤ tg ∧ tg ≤ 7 ∧ 0 ≤ st ∧ st ≤ 2 ∧ 0 ≤ ln ∧ ln ≤ 64 ∧ (n = 0 ∨ st = 0 ∧ n ≤ 8 ∧ n ≤ ln)) := by
  simp [PkOk]
theorem pk_none (kd fr too ad ln tg st n : Int) (w : Bool) (h : ¬ (1 ≤ kd ∧ kd ≤ 6)) : ¬ PkOk kd fr too ad ln tg st n w := by
  intro hp
  have h2 := hp.2.2.2
  rcases h2 with h2 | h2 | h2 | h2 | h2 | h2 <;> (have := h2.1; omega)
theorem spec_words_loop (x : List Int) (hx : x.length ≤ 1048576) (d : Nat) : ∀ (k i : Nat), i + d = x.length → d < k →
    spec_l04Words.l0 k x i = some ((x.drop i).all (fun b => decide (0 ≤ b) && decide (b ≤ 65535))) := by
  induction d with
  | zero =>
    intro k i hi hk
    obtain ⟨k, rfl⟩ : ∃ m, k = m + 1 := ⟨k - 1, by omega⟩
    rw [spec_l04Words.l0, if_neg (by omega), List.drop_of_length_le (by omega)]
    rfl
  | succ d ih =>
    intro k i hi hk
    obtain ⟨k, rfl⟩ : ∃ m, k = m + 1 := ⟨k - 1, by omega⟩
    have h1 : i < x.length := by omega
    rw [spec_l04Words.l0, if_pos (by omega), if_pos (by omega), rd_nat x i h1, inRange, w64 (by omega) (by omega), List.drop_eq_getElem_cons h1, show ((i : Int) + 1) = ((i + 1 : Nat) : Int) by omega, ih k (i + 1) (by omega) (by omega)]
    simp only [Option.bind_some, List.all_cons]
    by_cases e : 0 ≤ x[i] ∧ x[i] ≤ 65535
    · simp [e]
    · rw [show (decide (0 ≤ x[i] ∧ x[i] ≤ 65535)) = false by simpa using e]
      have : (decide (0 ≤ x[i]) && decide (x[i] ≤ 65535)) = false := by rw [← Bool.decide_and]; simpa using e
      rw [this]
      simp
theorem spec_words (x : List Int) (hx : x.length ≤ 1048576) (k : Nat) (hk : x.length < k) : spec_l04Words.f k x = some (wordsOk x) := by
  have := spec_words_loop x hx x.length k 0 (by omega) hk
  simpa [spec_l04Words.f, wordsOk] using this
theorem zero_eq (kd fr too ad ln tg st : Int) (l : List Int) (a b c : Bool) : spec_l04Zero.f kd fr too ad ln tg st l a b c = some ((a || decide (too = 0)) && (b || decide (ln = 0)) && (c || decide (tg = 0))) := by
  unfold spec_l04Zero.f
  by_cases h1 : too = 0 <;> by_cases h2 : ln = 0 <;> by_cases h3 : tg = 0 <;> cases a <;> cases b <;> cases c <;> simp [h1, h2, h3]
theorem spec_packet1 (fr too ad ln tg st : Int) (l : List Int) (hl : l.length ≤ 1048576) (k : Nat) (hk : l.length + 2 < k + 1) : ∃ b, spec_IsPacket.f (k + 1) 1 fr too ad ln tg st l = some b ∧
    (b = true ↔ PkOk 1 fr too ad ln tg st (l.length : Int) (wordsOk l)) := by
  unfold spec_IsPacket.f
  rw [spec_words l hl (k + 1) (by omega), pk1]
  have hn : (l.length : Int) ≤ 1048576 ∧ 0 ≤ (l.length : Int) := by omega
  simp only [spec_IsPacket.j0, spec_IsId.f, inRange, zero_eq, Option.bind_some]
  generalize (l.length : Int) = n at *
  generalize wordsOk l = w at *
  clear hl hk
  by_cases q2 : 0 ≤ fr ∧ fr ≤ 255
  · have p2 : decide (0 ≤ fr ∧ fr ≤ 255) = true := decide_eq_true q2
    simp only [p2, ↓reduceIte, Bool.not_false, Bool.not_true, Bool.false_eq_true, Int.reduceLE, Int.reduceEq, and_false, false_and, and_true, true_and, and_self, decide_false, decide_true, decide_eq_true_eq, Int.reduceNe, bne_self_eq_false]
    cases w with
    | false => exact bad _ (by simp)
    | true =>
      simp only [↓reduceIte, Bool.not_false, Bool.not_true, Bool.false_eq_true, Int.reduceLE, Int.reduceEq, and_false, false_and, and_true, true_and, and_self, decide_false, decide_true, decide_eq_true_eq, Int.reduceNe, bne_self_eq_false]
      by_cases c0 : 1 ≤ n ∧ n ≤ 8
      · rw [if_pos (by simpa using c0)]
        rw [w64 (by omega) (by omega)]
        by_cases c2 : 0 ≤ ad ∧ ad ≤ 65536 - n
        · rw [if_pos (by simpa using c2)]
          by_cases c3 : st = 0
          · rw [if_pos c3]
            refine ⟨_, rfl, ?_⟩
            simp
            omega
          · rw [if_neg c3]
            refine bad _ fun h => ?_
            obtain ⟨_, _, _, h⟩ := h
            omega
        · rw [if_neg (by simpa using c2)]
          refine bad _ fun h => ?_
          obtain ⟨_, _, _, h⟩ := h
          omega
      · rw [if_neg (by simpa using c0)]
        refine bad _ fun h => ?_
        obtain ⟨_, _, _, h⟩ := h
        omega
  · have p2 : decide (0 ≤ fr ∧ fr ≤ 255) = false := decide_eq_false q2
    simp only [p2, ↓reduceIte, Bool.not_false, Bool.not_true, Bool.false_eq_true, Int.reduceLE, Int.reduceEq, and_false, false_and, and_true, true_and, and_self, decide_false, decide_true, decide_eq_true_eq, Int.reduceNe, bne_self_eq_false]
    refine bad _ fun h => ?_
    omega
theorem spec_packet2 (fr too ad ln tg st : Int) (l : List Int) (hl : l.length ≤ 1048576) (k : Nat) (hk : l.length + 2 < k + 1) : ∃ b, spec_IsPacket.f (k + 1) 2 fr too ad ln tg st l = some b ∧
    (b = true ↔ PkOk 2 fr too ad ln tg st (l.length : Int) (wordsOk l)) := by
  unfold spec_IsPacket.f
  rw [spec_words l hl (k + 1) (by omega), pk2]
  have hn : (l.length : Int) ≤ 1048576 ∧ 0 ≤ (l.length : Int) := by omega
  simp only [spec_IsPacket.j0, spec_IsId.f, inRange, zero_eq, Option.bind_some]
  generalize (l.length : Int) = n at *
  generalize wordsOk l = w at *
  clear hl hk
  by_cases q2 : 0 ≤ fr ∧ fr ≤ 255
  · have p2 : decide (0 ≤ fr ∧ fr ≤ 255) = true := decide_eq_true q2
    simp only [p2, ↓reduceIte, Bool.not_false, Bool.not_true, Bool.false_eq_true, Int.reduceLE, Int.reduceEq, and_false, false_and, and_true, true_and, and_self, decide_false, decide_true, decide_eq_true_eq, Int.reduceNe, bne_self_eq_false]
    cases w with
    | false => exact bad _ (by simp)
    | true =>
      simp only [↓reduceIte, Bool.not_false, Bool.not_true, Bool.false_eq_true, Int.reduceLE, Int.reduceEq, and_false, false_and, and_true, true_and, and_self, decide_false, decide_true, decide_eq_true_eq, Int.reduceNe, bne_self_eq_false]
      by_cases c0 : 1 ≤ n ∧ n ≤ 8
      · rw [if_pos (by simpa using c0)]
        by_cases c1 : ad = 0
        · rw [if_pos c1]
          by_cases c2 : st = 0
          · rw [if_pos c2]
            refine ⟨_, rfl, ?_⟩
            simp
            omega
          · rw [if_neg c2]
            refine bad _ fun h => ?_
            obtain ⟨_, _, _, h⟩ := h
            omega
        · rw [if_neg c1]
          refine bad _ fun h => ?_
          obtain ⟨_, _, _, h⟩ := h
          omega
      · rw [if_neg (by simpa using c0)]
        refine bad _ fun h => ?_
        obtain ⟨_, _, _, h⟩ := h
        omega
  · have p2 : decide (0 ≤ fr ∧ fr ≤ 255) = false := decide_eq_false q2
    simp only [p2, ↓reduceIte, Bool.not_false, Bool.not_true, Bool.false_eq_true, Int.reduceLE, Int.reduceEq, and_false, false_and, and_true, true_and, and_self, decide_false, decide_true, decide_eq_true_eq, Int.reduceNe, bne_self_eq_false]
    refine bad _ fun h => ?_
    omega
theorem spec_packet3 (fr too ad ln tg st : Int) (l : List Int) (hl : l.length ≤ 1048576) (k : Nat) (hk : l.length + 2 < k + 1) : ∃ b, spec_IsPacket.f (k + 1) 3 fr too ad ln tg st l = some b ∧
    (b = true ↔ PkOk 3 fr too ad ln tg st (l.length : Int) (wordsOk l)) := by
  unfold spec_IsPacket.f
  rw [spec_words l hl (k + 1) (by omega), pk3]
  have hn : (l.length : Int) ≤ 1048576 ∧ 0 ≤ (l.length : Int) := by omega
  simp only [spec_IsPacket.j0, spec_IsId.f, inRange, zero_eq, Option.bind_some]
  generalize (l.length : Int) = n at *
  generalize wordsOk l = w at *
  clear hl hk
  by_cases q2 : 0 ≤ fr ∧ fr ≤ 255
  · have p2 : decide (0 ≤ fr ∧ fr ≤ 255) = true := decide_eq_true q2
    simp only [p2, ↓reduceIte, Bool.not_false, Bool.not_true, Bool.false_eq_true, Int.reduceLE, Int.reduceEq, and_false, false_and, and_true, true_and, and_self, decide_false, decide_true, decide_eq_true_eq, Int.reduceNe, bne_self_eq_false]
    cases w with
    | false => exact bad _ (by simp)
    | true =>
      simp only [↓reduceIte, Bool.not_false, Bool.not_true, Bool.false_eq_true, Int.reduceLE, Int.reduceEq, and_false, false_and, and_true, true_and, and_self, decide_false, decide_true, decide_eq_true_eq, Int.reduceNe, bne_self_eq_false]
      by_cases c0 : n = 0
      · rw [if_pos c0]
        by_cases c1 : 1 ≤ ln ∧ ln ≤ 64
        · rw [if_pos (by simpa using c1)]
          rw [w64 (by omega) (by omega)]
          by_cases c3 : 0 ≤ ad ∧ ad ≤ 65536 - ln
          · rw [if_pos (by simpa using c3)]
            by_cases c4 : 0 ≤ tg ∧ tg ≤ 7
            · rw [if_pos (by simpa using c4)]
              by_cases c5 : st = 0
              · rw [if_pos c5]
                refine ⟨_, rfl, ?_⟩
                simp
                omega
              · rw [if_neg c5]
                refine bad _ fun h => ?_
                obtain ⟨_, _, _, h⟩ := h
                omega
            · rw [if_neg (by simpa using c4)]
              refine bad _ fun h => ?_
              obtain ⟨_, _, _, h⟩ := h
              omega
          · rw [if_neg (by simpa using c3)]
            refine bad _ fun h => ?_
            obtain ⟨_, _, _, h⟩ := h
            omega
        · rw [if_neg (by simpa using c1)]
          refine bad _ fun h => ?_
          obtain ⟨_, _, _, h⟩ := h
          omega
      · rw [if_neg c0]
        refine bad _ fun h => ?_
        obtain ⟨_, _, _, h⟩ := h
        omega
  · have p2 : decide (0 ≤ fr ∧ fr ≤ 255) = false := decide_eq_false q2
    simp only [p2, ↓reduceIte, Bool.not_false, Bool.not_true, Bool.false_eq_true, Int.reduceLE, Int.reduceEq, and_false, false_and, and_true, true_and, and_self, decide_false, decide_true, decide_eq_true_eq, Int.reduceNe, bne_self_eq_false]
    refine bad _ fun h => ?_
    omega
theorem spec_packet4 (fr too ad ln tg st : Int) (l : List Int) (hl : l.length ≤ 1048576) (k : Nat) (hk : l.length + 2 < k + 1) : ∃ b, spec_IsPacket.f (k + 1) 4 fr too ad ln tg st l = some b ∧
    (b = true ↔ PkOk 4 fr too ad ln tg st (l.length : Int) (wordsOk l)) := by
  unfold spec_IsPacket.f
  rw [spec_words l hl (k + 1) (by omega), pk4]
  have hn : (l.length : Int) ≤ 1048576 ∧ 0 ≤ (l.length : Int) := by omega
  simp only [spec_IsPacket.j0, spec_IsId.f, inRange, zero_eq, Option.bind_some]
  generalize (l.length : Int) = n at *
  generalize wordsOk l = w at *
  clear hl hk
  by_cases q2 : 0 ≤ fr ∧ fr ≤ 255
  · have p2 : decide (0 ≤ fr ∧ fr ≤ 255) = true := decide_eq_true q2
    simp only [p2, ↓reduceIte, Bool.not_false, Bool.not_true, Bool.false_eq_true, Int.reduceLE, Int.reduceEq, and_false, false_and, and_true, true_and, and_self, decide_false, decide_true, decide_eq_true_eq, Int.reduceNe, bne_self_eq_false]
    cases w with
    | false => exact bad _ (by simp)
    | true =>
      simp only [↓reduceIte, Bool.not_false, Bool.not_true, Bool.false_eq_true, Int.reduceLE, Int.reduceEq, and_false, false_and, and_true, true_and, and_self, decide_false, decide_true, decide_eq_true_eq, Int.reduceNe, bne_self_eq_false]
      by_cases c0 : n = 0
      · rw [if_pos c0]
        by_cases c1 : 0 ≤ ad ∧ ad ≤ 63
        · rw [if_pos (by simpa using c1)]
          by_cases c2 : 0 ≤ too ∧ too ≤ 255
          · rw [if_pos (by simpa using c2)]
            by_cases c3 : 0 ≤ tg ∧ tg ≤ 7
            · rw [if_pos (by simpa using c3)]
              by_cases c4 : st = 0
              · rw [if_pos c4]
                refine ⟨_, rfl, ?_⟩
                simp
                omega
              · rw [if_neg c4]
                refine bad _ fun h => ?_
                obtain ⟨_, _, _, h⟩ := h
                omega
            · rw [if_neg (by simpa using c3)]
              refine bad _ fun h => ?_
              obtain ⟨_, _, _, h⟩ := h
              omega
          · rw [if_neg (by simpa using c2)]
            refine bad _ fun h => ?_
            obtain ⟨_, _, _, h⟩ := h
            omega
        · rw [if_neg (by simpa using c1)]
          refine bad _ fun h => ?_
          obtain ⟨_, _, _, h⟩ := h
          omega
      · rw [if_neg c0]
        refine bad _ fun h => ?_
        obtain ⟨_, _, _, h⟩ := h
        omega
  · have p2 : decide (0 ≤ fr ∧ fr ≤ 255) = false := decide_eq_false q2
    simp only [p2, ↓reduceIte, Bool.not_false, Bool.not_true, Bool.false_eq_true, Int.reduceLE, Int.reduceEq, and_false, false_and, and_true, true_and, and_self, decide_false, decide_true, decide_eq_true_eq, Int.reduceNe, bne_self_eq_false]
    refine bad _ fun h => ?_
    omega
theorem spec_packet5 (fr too ad ln tg st : Int) (l : List Int) (hl : l.length ≤ 1048576) (k : Nat) (hk : l.length + 2 < k + 1) : ∃ b, spec_IsPacket.f (k + 1) 5 fr too ad ln tg st l = some b ∧
    (b = true ↔ PkOk 5 fr too ad ln tg st (l.length : Int) (wordsOk l)) := by
  unfold spec_IsPacket.f
  rw [spec_words l hl (k + 1) (by omega), pk5]
  have hn : (l.length : Int) ≤ 1048576 ∧ 0 ≤ (l.length : Int) := by omega
  simp only [spec_IsPacket.j0, spec_IsId.f, inRange, zero_eq, Option.bind_some]
  generalize (l.length : Int) = n at *
  generalize wordsOk l = w at *
  clear hl hk
  by_cases q2 : 0 ≤ fr ∧ fr ≤ 255
  · have p2 : decide (0 ≤ fr ∧ fr ≤ 255) = true := decide_eq_true q2
    simp only [p2, ↓reduceIte, Bool.not_false, Bool.not_true, Bool.false_eq_true, Int.reduceLE, Int.reduceEq, and_false, false_and, and_true, true_and, and_self, decide_false, decide_true, decide_eq_true_eq, Int.reduceNe, bne_self_eq_false]
    cases w with
    | false => exact bad _ (by simp)
    | true =>
      simp only [↓reduceIte, Bool.not_false, Bool.not_true, Bool.false_eq_true, Int.reduceLE, Int.reduceEq, and_false, false_and, and_true, true_and, and_self, decide_false, decide_true, decide_eq_true_eq, Int.reduceNe, bne_self_eq_false]
      by_cases c0 : n = 1
      · rw [if_pos c0]
        by_cases c1 : 0 ≤ ad ∧ ad ≤ 63
        · rw [if_pos (by simpa using c1)]
          by_cases c2 : 0 ≤ too ∧ too ≤ 255
          · rw [if_pos (by simpa using c2)]
            by_cases c3 : 0 ≤ tg ∧ tg ≤ 7
            · rw [if_pos (by simpa using c3)]
              by_cases c4 : st = 0
              · rw [if_pos c4]
                refine ⟨_, rfl, ?_⟩
                simp
                omega
              · rw [if_neg c4]
                refine bad _ fun h => ?_
                obtain ⟨_, _, _, h⟩ := h
                omega
            · rw [if_neg (by simpa using c3)]
              refine bad _ fun h => ?_
              obtain ⟨_, _, _, h⟩ := h
              omega
          · rw [if_neg (by simpa using c2)]
            refine bad _ fun h => ?_
            obtain ⟨_, _, _, h⟩ := h
            omega
        · rw [if_neg (by simpa using c1)]
          refine bad _ fun h => ?_
          obtain ⟨_, _, _, h⟩ := h
          omega
      · rw [if_neg c0]
        refine bad _ fun h => ?_
        obtain ⟨_, _, _, h⟩ := h
        omega
  · have p2 : decide (0 ≤ fr ∧ fr ≤ 255) = false := decide_eq_false q2
    simp only [p2, ↓reduceIte, Bool.not_false, Bool.not_true, Bool.false_eq_true, Int.reduceLE, Int.reduceEq, and_false, false_and, and_true, true_and, and_self, decide_false, decide_true, decide_eq_true_eq, Int.reduceNe, bne_self_eq_false]
    refine bad _ fun h => ?_
    omega
theorem spec_packet6 (fr too ad ln tg st : Int) (l : List Int) (hl : l.length ≤ 1048576) (k : Nat) (hk : l.length + 2 < k + 1) : ∃ b, spec_IsPacket.f (k + 1) 6 fr too ad ln tg st l = some b ∧
    (b = true ↔ PkOk 6 fr too ad ln tg st (l.length : Int) (wordsOk l)) := by
  unfold spec_IsPacket.f
  rw [spec_words l hl (k + 1) (by omega), pk6]
  have hn : (l.length : Int) ≤ 1048576 ∧ 0 ≤ (l.length : Int) := by omega
  simp only [spec_IsPacket.j0, spec_IsId.f, inRange, zero_eq, Option.bind_some]
  generalize (l.length : Int) = n at *
  generalize wordsOk l = w at *
  clear hl hk
  by_cases q2 : 0 ≤ fr ∧ fr ≤ 255
  · have p2 : decide (0 ≤ fr ∧ fr ≤ 255) = true := decide_eq_true q2
    simp only [p2, ↓reduceIte, Bool.not_false, Bool.not_true, Bool.false_eq_true, Int.reduceLE, Int.reduceEq, and_false, false_and, and_true, true_and, and_self, decide_false, decide_true, decide_eq_true_eq, Int.reduceNe, bne_self_eq_false]
    cases w with
    | false => exact bad _ (by simp)
    | true =>
      simp only [↓reduceIte, Bool.not_false, Bool.not_true, Bool.false_eq_true, Int.reduceLE, Int.reduceEq, and_false, false_and, and_true, true_and, and_self, decide_false, decide_true, decide_eq_true_eq, Int.reduceNe, bne_self_eq_false]
      by_cases c0 : ad = 0
      · rw [if_pos c0]
        by_cases c1 : 0 ≤ too ∧ too ≤ 255
        · rw [if_pos (by simpa using c1)]
          by_cases c2 : 0 ≤ tg ∧ tg ≤ 7
          · rw [if_pos (by simpa using c2)]
            by_cases c3 : 0 ≤ st ∧ st ≤ 2
            · rw [if_pos (by simpa using c3)]
              by_cases c4 : 0 ≤ ln ∧ ln ≤ 64
              · rw [if_pos (by simpa using c4)]
                by_cases c7 : n = 0
                · rw [if_pos c7]
                  refine ⟨_, rfl, ?_⟩
                  simp
                  omega
                · by_cases c8 : st = 0
                  · rw [if_neg c7, if_pos c8]
                    refine ⟨_, rfl, ?_⟩
                    have hm : n ≤ mn 8 ln ↔ n ≤ 8 ∧ n ≤ ln := by
                      unfold mn
                      split <;> omega
                    rw [decide_eq_true_iff, hm]
                    omega
                  · rw [if_neg c7, if_neg c8]
                    refine bad _ fun h => ?_
                    obtain ⟨_, _, _, h⟩ := h
                    omega
              · rw [if_neg (by simpa using c4)]
                refine bad _ fun h => ?_
                obtain ⟨_, _, _, h⟩ := h
                omega
            · rw [if_neg (by simpa using c3)]
              refine bad _ fun h => ?_
              obtain ⟨_, _, _, h⟩ := h
              omega
          · rw [if_neg (by simpa using c2)]
            refine bad _ fun h => ?_
            obtain ⟨_, _, _, h⟩ := h
            omega
        · rw [if_neg (by simpa using c1)]
          refine bad _ fun h => ?_
          obtain ⟨_, _, _, h⟩ := h
          omega
      · rw [if_neg c0]
        refine bad _ fun h => ?_
        obtain ⟨_, _, _, h⟩ := h
        omega
  · have p2 : decide (0 ≤ fr ∧ fr ≤ 255) = false := decide_eq_false q2
    simp only [p2, ↓reduceIte, Bool.not_false, Bool.not_true, Bool.false_eq_true, Int.reduceLE, Int.reduceEq, and_false, false_and, and_true, true_and, and_self, decide_false, decide_true, decide_eq_true_eq, Int.reduceNe, bne_self_eq_false]
    refine bad _ fun h => ?_
    omega
theorem spec_packet (kd fr too ad ln tg st : Int) (l : List Int) (hl : l.length ≤ 1048576) (k : Nat) (hk : l.length + 2 < k) : ∃ b, spec_IsPacket.f k kd fr too ad ln tg st l = some b ∧
    (b = true ↔ PkOk kd fr too ad ln tg st (l.length : Int) (wordsOk l)) := by
  obtain ⟨k, rfl⟩ : ∃ m, k = m + 1 := ⟨k - 1, by omega⟩
  by_cases q : 1 ≤ kd ∧ kd ≤ 6
  · have : kd = 1 ∨ kd = 2 ∨ kd = 3 ∨ kd = 4 ∨ kd = 5 ∨ kd = 6 := by omega
    rcases this with rfl | rfl | rfl | rfl | rfl | rfl
    · exact spec_packet1 fr too ad ln tg st l hl k hk
    · exact spec_packet2 fr too ad ln tg st l hl k hk
    · exact spec_packet3 fr too ad ln tg st l hl k hk
    · exact spec_packet4 fr too ad ln tg st l hl k hk
    · exact spec_packet5 fr too ad ln tg st l hl k hk
    · exact spec_packet6 fr too ad ln tg st l hl k hk
  · unfold spec_IsPacket.f
    rw [spec_words l hl (k + 1) (by omega)]
    simp only [spec_IsPacket.j0, spec_IsId.f, inRange, zero_eq, Option.bind_some]
    have hb := pk_none kd fr too ad ln tg st (l.length : Int) (wordsOk l) q
    rw [if_neg (show ¬ kd = 1 by omega), if_neg (show ¬ kd = 2 by omega), if_neg (show ¬ kd = 3 by omega), if_neg (show ¬ kd = 4 by omega), if_neg (show ¬ kd = 5 by omega), if_neg (show ¬ kd = 6 by omega)]
    generalize wordsOk l = w at *
    have hb' := bad _ hb
    by_cases q2 : 0 ≤ fr ∧ fr ≤ 255 <;> cases w <;> simpa [q2] using hb
theorem data_loop (b : List Int) (d : Nat) : ∀ (k m : Nat) (out : List Int) (i h n : Int), (m : Int) + d = n → n ≤ 100 → d < k → out.length = m → (∀ x ∈ out, 0 ≤ x ∧ x ≤ 65535) → Cur b i →
    ∃ v i' h', spec_l04Data.l0 k n out m b i h = some (v, i', h') ∧ Cur b i' ∧ (v.length : Int) = n ∧ ∀ x ∈ v, 0 ≤ x ∧ x ≤ 65535 := by
  induction d with
  | zero =>
    intro k m out i h n hn h8 hk ho hr hc
    obtain ⟨k, rfl⟩ : ∃ m, k = m + 1 := ⟨k - 1, by omega⟩
    rw [spec_l04Data.l0, if_neg (by omega)]
    exact ⟨out, _, _, rfl, hc, by omega, hr⟩
  | succ d ih =>
    intro k m out i h n hn h8 hk ho hr hc
    obtain ⟨k, rfl⟩ : ∃ m, k = m + 1 := ⟨k - 1, by omega⟩
    obtain ⟨v1, i1, h1, e1, c1, r1, s1, _⟩ := below_cur b i h 256 hc
    obtain ⟨v2, i2, h2, e2, c2, r2, s2, _⟩ := below_cur b i1 h1 65536 c1
    obtain ⟨v3, i3, h3, e3, c3, r3⟩ := pick_cur b i2 h2 [0, 1, 65535, v1, v2] (by simp) c2
    have s1 := s1 (by decide)
    have s2 := s2 (by decide)
    have b3 : 0 ≤ v3 ∧ v3 ≤ 65535 := by
      simp only [List.mem_cons, List.not_mem_nil, or_false] at r3
      omega
    rw [spec_l04Data.l0, if_pos (by omega), e1, Option.bind_some]
    simp only
    rw [e2, Option.bind_some]
    simp only
    rw [e3, Option.bind_some]
    simp only
    rw [if_pos (by omega), w64 (by omega) (by omega), show ((m : Int) + 1) = ((m + 1 : Nat) : Int) by omega]
    refine ih k (m + 1) (out ++ [v3]) i3 h3 n (by omega) h8 (by omega) (by simp [ho]) (fun x hx => ?_) c3
    rcases List.mem_append.mp hx with hx | hx
    · exact hr x hx
    · rw [List.mem_singleton.mp hx]
      exact b3
theorem data_cur (b : List Int) (i h n : Int) (h0 : 0 ≤ n) (h8 : n ≤ 100) (hc : Cur b i) (k : Nat) (hk : 200 < k) : ∃ v i' h', spec_l04Data.f k b i h n = some (v, i', h') ∧ Cur b i' ∧ (v.length : Int) = n ∧ wordsOk v = true := by
  obtain ⟨v, i', h', e, c, hl, hr⟩ := data_loop b n.toNat k 0 [] i h n (by omega) h8 (by omega) rfl (by simp) hc
  exact ⟨v, i', h', e, c, hl, (wordsOk_iff v).mpr hr⟩
/-- A packet was drawn, and it is a packet. -/
def Drew (b : List Int) (o : Option (Int × Int × Int × Int × Int × Int × Int × List Int × Int × Int)) : Prop :=
  ∃ kd fr too ad ln tg st dat i' h', o = some (kd, fr, too, ad, ln, tg, st, dat, i', h') ∧ Cur b i' ∧ PkOk kd fr too ad ln tg st (dat.length : Int) (wordsOk dat)
theorem drew_45 (b : List Int) (i h kd fr : Int) (hk4 : kd = 4 ∨ kd = 5) (hf : 0 ≤ fr ∧ fr ≤ 255) (hc : Cur b i) (k : Nat) (hk : 200 < k) : Drew b (spec_l04Packet.j1 (k + 1) kd true b i h kd fr 0 0 0 0 0) := by
  obtain ⟨v1, i1, h1, e1, c1, r1, s1, _⟩ := below_cur b i h 256 hc
  obtain ⟨v2, i2, h2, e2, c2, r2, s2, _⟩ := below_cur b i1 h1 64 c1
  obtain ⟨v3, i3, h3, e3, c3, r3, s3, _⟩ := below_cur b i2 h2 8 c2
  obtain ⟨v, i4, h4, e4, c4, hl, hw⟩ := data_cur b i3 h3 1 (by decide) (by decide) c3 k hk
  have s1 := s1 (by decide)
  have s2 := s2 (by decide)
  have s3 := s3 (by decide)
  simp only [spec_l04Packet.j1, if_true, e1, e2, e3, e4, Option.bind_some]
  rcases hk4 with rfl | rfl
  · rw [if_neg (by decide)]
    exact ⟨_, _, _, _, _, _, _, _, _, _, rfl, c3, (pk4 _ _ _ _ _ _ _ _).mpr ⟨hf.1, hf.2, rfl, rfl, by omega, by omega, by omega, by omega, by omega, by omega, rfl, rfl⟩⟩
  · rw [if_pos rfl]
    exact ⟨_, _, _, _, _, _, _, _, _, _, rfl, c4, (pk5 _ _ _ _ _ _ _ _).mpr ⟨hf.1, hf.2, hw, hl, by omega, by omega, by omega, by omega, by omega, by omega, rfl, rfl⟩⟩
theorem drew_6 (b : List Int) (i h fr : Int) (hf : 0 ≤ fr ∧ fr ≤ 255) (hc : Cur b i) (k : Nat) (hk : 200 < k) : Drew b (spec_l04Packet.j1 (k + 1) 6 false b i h 6 fr 0 0 0 0 0) := by
  obtain ⟨v1, i1, h1, e1, c1, r1, s1, _⟩ := below_cur b i h 256 hc
  obtain ⟨v2, i2, h2, e2, c2, r2, s2, _⟩ := below_cur b i1 h1 8 c1
  obtain ⟨v3, i3, h3, e3, c3, r3⟩ := pick_cur b i2 h2 [0, 0, 0, 1, 2] (by simp) c2
  obtain ⟨v4, i4, h4, e4, c4, r4⟩ := pick_cur b i3 h3 [8, 0, 20, 64] (by simp) c3
  obtain ⟨v5, i5, h5, e5, c5, r5, s5, _⟩ := below_cur b i4 h4 9 c4
  have s1 := s1 (by decide)
  have s2 := s2 (by decide)
  have s5 := s5 (by decide)
  have b3 : 0 ≤ v3 ∧ v3 ≤ 2 := by
    simp only [List.mem_cons, List.not_mem_nil, or_false] at r3
    omega
  have b4 : 0 ≤ v4 ∧ v4 ≤ 64 := by
    simp only [List.mem_cons, List.not_mem_nil, or_false] at r4
    omega
  have hm : 0 ≤ mn v4 v5 ∧ mn v4 v5 ≤ 8 ∧ mn v4 v5 ≤ v4 := by
    unfold mn
    split <;> omega
  obtain ⟨v, i6, h6, e6, c6, hl, hw⟩ := data_cur b i5 h5 (mn v4 v5) hm.1 (by omega) c5 k hk
  simp only [spec_l04Packet.j1, if_true, e1, e2, e3, e4, e5, e6, Option.bind_some]
  rw [if_neg (by decide)]
  by_cases hz : v3 = 0
  · rw [if_pos hz]
    exact ⟨_, _, _, _, _, _, _, _, _, _, rfl, c6, (pk6 _ _ _ _ _ _ _ _).mpr ⟨hf.1, hf.2, hw, rfl, by omega, by omega, by omega, by omega, by omega, by omega, by omega, by omega, .inr ⟨hz, by omega, by omega⟩⟩⟩
  · rw [if_neg hz]
    exact ⟨_, _, _, _, _, _, _, _, _, _, rfl, c4, (pk6 _ _ _ _ _ _ _ _).mpr ⟨hf.1, hf.2, rfl, rfl, by omega, by omega, by omega, by omega, by omega, by omega, by omega, by omega, .inl rfl⟩⟩
theorem drew_3 (b : List Int) (i h fr : Int) (hf : 0 ≤ fr ∧ fr ≤ 255) (hc : Cur b i) (k : Nat) : Drew b (spec_l04Packet.j0 (k + 1) 3 false b i h 3 fr 0 0 0 0 0) := by
  obtain ⟨v1, i1, h1, e1, c1, r1⟩ := pick_cur b i h [1, 4, 8, 20, 64] (by simp) hc
  obtain ⟨v2, i2, h2, e2, c2, r2, s2, _⟩ := below_cur b i1 h1 60000 c1
  obtain ⟨v3, i3, h3, e3, c3, r3⟩ := pick_cur b i2 h2 [0, 100, 4096, 65472, v2] (by simp) c2
  obtain ⟨v4, i4, h4, e4, c4, r4, s4, _⟩ := below_cur b i3 h3 8 c3
  have s2 := s2 (by decide)
  have s4 := s4 (by decide)
  have b1 : 1 ≤ v1 ∧ v1 ≤ 64 := by
    simp only [List.mem_cons, List.not_mem_nil, or_false] at r1
    omega
  have b3 : 0 ≤ v3 ∧ v3 ≤ 65472 := by
    simp only [List.mem_cons, List.not_mem_nil, or_false] at r3
    omega
  simp only [spec_l04Packet.j0, if_true, e1, e2, e3, e4, Option.bind_some]
  rw [if_neg (by decide)]
  exact ⟨_, _, _, _, _, _, _, _, _, _, rfl, c4, (pk3 _ _ _ _ _ _ _ _).mpr ⟨hf.1, hf.2, rfl, rfl, by omega, by omega, by omega, by omega, by omega, by omega, rfl, rfl⟩⟩
theorem drew_12 (b : List Int) (i h kd fr : Int) (hk1 : kd = 1 ∨ kd = 2) (hf : 0 ≤ fr ∧ fr ≤ 255) (hc : Cur b i) (k : Nat) (hk : 200 < k) : Drew b (spec_l04Packet.j0 (k + 1) kd true b i h kd fr 0 0 0 0 0) := by
  obtain ⟨v1, i1, h1, e1, c1, r1, s1, _⟩ := below_cur b i h 8 hc
  have s1 := s1 (by decide)
  obtain ⟨v, i2, h2, e2, c2, hl, hw⟩ := data_cur b i1 h1 (wrap64 (1 + v1)) (by rw [w64 (by omega) (by omega)]; omega) (by rw [w64 (by omega) (by omega)]; omega) c1 k hk
  rw [w64 (n := 1 + v1) (by omega) (by omega)] at hl
  obtain ⟨v3, i3, h3, e3, c3, r3, s3, _⟩ := below_cur b i2 h2 60000 c2
  have s3 := s3 (by decide)
  obtain ⟨v4, i4, h4, e4, c4, r4⟩ := pick_cur b i3 h3 [0, 100, 4096, 65528, v3] (by simp) c3
  have b4 : 0 ≤ v4 ∧ v4 ≤ 65528 := by
    simp only [List.mem_cons, List.not_mem_nil, or_false] at r4
    omega
  simp only [spec_l04Packet.j0, if_true, e1, e2, e3, e4, Option.bind_some]
  rcases hk1 with rfl | rfl
  · rw [if_pos rfl]
    exact ⟨_, _, _, _, _, _, _, _, _, _, rfl, c4, (pk1 _ _ _ _ _ _ _ _).mpr ⟨hf.1, hf.2, hw, by omega, by omega, by omega, by omega, rfl, rfl, rfl, rfl⟩⟩
  · rw [if_neg (by decide)]
    exact ⟨_, _, _, _, _, _, _, _, _, _, rfl, c2, (pk2 _ _ _ _ _ _ _ _).mpr ⟨hf.1, hf.2, hw, by omega, by omega, rfl, rfl, rfl, rfl, rfl⟩⟩
theorem drew (b : List Int) (i h : Int) (hc : Cur b i) (k : Nat) (hk : 300 < k) : Drew b (spec_l04Packet.f k b i h) := by
  obtain ⟨k, rfl⟩ : ∃ m, k = m + 1 + 1 := ⟨k - 2, by omega⟩
  obtain ⟨v1, i1, h1, e1, c1, r1, s1, _⟩ := below_cur b i h 6 hc
  obtain ⟨v2, i2, h2, e2, c2, r2, s2, _⟩ := below_cur b i1 h1 256 c1
  have s1 := s1 (by decide)
  have s2 := s2 (by decide)
  have hf : 0 ≤ v2 ∧ v2 ≤ 255 := by omega
  unfold spec_l04Packet.f
  simp only [e1, e2, Option.bind_some]
  rw [w64 (n := 1 + v1) (by omega) (by omega)]
  have : v1 = 0 ∨ v1 = 1 ∨ v1 = 2 ∨ v1 = 3 ∨ v1 = 4 ∨ v1 = 5 := by omega
  rcases this with rfl | rfl | rfl | rfl | rfl | rfl
  · exact drew_12 b i2 h2 1 v2 (.inl rfl) hf c2 (k + 1) (by omega)
  · exact drew_12 b i2 h2 2 v2 (.inr rfl) hf c2 (k + 1) (by omega)
  · exact drew_3 b i2 h2 v2 hf c2 (k + 1)
  · exact drew_45 b i2 h2 4 v2 (.inl rfl) hf c2 k (by omega)
  · exact drew_45 b i2 h2 5 v2 (.inr rfl) hf c2 k (by omega)
  · exact drew_6 b i2 h2 v2 hf c2 k (by omega)
/-- The words, two bytes each. -/
def enc (l : List Int) : List Int := l.flatMap fun x => [wrap64 (Int.tdiv x 256), Int.tmod x 256]
theorem enc_cons (x : Int) (l : List Int) : enc (x :: l) = [wrap64 (Int.tdiv x 256), Int.tmod x 256] ++ enc l := by simp [enc]
theorem enc_length (l : List Int) : (enc l).length = 2 * l.length := by
  induction l with
  | nil => rfl
  | cons x l ih => rw [enc_cons, List.length_append, ih]; simp; omega
/-- What both encodings answer: at a packet that is none, nothing. -/
def coded (kd fr too ad ln tg st : Int) (l : List Int) : List Int := [kd, fr, too, wrap64 (Int.tdiv ad 256), Int.tmod ad 256, ln, wrap64 (wrap64 (tg * 16) + st), (l.length : Int)] ++ enc l
theorem coded_length (kd fr too ad ln tg st : Int) (l : List Int) (b : Bool) : (if b = true then coded kd fr too ad ln tg st l else []).length ≤ 8 + 2 * l.length := by
  cases b with
  | false => simp
  | true => simp [coded, enc_length]; omega
theorem spec_enc_loop (kd fr too ad ln tg st : Int) (x : List Int) (hx : x.length ≤ 1048576) (d : Nat) : ∀ (k i : Nat) (acc : List Int), i + d = x.length → d < k → acc.length + 2 * d ≤ 17592186044414 →
    spec_EncodePacket.l0 k acc i kd fr too ad ln tg st x = some (acc ++ enc (x.drop i)) := by
  induction d with
  | zero =>
    intro k i acc hi hk _
    obtain ⟨k, rfl⟩ : ∃ m, k = m + 1 := ⟨k - 1, by omega⟩
    simp only [spec_EncodePacket.l0]
    rw [if_neg (by omega), List.drop_of_length_le (by omega)]
    simp [enc]
  | succ d ih =>
    intro k i acc hi hk ha
    obtain ⟨k, rfl⟩ : ∃ m, k = m + 1 := ⟨k - 1, by omega⟩
    have h1 : i < x.length := by omega
    simp only [spec_EncodePacket.l0]
    rw [if_pos (by omega), if_pos (by omega), rd_nat x i h1, w64 (n := (i : Int) + 1) (by omega) (by omega), List.drop_eq_getElem_cons h1, enc_cons, Option.bind_some]
    rw [if_pos (by simp only [List.length_cons, List.length_nil]; omega), show ((i : Int) + 1) = ((i + 1 : Nat) : Int) by omega, ih k (i + 1) _ (by omega) (by omega) (by rw [List.length_append]; simp only [List.length_cons, List.length_nil]; omega), List.append_assoc]
theorem spec_encode (kd fr too ad ln tg st : Int) (l : List Int) (hl : l.length ≤ 1048576) (k : Nat) (hk : l.length + 2 < k) (b : Bool) (hb : spec_IsPacket.f k kd fr too ad ln tg st l = some b) :
    spec_EncodePacket.f k kd fr too ad ln tg st l = some (if b = true then coded kd fr too ad ln tg st l else []) := by
  unfold spec_EncodePacket.f
  rw [hb, Option.bind_some]
  cases b with
  | false => rfl
  | true =>
    have h := spec_enc_loop kd fr too ad ln tg st l hl l.length k 0 [kd, fr, too, wrap64 (Int.tdiv ad 256), Int.tmod ad 256, ln, wrap64 (wrap64 (tg * 16) + st), (l.length : Int)] (by omega) (by omega) (by simp only [List.length_cons, List.length_nil]; omega)
    rw [if_pos rfl, if_pos rfl]
    exact h
/-- One bit of the checksum, one byte, all bytes. -/
def sh (x : Int) : Int := if wrap64 (x * 2) > 65535 then Go.bits .xor .i64 (wrap64 (x * 2)) 69665 else wrap64 (x * 2)
def shs : Nat → Int → Int
  | 0, x => x
  | n + 1, x => shs n (sh x)
def crcB (x b : Int) : Int := shs 8 (Go.bits .xor .i64 x (wrap64 (b * 256)))
def crc (l : List Int) (x : Int) : Int := l.foldl crcB x
theorem spec_bits (l : List Int) (i : Int) (d : Nat) : ∀ (k j : Nat) (x : Int), j + d = 8 → spec_CheckOf.l1 (k + d + 1) l x i j = spec_CheckOf.l0 k l (shs d x) (wrap64 (i + 1)) := by
  induction d with
  | zero =>
    intro k j x hj
    rw [spec_CheckOf.l1]
    rw [if_neg (by omega)]
    rfl
  | succ d ih =>
    intro k j x hj
    rw [show k + (d + 1) + 1 = (k + d + 1) + 1 by omega]
    rw [spec_CheckOf.l1]
    rw [if_pos (by omega), w64 (n := (j : Int) + 1) (by omega) (by omega), show ((j : Int) + 1) = ((j + 1 : Nat) : Int) by omega]
    by_cases e : wrap64 (x * 2) > 65535
    · rw [if_pos e, ih k (j + 1) _ (by omega)]
      simp only [shs, sh]
      rw [if_pos e]
    · rw [if_neg e, ih k (j + 1) _ (by omega)]
      simp only [shs, sh]
      rw [if_neg e]
theorem spec_crc_loop (l : List Int) (hl : l.length ≤ 1048576) (d : Nat) : ∀ (k i : Nat) (x : Int), i + d = l.length → 10 * d < k → spec_CheckOf.l0 k l x i = some (crc (l.drop i) x) := by
  induction d with
  | zero =>
    intro k i x hi hk
    obtain ⟨k, rfl⟩ : ∃ m, k = m + 1 := ⟨k - 1, by omega⟩
    simp only [spec_CheckOf.l0]
    rw [if_neg (by omega), List.drop_of_length_le (by omega)]
    rfl
  | succ d ih =>
    intro k i x hi hk
    obtain ⟨k, rfl⟩ : ∃ m, k = m + 8 + 1 + 1 := ⟨k - 10, by omega⟩
    have h1 : i < l.length := by omega
    rw [spec_CheckOf.l0]
    rw [if_pos (by omega), if_pos (by omega), rd_nat l i h1]
    have hb := spec_bits l (i : Int) 8 k 0 (Go.bits .xor .i64 x (wrap64 (l[i] * 256))) (by decide)
    rw [show ((0 : Nat) : Int) = 0 from rfl] at hb
    rw [hb, w64 (n := (i : Int) + 1) (by omega) (by omega), show ((i : Int) + 1) = ((i + 1 : Nat) : Int) by omega, ih k (i + 1) _ (by omega) (by omega), List.drop_eq_getElem_cons h1]
    rfl
theorem spec_check (l : List Int) (hl : l.length ≤ 1048576) (k : Nat) (hk : l.length + 410 < k) : spec_CheckOf.f k l = some (if okB l then crc l 65535 else -1) := by
  unfold spec_CheckOf.f
  rw [spec_bytes l hl k (by omega)]
  simp only [Option.bind_some]
  by_cases h : okB l = true
  · have := (okB_iff l).mp h
    rw [if_pos h, if_pos h]
    have h2 := spec_crc_loop l hl l.length k 0 65535 (by omega) (by omega)
    simpa using h2
  · rw [if_neg h, if_neg h]
theorem xor_split (q r p s : Nat) (hr : r < 65536) (hs : s < 65536) : (65536 * q + r) ^^^ (65536 * p + s) = 65536 * (q ^^^ p) + (r ^^^ s) := by
  have hx : r ^^^ s < 2 ^ 16 := Nat.xor_lt_two_pow hr hs
  apply Nat.eq_of_testBit_eq
  intro i
  have t1 := Nat.testBit_two_pow_mul_add (i := 16) q (show r < 2 ^ 16 from hr) i
  have t2 := Nat.testBit_two_pow_mul_add (i := 16) p (show s < 2 ^ 16 from hs) i
  have t3 := Nat.testBit_two_pow_mul_add (i := 16) (q ^^^ p) hx i
  rw [Nat.testBit_xor, show (65536 : Nat) * q = 2 ^ 16 * q from rfl, show (65536 : Nat) * p = 2 ^ 16 * p from rfl, show (65536 : Nat) * (q ^^^ p) = 2 ^ 16 * (q ^^^ p) from rfl, t1, t2, t3]
  by_cases h : i < 16 <;> simp [h, Nat.testBit_xor]
/-- One bit of the checksum, of a natural number. -/
def shN (x : Nat) : Nat := if 2 * x > 65535 then (2 * x) ^^^ 69665 else 2 * x
theorem shN_lt (x : Nat) (hx : x < 65536) : shN x < 65536 := by
  unfold shN
  by_cases h : 2 * x > 65535
  · rw [if_pos h]
    have e : 2 * x = 65536 * 1 + (2 * x - 65536) := by omega
    have e2 : 69665 = 65536 * 1 + 4129 := rfl
    rw [e, e2, xor_split 1 _ 1 4129 (by omega) (by decide)]
    have : (2 * x - 65536) ^^^ 4129 < 2 ^ 16 := Nat.xor_lt_two_pow (by omega) (by decide)
    have e3 : (1 : Nat) ^^^ 1 = 0 := rfl
    rw [e3]
    omega
  · rw [if_neg h]; omega
theorem sh_nat (x : Nat) (hx : x < 65536) : sh (x : Int) = (shN x : Nat) := by
  unfold sh shN
  rw [w64 (by omega) (by omega)]
  by_cases h : 2 * x > 65535
  · rw [if_pos h, if_pos (by omega), show (x : Int) * 2 = ((2 * x : Nat) : Int) by omega, show (69665 : Int) = ((69665 : Nat) : Int) from rfl, xorI _ _ (by omega) (by decide)]
  · rw [if_neg h, if_neg (by omega)]; omega
def shsN : Nat → Nat → Nat
  | 0, x => x
  | n + 1, x => shsN n (shN x)
theorem shs_nat (n x : Nat) (hx : x < 65536) : shs n (x : Int) = (shsN n x : Nat) ∧ shsN n x < 65536 := by
  induction n generalizing x with
  | zero =>
    rw [shs, shsN]
    exact ⟨rfl, hx⟩
  | succ n ih =>
    have h1 := sh_nat x hx
    have h2 := shN_lt x hx
    rw [shs, shsN, h1]
    exact ih _ h2
def crcBN (x b : Nat) : Nat := shsN 8 (x ^^^ (b * 256))
theorem crcB_nat (x b : Nat) (hx : x < 65536) (hb : b < 256) : crcB (x : Int) (b : Int) = (crcBN x b : Nat) ∧ crcBN x b < 65536 := by
  unfold crcB crcBN
  rw [w64 (by omega) (by omega), show (b : Int) * 256 = ((b * 256 : Nat) : Int) by omega, xorI _ _ (by omega) (by omega)]
  exact shs_nat 8 _ (show x ^^^ (b * 256) < 2 ^ 16 from Nat.xor_lt_two_pow (by omega) (by omega))
def crcN (l : List Nat) (x : Nat) : Nat := l.foldl crcBN x
theorem crc_nat (l : List Nat) (hl : ∀ b ∈ l, b < 256) (x : Nat) (hx : x < 65536) : crc (l.map fun b : Nat => (b : Int)) (x : Int) = (crcN l x : Nat) ∧ crcN l x < 65536 := by
  induction l generalizing x with
  | nil =>
    rw [List.map_nil, crc, crcN, List.foldl_nil, List.foldl_nil]
    exact ⟨rfl, hx⟩
  | cons b t ih =>
    obtain ⟨h1, h2⟩ := crcB_nat x b hx (hl b (by simp))
    have h3 := ih (fun c hc => hl c (by simp [hc])) _ h2
    rw [crc, crcN] at h3 ⊢
    rw [List.map_cons, List.foldl_cons, List.foldl_cons, h1]
    exact h3
theorem nats (l : List Int) (hl : ∀ b ∈ l, 0 ≤ b ∧ b ≤ 255) : ∃ m : List Nat, l = m.map (fun b : Nat => (b : Int)) ∧ ∀ b ∈ m, b < 256 := by
  refine ⟨l.map Int.toNat, ?_, ?_⟩
  · rw [List.map_map]
    conv => lhs; rw [← List.map_id l]
    refine List.map_congr_left fun b hb => ?_
    have := hl b hb
    simp only [id, Function.comp]
    omega
  · intro b hb
    obtain ⟨c, hc, rfl⟩ := List.mem_map.mp hb
    have := hl c hc
    omega
theorem crc_range (l : List Int) (hl : ∀ b ∈ l, 0 ≤ b ∧ b ≤ 255) : 0 ≤ crc l 65535 ∧ crc l 65535 ≤ 65535 := by
  obtain ⟨m, rfl, hm⟩ := nats l hl
  obtain ⟨h1, h2⟩ := crc_nat m hm 65535 (by decide)
  have h3 : crc (m.map fun b : Nat => (b : Int)) 65535 = (crcN m 65535 : Nat) := h1
  omega
/-- What AddCheck gives. -/
def addC (l : List Int) : List Int := if okB l = true ∧ l.length ≤ 38 then l ++ [crc l 65535 / 256, crc l 65535 % 256] else []
theorem addC_length (l : List Int) : (addC l).length ≤ 40 := by
  unfold addC
  split
  · rw [List.length_append]; simp only [List.length_cons, List.length_nil]; omega
  · simp
theorem spec_add (l : List Int) (hl : l.length ≤ 1048576) (k : Nat) (hk : l.length + 410 < k) : spec_AddCheck.f k l = some (addC l) := by
  unfold spec_AddCheck.f addC
  rw [spec_bytes l hl k (by omega)]
  simp only [Option.bind_some]
  by_cases hb : okB l = true
  · have hc := (okB_iff l).mp hb
    have hr := crc_range l hc.2
    by_cases h : l.length ≤ 38
    · rw [if_pos hb, if_neg (by omega), if_pos (show okB l = true ∧ l.length ≤ 38 from ⟨hb, h⟩), spec_check l hl k hk]
      simp only [hb, if_true, Option.bind_some, List.nil_append, List.length_nil, Nat.zero_add]
      rw [if_pos (by omega), if_pos (by simp only [List.length_cons, List.length_nil]; omega), Int.tdiv_eq_ediv_of_nonneg hr.1, Int.tmod_eq_emod_of_nonneg hr.1, w64 (by omega) (by omega)]
    · rw [if_pos hb, if_neg (show ¬ (okB l = true ∧ l.length ≤ 38) from fun x => h x.2), if_pos (by omega)]
  · rw [if_neg hb, if_neg (show ¬ (okB l = true ∧ l.length ≤ 38) from fun x => hb x.1)]
theorem flip_core (l : List Int) (a : Int) (hl : l.length ≤ 1048576) (k : Nat) (hk : l.length < k) : ∃ S, spec_FlipBit.f k l a = some S ∧ impl_FlipBit.f l a = some S ∧ S.length = l.length := by
  unfold spec_FlipBit.f impl_FlipBit.f
  rw [spec_bytes l hl k hk, impl_bytes, clone l hl]
  simp only [Option.bind_some, List.nil_append, List.length_nil, Nat.zero_add, inRange, within]
  rw [if_pos (by omega)]
  by_cases hb : okB l = true
  · have hc := (okB_iff l).mp hb
    by_cases hr : 0 ≤ a ∧ a ≤ wrap64 (wrap64 (8 * (l.length : Int)) - 1)
    · have hw : wrap64 (wrap64 (8 * (l.length : Int)) - 1) = 8 * l.length - 1 := by rw [w64 (n := 8 * (l.length : Int)) (by omega) (by omega), w64 (by omega) (by omega)]
      obtain ⟨n, rfl⟩ := Int.eq_ofNat_of_zero_le hr.1
      have e1 : wrap64 (Int.tdiv (n : Int) 8) = ((n / 8 : Nat) : Int) := by
        rw [show Int.tdiv (n : Int) 8 = ((n / 8 : Nat) : Int) from rfl]
        exact w64 (by omega) (by omega)
      have e2 : Int.tmod (n : Int) 8 = ((n % 8 : Nat) : Int) := rfl
      have e3 : IntKind.u64.wrap ((n % 8 : Nat) : Int) = ((n % 8 : Nat) : Int) := u64 (by omega) (by omega)
      refine ⟨l.set ((n / 8 : Nat) : Int).toNat (Go.bits .xor .i64 (rd l ((n / 8 : Nat) : Int)) (shl .i64 1 ((n % 8 : Nat) : Int))), ?_, ?_, ?_⟩
      · rw [if_pos hb, if_pos (by simpa using hr), e1, e2, if_pos (by omega), if_pos (by omega), if_pos (by omega)]
      · rw [if_pos hb, if_pos (by simpa using hr), e1, e2, e3, if_pos (by omega), if_pos (by omega), if_pos (by omega)]
      · simp
    · exact ⟨l, by rw [if_pos hb, if_neg (by simpa using hr)], by rw [if_pos hb, if_neg (by simpa using hr)], rfl⟩
  · exact ⟨l, by rw [if_neg hb], by rw [if_neg hb], rfl⟩
theorem pk_len8 {kd fr too ad ln tg st n : Int} {w : Bool} (h : PkOk kd fr too ad ln tg st n w) : n ≤ 8 := by
  obtain ⟨_, _, _, h⟩ := h
  rcases h with h | h | h | h | h | h
  · omega
  · omega
  · omega
  · omega
  · omega
  · obtain ⟨_, _, _, _, _, _, _, _, _, _, h⟩ := h
    omega
theorem frame_cur (b : List Int) (i h : Int) (hc : Cur b i) (k : Nat) (hk : 1000 < k) : ∃ f i' h', spec_l06Frame.f k b i h = some (f, i', h') ∧ Cur b i' ∧ f.length ≤ 40 := by
  obtain ⟨kd, fr, too, ad, ln, tg, st, dat, i1, h1, e1, c1, hp⟩ := drew b i h hc k (by omega)
  have h8 := pk_len8 hp
  obtain ⟨p, s1, s2⟩ := spec_packet kd fr too ad ln tg st dat (by omega) k (by omega)
  have e2 := spec_encode kd fr too ad ln tg st dat (by omega) k (by omega) p s1
  have hl := coded_length kd fr too ad ln tg st dat p
  generalize (if p = true then coded kd fr too ad ln tg st dat else []) = S at e2 hl
  have e3 := spec_add S (by omega) k (by omega)
  have ha := addC_length S
  generalize addC S = A at e3 ha
  obtain ⟨v, i2, h2, e4, c2, _⟩ := below_cur b i1 h1 6 c1
  unfold spec_l06Frame.f
  rw [e1, Option.bind_some]
  simp only
  rw [e2, Option.bind_some, e3, Option.bind_some, e4, Option.bind_some]
  simp only
  by_cases hv : v = 0
  · obtain ⟨v3, i3, h3, e5, c3, _⟩ := below_cur b i2 h2 (wrap64 (8 * (A.length : Int))) c2
    obtain ⟨F, f1, _, f3⟩ := flip_core A v3 (by omega) k (by omega)
    rw [if_pos hv, e5, Option.bind_some]
    simp only
    rw [f1, Option.bind_some]
    exact ⟨_, _, _, rfl, c3, by omega⟩
  · by_cases hv1 : v = 1
    · obtain ⟨v3, i3, h3, e5, c3, r3, r4, r5⟩ := below_cur b i2 h2 (A.length : Int) c2
      have hb : v3 ≤ (A.length : Int) := by
        by_cases hz : 0 < (A.length : Int)
        · have := r4 hz; omega
        · have := r5 (by omega); omega
      rw [if_neg hv, if_pos hv1, e5, Option.bind_some]
      simp only
      rw [if_pos r3, if_pos hb]
      exact ⟨_, _, _, rfl, c3, by rw [List.length_take]; omega⟩
    · rw [if_neg hv, if_neg hv1]
      exact ⟨_, _, _, rfl, c2, ha⟩
theorem places_loop (b : List Int) (d : Nat) : ∀ (k n : Nat) (out : List Int) (i h : Int), n + d = 12 → d < k → out.length = n → (∀ x ∈ out, 0 ≤ x ∧ x < 10000) → Cur b i →
    ∃ r, spec_DrawPlaces.l0 k out n b i h = some r ∧ r.length = 12 ∧ ∀ x ∈ r, 0 ≤ x ∧ x < 10000 := by
  induction d with
  | zero =>
    intro k n out i h hn hk ho hr hc
    obtain ⟨k, rfl⟩ : ∃ m, k = m + 1 := ⟨k - 1, by omega⟩
    rw [spec_DrawPlaces.l0, if_neg (by omega)]
    exact ⟨out, rfl, by omega, hr⟩
  | succ d ih =>
    intro k n out i h hn hk ho hr hc
    obtain ⟨k, rfl⟩ : ∃ m, k = m + 1 := ⟨k - 1, by omega⟩
    obtain ⟨v, i', h', e, c, r1, r2, _⟩ := below_cur b i h 10000 hc
    rw [spec_DrawPlaces.l0, if_pos (by omega), e]
    simp only [Option.bind_some]
    rw [if_pos (by omega), w64 (n := (n : Int) + 1) (by omega) (by omega), show ((n : Int) + 1) = ((n + 1 : Nat) : Int) by omega]
    refine ih k (n + 1) (out ++ [v]) i' h' (by omega) (by omega) (by simp [ho]) (fun x hx => ?_) c
    rcases List.mem_append.mp hx with hx | hx
    · exact hr x hx
    · rw [List.mem_singleton.mp hx]
      exact ⟨r1, r2 (by decide)⟩
theorem places (l : List Int) (hl : l.length ≤ 1048576) (hb : ∀ x ∈ l, (Lit.int .u8 x).wf = true) (k : Nat) (hk : 4000 < k) : ∃ r, spec_DrawPlaces.f k l = some r ∧ r.length = 12 ∧ ∀ x ∈ r, 0 ≤ x ∧ x < 10000 := by
  obtain ⟨h, e, c⟩ := new_cur l hl hb k hk
  unfold spec_DrawPlaces.f
  rw [e]
  exact places_loop l 12 k 0 [] 0 h (by decide) (by omega) rfl (by simp) c
theorem place_at (r : List Int) (hr : r.length = 12) (hx : ∀ x ∈ r, 0 ≤ x ∧ x < 10000) (n : Nat) (hn : n < 12) : ∃ v : Nat, rd r (n : Int) = v ∧ v < 10000 := by
  rw [rd_nat r n (by omega)]
  obtain ⟨h1, h2⟩ := hx _ (List.getElem_mem (show n < r.length by omega))
  exact ⟨r[n].toNat, by omega, by omega⟩
theorem count (x : Nat) (hx : x < 16777216) : bits_OnesCount.f (x : Int) = some ((pop 24 x : Nat) : Int) := by
  have h : bits_OnesCount64.f (x : Int) = some ((pop 24 x : Nat) : Int) := congrArg some (ones x hx _ _ _ _ _ _ rfl rfl rfl rfl rfl rfl)
  unfold bits_OnesCount.f
  rw [h]
  rfl
theorem pop24 (x : Nat) (hx : x < 65536) : pop 24 x = pop 16 x := by
  rw [show 24 = 16 + 8 from rfl, pop_add, show x / 2 ^ 16 = 0 by omega, pop_zero]; omega
/-- In how many bits two lists of bytes differ. -/
def dist : List Int → List Int → Nat
  | a :: x, b :: y => pop 16 (a.toNat ^^^ b.toNat) + dist x y
  | _, _ => 0
theorem dist_le (x y : List Int) : dist x y ≤ 16 * x.length := by
  induction x generalizing y with
  | nil => simp [dist]
  | cons a x ih =>
    cases y with
    | nil => simp [dist]
    | cons b y =>
      have := ih y
      have := pop_le 16 (a.toNat ^^^ b.toNat)
      simp only [dist, List.length_cons]
      omega
theorem xor_bytes (a b : Int) (ha : 0 ≤ a ∧ a ≤ 255) (hb : 0 ≤ b ∧ b ≤ 255) : Go.bits .xor .i64 a b = ((a.toNat ^^^ b.toNat : Nat) : Int) ∧ a.toNat ^^^ b.toNat < 256 := by
  obtain ⟨x, rfl⟩ := Int.eq_ofNat_of_zero_le ha.1
  obtain ⟨y, rfl⟩ := Int.eq_ofNat_of_zero_le hb.1
  rw [Int.toNat_natCast, Int.toNat_natCast]
  exact ⟨xorI x y (by omega) (by omega), show x ^^^ y < 2 ^ 8 from Nat.xor_lt_two_pow (by omega) (by omega)⟩
theorem impl_dist_loop (x y : List Int) (hx : ∀ b ∈ x, 0 ≤ b ∧ b ≤ 255) (hy : ∀ b ∈ y, 0 ≤ b ∧ b ≤ 255) (hl : x.length = y.length) (hn : x.length ≤ 1048576) (d : Nat) : ∀ (k i : Nat) (s : Nat), i + d = x.length → d < k → s ≤ 16 * i →
    impl_DistanceOf.l0 k x y s (x.length : Int) i = some ((s + dist (x.drop i) (y.drop i) : Nat) : Int) := by
  induction d with
  | zero =>
    intro k i s hi hk hs
    obtain ⟨k, rfl⟩ : ∃ m, k = m + 1 := ⟨k - 1, by omega⟩
    rw [impl_DistanceOf.l0, if_neg (by omega), List.drop_of_length_le (by omega)]
    simp [dist]
  | succ d ih =>
    intro k i s hi hk hs
    obtain ⟨k, rfl⟩ : ∃ m, k = m + 1 := ⟨k - 1, by omega⟩
    have h1 : i < x.length := by omega
    have h2 : i < y.length := by omega
    obtain ⟨e1, e2⟩ := xor_bytes x[i] y[i] (hx _ (List.getElem_mem h1)) (hy _ (List.getElem_mem h2))
    rw [impl_DistanceOf.l0, if_pos (by omega), if_pos (by omega), if_pos (by omega), if_pos (by omega), rd_nat x i h1, rd_nat y i h2, e1, u64 (by omega) (by omega), count _ (by omega), pop24 _ (by omega)]
    have hp := pop_le 16 (x[i].toNat ^^^ y[i].toNat)
    have hd : dist (x.drop i) (y.drop i) = pop 16 (x[i].toNat ^^^ y[i].toNat) + dist (x.drop (i + 1)) (y.drop (i + 1)) := by
      rw [List.drop_eq_getElem_cons h1, List.drop_eq_getElem_cons h2, dist]
    rw [hd]
    clear hd e1 e2
    generalize pop 16 (x[i].toNat ^^^ y[i].toNat) = p at hp ⊢
    simp only [Option.bind_some]
    rw [w64 (n := (s : Int) + _) (by omega) (by omega), w64 (n := (i : Int) + 1) (by omega) (by omega), show ((i : Int) + 1) = ((i + 1 : Nat) : Int) by omega, show ((s : Int) + (p : Int)) = ((s + p : Nat) : Int) by omega]
    rw [ih k (i + 1) _ (by omega) (by omega) (by omega), Nat.add_assoc]
/-- What DistanceOf gives. -/
def distF (x y : List Int) : Int := if okB x = true ∧ okB y = true ∧ x.length = y.length then (dist x y : Nat) else -1
theorem impl_distance (x y : List Int) (k : Nat) (hk : 42 < k) : impl_DistanceOf.f k x y = some (distF x y) := by
  obtain ⟨k, rfl⟩ : ∃ m, k = m + 1 := ⟨k - 1, by omega⟩
  unfold impl_DistanceOf.f distF
  rw [impl_bytes, impl_bytes]
  simp only [Option.bind_some, impl_DistanceOf.j0]
  by_cases hx : okB x = true
  · by_cases hy : okB y = true
    · obtain ⟨x1, x2⟩ := (okB_iff x).mp hx
      obtain ⟨y1, y2⟩ := (okB_iff y).mp hy
      by_cases hl : x.length = y.length
      · have := impl_dist_loop x y x2 y2 hl (by omega) x.length k 0 0 (by omega) (by omega) (by omega)
        rw [if_pos hx, if_pos hy, if_neg (by simp; omega), if_pos (show okB x = true ∧ okB y = true ∧ x.length = y.length from ⟨hx, hy, hl⟩)]
        simpa using this
      · rw [if_pos hx, if_pos hy, if_pos (by simp; omega), if_neg (show ¬ (okB x = true ∧ okB y = true ∧ x.length = y.length) from fun h => hl h.2.2)]
    · rw [if_pos hx, if_neg hy, if_pos trivial, if_neg (show ¬ (okB x = true ∧ okB y = true ∧ x.length = y.length) from fun h => hy h.2.1)]
  · rw [if_neg hx, if_pos trivial, if_neg (show ¬ (okB x = true ∧ okB y = true ∧ x.length = y.length) from fun h => hx h.1)]
theorem two_cast (i : Nat) : ((2 : Int) ^ i) = ((2 ^ i : Nat) : Int) := by simp
theorem pw (n : Nat) (hn : n ≤ 16) : 0 < 2 ^ n ∧ 2 ^ n ≤ 65536 := ⟨Nat.two_pow_pos n, Nat.pow_le_pow_right (show 0 < 2 by decide) hn⟩
theorem shl_nat (v n : Nat) (hv : v ≤ 65536) (hn : n ≤ 16) : shl .i64 (v : Int) (n : Int) = ((v * 2 ^ n : Nat) : Int) := by
  have hp := pw n hn
  have hm : v * 2 ^ n ≤ 65536 * 65536 := Nat.mul_le_mul hv hp.2
  unfold shl
  rw [Int.toNat_natCast, Nat.min_eq_left (show n ≤ IntKind.i64.bits by show n ≤ 64; omega), two_cast, ← Int.natCast_mul]
  generalize v * 2 ^ n = m at hm
  exact i64w (by omega) (by omega)
theorem shl_one (n : Nat) (hn : n ≤ 16) : shl .i64 1 (n : Int) = ((2 ^ n : Nat) : Int) := by
  have := shl_nat 1 n (by decide) hn
  rw [Nat.one_mul] at this
  exact this
/-- A bit of a list of bytes, flipped. -/
theorem flip_at (l : List Int) (hb : okB l = true) (n : Nat) (hn : n < 8 * l.length) : ∃ v : Nat, rd l ((n / 8 : Nat) : Int) = (v : Int) ∧ v < 256 ∧ v ^^^ 2 ^ (n % 8) < 256 ∧ impl_FlipBit.f l (n : Int) = some (l.set (n / 8) ((v ^^^ 2 ^ (n % 8) : Nat) : Int)) := by
  obtain ⟨h40, hx⟩ := (okB_iff l).mp hb
  have hi : n / 8 < l.length := by omega
  obtain ⟨h0, h1⟩ := hx _ (List.getElem_mem hi)
  obtain ⟨v, hv⟩ := Int.eq_ofNat_of_zero_le h0
  have hp : 2 ^ (n % 8) < 2 ^ 8 := Nat.pow_lt_pow_right (by decide) (by omega)
  have hr : rd l ((n / 8 : Nat) : Int) = (v : Int) := by rw [rd_nat l _ hi, hv]
  have hlt : v ^^^ 2 ^ (n % 8) < 2 ^ 8 := Nat.xor_lt_two_pow (by omega) hp
  refine ⟨v, hr, by omega, hlt, ?_⟩
  unfold impl_FlipBit.f
  rw [clone l (by omega), impl_bytes, Option.bind_some, Option.bind_some, if_pos hb, within, Option.bind_some]
  have hw : wrap64 (wrap64 (8 * (l.length : Int)) - 1) = 8 * l.length - 1 := by rw [w64 (n := 8 * (l.length : Int)) (by omega) (by omega), w64 (by omega) (by omega)]
  have e1 : wrap64 (Int.tdiv (n : Int) 8) = ((n / 8 : Nat) : Int) := by
    rw [show Int.tdiv (n : Int) 8 = ((n / 8 : Nat) : Int) from rfl]
    exact w64 (by omega) (by omega)
  have e3 : IntKind.u64.wrap (Int.tmod (n : Int) 8) = ((n % 8 : Nat) : Int) := by
    rw [show Int.tmod (n : Int) 8 = ((n % 8 : Nat) : Int) from rfl]
    exact u64 (by omega) (by omega)
  rw [hw, if_pos (by simp; omega), e1, e3, if_pos (by omega), if_pos (by omega), if_pos (by omega), hr, shl_one _ (by omega), xorI _ _ (by omega) (by omega), Int.toNat_natCast]
theorem okB_set (l : List Int) (hb : okB l = true) (i : Nat) (w : Int) (hw : 0 ≤ w ∧ w ≤ 255) : okB (l.set i w) = true := by
  obtain ⟨h40, hx⟩ := (okB_iff l).mp hb
  refine (okB_iff _).mpr ⟨by simpa using h40, fun b hbm => ?_⟩
  rcases List.mem_or_eq_of_mem_set hbm with h | h
  · exact hx b h
  · rw [h]; exact hw
theorem flip_twice (l : List Int) (hb : okB l = true) (n : Nat) (hn : n < 8 * l.length) : ∃ v w : Nat, rd l ((n / 8 : Nat) : Int) = (v : Int) ∧ w = v ^^^ 2 ^ (n % 8) ∧ v < 256 ∧ w < 256 ∧ impl_FlipBit.f l (n : Int) = some (l.set (n / 8) (w : Int)) ∧ okB (l.set (n / 8) (w : Int)) = true ∧ impl_FlipBit.f (l.set (n / 8) (w : Int)) (n : Int) = some l := by
  obtain ⟨v, h1, h2, h3, h4⟩ := flip_at l hb n hn
  have hi : n / 8 < l.length := by omega
  have ho := okB_set l hb (n / 8) ((v ^^^ 2 ^ (n % 8) : Nat) : Int) (by omega)
  obtain ⟨v2, g1, g2, g3, g4⟩ := flip_at (l.set (n / 8) ((v ^^^ 2 ^ (n % 8) : Nat) : Int)) ho n (by simpa using hn)
  have e : v2 = v ^^^ 2 ^ (n % 8) := by
    have := g1
    rw [rd_nat _ _ (by simpa using hi), List.getElem_set_self] at this
    omega
  refine ⟨v, _, h1, rfl, h2, h3, h4, ho, ?_⟩
  rw [g4, e, Nat.xor_assoc, Nat.xor_self, Nat.xor_zero, List.set_set]
  have : (l.set (n / 8) (v : Int)) = l := by
    have hv : l[n / 8] = (v : Int) := by rw [← h1, rd_nat l _ hi]
    rw [← hv, List.set_getElem_self]
  rw [this]
theorem dd_loop (b x : List Int) (d : Nat) : ∀ (k j : Nat) (y : List Int) (i h : Int), j + d = 4 → 2 * d + 200 < k → y.length ≤ 50 → Cur b i →
    ∃ z, spec_DrawDistanceOf.l0 k x y j b i h = some (x, z) := by
  induction d with
  | zero =>
    intro k j y i h hj hk hy hc
    obtain ⟨k, rfl⟩ : ∃ m, k = m + 1 + 1 := ⟨k - 2, by omega⟩
    obtain ⟨v, i1, h1, e1, c1, r1, r2, _⟩ := below_cur b i h 4 hc
    have r2 := r2 (by decide)
    obtain ⟨o, i2, h2, e2, c2⟩ := once_cur b i1 h1 8 c1
    obtain ⟨p, i3, h3, e3, c3, _⟩ := pick_cur b i2 h2 [0, 256] (by simp) c2
    rw [spec_DrawDistanceOf.l0, e1, Option.bind_some]
    simp only
    rw [if_neg (by omega), spec_DrawDistanceOf.j1, if_neg (by decide), e2, Option.bind_some]
    simp only
    cases o with
    | false => exact ⟨_, rfl⟩
    | true =>
      rw [if_pos rfl, e3, Option.bind_some]
      simp only
      rw [if_pos (by omega)]
      exact ⟨_, rfl⟩
  | succ d ih =>
    intro k j y i h hj hk hy hc
    obtain ⟨k, rfl⟩ : ∃ m, k = m + 1 + 1 := ⟨k - 2, by omega⟩
    obtain ⟨v, i1, h1, e1, c1, r1, r2, _⟩ := below_cur b i h 4 hc
    obtain ⟨o, i2, h2, e2, c2⟩ := once_cur b i1 h1 8 c1
    obtain ⟨p, i3, h3, e3, c3, _⟩ := pick_cur b i2 h2 [0, 256] (by simp) c2
    have fin : ∃ z, spec_DrawDistanceOf.j1 (k + 1) x y j false b i1 h1 = some (x, z) := by
      rw [spec_DrawDistanceOf.j1, if_neg (by decide), e2, Option.bind_some]
      simp only
      cases o with
      | false => exact ⟨_, rfl⟩
      | true =>
        rw [if_pos rfl, e3, Option.bind_some]
        simp only
        rw [if_pos (by omega)]
        exact ⟨_, rfl⟩
    rw [spec_DrawDistanceOf.l0, e1, Option.bind_some]
    simp only
    by_cases hv : (j : Int) < v
    · rw [if_pos hv]
      by_cases hp : (y.length : Int) > 0
      · rw [show decide ((y.length : Int) > 0) = true from decide_eq_true hp]
        obtain ⟨v4, i4, h4, e4, c4, _⟩ := below_cur b i1 h1 (wrap64 (8 * (y.length : Int))) c1
        obtain ⟨F, f1, _, f3⟩ := flip_core y v4 (by omega) k (by omega)
        rw [spec_DrawDistanceOf.j1, if_pos rfl, e4, Option.bind_some]
        simp only
        rw [f1, Option.bind_some, w64 (by omega) (by omega), show ((j : Int) + 1) = ((j + 1 : Nat) : Int) by omega]
        exact ih k (j + 1) F i4 h4 (by omega) (by omega) (by omega) c4
      · rw [show decide ((y.length : Int) > 0) = false from decide_eq_false hp]
        exact fin
    · rw [if_neg hv]
      exact fin
theorem draw_dist (l : List Int) (hl : l.length ≤ 1048576) (hb : ∀ x ∈ l, (Lit.int .u8 x).wf = true) (k : Nat) (hk : 5000 < k) : ∃ x y, spec_DrawDistanceOf.f k l = some (x, y) ∧ x.length ≤ 40 := by
  obtain ⟨h, e, c⟩ := new_cur l hl hb k (by omega)
  obtain ⟨f, i1, h1, e1, c1, hf⟩ := frame_cur l 0 h c k (by omega)
  obtain ⟨z, e2⟩ := dd_loop l f 4 k 0 f i1 h1 (by decide) (by omega) (by omega) c1
  refine ⟨f, z, ?_, hf⟩
  unfold spec_DrawDistanceOf.f
  rw [e, Option.bind_some]
  simp only
  rw [e1, Option.bind_some]
  simp only
  rw [Option.bind_some, if_pos (by simp; omega), List.nil_append]
  exact e2
theorem dist_comm (x y : List Int) : dist x y = dist y x := by
  induction x generalizing y with
  | nil => cases y <;> rfl
  | cons a x ih =>
    cases y with
    | nil => rfl
    | cons b y => simp only [dist, ih y, Nat.xor_comm]
theorem dist_self (x : List Int) : dist x x = 0 := by
  induction x with
  | nil => rfl
  | cons a x ih => simp only [dist, ih, Nat.xor_self, pop_zero]
theorem dist_set (x : List Int) (i : Nat) (h : i < x.length) (w : Int) : dist x (x.set i w) = pop 16 (x[i].toNat ^^^ w.toNat) := by
  induction x generalizing i with
  | nil => simp at h
  | cons a x ih =>
    cases i with
    | zero => simp only [List.set_cons_zero, dist, dist_self, List.getElem_cons_zero, Nat.add_zero]
    | succ i => simp only [List.set_cons_succ, dist, Nat.xor_self, pop_zero, Nat.zero_add, List.getElem_cons_succ]; exact ih i (by simpa using h)
theorem distF_comm (x y : List Int) : distF x y = distF y x := by
  unfold distF
  rw [dist_comm x y]
  by_cases h : okB x = true ∧ okB y = true ∧ x.length = y.length
  · rw [if_pos h, if_pos ⟨h.2.1, h.1, h.2.2.symm⟩]
  · rw [if_neg h, if_neg (fun g => h ⟨g.2.1, g.1, g.2.2.symm⟩)]
theorem pop_pw : ∀ j, j < 8 → pop 16 (2 ^ j) = 1 := by decide +kernel
theorem FnDistances : laws_FnDistances.Pure := by
  intro l _ _ hb
  refine ⟨l.length + 6000, ?_⟩
  unfold laws_FnDistances.f laws_big.f
  simp only [Option.bind_some]
  by_cases h : (l.length : Int) > 1048576
  · rw [if_pos (by simpa using h)]
  · rw [if_neg (by simpa using h)]
    have hl : l.length ≤ 1048576 := by omega
    obtain ⟨k, hk⟩ : ∃ k, l.length + 6000 = k + 1 := ⟨l.length + 5999, rfl⟩
    rw [hk]
    obtain ⟨x, y, e1, hx⟩ := draw_dist l hl hb (k + 1) (by omega)
    obtain ⟨r, e2, hr, hrx⟩ := places l hl hb (k + 1) (by omega)
    rw [e1, Option.bind_some]
    simp only
    rw [e2, Option.bind_some, spec_bytes x (by omega) _ (by omega), Option.bind_some]
    by_cases ho : okB x = true
    · rw [if_pos ho]
      by_cases hz : x.length = 0
      · rw [show ((x.length : Int) == 0) = true by simp [hz], laws_FnDistances.j0, if_pos rfl]
      · rw [show ((x.length : Int) == 0) = false by rw [beq_eq_false_iff_ne]; omega, laws_FnDistances.j0, if_neg (by decide)]
        obtain ⟨p, hp, hp2⟩ := place_at r hr hrx 0 (by decide)
        have hw : wrap64 (8 * (x.length : Int)) = ((8 * x.length : Nat) : Int) := by rw [w64 (by omega) (by omega)]; omega
        have hm : Int.tmod (p : Int) ((8 * x.length : Nat) : Int) = ((p % (8 * x.length) : Nat) : Int) := rfl
        have hn : p % (8 * x.length) < 8 * x.length := Nat.mod_lt _ (by omega)
        obtain ⟨v, w, f1, f2, f3, f4, f5, f6, f7⟩ := flip_twice x ho (p % (8 * x.length)) hn
        have hp' : rd r 0 = (p : Int) := hp
        rw [if_pos (by omega), hp', hw, if_neg (by omega), hm, f5, Option.bind_some, impl_distance x y k (by omega), Option.bind_some, impl_distance y x k (by omega), Option.bind_some, if_pos (distF_comm x y), impl_distance x _ k (by omega), Option.bind_some]
        have hi : p % (8 * x.length) / 8 < x.length := by omega
        have hd : distF x (x.set (p % (8 * x.length) / 8) (w : Int)) = 1 := by
          unfold distF
          rw [if_pos ⟨ho, f6, by simp⟩, dist_set x _ hi]
          have hv : x[p % (8 * x.length) / 8] = (v : Int) := by rw [← f1, rd_nat x _ hi]
          rw [hv, Int.toNat_natCast, Int.toNat_natCast, f2, ← Nat.xor_assoc, Nat.xor_self, Nat.zero_xor, pop_pw _ (by omega)]
          rfl
        rw [hd, if_pos rfl, f7, Option.bind_some, sameInts x x (by omega) k (by omega)]
        simp
    · rw [if_neg ho, laws_FnDistances.j0, if_pos rfl]

end Go.Proofs.Ytdnekkbchlibhaa.Pure
