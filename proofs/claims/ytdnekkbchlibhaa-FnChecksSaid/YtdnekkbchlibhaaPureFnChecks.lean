/- A checksum that was added is taken again, and up to three flipped bits are found: at every draw. No condition. -/
import Derived.Test.YtdnekkbchlibhaaPFnChecksx8
import Derived.Test.YtdnekkbchlibhaaBits
namespace Go.Proofs.Ytdnekkbchlibhaa.Pure
open Go.RowKit Go.Proofs.Ytdnekkbchlibhaa.PFnChecks Go.Proofs.YtdnekkbchlibhaaW.PrintWords Go.Proofs.YtdnekkbchlibhaaW.PrintLast Go.Proofs.YtdnekkbchlibhaaW.PrintMore Go.Proofs.Ytdnekkbchlibhaa.Num
set_option linter.unusedVariables false
set_option linter.unusedSimpArgs false

theorem within (a b c : Int) : impl_within.f a b c = some (decide (b ≤ a ∧ a ≤ c)) := by
  unfold impl_within.f
  by_cases h : b ≤ a <;> simp [h]
theorem rd_nat (x : List Int) (i : Nat) (h : i < x.length) : rd x (i : Int) = x[i] := by
  unfold rd
  rw [Int.toNat_natCast, List.getD_eq_getElem?_getD, List.getElem?_eq_getElem h]
  rfl
/-- A cursor of the draws: it stands in its bytes. -/
def Cur (b : List Int) (i : Int) : Prop := b.length ≤ 1048576 ∧ 0 ≤ i ∧ i ≤ b.length ∧ ∀ x ∈ b, 0 ≤ x ∧ x ≤ 255
theorem new_loop (l : List Int) (d : Nat) : ∀ (k i : Nat) (h : Int), i + d = 4000 → d < k → ∃ h', spec_l01New.l0 k l h i = some (l, 0, h') := by
  induction d with
  | zero =>
    intro k i h hi hk
    obtain ⟨k, rfl⟩ : ∃ m, k = m + 1 := ⟨k - 1, by omega⟩
    rw [spec_l01New.l0]
    by_cases e : (i : Int) < (l.length : Int)
    · rw [if_pos e, if_neg (by omega)]; exact ⟨_, rfl⟩
    · rw [if_neg e]; exact ⟨_, rfl⟩
  | succ d ih =>
    intro k i h hi hk
    obtain ⟨k, rfl⟩ : ∃ m, k = m + 1 := ⟨k - 1, by omega⟩
    rw [spec_l01New.l0]
    by_cases e : (i : Int) < (l.length : Int)
    · rw [if_pos e, if_pos (by omega), if_pos (by omega), w64 (n := (i : Int) + 1) (by omega) (by omega), show ((i : Int) + 1) = ((i + 1 : Nat) : Int) by omega]
      exact ih k (i + 1) _ (by omega) (by omega)
    · rw [if_neg e]; exact ⟨_, rfl⟩
theorem new_cur (l : List Int) (hl : l.length ≤ 1048576) (hb : ∀ x ∈ l, (Lit.int .u8 x).wf = true) (k : Nat) (hk : 4000 < k) : ∃ h, spec_l01New.f k l = some (l, 0, h) ∧ Cur l 0 := by
  obtain ⟨h, e⟩ := new_loop l 4000 k 0 (wrap64 (98663 + (l.length : Int))) (by decide) hk
  refine ⟨h, e, hl, by omega, by omega, fun x hx => ?_⟩
  have h3 := hb x hx
  simp [Lit.wf] at h3
  exact h3
theorem byte_cur (b : List Int) (i h : Int) (hc : Cur b i) : ∃ v i' h', spec_l01Byte.f b i h = some (v, i', h') ∧ Cur b i' ∧ 0 ≤ v ∧ v ≤ 255 := by
  obtain ⟨h1, h2, h3, h4⟩ := hc
  unfold spec_l01Byte.f
  by_cases e : i < (b.length : Int)
  · rw [if_pos e, if_pos h2, w64 (n := i + 1) (by omega) (by omega)]
    exact ⟨_, _, _, rfl, ⟨h1, by omega, by omega, h4⟩, and255 _⟩
  · rw [if_neg e]
    exact ⟨_, _, _, rfl, ⟨h1, h2, h3, h4⟩, and255 _⟩
theorem below_cur (b : List Int) (i h n : Int) (hc : Cur b i) : ∃ v i' h', spec_l01Below.f b i h n = some (v, i', h') ∧ Cur b i' ∧ 0 ≤ v ∧ (0 < n → v < n) ∧ (n ≤ 0 → v = 0) := by
  unfold spec_l01Below.f
  by_cases e : n ≤ 0
  · rw [if_pos e]
    exact ⟨0, _, _, rfl, hc, by omega, by omega, fun _ => rfl⟩
  · rw [if_neg e]
    have tm : ∀ x : Int, 0 ≤ x → 0 ≤ Int.tmod x n ∧ Int.tmod x n < n := fun x hx => by
      rw [Int.tmod_eq_emod_of_nonneg hx]
      exact ⟨Int.emod_nonneg _ (by omega), Int.emod_lt_of_pos _ (by omega)⟩
    obtain ⟨v1, i1, h1, e1, c1, r1⟩ := byte_cur b i h hc
    by_cases e2 : n ≤ 256
    · rw [if_pos e2, e1]
      simp only [Option.bind_some]
      rw [if_neg (by omega)]
      exact ⟨_, _, _, rfl, c1, (tm _ r1.1).1, fun _ => (tm _ r1.1).2, fun h => absurd h e⟩
    · obtain ⟨v2, i2, h2, e3, c2, r2⟩ := byte_cur b i1 h1 c1
      obtain ⟨v3, i3, h3, e4, c3, r3⟩ := byte_cur b i2 h2 c2
      obtain ⟨v4, i4, h4, e5, c4, r4⟩ := byte_cur b i3 h3 c3
      rw [if_neg e2, e1]
      simp only [Option.bind_some]
      rw [e3]
      simp only [Option.bind_some]
      rw [e4]
      simp only [Option.bind_some]
      rw [e5]
      simp only [Option.bind_some]
      have hv : wrap64 (wrap64 (wrap64 (wrap64 (v1 * 16777216) + wrap64 (v2 * 65536)) + wrap64 (v3 * 256)) + v4) = v1 * 16777216 + v2 * 65536 + v3 * 256 + v4 := by
        rw [w64 (n := v1 * 16777216) (by omega) (by omega), w64 (n := v2 * 65536) (by omega) (by omega), w64 (n := v3 * 256) (by omega) (by omega), w64 (n := v1 * 16777216 + v2 * 65536) (by omega) (by omega), w64 (n := v1 * 16777216 + v2 * 65536 + v3 * 256) (by omega) (by omega), w64 (by omega) (by omega)]
      rw [if_neg (by omega), hv]
      have hnn : 0 ≤ v1 * 16777216 + v2 * 65536 + v3 * 256 + v4 := by omega
      exact ⟨_, _, _, rfl, c4, (tm _ hnn).1, fun _ => (tm _ hnn).2, fun h => absurd h e⟩
theorem pick_cur (b : List Int) (i h : Int) (l : List Int) (hl : l ≠ []) (hc : Cur b i) : ∃ v i' h', spec_l01PickInt.f b i h l = some (v, i', h') ∧ Cur b i' ∧ v ∈ l := by
  have hn : 0 < l.length := List.length_pos_iff.mpr hl
  obtain ⟨v, i', h', e, c, r1, r2, _⟩ := below_cur b i h (l.length : Int) hc
  have r3 := r2 (by omega)
  unfold spec_l01PickInt.f
  rw [e]
  simp only [Option.bind_some]
  rw [if_pos r1, if_pos r3]
  refine ⟨_, _, _, rfl, c, ?_⟩
  obtain ⟨m, rfl⟩ := Int.eq_ofNat_of_zero_le r1
  rw [rd_nat l m (by omega)]
  exact List.getElem_mem _
theorem places_loop (b : List Int) (d : Nat) : ∀ (k n : Nat) (out : List Int) (i h : Int), n + d = 12 → d < k → out.length = n → (∀ x ∈ out, 0 ≤ x ∧ x < 10000) → Cur b i →
    ∃ r, spec_DrawPlaces.l0 k out n b i h = some r ∧ r.length = 12 ∧ ∀ x ∈ r, 0 ≤ x ∧ x < 10000 := by
  induction d with
  | zero =>
    intro k n out i h hn hk ho hr hc
    obtain ⟨k, rfl⟩ : ∃ m, k = m + 1 := ⟨k - 1, by omega⟩
    rw [spec_DrawPlaces.l0, if_neg (by omega)]
    exact ⟨out, rfl, by omega, hr⟩
  | succ d ih =>
    intro k n out i h hn hk ho hr hc
    obtain ⟨k, rfl⟩ : ∃ m, k = m + 1 := ⟨k - 1, by omega⟩
    obtain ⟨v, i', h', e, c, r1, r2, _⟩ := below_cur b i h 10000 hc
    rw [spec_DrawPlaces.l0, if_pos (by omega), e]
    simp only [Option.bind_some]
    rw [if_pos (by omega), w64 (n := (n : Int) + 1) (by omega) (by omega), show ((n : Int) + 1) = ((n + 1 : Nat) : Int) by omega]
    refine ih k (n + 1) (out ++ [v]) i' h' (by omega) (by omega) (by simp [ho]) (fun x hx => ?_) c
    rcases List.mem_append.mp hx with hx | hx
    · exact hr x hx
    · rw [List.mem_singleton.mp hx]
      exact ⟨r1, r2 (by decide)⟩
theorem places (l : List Int) (hl : l.length ≤ 1048576) (hb : ∀ x ∈ l, (Lit.int .u8 x).wf = true) (k : Nat) (hk : 4000 < k) : ∃ r, spec_DrawPlaces.f k l = some r ∧ r.length = 12 ∧ ∀ x ∈ r, 0 ≤ x ∧ x < 10000 := by
  obtain ⟨h, e, c⟩ := new_cur l hl hb k hk
  unfold spec_DrawPlaces.f
  rw [e]
  exact places_loop l 12 k 0 [] 0 h (by decide) (by omega) rfl (by simp) c
theorem place_at (r : List Int) (hr : r.length = 12) (hx : ∀ x ∈ r, 0 ≤ x ∧ x < 10000) (n : Nat) (hn : n < 12) : ∃ v : Nat, rd r (n : Int) = v ∧ v < 10000 := by
  rw [rd_nat r n (by omega)]
  obtain ⟨h1, h2⟩ := hx _ (List.getElem_mem (show n < r.length by omega))
  exact ⟨r[n].toNat, by omega, by omega⟩
theorem sameInts_loop (x y : List Int) (hxy : x.length = y.length) (hx : x.length ≤ 1048576) (d : Nat) : ∀ (k i : Nat), i + d = x.length → d < k →
    laws_sameInts.l0 k x y i = some (decide (x.drop i = y.drop i)) := by
  induction d with
  | zero =>
    intro k i hi hk
    obtain ⟨k, rfl⟩ : ∃ m, k = m + 1 := ⟨k - 1, by omega⟩
    simp only [laws_sameInts.l0]
    rw [if_neg (by omega), List.drop_of_length_le (by omega), List.drop_of_length_le (by omega)]
    simp
  | succ d ih =>
    intro k i hi hk
    obtain ⟨k, rfl⟩ : ∃ m, k = m + 1 := ⟨k - 1, by omega⟩
    have h1 : i < x.length := by omega
    have h2 : i < y.length := by omega
    simp only [laws_sameInts.l0]
    rw [if_pos (by omega), if_pos (by omega), if_pos (by omega), rd_nat x i h1, rd_nat y i h2, w64 (by omega) (by omega)]
    by_cases e : x[i] = y[i]
    · have key : (x.drop i = y.drop i) ↔ (x.drop (i + 1) = y.drop (i + 1)) := by
        rw [List.drop_eq_getElem_cons h1, List.drop_eq_getElem_cons h2, e]
        exact ⟨fun h => (List.cons.inj h).2, fun h => by rw [h]⟩
      rw [if_pos e, show ((i : Int) + 1) = ((i + 1 : Nat) : Int) by omega, ih k (i + 1) (by omega) (by omega)]
      simp only [key]
    · have key : ¬ (x.drop i = y.drop i) := by
        rw [List.drop_eq_getElem_cons h1, List.drop_eq_getElem_cons h2]
        exact fun h => e (List.cons.inj h).1
      rw [if_neg e, decide_eq_false key]
theorem sameInts (x y : List Int) (hx : x.length ≤ 1048576) (k : Nat) (hk : x.length < k) : laws_sameInts.f k x y = some (decide (x = y)) := by
  unfold laws_sameInts.f
  by_cases h : x.length = y.length
  · rw [if_pos (by omega)]
    exact sameInts_loop x y h hx x.length k 0 (by omega) hk
  · rw [if_neg (by omega)]
    have : x ≠ y := fun e => h (by rw [e])
    simp [this]
theorem sameInts_self (x : List Int) (hx : x.length ≤ 1048576) (k : Nat) (hk : x.length < k) : laws_sameInts.f k x x = some true := by
  rw [sameInts x x hx k hk]; simp
def okB (l : List Int) : Bool := decide (l.length ≤ 40) && l.all (fun b => decide (0 ≤ b) && decide (b ≤ 255))
theorem okB_iff (l : List Int) : okB l = true ↔ l.length ≤ 40 ∧ ∀ b ∈ l, 0 ≤ b ∧ b ≤ 255 := by
  simp [okB]
theorem any_not (l : List Int) : l.any (fun x => !(decide (0 ≤ x) && decide (x ≤ 255))) = !(l.all (fun b => decide (0 ≤ b) && decide (b ≤ 255))) := by
  induction l with
  | nil => rfl
  | cons x t ih => rw [List.any_cons, List.all_cons, ih]; cases (decide (0 ≤ x) && decide (x ≤ 255)) <;> rfl
theorem impl_bytes (x : List Int) : impl_AreBytes.f x = some (okB x) := by
  unfold impl_AreBytes.f slices_ContainsFunc_int_int.f okB
  rw [if_pos (Or.inl rfl)]
  have e : (slices_ContainsFunc_int_int.p 68) = fun x => !(decide (0 ≤ x) && decide (x ≤ 255)) := by
    funext y
    simp [slices_ContainsFunc_int_int.p]
  rw [e, any_not]
  by_cases h : x.length ≤ 40
  · rw [if_pos (by omega)]; simp [h]
  · rw [if_neg (by omega)]; simp [h]
theorem equal_loop (x y : List Int) (hxy : x.length = y.length) (hx : x.length ≤ 1048576) (d : Nat) : ∀ (k i : Nat), i + d = x.length → d < k →
    slices_Equal_int_int.l0 k x y (x.length : Int) i = some (decide (x.drop i = y.drop i)) := by
  induction d with
  | zero =>
    intro k i hi hk
    obtain ⟨k, rfl⟩ : ∃ m, k = m + 1 := ⟨k - 1, by omega⟩
    rw [slices_Equal_int_int.l0, if_neg (by omega), List.drop_of_length_le (by omega), List.drop_of_length_le (by omega)]
    simp
  | succ d ih =>
    intro k i hi hk
    obtain ⟨k, rfl⟩ : ∃ m, k = m + 1 := ⟨k - 1, by omega⟩
    have h1 : i < x.length := by omega
    have h2 : i < y.length := by omega
    rw [slices_Equal_int_int.l0, if_pos (by omega), if_pos (by omega), if_pos (by omega), if_pos (by omega), rd_nat x i h1, rd_nat y i h2, w64 (by omega) (by omega)]
    by_cases e : x[i] = y[i]
    · have key : (x.drop i = y.drop i) ↔ (x.drop (i + 1) = y.drop (i + 1)) := by
        rw [List.drop_eq_getElem_cons h1, List.drop_eq_getElem_cons h2, e]
        exact ⟨fun h => (List.cons.inj h).2, fun h => by rw [h]⟩
      rw [if_pos e, show ((i : Int) + 1) = ((i + 1 : Nat) : Int) by omega, ih k (i + 1) (by omega) (by omega)]
      simp only [key]
    · have key : ¬ (x.drop i = y.drop i) := by
        rw [List.drop_eq_getElem_cons h1, List.drop_eq_getElem_cons h2]
        exact fun h => e (List.cons.inj h).1
      rw [if_neg e, decide_eq_false key]
theorem equal (x y : List Int) (hx : x.length ≤ 1048576) (k : Nat) (hk : x.length < k) : slices_Equal_int_int.f k x y = some (decide (x = y)) := by
  unfold slices_Equal_int_int.f
  by_cases h : x.length = y.length
  · rw [if_pos (by omega)]
    exact equal_loop x y h hx x.length k 0 (by omega) hk
  · rw [if_neg (by omega)]
    have : x ≠ y := fun e => h (by rw [e])
    simp [this]
theorem clone (l : List Int) (hl : l.length ≤ 1048576) : slices_Clone_int_int.f l = some l := by
  unfold slices_Clone_int_int.f
  rw [if_pos (by omega)]
def wordsOk (l : List Int) : Bool := l.all (fun b => decide (0 ≤ b) && decide (b ≤ 65535))
theorem wordsOk_iff (l : List Int) : wordsOk l = true ↔ ∀ b ∈ l, 0 ≤ b ∧ b ≤ 65535 := by
  simp [wordsOk]
/-- A valid packet, by its numbers, the number of its words, and whether these are words. -/
def PkOk (kd fr too ad ln tg st n : Int) (w : Bool) : Prop :=
  0 ≤ fr ∧ fr ≤ 255 ∧ w = true ∧
  ((kd = 1 ∧ 1 ≤ n ∧ n ≤ 8 ∧ 0 ≤ ad ∧ ad ≤ 65536 - n ∧ st = 0 ∧ too = 0 ∧ ln = 0 ∧ tg = 0) ∨
   (kd = 2 ∧ 1 ≤ n ∧ n ≤ 8 ∧ ad = 0 ∧ st = 0 ∧ too = 0 ∧ ln = 0 ∧ tg = 0) ∨
   (kd = 3 ∧ n = 0 ∧ 1 ≤ ln ∧ ln ≤ 64 ∧ 0 ≤ ad ∧ ad ≤ 65536 - ln ∧ 0 ≤ tg ∧ tg ≤ 7 ∧ st = 0 ∧ too = 0) ∨
   (kd = 4 ∧ n = 0 ∧ 0 ≤ ad ∧ ad ≤ 63 ∧ 0 ≤ too ∧ too ≤ 255 ∧ 0 ≤ tg ∧ tg ≤ 7 ∧ st = 0 ∧ ln = 0) ∨
   (kd = 5 ∧ n = 1 ∧ 0 ≤ ad ∧ ad ≤ 63 ∧ 0 ≤ too ∧ too ≤ 255 ∧ 0 ≤ tg ∧ tg ≤ 7 ∧ st = 0 ∧ ln = 0) ∨
   (kd = 6 ∧ ad = 0 ∧ 0 ≤ too ∧ too ≤ 255 ∧ 0 ≤ tg ∧ tg ≤ 7 ∧ 0 ≤ st ∧ st ≤ 2 ∧ 0 ≤ ln ∧ ln ≤ 64 ∧ (n = 0 ∨ st = 0 ∧ n ≤ 8 ∧ n ≤ ln)))
theorem bad (P : Prop) (hP : ¬ P) : ∃ b, some false = some b ∧ (b = true ↔ P) := ⟨false, rfl, (fun h => by cases h), fun h => absurd h hP⟩
theorem ends (P Q : Prop) (o : Option Bool) (h : ∃ b, o = some b ∧ (b = true ↔ P)) (hPQ : P ↔ Q) : ∃ b, o = some b ∧ (b = true ↔ Q) := by
  obtain ⟨b, h1, h2⟩ := h
  exact ⟨b, h1, h2.trans hPQ⟩
theorem pk1 (fr too ad ln tg st n : Int) (w : Bool) : PkOk 1 fr too ad ln tg st n w ↔ 0 ≤ fr ∧ fr ≤ 255 ∧ w = true ∧ (1 ≤ n ∧ n ≤ 8 ∧ 0 ≤ ad ∧ ad ≤ 65536 - n ∧ st = 0 ∧ too = 0 ∧ ln = 0 ∧ tg = 0) := by
  simp [PkOk]
theorem pk2 (fr too ad ln tg st n : Int) (w : Bool) : PkOk 2 fr too ad ln tg st n w ↔ 0 ≤ fr ∧ fr ≤ 255 ∧ w = true ∧ (1 ≤ n ∧ n ≤ 8 ∧ ad = 0 ∧ st = 0 ∧ too = 0 ∧ ln = 0 ∧ tg = 0) := by
  simp [PkOk]
theorem pk3 (fr too ad ln tg st n : Int) (w : Bool) : PkOk 3 fr too ad ln tg st n w ↔ 0 ≤ fr ∧ fr ≤ 255 ∧ w = true ∧ (n = 0 ∧ 1 ≤ ln ∧ ln ≤ 64 ∧ 0 ≤ ad ∧ ad ≤ 65536 - ln ∧ 0 ≤ tg ∧ tg ≤ 7 ∧ st = 0 ∧ too = 0) := by
  simp [PkOk]
theorem pk4 (fr too ad ln tg st n : Int) (w : Bool) : PkOk 4 fr too ad ln tg st n w ↔ 0 ≤ fr ∧ fr ≤ 255 ∧ w = true ∧ (n = 0 ∧ 0 ≤ ad ∧ ad ≤ 63 ∧ 0 ≤ too ∧ too ≤ 255 ∧ 0 ≤ tg ∧ tg ≤ 7 ∧ st = 0 ∧ ln = 0) := by
  simp [PkOk]
theorem pk5 (fr too ad ln tg st n : Int) (w : Bool) : PkOk 5 fr too ad ln tg st n w ↔ 0 ≤ fr ∧ fr ≤ 255 ∧ w = true ∧ (n = 1 ∧ 0 ≤ ad ∧ ad ≤ 63 ∧ 0 ≤ too ∧ too ≤ 255 ∧ 0 ≤ tg ∧ tg ≤ 7 ∧ st = 0 ∧ ln = 0) := by
  simp [PkOk]
theorem pk6 (fr too ad ln tg st n : Int) (w : Bool) : PkOk 6 fr too ad ln tg st n w ↔ 0 ≤ fr ∧ fr ≤ 255 ∧ w = true ∧ (ad = 0 ∧ 0 ≤ too ∧ too ≤ 255 ∧ 0 ≤ tg ∧ tg ≤ 7 ∧ 0 ≤ st ∧ st ≤ 2 ∧ 0 ≤ ln ∧ ln ≤ 64 ∧ (n = 0 ∨ st = 0 ∧ n ≤ 8 ∧ n ≤ ln)) := by
  simp [PkOk]
theorem pk_none (kd fr too ad ln tg st n : Int) (w : Bool) (h : ¬ (1 ≤ kd ∧ kd ≤ 6)) : ¬ PkOk kd fr too ad ln tg st n w := by
  intro hp
  have h2 := hp.2.2.2
  rcases h2 with h2 | h2 | h2 | h2 | h2 | h2 <;> (have := h2.1; omega)
theorem impl_words (l : List Int) : slices_ContainsFunc_int_int.f l 101 = some (!wordsOk l) := by
  unfold slices_ContainsFunc_int_int.f wordsOk
  rw [if_pos (Or.inr rfl)]
  have e : (slices_ContainsFunc_int_int.p 101) = fun x => !(decide (0 ≤ x) && decide (x ≤ 65535)) := by
    funext y
    simp [slices_ContainsFunc_int_int.p]
  rw [e]
  congr 1
  induction l with
  | nil => rfl
  | cons x t ih => rw [List.any_cons, List.all_cons, ih]; cases (decide (0 ≤ x) && decide (x ≤ 65535)) <;> rfl
theorem data_ok (kd fr too ad ln tg st : Int) (l : List Int) (k : Nat) : ∃ b, impl_Packet_dataOk.f (k + 1) kd fr too ad ln tg st l = some b ∧
    (b = true ↔ wordsOk l = true ∧ ((kd = 1 ∨ kd = 2) → 1 ≤ (l.length : Int) ∧ (l.length : Int) ≤ 8) ∧ (kd = 5 → (l.length : Int) = 1) ∧ ((kd = 6 ∧ st = 0) → (l.length : Int) ≤ 8 ∧ (l.length : Int) ≤ ln) ∧ (¬ kd = 1 → ¬ kd = 2 → ¬ kd = 5 → ¬ (kd = 6 ∧ st = 0) → (l.length : Int) = 0)) := by
  unfold impl_Packet_dataOk.f
  rw [impl_words]
  generalize (l.length : Int) = n
  cases wordsOk l with
  | false => exact ⟨false, rfl, by simp⟩
  | true =>
    simp only [impl_Packet_dataOk.j0, within, Option.bind_some, Bool.not_true]
    rw [if_neg (by decide)]
    by_cases h1 : kd = 1
    · subst h1
      refine ⟨decide (1 ≤ n ∧ n ≤ 8), by simp, by simp⟩
    · by_cases h2 : kd = 2
      · subst h2
        refine ⟨decide (1 ≤ n ∧ n ≤ 8), by simp, by simp⟩
      · rw [if_neg h1, if_neg (by simpa using h2)]
        by_cases h5 : kd = 5
        · subst h5
          exact ⟨_, by rw [if_pos rfl], by simp⟩
        · by_cases h6 : kd = 6
          · subst h6
            by_cases hs : st = 0
            · by_cases hn : n ≤ 8
              · exact ⟨_, by rw [if_neg h5, if_pos rfl, if_pos hs, if_pos hn], by simp [hs, hn]⟩
              · exact ⟨_, by rw [if_neg h5, if_pos rfl, if_pos hs, if_neg hn], by simp [hs]; omega⟩
            · exact ⟨_, by rw [if_neg h5, if_pos rfl, if_neg hs], by simp [hs]⟩
          · exact ⟨_, by rw [if_neg h5, if_neg h6], by simp [h1, h2, h5, h6]⟩
theorem addr_ok (kd fr too ad ln tg st : Int) (l : List Int) (hl : l.length ≤ 1048576) (hn : -9223372036854775808 ≤ ln ∧ ln ≤ 9223372036854775807) (k : Nat) : ∃ b, impl_Packet_addressOk.f (k + 1) kd fr too ad ln tg st l = some b ∧
    (b = true ↔ ((kd = 1 → 0 ≤ ad ∧ ad ≤ 65535 ∧ (l.length : Int) ≤ 65536 - ad) ∧ (kd = 3 → 0 ≤ ad ∧ ad ≤ 65535 ∧ ln ≤ 65536 - ad) ∧ ((kd = 4 ∨ kd = 5) → 0 ≤ ad ∧ ad ≤ 63) ∧ (¬ kd = 1 → ¬ kd = 3 → ¬ kd = 4 → ¬ kd = 5 → ad = 0))) := by
  unfold impl_Packet_addressOk.f
  simp only [impl_Packet_addressOk.j0, impl_Packet_words.f, within, Option.bind_some]
  generalize (l.length : Int) = n
  by_cases h1 : kd = 1
  · subst h1
    by_cases ha : 0 ≤ ad ∧ ad ≤ 65535
    · rw [if_pos rfl, if_pos (by decide), if_pos (by simpa using ha), if_neg (by decide), w64 (by omega) (by omega)]
      exact ⟨_, rfl, by simp; omega⟩
    · rw [if_pos rfl, if_pos (by decide), if_neg (by simpa using ha)]
      exact ⟨_, rfl, by simp; omega⟩
  · rw [if_neg h1]
    by_cases h3 : kd = 3
    · subst h3
      by_cases ha : 0 ≤ ad ∧ ad ≤ 65535
      · rw [if_pos (by decide), if_pos (by simpa using ha), if_pos rfl, w64 (by omega) (by omega)]
        exact ⟨_, rfl, by simp; omega⟩
      · rw [if_pos (by decide), if_neg (by simpa using ha)]
        exact ⟨_, rfl, by simp; omega⟩
    · rw [if_neg (by simpa using h3)]
      by_cases h4 : kd = 4
      · rw [if_pos h4]
        exact ⟨_, rfl, by simp [h4]⟩
      · by_cases h5 : kd = 5
        · rw [if_neg h4, if_pos h5]
          exact ⟨_, rfl, by simp [h5]⟩
        · rw [if_neg h4, if_neg h5]
          exact ⟨_, rfl, by simp [h1, h3, h4, h5]⟩
theorem len_ok (kd fr too ad ln tg st : Int) (l : List Int) : ∃ b, impl_Packet_lengthOk.f kd fr too ad ln tg st l = some b ∧
    (b = true ↔ ((kd = 3 → 1 ≤ ln ∧ ln ≤ 64) ∧ (kd = 6 → 0 ≤ ln ∧ ln ≤ 64) ∧ (¬ kd = 3 → ¬ kd = 6 → ln = 0))) := by
  unfold impl_Packet_lengthOk.f
  simp only [within, Option.bind_some]
  by_cases h3 : kd = 3
  · rw [if_pos h3]
    exact ⟨_, rfl, by simp [h3]⟩
  · by_cases h6 : kd = 6
    · rw [if_neg h3, if_pos h6]
      exact ⟨_, rfl, by simp [h6]⟩
    · rw [if_neg h3, if_neg h6]
      exact ⟨_, rfl, by simp [h3, h6]⟩
theorem j2_ok (kd fr too ad ln tg st : Int) (l : List Int) (k : Nat) (x : Bool) : ∃ b, impl_IsPacket.j2 (k + 1 + 1) x kd fr too ad ln tg st l = some b ∧
    (b = true ↔ x = false ∧ ((kd = 6 → 0 ≤ st ∧ st ≤ 2) ∧ (¬ kd = 6 → st = 0)) ∧ wordsOk l = true ∧ ((kd = 1 ∨ kd = 2) → 1 ≤ (l.length : Int) ∧ (l.length : Int) ≤ 8) ∧ (kd = 5 → (l.length : Int) = 1) ∧ ((kd = 6 ∧ st = 0) → (l.length : Int) ≤ 8 ∧ (l.length : Int) ≤ ln) ∧ (¬ kd = 1 → ¬ kd = 2 → ¬ kd = 5 → ¬ (kd = 6 ∧ st = 0) → (l.length : Int) = 0)) := by
  obtain ⟨b, h1, h2⟩ := data_ok kd fr too ad ln tg st l k
  rw [impl_IsPacket.j2]
  cases x with
  | true => exact ⟨false, rfl, by simp⟩
  | false =>
    rw [if_neg (by decide), h1]
    simp only [within, Option.bind_some]
    by_cases h6 : kd = 6
    · by_cases hs : 0 ≤ st ∧ st ≤ 2
      · exact ⟨b, by rw [if_pos h6, if_pos (by simpa using hs)], by rw [h2]; simp [h6, hs]⟩
      · exact ⟨false, by rw [if_pos h6, if_neg (by simpa using hs)], by simp [h6]; omega⟩
    · by_cases hs : st = 0
      · exact ⟨b, by rw [if_neg h6, if_pos hs], by rw [h2]; simp [h6, hs]⟩
      · exact ⟨false, by rw [if_neg h6, if_neg hs], by simp [h6, hs]⟩
theorem impl_packet1 (fr too ad ln tg st : Int) (l : List Int) (hl : l.length ≤ 1048576) (hn : -9223372036854775808 ≤ ln ∧ ln ≤ 9223372036854775807) (k : Nat) : ∃ b, impl_IsPacket.f (k + 1 + 1 + 1 + 1) 1 fr too ad ln tg st l = some b ∧
    (b = true ↔ PkOk 1 fr too ad ln tg st (l.length : Int) (wordsOk l)) := by
  obtain ⟨b1, a1, a2⟩ := addr_ok 1 fr too ad ln tg st l hl hn (k + 1 + 1 + 1)
  obtain ⟨b2, c1, c2⟩ := len_ok 1 fr too ad ln tg st l
  have hj := fun x => j2_ok 1 fr too ad ln tg st l k x
  have hn0 : 0 ≤ (l.length : Int) := by omega
  unfold impl_IsPacket.f
  rw [a1, c1, pk1]
  simp only [impl_IsPacket.j0, impl_IsPacket.j1, impl_IsId.f, within, Option.bind_some]
  clear a1 c1 hl hn
  generalize (l.length : Int) = n at *
  generalize wordsOk l = w at *
  have a3 : b1 = true ↔ 0 ≤ ad ∧ ad ≤ 65535 ∧ n ≤ 65536 - ad := by rw [a2]; simp
  have c3 : b2 = true ↔ ln = 0 := by rw [c2]; simp
  have hj2 : ∀ x, ∃ b, impl_IsPacket.j2 (k + 1 + 1) x 1 fr too ad ln tg st l = some b ∧ (b = true ↔ x = false ∧ (st = 0) ∧ w = true ∧ 1 ≤ n ∧ n ≤ 8) := by
    intro x
    obtain ⟨b, e1, e2⟩ := hj x
    refine ⟨b, e1, ?_⟩
    rw [e2]
    simp
  clear a2 c2 hj
  by_cases q2 : 0 ≤ fr ∧ fr ≤ 255
  · have p2 : decide (0 ≤ fr ∧ fr ≤ 255) = true := decide_eq_true q2
    cases b1 with
    | false =>
      simp only [p2, ↓reduceIte, Bool.not_false, Bool.not_true, Bool.false_eq_true, Int.reduceLE, Int.reduceEq, and_false, false_and, and_true, true_and, and_self, decide_false, decide_true, decide_eq_true_eq, Int.reduceNe, bne_self_eq_false]
      refine bad _ fun h => absurd (a3.mpr ?_) (by decide)
      obtain ⟨_, _, _, h⟩ := h
      omega
    | true =>
      have a4 := a3.mp rfl
      cases b2 with
      | false =>
        simp only [p2, ↓reduceIte, Bool.not_false, Bool.not_true, Bool.false_eq_true, Int.reduceLE, Int.reduceEq, and_false, false_and, and_true, true_and, and_self, decide_false, decide_true, decide_eq_true_eq, Int.reduceNe, bne_self_eq_false]
        refine bad _ fun h => absurd (c3.mpr ?_) (by decide)
        obtain ⟨_, _, _, h⟩ := h
        omega
      | true =>
        have c4 := c3.mp rfl
        clear a3 c3
        by_cases q4 : too = 0
        · have p4 : (too != 0) = false := by simpa using q4
          by_cases q5 : tg = 0
          · have p5 : (tg != 0) = false := by simpa using q5
            simp only [p2, p4, p5, ↓reduceIte, Bool.not_false, Bool.not_true, Bool.false_eq_true, Int.reduceLE, Int.reduceEq, and_false, false_and, and_true, true_and, and_self, decide_false, decide_true, decide_eq_true_eq, Int.reduceNe, bne_self_eq_false]
            refine ends _ _ _ (hj2 false) ?_
            clear hj2
            constructor
            · intro h
              obtain ⟨h0, h1, h2, h3⟩ := h
              exact ⟨q2.1, q2.2, h2, by omega⟩
            · intro h
              obtain ⟨_, _, h2, h3⟩ := h
              exact ⟨rfl, by omega, h2, by omega⟩
          · have p5 : (tg != 0) = true := by simpa using q5
            simp only [p2, p4, p5, ↓reduceIte, Bool.not_false, Bool.not_true, Bool.false_eq_true, Int.reduceLE, Int.reduceEq, and_false, false_and, and_true, true_and, and_self, decide_false, decide_true, decide_eq_true_eq, Int.reduceNe, bne_self_eq_false]
            refine ends _ _ _ (hj2 true) ?_
            clear hj2
            constructor
            · intro h
              obtain ⟨h0, h1, h2, h3⟩ := h
              cases h0
            · intro h
              obtain ⟨_, _, h2, h3⟩ := h
              exfalso; omega
        · have p4 : (too != 0) = true := by simpa using q4
          simp only [p2, p4, ↓reduceIte, Bool.not_false, Bool.not_true, Bool.false_eq_true, Int.reduceLE, Int.reduceEq, and_false, false_and, and_true, true_and, and_self, decide_false, decide_true, decide_eq_true_eq, Int.reduceNe, bne_self_eq_false]
          refine bad _ fun h => ?_
          obtain ⟨_, _, _, h⟩ := h
          omega
  · have p2 : decide (0 ≤ fr ∧ fr ≤ 255) = false := decide_eq_false q2
    simp only [p2, ↓reduceIte, Bool.not_false, Bool.not_true, Bool.false_eq_true, Int.reduceLE, Int.reduceEq, and_false, false_and, and_true, true_and, and_self, decide_false, decide_true, decide_eq_true_eq, Int.reduceNe, bne_self_eq_false]
    refine bad _ fun h => ?_
    omega
theorem impl_packet2 (fr too ad ln tg st : Int) (l : List Int) (hl : l.length ≤ 1048576) (hn : -9223372036854775808 ≤ ln ∧ ln ≤ 9223372036854775807) (k : Nat) : ∃ b, impl_IsPacket.f (k + 1 + 1 + 1 + 1) 2 fr too ad ln tg st l = some b ∧
    (b = true ↔ PkOk 2 fr too ad ln tg st (l.length : Int) (wordsOk l)) := by
  obtain ⟨b1, a1, a2⟩ := addr_ok 2 fr too ad ln tg st l hl hn (k + 1 + 1 + 1)
  obtain ⟨b2, c1, c2⟩ := len_ok 2 fr too ad ln tg st l
  have hj := fun x => j2_ok 2 fr too ad ln tg st l k x
  have hn0 : 0 ≤ (l.length : Int) := by omega
  unfold impl_IsPacket.f
  rw [a1, c1, pk2]
  simp only [impl_IsPacket.j0, impl_IsPacket.j1, impl_IsId.f, within, Option.bind_some]
  clear a1 c1 hl hn
  generalize (l.length : Int) = n at *
  generalize wordsOk l = w at *
  have a3 : b1 = true ↔ ad = 0 := by rw [a2]; simp
  have c3 : b2 = true ↔ ln = 0 := by rw [c2]; simp
  have hj2 : ∀ x, ∃ b, impl_IsPacket.j2 (k + 1 + 1) x 2 fr too ad ln tg st l = some b ∧ (b = true ↔ x = false ∧ (st = 0) ∧ w = true ∧ 1 ≤ n ∧ n ≤ 8) := by
    intro x
    obtain ⟨b, e1, e2⟩ := hj x
    refine ⟨b, e1, ?_⟩
    rw [e2]
    simp
  clear a2 c2 hj
  by_cases q2 : 0 ≤ fr ∧ fr ≤ 255
  · have p2 : decide (0 ≤ fr ∧ fr ≤ 255) = true := decide_eq_true q2
    cases b1 with
    | false =>
      simp only [p2, ↓reduceIte, Bool.not_false, Bool.not_true, Bool.false_eq_true, Int.reduceLE, Int.reduceEq, and_false, false_and, and_true, true_and, and_self, decide_false, decide_true, decide_eq_true_eq, Int.reduceNe, bne_self_eq_false]
      refine bad _ fun h => absurd (a3.mpr ?_) (by decide)
      obtain ⟨_, _, _, h⟩ := h
      omega
    | true =>
      have a4 := a3.mp rfl
      cases b2 with
      | false =>
        simp only [p2, ↓reduceIte, Bool.not_false, Bool.not_true, Bool.false_eq_true, Int.reduceLE, Int.reduceEq, and_false, false_and, and_true, true_and, and_self, decide_false, decide_true, decide_eq_true_eq, Int.reduceNe, bne_self_eq_false]
        refine bad _ fun h => absurd (c3.mpr ?_) (by decide)
        obtain ⟨_, _, _, h⟩ := h
        omega
      | true =>
        have c4 := c3.mp rfl
        clear a3 c3
        by_cases q4 : too = 0
        · have p4 : (too != 0) = false := by simpa using q4
          by_cases q5 : tg = 0
          · have p5 : (tg != 0) = false := by simpa using q5
            simp only [p2, p4, p5, ↓reduceIte, Bool.not_false, Bool.not_true, Bool.false_eq_true, Int.reduceLE, Int.reduceEq, and_false, false_and, and_true, true_and, and_self, decide_false, decide_true, decide_eq_true_eq, Int.reduceNe, bne_self_eq_false]
            refine ends _ _ _ (hj2 false) ?_
            clear hj2
            constructor
            · intro h
              obtain ⟨h0, h1, h2, h3⟩ := h
              exact ⟨q2.1, q2.2, h2, by omega⟩
            · intro h
              obtain ⟨_, _, h2, h3⟩ := h
              exact ⟨rfl, by omega, h2, by omega⟩
          · have p5 : (tg != 0) = true := by simpa using q5
            simp only [p2, p4, p5, ↓reduceIte, Bool.not_false, Bool.not_true, Bool.false_eq_true, Int.reduceLE, Int.reduceEq, and_false, false_and, and_true, true_and, and_self, decide_false, decide_true, decide_eq_true_eq, Int.reduceNe, bne_self_eq_false]
            refine ends _ _ _ (hj2 true) ?_
            clear hj2
            constructor
            · intro h
              obtain ⟨h0, h1, h2, h3⟩ := h
              cases h0
            · intro h
              obtain ⟨_, _, h2, h3⟩ := h
              exfalso; omega
        · have p4 : (too != 0) = true := by simpa using q4
          simp only [p2, p4, ↓reduceIte, Bool.not_false, Bool.not_true, Bool.false_eq_true, Int.reduceLE, Int.reduceEq, and_false, false_and, and_true, true_and, and_self, decide_false, decide_true, decide_eq_true_eq, Int.reduceNe, bne_self_eq_false]
          refine bad _ fun h => ?_
          obtain ⟨_, _, _, h⟩ := h
          omega
  · have p2 : decide (0 ≤ fr ∧ fr ≤ 255) = false := decide_eq_false q2
    simp only [p2, ↓reduceIte, Bool.not_false, Bool.not_true, Bool.false_eq_true, Int.reduceLE, Int.reduceEq, and_false, false_and, and_true, true_and, and_self, decide_false, decide_true, decide_eq_true_eq, Int.reduceNe, bne_self_eq_false]
    refine bad _ fun h => ?_
    omega
theorem impl_packet3 (fr too ad ln tg st : Int) (l : List Int) (hl : l.length ≤ 1048576) (hn : -9223372036854775808 ≤ ln ∧ ln ≤ 9223372036854775807) (k : Nat) : ∃ b, impl_IsPacket.f (k + 1 + 1 + 1 + 1) 3 fr too ad ln tg st l = some b ∧
    (b = true ↔ PkOk 3 fr too ad ln tg st (l.length : Int) (wordsOk l)) := by
  obtain ⟨b1, a1, a2⟩ := addr_ok 3 fr too ad ln tg st l hl hn (k + 1 + 1 + 1)
  obtain ⟨b2, c1, c2⟩ := len_ok 3 fr too ad ln tg st l
  have hj := fun x => j2_ok 3 fr too ad ln tg st l k x
  have hn0 : 0 ≤ (l.length : Int) := by omega
  unfold impl_IsPacket.f
  rw [a1, c1, pk3]
  simp only [impl_IsPacket.j0, impl_IsPacket.j1, impl_IsId.f, within, Option.bind_some]
  clear a1 c1 hl hn
  generalize (l.length : Int) = n at *
  generalize wordsOk l = w at *
  have a3 : b1 = true ↔ 0 ≤ ad ∧ ad ≤ 65535 ∧ ln ≤ 65536 - ad := by rw [a2]; simp
  have c3 : b2 = true ↔ 1 ≤ ln ∧ ln ≤ 64 := by rw [c2]; simp
  have hj2 : ∀ x, ∃ b, impl_IsPacket.j2 (k + 1 + 1) x 3 fr too ad ln tg st l = some b ∧ (b = true ↔ x = false ∧ (st = 0) ∧ w = true ∧ n = 0) := by
    intro x
    obtain ⟨b, e1, e2⟩ := hj x
    refine ⟨b, e1, ?_⟩
    rw [e2]
    simp
  clear a2 c2 hj
  by_cases q2 : 0 ≤ fr ∧ fr ≤ 255
  · have p2 : decide (0 ≤ fr ∧ fr ≤ 255) = true := decide_eq_true q2
    cases b1 with
    | false =>
      simp only [p2, ↓reduceIte, Bool.not_false, Bool.not_true, Bool.false_eq_true, Int.reduceLE, Int.reduceEq, and_false, false_and, and_true, true_and, and_self, decide_false, decide_true, decide_eq_true_eq, Int.reduceNe, bne_self_eq_false]
      refine bad _ fun h => absurd (a3.mpr ?_) (by decide)
      obtain ⟨_, _, _, h⟩ := h
      omega
    | true =>
      have a4 := a3.mp rfl
      cases b2 with
      | false =>
        simp only [p2, ↓reduceIte, Bool.not_false, Bool.not_true, Bool.false_eq_true, Int.reduceLE, Int.reduceEq, and_false, false_and, and_true, true_and, and_self, decide_false, decide_true, decide_eq_true_eq, Int.reduceNe, bne_self_eq_false]
        refine bad _ fun h => absurd (c3.mpr ?_) (by decide)
        obtain ⟨_, _, _, h⟩ := h
        omega
      | true =>
        have c4 := c3.mp rfl
        clear a3 c3
        by_cases q4 : too = 0
        · have p4 : (too != 0) = false := by simpa using q4
          by_cases q5 : 0 ≤ tg ∧ tg ≤ 7
          · have p5 : decide (0 ≤ tg ∧ tg ≤ 7) = true := by simpa using q5
            simp only [p2, p4, p5, ↓reduceIte, Bool.not_false, Bool.not_true, Bool.false_eq_true, Int.reduceLE, Int.reduceEq, and_false, false_and, and_true, true_and, and_self, decide_false, decide_true, decide_eq_true_eq, Int.reduceNe, bne_self_eq_false]
            refine ends _ _ _ (hj2 false) ?_
            clear hj2
            constructor
            · intro h
              obtain ⟨h0, h1, h2, h3⟩ := h
              exact ⟨q2.1, q2.2, h2, by omega⟩
            · intro h
              obtain ⟨_, _, h2, h3⟩ := h
              exact ⟨rfl, by omega, h2, by omega⟩
          · have p5 : decide (0 ≤ tg ∧ tg ≤ 7) = false := by simpa using q5
            simp only [p2, p4, p5, ↓reduceIte, Bool.not_false, Bool.not_true, Bool.false_eq_true, Int.reduceLE, Int.reduceEq, and_false, false_and, and_true, true_and, and_self, decide_false, decide_true, decide_eq_true_eq, Int.reduceNe, bne_self_eq_false]
            refine ends _ _ _ (hj2 true) ?_
            clear hj2
            constructor
            · intro h
              obtain ⟨h0, h1, h2, h3⟩ := h
              cases h0
            · intro h
              obtain ⟨_, _, h2, h3⟩ := h
              exfalso; omega
        · have p4 : (too != 0) = true := by simpa using q4
          simp only [p2, p4, ↓reduceIte, Bool.not_false, Bool.not_true, Bool.false_eq_true, Int.reduceLE, Int.reduceEq, and_false, false_and, and_true, true_and, and_self, decide_false, decide_true, decide_eq_true_eq, Int.reduceNe, bne_self_eq_false]
          refine bad _ fun h => ?_
          obtain ⟨_, _, _, h⟩ := h
          omega
  · have p2 : decide (0 ≤ fr ∧ fr ≤ 255) = false := decide_eq_false q2
    simp only [p2, ↓reduceIte, Bool.not_false, Bool.not_true, Bool.false_eq_true, Int.reduceLE, Int.reduceEq, and_false, false_and, and_true, true_and, and_self, decide_false, decide_true, decide_eq_true_eq, Int.reduceNe, bne_self_eq_false]
    refine bad _ fun h => ?_
    omega
theorem impl_packet4 (fr too ad ln tg st : Int) (l : List Int) (hl : l.length ≤ 1048576) (hn : -9223372036854775808 ≤ ln ∧ ln ≤ 9223372036854775807) (k : Nat) : ∃ b, impl_IsPacket.f (k + 1 + 1 + 1 + 1) 4 fr too ad ln tg st l = some b ∧
    (b = true ↔ PkOk 4 fr too ad ln tg st (l.length : Int) (wordsOk l)) := by
  obtain ⟨b1, a1, a2⟩ := addr_ok 4 fr too ad ln tg st l hl hn (k + 1 + 1 + 1)
  obtain ⟨b2, c1, c2⟩ := len_ok 4 fr too ad ln tg st l
  have hj := fun x => j2_ok 4 fr too ad ln tg st l k x
  have hn0 : 0 ≤ (l.length : Int) := by omega
  unfold impl_IsPacket.f
  rw [a1, c1, pk4]
  simp only [impl_IsPacket.j0, impl_IsPacket.j1, impl_IsId.f, within, Option.bind_some]
  clear a1 c1 hl hn
  generalize (l.length : Int) = n at *
  generalize wordsOk l = w at *
  have a3 : b1 = true ↔ 0 ≤ ad ∧ ad ≤ 63 := by rw [a2]; simp
  have c3 : b2 = true ↔ ln = 0 := by rw [c2]; simp
  have hj2 : ∀ x, ∃ b, impl_IsPacket.j2 (k + 1 + 1) x 4 fr too ad ln tg st l = some b ∧ (b = true ↔ x = false ∧ (st = 0) ∧ w = true ∧ n = 0) := by
    intro x
    obtain ⟨b, e1, e2⟩ := hj x
    refine ⟨b, e1, ?_⟩
    rw [e2]
    simp
  clear a2 c2 hj
  by_cases q2 : 0 ≤ fr ∧ fr ≤ 255
  · have p2 : decide (0 ≤ fr ∧ fr ≤ 255) = true := decide_eq_true q2
    cases b1 with
    | false =>
      simp only [p2, ↓reduceIte, Bool.not_false, Bool.not_true, Bool.false_eq_true, Int.reduceLE, Int.reduceEq, and_false, false_and, and_true, true_and, and_self, decide_false, decide_true, decide_eq_true_eq, Int.reduceNe, bne_self_eq_false]
      refine bad _ fun h => absurd (a3.mpr ?_) (by decide)
      obtain ⟨_, _, _, h⟩ := h
      omega
    | true =>
      have a4 := a3.mp rfl
      cases b2 with
      | false =>
        simp only [p2, ↓reduceIte, Bool.not_false, Bool.not_true, Bool.false_eq_true, Int.reduceLE, Int.reduceEq, and_false, false_and, and_true, true_and, and_self, decide_false, decide_true, decide_eq_true_eq, Int.reduceNe, bne_self_eq_false]
        refine bad _ fun h => absurd (c3.mpr ?_) (by decide)
        obtain ⟨_, _, _, h⟩ := h
        omega
      | true =>
        have c4 := c3.mp rfl
        clear a3 c3
        by_cases q4 : 0 ≤ too ∧ too ≤ 255
        · have p4 : decide (0 ≤ too ∧ too ≤ 255) = true := by simpa using q4
          by_cases q5 : 0 ≤ tg ∧ tg ≤ 7
          · have p5 : decide (0 ≤ tg ∧ tg ≤ 7) = true := by simpa using q5
            simp only [p2, p4, p5, ↓reduceIte, Bool.not_false, Bool.not_true, Bool.false_eq_true, Int.reduceLE, Int.reduceEq, and_false, false_and, and_true, true_and, and_self, decide_false, decide_true, decide_eq_true_eq, Int.reduceNe, bne_self_eq_false]
            refine ends _ _ _ (hj2 false) ?_
            clear hj2
            constructor
            · intro h
              obtain ⟨h0, h1, h2, h3⟩ := h
              exact ⟨q2.1, q2.2, h2, by omega⟩
            · intro h
              obtain ⟨_, _, h2, h3⟩ := h
              exact ⟨rfl, by omega, h2, by omega⟩
          · have p5 : decide (0 ≤ tg ∧ tg ≤ 7) = false := by simpa using q5
            simp only [p2, p4, p5, ↓reduceIte, Bool.not_false, Bool.not_true, Bool.false_eq_true, Int.reduceLE, Int.reduceEq, and_false, false_and, and_true, true_and, and_self, decide_false, decide_true, decide_eq_true_eq, Int.reduceNe, bne_self_eq_false]
            refine ends _ _ _ (hj2 true) ?_
            clear hj2
            constructor
            · intro h
              obtain ⟨h0, h1, h2, h3⟩ := h
              cases h0
            · intro h
              obtain ⟨_, _, h2, h3⟩ := h
              exfalso; omega
        · have p4 : decide (0 ≤ too ∧ too ≤ 255) = false := by simpa using q4
          simp only [p2, p4, ↓reduceIte, Bool.not_false, Bool.not_true, Bool.false_eq_true, Int.reduceLE, Int.reduceEq, and_false, false_and, and_true, true_and, and_self, decide_false, decide_true, decide_eq_true_eq, Int.reduceNe, bne_self_eq_false]
          refine bad _ fun h => ?_
          obtain ⟨_, _, _, h⟩ := h
          omega
  · have p2 : decide (0 ≤ fr ∧ fr ≤ 255) = false := decide_eq_false q2
    simp only [p2, ↓reduceIte, Bool.not_false, Bool.not_true, Bool.false_eq_true, Int.reduceLE, Int.reduceEq, and_false, false_and, and_true, true_and, and_self, decide_false, decide_true, decide_eq_true_eq, Int.reduceNe, bne_self_eq_false]
    refine bad _ fun h => ?_
    omega
theorem impl_packet5 (fr too ad ln tg st : Int) (l : List Int) (hl : l.length ≤ 1048576) (hn : -9223372036854775808 ≤ ln ∧ ln ≤ 9223372036854775807) (k : Nat) : ∃ b, impl_IsPacket.f (k + 1 + 1 + 1 + 1) 5 fr too ad ln tg st l = some b ∧
    (b = true ↔ PkOk 5 fr too ad ln tg st (l.length : Int) (wordsOk l)) := by
  obtain ⟨b1, a1, a2⟩ := addr_ok 5 fr too ad ln tg st l hl hn (k + 1 + 1 + 1)
  obtain ⟨b2, c1, c2⟩ := len_ok 5 fr too ad ln tg st l
  have hj := fun x => j2_ok 5 fr too ad ln tg st l k x
  have hn0 : 0 ≤ (l.length : Int) := by omega
  unfold impl_IsPacket.f
  rw [a1, c1, pk5]
  simp only [impl_IsPacket.j0, impl_IsPacket.j1, impl_IsId.f, within, Option.bind_some]
  clear a1 c1 hl hn
  generalize (l.length : Int) = n at *
  generalize wordsOk l = w at *
  have a3 : b1 = true ↔ 0 ≤ ad ∧ ad ≤ 63 := by rw [a2]; simp
  have c3 : b2 = true ↔ ln = 0 := by rw [c2]; simp
  have hj2 : ∀ x, ∃ b, impl_IsPacket.j2 (k + 1 + 1) x 5 fr too ad ln tg st l = some b ∧ (b = true ↔ x = false ∧ (st = 0) ∧ w = true ∧ n = 1) := by
    intro x
    obtain ⟨b, e1, e2⟩ := hj x
    refine ⟨b, e1, ?_⟩
    rw [e2]
    simp
  clear a2 c2 hj
  by_cases q2 : 0 ≤ fr ∧ fr ≤ 255
  · have p2 : decide (0 ≤ fr ∧ fr ≤ 255) = true := decide_eq_true q2
    cases b1 with
    | false =>
      simp only [p2, ↓reduceIte, Bool.not_false, Bool.not_true, Bool.false_eq_true, Int.reduceLE, Int.reduceEq, and_false, false_and, and_true, true_and, and_self, decide_false, decide_true, decide_eq_true_eq, Int.reduceNe, bne_self_eq_false]
      refine bad _ fun h => absurd (a3.mpr ?_) (by decide)
      obtain ⟨_, _, _, h⟩ := h
      omega
    | true =>
      have a4 := a3.mp rfl
      cases b2 with
      | false =>
        simp only [p2, ↓reduceIte, Bool.not_false, Bool.not_true, Bool.false_eq_true, Int.reduceLE, Int.reduceEq, and_false, false_and, and_true, true_and, and_self, decide_false, decide_true, decide_eq_true_eq, Int.reduceNe, bne_self_eq_false]
        refine bad _ fun h => absurd (c3.mpr ?_) (by decide)
        obtain ⟨_, _, _, h⟩ := h
        omega
      | true =>
        have c4 := c3.mp rfl
        clear a3 c3
        by_cases q4 : 0 ≤ too ∧ too ≤ 255
        · have p4 : decide (0 ≤ too ∧ too ≤ 255) = true := by simpa using q4
          by_cases q5 : 0 ≤ tg ∧ tg ≤ 7
          · have p5 : decide (0 ≤ tg ∧ tg ≤ 7) = true := by simpa using q5
            simp only [p2, p4, p5, ↓reduceIte, Bool.not_false, Bool.not_true, Bool.false_eq_true, Int.reduceLE, Int.reduceEq, and_false, false_and, and_true, true_and, and_self, decide_false, decide_true, decide_eq_true_eq, Int.reduceNe, bne_self_eq_false]
            refine ends _ _ _ (hj2 false) ?_
            clear hj2
            constructor
            · intro h
              obtain ⟨h0, h1, h2, h3⟩ := h
              exact ⟨q2.1, q2.2, h2, by omega⟩
            · intro h
              obtain ⟨_, _, h2, h3⟩ := h
              exact ⟨rfl, by omega, h2, by omega⟩
          · have p5 : decide (0 ≤ tg ∧ tg ≤ 7) = false := by simpa using q5
            simp only [p2, p4, p5, ↓reduceIte, Bool.not_false, Bool.not_true, Bool.false_eq_true, Int.reduceLE, Int.reduceEq, and_false, false_and, and_true, true_and, and_self, decide_false, decide_true, decide_eq_true_eq, Int.reduceNe, bne_self_eq_false]
            refine ends _ _ _ (hj2 true) ?_
            clear hj2
            constructor
            · intro h
              obtain ⟨h0, h1, h2, h3⟩ := h
              cases h0
            · intro h
              obtain ⟨_, _, h2, h3⟩ := h
              exfalso; omega
        · have p4 : decide (0 ≤ too ∧ too ≤ 255) = false := by simpa using q4
          simp only [p2, p4, ↓reduceIte, Bool.not_false, Bool.not_true, Bool.false_eq_true, Int.reduceLE, Int.reduceEq, and_false, false_and, and_true, true_and, and_self, decide_false, decide_true, decide_eq_true_eq, Int.reduceNe, bne_self_eq_false]
          refine bad _ fun h => ?_
          obtain ⟨_, _, _, h⟩ := h
          omega
  · have p2 : decide (0 ≤ fr ∧ fr ≤ 255) = false := decide_eq_false q2
    simp only [p2, ↓reduceIte, Bool.not_false, Bool.not_true, Bool.false_eq_true, Int.reduceLE, Int.reduceEq, and_false, false_and, and_true, true_and, and_self, decide_false, decide_true, decide_eq_true_eq, Int.reduceNe, bne_self_eq_false]
    refine bad _ fun h => ?_
    omega
theorem impl_packet6 (fr too ad ln tg st : Int) (l : List Int) (hl : l.length ≤ 1048576) (hn : -9223372036854775808 ≤ ln ∧ ln ≤ 9223372036854775807) (k : Nat) : ∃ b, impl_IsPacket.f (k + 1 + 1 + 1 + 1) 6 fr too ad ln tg st l = some b ∧
    (b = true ↔ PkOk 6 fr too ad ln tg st (l.length : Int) (wordsOk l)) := by
  obtain ⟨b1, a1, a2⟩ := addr_ok 6 fr too ad ln tg st l hl hn (k + 1 + 1 + 1)
  obtain ⟨b2, c1, c2⟩ := len_ok 6 fr too ad ln tg st l
  have hj := fun x => j2_ok 6 fr too ad ln tg st l k x
  have hn0 : 0 ≤ (l.length : Int) := by omega
  unfold impl_IsPacket.f
  rw [a1, c1, pk6]
  simp only [impl_IsPacket.j0, impl_IsPacket.j1, impl_IsId.f, within, Option.bind_some]
  clear a1 c1 hl hn
  generalize (l.length : Int) = n at *
  generalize wordsOk l = w at *
  have a3 : b1 = true ↔ ad = 0 := by rw [a2]; simp
  have c3 : b2 = true ↔ 0 ≤ ln ∧ ln ≤ 64 := by rw [c2]; simp
  have hj2 : ∀ x, ∃ b, impl_IsPacket.j2 (k + 1 + 1) x 6 fr too ad ln tg st l = some b ∧ (b = true ↔ x = false ∧ (0 ≤ st ∧ st ≤ 2) ∧ w = true ∧ (st = 0 → n ≤ 8 ∧ n ≤ ln) ∧ (¬ st = 0 → n = 0)) := by
    intro x
    obtain ⟨b, e1, e2⟩ := hj x
    refine ⟨b, e1, ?_⟩
    rw [e2]
    simp
  clear a2 c2 hj
  by_cases q2 : 0 ≤ fr ∧ fr ≤ 255
  · have p2 : decide (0 ≤ fr ∧ fr ≤ 255) = true := decide_eq_true q2
    cases b1 with
    | false =>
      simp only [p2, ↓reduceIte, Bool.not_false, Bool.not_true, Bool.false_eq_true, Int.reduceLE, Int.reduceEq, and_false, false_and, and_true, true_and, and_self, decide_false, decide_true, decide_eq_true_eq, Int.reduceNe, bne_self_eq_false]
      refine bad _ fun h => absurd (a3.mpr ?_) (by decide)
      obtain ⟨_, _, _, h⟩ := h
      omega
    | true =>
      have a4 := a3.mp rfl
      cases b2 with
      | false =>
        simp only [p2, ↓reduceIte, Bool.not_false, Bool.not_true, Bool.false_eq_true, Int.reduceLE, Int.reduceEq, and_false, false_and, and_true, true_and, and_self, decide_false, decide_true, decide_eq_true_eq, Int.reduceNe, bne_self_eq_false]
        refine bad _ fun h => absurd (c3.mpr ?_) (by decide)
        obtain ⟨_, _, _, h⟩ := h
        omega
      | true =>
        have c4 := c3.mp rfl
        clear a3 c3
        by_cases q4 : 0 ≤ too ∧ too ≤ 255
        · have p4 : decide (0 ≤ too ∧ too ≤ 255) = true := by simpa using q4
          by_cases q5 : 0 ≤ tg ∧ tg ≤ 7
          · have p5 : decide (0 ≤ tg ∧ tg ≤ 7) = true := by simpa using q5
            simp only [p2, p4, p5, ↓reduceIte, Bool.not_false, Bool.not_true, Bool.false_eq_true, Int.reduceLE, Int.reduceEq, and_false, false_and, and_true, true_and, and_self, decide_false, decide_true, decide_eq_true_eq, Int.reduceNe, bne_self_eq_false]
            refine ends _ _ _ (hj2 false) ?_
            clear hj2
            constructor
            · intro h
              obtain ⟨h0, h1, h2, h3⟩ := h
              exact ⟨q2.1, q2.2, h2, by omega⟩
            · intro h
              obtain ⟨_, _, h2, h3⟩ := h
              exact ⟨rfl, by omega, h2, by omega⟩
          · have p5 : decide (0 ≤ tg ∧ tg ≤ 7) = false := by simpa using q5
            simp only [p2, p4, p5, ↓reduceIte, Bool.not_false, Bool.not_true, Bool.false_eq_true, Int.reduceLE, Int.reduceEq, and_false, false_and, and_true, true_and, and_self, decide_false, decide_true, decide_eq_true_eq, Int.reduceNe, bne_self_eq_false]
            refine ends _ _ _ (hj2 true) ?_
            clear hj2
            constructor
            · intro h
              obtain ⟨h0, h1, h2, h3⟩ := h
              cases h0
            · intro h
              obtain ⟨_, _, h2, h3⟩ := h
              exfalso; omega
        · have p4 : decide (0 ≤ too ∧ too ≤ 255) = false := by simpa using q4
          simp only [p2, p4, ↓reduceIte, Bool.not_false, Bool.not_true, Bool.false_eq_true, Int.reduceLE, Int.reduceEq, and_false, false_and, and_true, true_and, and_self, decide_false, decide_true, decide_eq_true_eq, Int.reduceNe, bne_self_eq_false]
          refine bad _ fun h => ?_
          obtain ⟨_, _, _, h⟩ := h
          omega
  · have p2 : decide (0 ≤ fr ∧ fr ≤ 255) = false := decide_eq_false q2
    simp only [p2, ↓reduceIte, Bool.not_false, Bool.not_true, Bool.false_eq_true, Int.reduceLE, Int.reduceEq, and_false, false_and, and_true, true_and, and_self, decide_false, decide_true, decide_eq_true_eq, Int.reduceNe, bne_self_eq_false]
    refine bad _ fun h => ?_
    omega
theorem impl_packet (kd fr too ad ln tg st : Int) (l : List Int) (hl : l.length ≤ 1048576) (hn : -9223372036854775808 ≤ ln ∧ ln ≤ 9223372036854775807) (k : Nat) (hk : 8 < k) : ∃ b, impl_IsPacket.f k kd fr too ad ln tg st l = some b ∧
    (b = true ↔ PkOk kd fr too ad ln tg st (l.length : Int) (wordsOk l)) := by
  obtain ⟨k, rfl⟩ : ∃ m, k = m + 1 + 1 + 1 + 1 := ⟨k - 4, by omega⟩
  by_cases q : 1 ≤ kd ∧ kd ≤ 6
  · have : kd = 1 ∨ kd = 2 ∨ kd = 3 ∨ kd = 4 ∨ kd = 5 ∨ kd = 6 := by omega
    rcases this with rfl | rfl | rfl | rfl | rfl | rfl
    · exact impl_packet1 fr too ad ln tg st l hl hn k
    · exact impl_packet2 fr too ad ln tg st l hl hn k
    · exact impl_packet3 fr too ad ln tg st l hl hn k
    · exact impl_packet4 fr too ad ln tg st l hl hn k
    · exact impl_packet5 fr too ad ln tg st l hl hn k
    · exact impl_packet6 fr too ad ln tg st l hl hn k
  · unfold impl_IsPacket.f
    simp only [impl_IsPacket.j0, within, Option.bind_some]
    have q' : decide (1 ≤ kd ∧ kd ≤ 6) = false := decide_eq_false q
    simp only [q', Bool.not_false, ↓reduceIte, Bool.false_eq_true]
    exact bad _ (pk_none _ _ _ _ _ _ _ _ _ q)
theorem data_loop (b : List Int) (d : Nat) : ∀ (k m : Nat) (out : List Int) (i h n : Int), (m : Int) + d = n → n ≤ 100 → d < k → out.length = m → (∀ x ∈ out, 0 ≤ x ∧ x ≤ 65535) → Cur b i →
    ∃ v i' h', spec_l04Data.l0 k n out m b i h = some (v, i', h') ∧ Cur b i' ∧ (v.length : Int) = n ∧ ∀ x ∈ v, 0 ≤ x ∧ x ≤ 65535 := by
  induction d with
  | zero =>
    intro k m out i h n hn h8 hk ho hr hc
    obtain ⟨k, rfl⟩ : ∃ m, k = m + 1 := ⟨k - 1, by omega⟩
    rw [spec_l04Data.l0, if_neg (by omega)]
    exact ⟨out, _, _, rfl, hc, by omega, hr⟩
  | succ d ih =>
    intro k m out i h n hn h8 hk ho hr hc
    obtain ⟨k, rfl⟩ : ∃ m, k = m + 1 := ⟨k - 1, by omega⟩
    obtain ⟨v1, i1, h1, e1, c1, r1, s1, _⟩ := below_cur b i h 256 hc
    obtain ⟨v2, i2, h2, e2, c2, r2, s2, _⟩ := below_cur b i1 h1 65536 c1
    obtain ⟨v3, i3, h3, e3, c3, r3⟩ := pick_cur b i2 h2 [0, 1, 65535, v1, v2] (by simp) c2
    have s1 := s1 (by decide)
    have s2 := s2 (by decide)
    have b3 : 0 ≤ v3 ∧ v3 ≤ 65535 := by
      simp only [List.mem_cons, List.not_mem_nil, or_false] at r3
      omega
    rw [spec_l04Data.l0, if_pos (by omega), e1, Option.bind_some]
    simp only
    rw [e2, Option.bind_some]
    simp only
    rw [e3, Option.bind_some]
    simp only
    rw [if_pos (by omega), w64 (by omega) (by omega), show ((m : Int) + 1) = ((m + 1 : Nat) : Int) by omega]
    refine ih k (m + 1) (out ++ [v3]) i3 h3 n (by omega) h8 (by omega) (by simp [ho]) (fun x hx => ?_) c3
    rcases List.mem_append.mp hx with hx | hx
    · exact hr x hx
    · rw [List.mem_singleton.mp hx]
      exact b3
theorem data_cur (b : List Int) (i h n : Int) (h0 : 0 ≤ n) (h8 : n ≤ 100) (hc : Cur b i) (k : Nat) (hk : 200 < k) : ∃ v i' h', spec_l04Data.f k b i h n = some (v, i', h') ∧ Cur b i' ∧ (v.length : Int) = n ∧ wordsOk v = true := by
  obtain ⟨v, i', h', e, c, hl, hr⟩ := data_loop b n.toNat k 0 [] i h n (by omega) h8 (by omega) rfl (by simp) hc
  exact ⟨v, i', h', e, c, hl, (wordsOk_iff v).mpr hr⟩
/-- A packet was drawn, and it is a packet. -/
def Drew (b : List Int) (o : Option (Int × Int × Int × Int × Int × Int × Int × List Int × Int × Int)) : Prop :=
  ∃ kd fr too ad ln tg st dat i' h', o = some (kd, fr, too, ad, ln, tg, st, dat, i', h') ∧ Cur b i' ∧ PkOk kd fr too ad ln tg st (dat.length : Int) (wordsOk dat)
theorem drew_45 (b : List Int) (i h kd fr : Int) (hk4 : kd = 4 ∨ kd = 5) (hf : 0 ≤ fr ∧ fr ≤ 255) (hc : Cur b i) (k : Nat) (hk : 200 < k) : Drew b (spec_l04Packet.j1 (k + 1) kd true b i h kd fr 0 0 0 0 0) := by
  obtain ⟨v1, i1, h1, e1, c1, r1, s1, _⟩ := below_cur b i h 256 hc
  obtain ⟨v2, i2, h2, e2, c2, r2, s2, _⟩ := below_cur b i1 h1 64 c1
  obtain ⟨v3, i3, h3, e3, c3, r3, s3, _⟩ := below_cur b i2 h2 8 c2
  obtain ⟨v, i4, h4, e4, c4, hl, hw⟩ := data_cur b i3 h3 1 (by decide) (by decide) c3 k hk
  have s1 := s1 (by decide)
  have s2 := s2 (by decide)
  have s3 := s3 (by decide)
  simp only [spec_l04Packet.j1, if_true, e1, e2, e3, e4, Option.bind_some]
  rcases hk4 with rfl | rfl
  · rw [if_neg (by decide)]
    exact ⟨_, _, _, _, _, _, _, _, _, _, rfl, c3, (pk4 _ _ _ _ _ _ _ _).mpr ⟨hf.1, hf.2, rfl, rfl, by omega, by omega, by omega, by omega, by omega, by omega, rfl, rfl⟩⟩
  · rw [if_pos rfl]
    exact ⟨_, _, _, _, _, _, _, _, _, _, rfl, c4, (pk5 _ _ _ _ _ _ _ _).mpr ⟨hf.1, hf.2, hw, hl, by omega, by omega, by omega, by omega, by omega, by omega, rfl, rfl⟩⟩
theorem drew_6 (b : List Int) (i h fr : Int) (hf : 0 ≤ fr ∧ fr ≤ 255) (hc : Cur b i) (k : Nat) (hk : 200 < k) : Drew b (spec_l04Packet.j1 (k + 1) 6 false b i h 6 fr 0 0 0 0 0) := by
  obtain ⟨v1, i1, h1, e1, c1, r1, s1, _⟩ := below_cur b i h 256 hc
  obtain ⟨v2, i2, h2, e2, c2, r2, s2, _⟩ := below_cur b i1 h1 8 c1
  obtain ⟨v3, i3, h3, e3, c3, r3⟩ := pick_cur b i2 h2 [0, 0, 0, 1, 2] (by simp) c2
  obtain ⟨v4, i4, h4, e4, c4, r4⟩ := pick_cur b i3 h3 [8, 0, 20, 64] (by simp) c3
  obtain ⟨v5, i5, h5, e5, c5, r5, s5, _⟩ := below_cur b i4 h4 9 c4
  have s1 := s1 (by decide)
  have s2 := s2 (by decide)
  have s5 := s5 (by decide)
  have b3 : 0 ≤ v3 ∧ v3 ≤ 2 := by
    simp only [List.mem_cons, List.not_mem_nil, or_false] at r3
    omega
  have b4 : 0 ≤ v4 ∧ v4 ≤ 64 := by
    simp only [List.mem_cons, List.not_mem_nil, or_false] at r4
    omega
  have hm : 0 ≤ mn v4 v5 ∧ mn v4 v5 ≤ 8 ∧ mn v4 v5 ≤ v4 := by
    unfold mn
    split <;> omega
  obtain ⟨v, i6, h6, e6, c6, hl, hw⟩ := data_cur b i5 h5 (mn v4 v5) hm.1 (by omega) c5 k hk
  simp only [spec_l04Packet.j1, if_true, e1, e2, e3, e4, e5, e6, Option.bind_some]
  rw [if_neg (by decide)]
  by_cases hz : v3 = 0
  · rw [if_pos hz]
    exact ⟨_, _, _, _, _, _, _, _, _, _, rfl, c6, (pk6 _ _ _ _ _ _ _ _).mpr ⟨hf.1, hf.2, hw, rfl, by omega, by omega, by omega, by omega, by omega, by omega, by omega, by omega, .inr ⟨hz, by omega, by omega⟩⟩⟩
  · rw [if_neg hz]
    exact ⟨_, _, _, _, _, _, _, _, _, _, rfl, c4, (pk6 _ _ _ _ _ _ _ _).mpr ⟨hf.1, hf.2, rfl, rfl, by omega, by omega, by omega, by omega, by omega, by omega, by omega, by omega, .inl rfl⟩⟩
theorem drew_3 (b : List Int) (i h fr : Int) (hf : 0 ≤ fr ∧ fr ≤ 255) (hc : Cur b i) (k : Nat) : Drew b (spec_l04Packet.j0 (k + 1) 3 false b i h 3 fr 0 0 0 0 0) := by
  obtain ⟨v1, i1, h1, e1, c1, r1⟩ := pick_cur b i h [1, 4, 8, 20, 64] (by simp) hc
  obtain ⟨v2, i2, h2, e2, c2, r2, s2, _⟩ := below_cur b i1 h1 60000 c1
  obtain ⟨v3, i3, h3, e3, c3, r3⟩ := pick_cur b i2 h2 [0, 100, 4096, 65472, v2] (by simp) c2
  obtain ⟨v4, i4, h4, e4, c4, r4, s4, _⟩ := below_cur b i3 h3 8 c3
  have s2 := s2 (by decide)
  have s4 := s4 (by decide)
  have b1 : 1 ≤ v1 ∧ v1 ≤ 64 := by
    simp only [List.mem_cons, List.not_mem_nil, or_false] at r1
    omega
  have b3 : 0 ≤ v3 ∧ v3 ≤ 65472 := by
    simp only [List.mem_cons, List.not_mem_nil, or_false] at r3
    omega
  simp only [spec_l04Packet.j0, if_true, e1, e2, e3, e4, Option.bind_some]
  rw [if_neg (by decide)]
  exact ⟨_, _, _, _, _, _, _, _, _, _, rfl, c4, (pk3 _ _ _ _ _ _ _ _).mpr ⟨hf.1, hf.2, rfl, rfl, by omega, by omega, by omega, by omega, by omega, by omega, rfl, rfl⟩⟩
theorem drew_12 (b : List Int) (i h kd fr : Int) (hk1 : kd = 1 ∨ kd = 2) (hf : 0 ≤ fr ∧ fr ≤ 255) (hc : Cur b i) (k : Nat) (hk : 200 < k) : Drew b (spec_l04Packet.j0 (k + 1) kd true b i h kd fr 0 0 0 0 0) := by
  obtain ⟨v1, i1, h1, e1, c1, r1, s1, _⟩ := below_cur b i h 8 hc
  have s1 := s1 (by decide)
  obtain ⟨v, i2, h2, e2, c2, hl, hw⟩ := data_cur b i1 h1 (wrap64 (1 + v1)) (by rw [w64 (by omega) (by omega)]; omega) (by rw [w64 (by omega) (by omega)]; omega) c1 k hk
  rw [w64 (n := 1 + v1) (by omega) (by omega)] at hl
  obtain ⟨v3, i3, h3, e3, c3, r3, s3, _⟩ := below_cur b i2 h2 60000 c2
  have s3 := s3 (by decide)
  obtain ⟨v4, i4, h4, e4, c4, r4⟩ := pick_cur b i3 h3 [0, 100, 4096, 65528, v3] (by simp) c3
  have b4 : 0 ≤ v4 ∧ v4 ≤ 65528 := by
    simp only [List.mem_cons, List.not_mem_nil, or_false] at r4
    omega
  simp only [spec_l04Packet.j0, if_true, e1, e2, e3, e4, Option.bind_some]
  rcases hk1 with rfl | rfl
  · rw [if_pos rfl]
    exact ⟨_, _, _, _, _, _, _, _, _, _, rfl, c4, (pk1 _ _ _ _ _ _ _ _).mpr ⟨hf.1, hf.2, hw, by omega, by omega, by omega, by omega, rfl, rfl, rfl, rfl⟩⟩
  · rw [if_neg (by decide)]
    exact ⟨_, _, _, _, _, _, _, _, _, _, rfl, c2, (pk2 _ _ _ _ _ _ _ _).mpr ⟨hf.1, hf.2, hw, by omega, by omega, rfl, rfl, rfl, rfl, rfl⟩⟩
theorem drew (b : List Int) (i h : Int) (hc : Cur b i) (k : Nat) (hk : 300 < k) : Drew b (spec_l04Packet.f k b i h) := by
  obtain ⟨k, rfl⟩ : ∃ m, k = m + 1 + 1 := ⟨k - 2, by omega⟩
  obtain ⟨v1, i1, h1, e1, c1, r1, s1, _⟩ := below_cur b i h 6 hc
  obtain ⟨v2, i2, h2, e2, c2, r2, s2, _⟩ := below_cur b i1 h1 256 c1
  have s1 := s1 (by decide)
  have s2 := s2 (by decide)
  have hf : 0 ≤ v2 ∧ v2 ≤ 255 := by omega
  unfold spec_l04Packet.f
  simp only [e1, e2, Option.bind_some]
  rw [w64 (n := 1 + v1) (by omega) (by omega)]
  have : v1 = 0 ∨ v1 = 1 ∨ v1 = 2 ∨ v1 = 3 ∨ v1 = 4 ∨ v1 = 5 := by omega
  rcases this with rfl | rfl | rfl | rfl | rfl | rfl
  · exact drew_12 b i2 h2 1 v2 (.inl rfl) hf c2 (k + 1) (by omega)
  · exact drew_12 b i2 h2 2 v2 (.inr rfl) hf c2 (k + 1) (by omega)
  · exact drew_3 b i2 h2 v2 hf c2 (k + 1)
  · exact drew_45 b i2 h2 4 v2 (.inl rfl) hf c2 k (by omega)
  · exact drew_45 b i2 h2 5 v2 (.inr rfl) hf c2 k (by omega)
  · exact drew_6 b i2 h2 v2 hf c2 k (by omega)
theorem draw_packet (l : List Int) (hl : l.length ≤ 1048576) (hb : ∀ x ∈ l, (Lit.int .u8 x).wf = true) (k : Nat) (hk : 5000 < k) : ∃ kd fr too ad ln tg st dat, spec_DrawPacket.f k l = some (kd, fr, too, ad, ln, tg, st, dat) ∧ PkOk kd fr too ad ln tg st (dat.length : Int) (wordsOk dat) := by
  obtain ⟨h, e, c⟩ := new_cur l hl hb k (by omega)
  obtain ⟨kd, fr, too, ad, ln, tg, st, dat, i', h', e2, _, hp⟩ := drew l 0 h c k (by omega)
  refine ⟨kd, fr, too, ad, ln, tg, st, dat, ?_, hp⟩
  unfold spec_DrawPacket.f
  rw [e, Option.bind_some]
  simp only
  rw [e2, Option.bind_some]
/-- The words, two bytes each. -/
def enc (l : List Int) : List Int := l.flatMap fun x => [wrap64 (Int.tdiv x 256), Int.tmod x 256]
theorem enc_cons (x : Int) (l : List Int) : enc (x :: l) = [wrap64 (Int.tdiv x 256), Int.tmod x 256] ++ enc l := by simp [enc]
theorem enc_length (l : List Int) : (enc l).length = 2 * l.length := by
  induction l with
  | nil => rfl
  | cons x l ih => rw [enc_cons, List.length_append, ih]; simp; omega
/-- What both encodings answer: at a packet that is none, nothing. -/
def coded (kd fr too ad ln tg st : Int) (l : List Int) : List Int := [kd, fr, too, wrap64 (Int.tdiv ad 256), Int.tmod ad 256, ln, wrap64 (wrap64 (tg * 16) + st), (l.length : Int)] ++ enc l
theorem coded_length (kd fr too ad ln tg st : Int) (l : List Int) (b : Bool) : (if b = true then coded kd fr too ad ln tg st l else []).length ≤ 8 + 2 * l.length := by
  cases b with
  | false => simp
  | true => simp [coded, enc_length]; omega
theorem impl_enc_loop (x : List Int) (hx : x.length ≤ 1048576) (d : Nat) : ∀ (k i : Nat) (acc : List Int), i + d = x.length → d < k → acc.length + 2 * d ≤ 17592186044414 →
    impl_EncodePacket.l0 k acc x (x.length : Int) i = some (acc ++ enc (x.drop i)) := by
  induction d with
  | zero =>
    intro k i acc hi hk _
    obtain ⟨k, rfl⟩ : ∃ m, k = m + 1 := ⟨k - 1, by omega⟩
    simp only [impl_EncodePacket.l0]
    rw [if_neg (by omega), List.drop_of_length_le (by omega)]
    simp [enc]
  | succ d ih =>
    intro k i acc hi hk ha
    obtain ⟨k, rfl⟩ : ∃ m, k = m + 1 := ⟨k - 1, by omega⟩
    have h1 : i < x.length := by omega
    simp only [impl_EncodePacket.l0]
    rw [if_pos (by omega), if_pos (by omega), if_pos (by omega), rd_nat x i h1, w64 (n := (i : Int) + 1) (by omega) (by omega), List.drop_eq_getElem_cons h1, enc_cons, Option.bind_some]
    rw [if_pos (by simp only [List.length_cons, List.length_nil]; omega), show ((i : Int) + 1) = ((i + 1 : Nat) : Int) by omega, ih k (i + 1) _ (by omega) (by omega) (by rw [List.length_append]; simp only [List.length_cons, List.length_nil]; omega), List.append_assoc]
theorem impl_encode (kd fr too ad ln tg st : Int) (l : List Int) (hl : l.length ≤ 1048576) (k : Nat) (hk : l.length + 2 < k) (b : Bool) (hb : impl_IsPacket.f k kd fr too ad ln tg st l = some b) :
    impl_EncodePacket.f k kd fr too ad ln tg st l = some (if b = true then coded kd fr too ad ln tg st l else []) := by
  unfold impl_EncodePacket.f
  rw [hb, Option.bind_some]
  cases b with
  | false => rfl
  | true =>
    have h := impl_enc_loop l hl l.length k 0 [kd, fr, too, wrap64 (Int.tdiv ad 256), Int.tmod ad 256, ln, wrap64 (wrap64 (tg * 16) + st), (l.length : Int)] (by omega) (by omega) (by simp only [List.length_cons, List.length_nil]; omega)
    rw [if_pos rfl, if_pos rfl]
    exact h
/-- One bit of the checksum, one byte, all bytes. -/
def sh (x : Int) : Int := if wrap64 (x * 2) > 65535 then Go.bits .xor .i64 (wrap64 (x * 2)) 69665 else wrap64 (x * 2)
def shs : Nat → Int → Int
  | 0, x => x
  | n + 1, x => shs n (sh x)
def crcB (x b : Int) : Int := shs 8 (Go.bits .xor .i64 x (wrap64 (b * 256)))
def crc (l : List Int) (x : Int) : Int := l.foldl crcB x
theorem impl_bits (l : List Int) (n i : Int) (d : Nat) : ∀ (k j : Nat) (x : Int), j + d = 8 → impl_CheckOf.l1 (k + d + 1) x l n i j = impl_CheckOf.l0 k (shs d x) l n (wrap64 (i + 1)) := by
  induction d with
  | zero =>
    intro k j x hj
    rw [impl_CheckOf.l1]
    rw [if_neg (by omega)]
    rfl
  | succ d ih =>
    intro k j x hj
    rw [show k + (d + 1) + 1 = (k + d + 1) + 1 by omega]
    rw [impl_CheckOf.l1]
    rw [if_pos (by omega), w64 (n := (j : Int) + 1) (by omega) (by omega), show ((j : Int) + 1) = ((j + 1 : Nat) : Int) by omega]
    by_cases e : wrap64 (x * 2) > 65535
    · rw [if_pos e, ih k (j + 1) _ (by omega)]
      simp only [shs, sh]
      rw [if_pos e]
    · rw [if_neg e, ih k (j + 1) _ (by omega)]
      simp only [shs, sh]
      rw [if_neg e]
theorem impl_crc_loop (l : List Int) (hl : l.length ≤ 1048576) (d : Nat) : ∀ (k i : Nat) (x : Int), i + d = l.length → 10 * d < k → impl_CheckOf.l0 k x l (l.length : Int) i = some (crc (l.drop i) x) := by
  induction d with
  | zero =>
    intro k i x hi hk
    obtain ⟨k, rfl⟩ : ∃ m, k = m + 1 := ⟨k - 1, by omega⟩
    simp only [impl_CheckOf.l0]
    rw [if_neg (by omega), List.drop_of_length_le (by omega)]
    rfl
  | succ d ih =>
    intro k i x hi hk
    obtain ⟨k, rfl⟩ : ∃ m, k = m + 8 + 1 + 1 := ⟨k - 10, by omega⟩
    have h1 : i < l.length := by omega
    rw [impl_CheckOf.l0]
    rw [if_pos (by omega), if_pos (by omega), if_pos (by omega), rd_nat l i h1]
    have hb := impl_bits l (l.length : Int) (i : Int) 8 k 0 (Go.bits .xor .i64 x (wrap64 (l[i] * 256))) (by decide)
    rw [show ((0 : Nat) : Int) = 0 from rfl] at hb
    rw [hb, w64 (n := (i : Int) + 1) (by omega) (by omega), show ((i : Int) + 1) = ((i + 1 : Nat) : Int) by omega, ih k (i + 1) _ (by omega) (by omega), List.drop_eq_getElem_cons h1]
    rfl
theorem impl_check (l : List Int) (k : Nat) (hk : 410 < k) : impl_CheckOf.f k l = some (if okB l then crc l 65535 else -1) := by
  unfold impl_CheckOf.f
  rw [impl_bytes l]
  simp only [Option.bind_some]
  by_cases h : okB l = true
  · have := (okB_iff l).mp h
    rw [if_pos h, if_pos h]
    have h2 := impl_crc_loop l (by omega) l.length k 0 65535 (by omega) (by omega)
    simpa using h2
  · rw [if_neg h, if_neg h]
theorem xor_split (q r p s : Nat) (hr : r < 65536) (hs : s < 65536) : (65536 * q + r) ^^^ (65536 * p + s) = 65536 * (q ^^^ p) + (r ^^^ s) := by
  have hx : r ^^^ s < 2 ^ 16 := Nat.xor_lt_two_pow hr hs
  apply Nat.eq_of_testBit_eq
  intro i
  have t1 := Nat.testBit_two_pow_mul_add (i := 16) q (show r < 2 ^ 16 from hr) i
  have t2 := Nat.testBit_two_pow_mul_add (i := 16) p (show s < 2 ^ 16 from hs) i
  have t3 := Nat.testBit_two_pow_mul_add (i := 16) (q ^^^ p) hx i
  rw [Nat.testBit_xor, show (65536 : Nat) * q = 2 ^ 16 * q from rfl, show (65536 : Nat) * p = 2 ^ 16 * p from rfl, show (65536 : Nat) * (q ^^^ p) = 2 ^ 16 * (q ^^^ p) from rfl, t1, t2, t3]
  by_cases h : i < 16 <;> simp [h, Nat.testBit_xor]
/-- One bit of the checksum, of a natural number. -/
def shN (x : Nat) : Nat := if 2 * x > 65535 then (2 * x) ^^^ 69665 else 2 * x
theorem shN_lt (x : Nat) (hx : x < 65536) : shN x < 65536 := by
  unfold shN
  by_cases h : 2 * x > 65535
  · rw [if_pos h]
    have e : 2 * x = 65536 * 1 + (2 * x - 65536) := by omega
    have e2 : 69665 = 65536 * 1 + 4129 := rfl
    rw [e, e2, xor_split 1 _ 1 4129 (by omega) (by decide)]
    have : (2 * x - 65536) ^^^ 4129 < 2 ^ 16 := Nat.xor_lt_two_pow (by omega) (by decide)
    have e3 : (1 : Nat) ^^^ 1 = 0 := rfl
    rw [e3]
    omega
  · rw [if_neg h]; omega
theorem sh_nat (x : Nat) (hx : x < 65536) : sh (x : Int) = (shN x : Nat) := by
  unfold sh shN
  rw [w64 (by omega) (by omega)]
  by_cases h : 2 * x > 65535
  · rw [if_pos h, if_pos (by omega), show (x : Int) * 2 = ((2 * x : Nat) : Int) by omega, show (69665 : Int) = ((69665 : Nat) : Int) from rfl, xorI _ _ (by omega) (by decide)]
  · rw [if_neg h, if_neg (by omega)]; omega
def shsN : Nat → Nat → Nat
  | 0, x => x
  | n + 1, x => shsN n (shN x)
theorem shs_nat (n x : Nat) (hx : x < 65536) : shs n (x : Int) = (shsN n x : Nat) ∧ shsN n x < 65536 := by
  induction n generalizing x with
  | zero =>
    rw [shs, shsN]
    exact ⟨rfl, hx⟩
  | succ n ih =>
    have h1 := sh_nat x hx
    have h2 := shN_lt x hx
    rw [shs, shsN, h1]
    exact ih _ h2
def crcBN (x b : Nat) : Nat := shsN 8 (x ^^^ (b * 256))
theorem crcB_nat (x b : Nat) (hx : x < 65536) (hb : b < 256) : crcB (x : Int) (b : Int) = (crcBN x b : Nat) ∧ crcBN x b < 65536 := by
  unfold crcB crcBN
  rw [w64 (by omega) (by omega), show (b : Int) * 256 = ((b * 256 : Nat) : Int) by omega, xorI _ _ (by omega) (by omega)]
  exact shs_nat 8 _ (show x ^^^ (b * 256) < 2 ^ 16 from Nat.xor_lt_two_pow (by omega) (by omega))
def crcN (l : List Nat) (x : Nat) : Nat := l.foldl crcBN x
theorem crc_nat (l : List Nat) (hl : ∀ b ∈ l, b < 256) (x : Nat) (hx : x < 65536) : crc (l.map fun b : Nat => (b : Int)) (x : Int) = (crcN l x : Nat) ∧ crcN l x < 65536 := by
  induction l generalizing x with
  | nil =>
    rw [List.map_nil, crc, crcN, List.foldl_nil, List.foldl_nil]
    exact ⟨rfl, hx⟩
  | cons b t ih =>
    obtain ⟨h1, h2⟩ := crcB_nat x b hx (hl b (by simp))
    have h3 := ih (fun c hc => hl c (by simp [hc])) _ h2
    rw [crc, crcN] at h3 ⊢
    rw [List.map_cons, List.foldl_cons, List.foldl_cons, h1]
    exact h3
theorem nats (l : List Int) (hl : ∀ b ∈ l, 0 ≤ b ∧ b ≤ 255) : ∃ m : List Nat, l = m.map (fun b : Nat => (b : Int)) ∧ ∀ b ∈ m, b < 256 := by
  refine ⟨l.map Int.toNat, ?_, ?_⟩
  · rw [List.map_map]
    conv => lhs; rw [← List.map_id l]
    refine List.map_congr_left fun b hb => ?_
    have := hl b hb
    simp only [id, Function.comp]
    omega
  · intro b hb
    obtain ⟨c, hc, rfl⟩ := List.mem_map.mp hb
    have := hl c hc
    omega
theorem crc_range (l : List Int) (hl : ∀ b ∈ l, 0 ≤ b ∧ b ≤ 255) : 0 ≤ crc l 65535 ∧ crc l 65535 ≤ 65535 := by
  obtain ⟨m, rfl, hm⟩ := nats l hl
  obtain ⟨h1, h2⟩ := crc_nat m hm 65535 (by decide)
  have h3 : crc (m.map fun b : Nat => (b : Int)) 65535 = (crcN m 65535 : Nat) := h1
  omega
/-- What AddCheck gives. -/
def addC (l : List Int) : List Int := if okB l = true ∧ l.length ≤ 38 then l ++ [crc l 65535 / 256, crc l 65535 % 256] else []
theorem addC_length (l : List Int) : (addC l).length ≤ 40 := by
  unfold addC
  split
  · rw [List.length_append]; simp only [List.length_cons, List.length_nil]; omega
  · simp
theorem split_eq (c : Int) (h : 0 ≤ c ∧ c ≤ 65535) : impl_SplitWord.f c = some (c / 256, c % 256) := by
  unfold impl_SplitWord.f impl_isWord.f
  simp only [within, Option.bind_some]
  rw [if_pos (by simpa using h), Int.tdiv_eq_ediv_of_nonneg h.1, Int.tmod_eq_emod_of_nonneg h.1, w64 (by omega) (by omega)]
theorem impl_add (l : List Int) (k : Nat) (hk : 411 < k) : impl_AddCheck.f k l = some (addC l) := by
  obtain ⟨k, rfl⟩ : ∃ m, k = m + 1 := ⟨k - 1, by omega⟩
  unfold impl_AddCheck.f addC
  rw [impl_bytes]
  simp only [Option.bind_some, impl_AddCheck.j0]
  by_cases hb : okB l = true
  · have hc := (okB_iff l).mp hb
    have hr := crc_range l hc.2
    by_cases h : l.length ≤ 38
    · rw [if_pos hb, if_neg (by simp; omega), if_pos (show okB l = true ∧ l.length ≤ 38 from ⟨hb, h⟩), impl_check l k (by omega)]
      simp only [hb, if_true, Option.bind_some]
      rw [split_eq _ hr, clone l (by omega)]
      simp only [Option.bind_some]
      rw [if_pos (by simp only [List.length_cons, List.length_nil]; omega)]
    · rw [if_pos hb, if_neg (show ¬ (okB l = true ∧ l.length ≤ 38) from fun x => h x.2), if_pos (by simp; omega)]
  · rw [if_neg hb, if_neg (show ¬ (okB l = true ∧ l.length ≤ 38) from fun x => hb x.1), if_pos trivial]
/-- What TakeCheck gives. -/
def takeC (l : List Int) : List Int × Bool :=
  if okB l = true ∧ 2 ≤ l.length ∧ crc (l.take (l.length - 2)) 65535 = l.getD (l.length - 2) 0 * 256 + l.getD (l.length - 1) 0 then (l.take (l.length - 2), true) else ([], false)
theorem okB_take (l : List Int) (n : Nat) (h : okB l = true) : okB (l.take n) = true := by
  rw [okB_iff] at h ⊢
  exact ⟨by rw [List.length_take]; omega, fun b hb => h.2 b (List.mem_of_mem_take hb)⟩
theorem last_two (l : List Int) (h : 2 ≤ l.length) : l = l.take (l.length - 2) ++ [l.getD (l.length - 2) 0, l.getD (l.length - 1) 0] := by
  have h1 : l.length - 2 < l.length := by omega
  have h2 : l.length - 1 < l.length := by omega
  have e1 : l.drop (l.length - 2) = [l.getD (l.length - 2) 0, l.getD (l.length - 1) 0] := by
    rw [List.drop_eq_getElem_cons h1, show l.length - 2 + 1 = l.length - 1 by omega, List.drop_eq_getElem_cons h2, show l.length - 1 + 1 = l.length by omega, List.drop_length, List.getD_eq_getElem?_getD, List.getD_eq_getElem?_getD, List.getElem?_eq_getElem h1, List.getElem?_eq_getElem h2]
    rfl
  conv => lhs; rw [← List.take_append_drop (l.length - 2) l, e1]
theorem impl_take (l : List Int) (k : Nat) (hk : 420 < k) (hl : l.length ≤ 1048576) : impl_TakeCheck.f k l = some (takeC l) := by
  unfold impl_TakeCheck.f takeC
  rw [w64 (n := (l.length : Int) - 2) (by omega) (by omega)]
  by_cases h2 : 2 ≤ l.length
  · rw [if_neg (by omega), impl_bytes]
    simp only [Option.bind_some]
    by_cases hb : okB l = true
    · obtain ⟨b1, b2⟩ := (okB_iff l).mp hb
      have ht := okB_take l (l.length - 2) hb
      have hr := crc_range (l.take (l.length - 2)) ((okB_iff _).mp ht).2
      have htl : (l.take (l.length - 2)).length = l.length - 2 := by rw [List.length_take]; omega
      have ea : addC (l.take (l.length - 2)) = l.take (l.length - 2) ++ [crc (l.take (l.length - 2)) 65535 / 256, crc (l.take (l.length - 2)) 65535 % 256] := by
        unfold addC
        rw [if_pos ⟨ht, by omega⟩]
      have hal := addC_length (l.take (l.length - 2))
      rw [if_pos hb, if_pos (by omega), if_pos (by omega), show ((l.length : Int) - 2).toNat = l.length - 2 by omega, impl_add _ k (by omega)]
      simp only [Option.bind_some]
      rw [equal _ l (by omega) k (by omega), clone _ (by omega)]
      simp only [Option.bind_some]
      have hm : 0 ≤ l.getD (l.length - 1) 0 ∧ l.getD (l.length - 1) 0 ≤ 255 := by
        rw [List.getD_eq_getElem?_getD, List.getElem?_eq_getElem (show l.length - 1 < l.length by omega)]
        exact b2 _ (List.getElem_mem _)
      have key : addC (l.take (l.length - 2)) = l ↔ crc (l.take (l.length - 2)) 65535 = l.getD (l.length - 2) 0 * 256 + l.getD (l.length - 1) 0 := by
        have e := last_two l h2
        rw [ea]
        generalize crc (l.take (l.length - 2)) 65535 = c at hr
        generalize l.getD (l.length - 2) 0 = x at e
        generalize l.getD (l.length - 1) 0 = y at e hm
        constructor
        · intro h
          have h3 := List.append_cancel_left (h.trans e)
          simp only [List.cons.injEq, and_true] at h3
          omega
        · intro h
          rw [show c / 256 = x by omega, show c % 256 = y by omega]
          exact e.symm
      by_cases hc : crc (l.take (l.length - 2)) 65535 = l.getD (l.length - 2) 0 * 256 + l.getD (l.length - 1) 0
      · rw [if_pos (by simpa using key.mpr hc), if_pos ⟨hb, h2, hc⟩]
      · rw [if_neg (by simpa using fun h => hc (key.mp h)), if_neg (fun h => hc h.2.2)]
    · rw [if_neg hb, if_neg (fun h => hb h.1)]
  · rw [if_pos (by omega), if_neg (fun h => h2 h.2.1)]
theorem two_cast (i : Nat) : ((2 : Int) ^ i) = ((2 ^ i : Nat) : Int) := by simp
theorem pw (n : Nat) (hn : n ≤ 16) : 0 < 2 ^ n ∧ 2 ^ n ≤ 65536 := ⟨Nat.two_pow_pos n, Nat.pow_le_pow_right (show 0 < 2 by decide) hn⟩
theorem shl_nat (v n : Nat) (hv : v ≤ 65536) (hn : n ≤ 16) : shl .i64 (v : Int) (n : Int) = ((v * 2 ^ n : Nat) : Int) := by
  have hp := pw n hn
  have hm : v * 2 ^ n ≤ 65536 * 65536 := Nat.mul_le_mul hv hp.2
  unfold shl
  rw [Int.toNat_natCast, Nat.min_eq_left (show n ≤ IntKind.i64.bits by show n ≤ 64; omega), two_cast, ← Int.natCast_mul]
  generalize v * 2 ^ n = m at hm
  exact i64w (by omega) (by omega)
theorem shl_one (n : Nat) (hn : n ≤ 16) : shl .i64 1 (n : Int) = ((2 ^ n : Nat) : Int) := by
  have := shl_nat 1 n (by decide) hn
  rw [Nat.one_mul] at this
  exact this
/-- A bit of a list of bytes, flipped. -/
theorem flip_at (l : List Int) (hb : okB l = true) (n : Nat) (hn : n < 8 * l.length) : ∃ v : Nat, rd l ((n / 8 : Nat) : Int) = (v : Int) ∧ v < 256 ∧ v ^^^ 2 ^ (n % 8) < 256 ∧ impl_FlipBit.f l (n : Int) = some (l.set (n / 8) ((v ^^^ 2 ^ (n % 8) : Nat) : Int)) := by
  obtain ⟨h40, hx⟩ := (okB_iff l).mp hb
  have hi : n / 8 < l.length := by omega
  obtain ⟨h0, h1⟩ := hx _ (List.getElem_mem hi)
  obtain ⟨v, hv⟩ := Int.eq_ofNat_of_zero_le h0
  have hp : 2 ^ (n % 8) < 2 ^ 8 := Nat.pow_lt_pow_right (by decide) (by omega)
  have hr : rd l ((n / 8 : Nat) : Int) = (v : Int) := by rw [rd_nat l _ hi, hv]
  have hlt : v ^^^ 2 ^ (n % 8) < 2 ^ 8 := Nat.xor_lt_two_pow (by omega) hp
  refine ⟨v, hr, by omega, hlt, ?_⟩
  unfold impl_FlipBit.f
  rw [clone l (by omega), impl_bytes, Option.bind_some, Option.bind_some, if_pos hb, within, Option.bind_some]
  have hw : wrap64 (wrap64 (8 * (l.length : Int)) - 1) = 8 * l.length - 1 := by rw [w64 (n := 8 * (l.length : Int)) (by omega) (by omega), w64 (by omega) (by omega)]
  have e1 : wrap64 (Int.tdiv (n : Int) 8) = ((n / 8 : Nat) : Int) := by
    rw [show Int.tdiv (n : Int) 8 = ((n / 8 : Nat) : Int) from rfl]
    exact w64 (by omega) (by omega)
  have e3 : IntKind.u64.wrap (Int.tmod (n : Int) 8) = ((n % 8 : Nat) : Int) := by
    rw [show Int.tmod (n : Int) 8 = ((n % 8 : Nat) : Int) from rfl]
    exact u64 (by omega) (by omega)
  rw [hw, if_pos (by simp; omega), e1, e3, if_pos (by omega), if_pos (by omega), if_pos (by omega), hr, shl_one _ (by omega), xorI _ _ (by omega) (by omega), Int.toNat_natCast]
theorem okB_set (l : List Int) (hb : okB l = true) (i : Nat) (w : Int) (hw : 0 ≤ w ∧ w ≤ 255) : okB (l.set i w) = true := by
  obtain ⟨h40, hx⟩ := (okB_iff l).mp hb
  refine (okB_iff _).mpr ⟨by simpa using h40, fun b hbm => ?_⟩
  rcases List.mem_or_eq_of_mem_set hbm with h | h
  · exact hx b h
  · rw [h]; exact hw
theorem flip_twice (l : List Int) (hb : okB l = true) (n : Nat) (hn : n < 8 * l.length) : ∃ v w : Nat, rd l ((n / 8 : Nat) : Int) = (v : Int) ∧ w = v ^^^ 2 ^ (n % 8) ∧ v < 256 ∧ w < 256 ∧ impl_FlipBit.f l (n : Int) = some (l.set (n / 8) (w : Int)) ∧ okB (l.set (n / 8) (w : Int)) = true ∧ impl_FlipBit.f (l.set (n / 8) (w : Int)) (n : Int) = some l := by
  obtain ⟨v, h1, h2, h3, h4⟩ := flip_at l hb n hn
  have hi : n / 8 < l.length := by omega
  have ho := okB_set l hb (n / 8) ((v ^^^ 2 ^ (n % 8) : Nat) : Int) (by omega)
  obtain ⟨v2, g1, g2, g3, g4⟩ := flip_at (l.set (n / 8) ((v ^^^ 2 ^ (n % 8) : Nat) : Int)) ho n (by simpa using hn)
  have e : v2 = v ^^^ 2 ^ (n % 8) := by
    have := g1
    rw [rd_nat _ _ (by simpa using hi), List.getElem_set_self] at this
    omega
  refine ⟨v, _, h1, rfl, h2, h3, h4, ho, ?_⟩
  rw [g4, e, Nat.xor_assoc, Nat.xor_self, Nat.xor_zero, List.set_set]
  have : (l.set (n / 8) (v : Int)) = l := by
    have hv : l[n / 8] = (v : Int) := by rw [← h1, rd_nat l _ hi]
    rw [← hv, List.set_getElem_self]
  rw [this]
theorem two_xor (x y : Nat) : 2 * (x ^^^ y) = (2 * x) ^^^ (2 * y) := by
  have h : ∀ z : Nat, 2 * z = z <<< 1 := fun z => by rw [Nat.shiftLeft_eq]; omega
  rw [h, h, h, Nat.shiftLeft_xor_distrib]
/-- A bit's step, by whether the highest bit is set. -/
theorem shN_bit (x : Nat) (hx : x < 65536) : shN x = (2 * x) ^^^ (if x.testBit 15 then 69665 else 0) := by
  have hb : x.testBit 15 = decide (2 * x > 65535) := by
    rw [Nat.testBit_eq_decide_div_mod_eq]
    have : x / 2 ^ 15 % 2 = 1 ↔ 2 * x > 65535 := by omega
    simp only [this]
  unfold shN
  rw [hb]
  by_cases h : 2 * x > 65535
  · simp [h]
  · simp [h]
theorem shN_xor (x y : Nat) (hx : x < 65536) (hy : y < 65536) : shN (x ^^^ y) = shN x ^^^ shN y := by
  have hxy : x ^^^ y < 65536 := show x ^^^ y < 2 ^ 16 from Nat.xor_lt_two_pow hx hy
  rw [shN_bit x hx, shN_bit y hy, shN_bit _ hxy, two_xor, Nat.testBit_xor]
  generalize 2 * x = a
  generalize 2 * y = b
  generalize (69665 : Nat) = p
  cases x.testBit 15 with
  | false =>
    cases y.testBit 15 with
    | false => simp
    | true => simp [Nat.xor_assoc]
  | true =>
    cases y.testBit 15 with
    | false =>
      simp only [Bool.xor_false, if_true, Bool.false_eq_true, if_false, Nat.xor_zero]
      rw [Nat.xor_assoc, Nat.xor_comm b p, ← Nat.xor_assoc]
    | true =>
      simp only [Bool.xor_true, Bool.not_true, if_true, Bool.false_eq_true, if_false, Nat.xor_zero]
      rw [Nat.xor_assoc a p, Nat.xor_comm b p, ← Nat.xor_assoc p p b, Nat.xor_self, Nat.zero_xor]
theorem shsN_lt (n x : Nat) (hx : x < 65536) : shsN n x < 65536 := by
  induction n generalizing x with
  | zero => exact hx
  | succ n ih => exact ih _ (shN_lt x hx)
theorem shsN_xor (n x y : Nat) (hx : x < 65536) (hy : y < 65536) : shsN n (x ^^^ y) = shsN n x ^^^ shsN n y := by
  induction n generalizing x y with
  | zero => rfl
  | succ n ih =>
    simp only [shsN]
    rw [shN_xor x y hx hy, ih _ _ (shN_lt x hx) (shN_lt y hy)]
theorem shsN_add (m n x : Nat) : shsN (m + n) x = shsN n (shsN m x) := by
  induction m generalizing x with
  | zero => rw [Nat.zero_add]; rfl
  | succ m ih => rw [show m + 1 + n = (m + n) + 1 by omega]; simp only [shsN]; exact ih _
/-- What a bit that is set n places from the end leaves. -/
def wt (n : Nat) : Nat := shsN n 1
theorem shsN_pow (j : Nat) (hj : j < 16) : wt j = 2 ^ j := by
  have h : ∀ j, j < 16 → wt j = 2 ^ j := by decide +kernel
  exact h j hj
theorem crcBN_lt (x b : Nat) (hx : x < 65536) (hb : b < 256) : crcBN x b < 65536 := by
  unfold crcBN
  exact shsN_lt 8 _ (show x ^^^ (b * 256) < 2 ^ 16 from Nat.xor_lt_two_pow (by omega) (by omega))
/-- One bit flipped in a list of bytes: the checksum over all of it is that of before, and the bit's weight. -/
theorem crcN_state (l : List Nat) (hl : ∀ b ∈ l, b < 256) (x e : Nat) (hx : x < 65536) (he : e < 65536) : crcN l (x ^^^ e) = crcN l x ^^^ shsN (8 * l.length) e := by
  induction l generalizing x e with
  | nil => rfl
  | cons b t ih =>
    have hb := hl b (by simp)
    have hbb : b * 256 < 65536 := by omega
    have h1 : crcBN (x ^^^ e) b = crcBN x b ^^^ shsN 8 e := by
      unfold crcBN
      rw [Nat.xor_assoc, Nat.xor_comm e, ← Nat.xor_assoc]
      exact shsN_xor 8 _ e (show x ^^^ (b * 256) < 2 ^ 16 from Nat.xor_lt_two_pow hx hbb) he
    have h2 := ih (fun c hc => hl c (by simp [hc])) (crcBN x b) (shsN 8 e) (crcBN_lt x b hx hb) (shsN_lt 8 e he)
    unfold crcN at h2 ⊢
    rw [List.foldl_cons, List.foldl_cons, h1, h2, List.length_cons, show 8 * (t.length + 1) = 8 + 8 * t.length by omega, shsN_add]
theorem crcN_flip (l : List Nat) (hl : ∀ b ∈ l, b < 256) (i j : Nat) (hi : i < l.length) (hj : j < 8) (x : Nat) (hx : x < 65536) :
    crcN (l.set i (l[i] ^^^ 2 ^ j)) x = crcN l x ^^^ wt (16 + j + 8 * (l.length - 1 - i)) := by
  induction l generalizing i x with
  | nil => simp at hi
  | cons b t ih =>
    have hb := hl b (by simp)
    have ht : ∀ c ∈ t, c < 256 := fun c hc => hl c (by simp [hc])
    have hp : 2 ^ j < 2 ^ 8 := Nat.pow_lt_pow_right (by decide) hj
    cases i with
    | zero =>
      have h1 : crcBN x (b ^^^ 2 ^ j) = crcBN x b ^^^ wt (16 + j) := by
        unfold crcBN
        have e1 : (b ^^^ 2 ^ j) * 256 = (b * 256) ^^^ (2 ^ j * 256) := by
          rw [show (256 : Nat) = 2 ^ 8 from rfl, ← Nat.shiftLeft_eq, ← Nat.shiftLeft_eq, ← Nat.shiftLeft_eq, Nat.shiftLeft_xor_distrib]
        have e2 : 2 ^ j * 256 = wt (j + 8) := by rw [shsN_pow (j + 8) (by omega), Nat.pow_add]
        rw [e1, ← Nat.xor_assoc, shsN_xor 8 _ _ (show x ^^^ (b * 256) < 2 ^ 16 from Nat.xor_lt_two_pow hx (by omega)) (by omega), e2]
        unfold wt
        rw [← shsN_add, show j + 8 + 8 = 16 + j by omega]
      have h2 := crcN_state t ht (crcBN x b) (wt (16 + j)) (crcBN_lt x b hx hb) (shsN_lt _ 1 (by decide))
      unfold crcN at h2 ⊢
      simp only [List.set_cons_zero, List.getElem_cons_zero, List.foldl_cons]
      rw [h1, h2]
      unfold wt
      rw [← shsN_add]
      rfl
    | succ i =>
      have hi' : i < t.length := by simpa using hi
      have h2 := ih ht i hi' (crcBN x b) (crcBN_lt x b hx hb)
      unfold crcN at h2 ⊢
      simp only [List.set_cons_succ, List.getElem_cons_succ, List.foldl_cons]
      rw [h2, List.length_cons, show t.length + 1 - 1 - (i + 1) = t.length - 1 - i by omega]
theorem wt_ne : ∀ a, a < 224 → ∀ b, b < a → wt a ≠ wt b := by decide +kernel
theorem wt_odd : ∀ a, a < 224 → wt a ≠ 0 ∧ pop 16 (wt a) % 2 = 1 := by decide +kernel
theorem pop_xor (k x y : Nat) : pop k (x ^^^ y) % 2 = (pop k x + pop k y) % 2 := by
  induction k generalizing x y with
  | zero => rw [pop_z, pop_z, pop_z]
  | succ k ih =>
    have h1 : (x ^^^ y) % 2 = (x % 2 + y % 2) % 2 := by
      have e : (x ^^^ y) % 2 ^ 1 = (x % 2 ^ 1) ^^^ (y % 2 ^ 1) := Nat.xor_mod_two_pow
      rw [Nat.pow_one] at e
      rw [e]
      rcases Nat.mod_two_eq_zero_or_one x with h | h <;> rcases Nat.mod_two_eq_zero_or_one y with g | g <;> rw [h, g] <;> rfl
    have h2 : (x ^^^ y) / 2 = x / 2 ^^^ y / 2 := Nat.xor_div_two
    rw [pop_succ, pop_succ, pop_succ, h1, h2]
    have := ih (x / 2) (y / 2)
    omega
theorem shsN_zero (n : Nat) : shsN n 0 = 0 := by
  induction n with
  | zero => rfl
  | succ n ih => exact ih
theorem shsN_inj (n x y : Nat) (hx : x < 65536) (hy : y < 65536) : shsN n x = shsN n y → x = y := by
  have h1 : ∀ x y, x < 65536 → y < 65536 → shN x = shN y → x = y := by
    intro x y hx hy h
    have hz := shN_xor x y hx hy
    rw [h, Nat.xor_self] at hz
    have hxy : x ^^^ y < 65536 := show x ^^^ y < 2 ^ 16 from Nat.xor_lt_two_pow hx hy
    have h0 : x ^^^ y = 0 := by
      generalize x ^^^ y = z at hz hxy
      unfold shN at hz
      by_cases c : 2 * z > 65535
      · rw [if_pos c] at hz
        have := congrArg (fun q => q ^^^ 69665) hz
        simp only [Nat.xor_assoc, Nat.xor_self, Nat.xor_zero, Nat.zero_xor] at this
        omega
      · rw [if_neg c] at hz
        omega
    have := congrArg (fun q => q ^^^ y) h0
    simpa [Nat.xor_assoc] using this
  induction n generalizing x y with
  | zero => exact id
  | succ n ih =>
    intro h
    exact h1 x y hx hy (ih _ _ (shN_lt x hx) (shN_lt y hy) h)
theorem shs8 : ∀ b, b < 256 → shsN 8 b = b * 256 := by decide +kernel
theorem byte_xor (a b : Nat) (hb : b < 256) : (a * 256) ^^^ b = a * 256 + b := by
  apply Nat.eq_of_testBit_eq
  intro i
  have t1 := Nat.testBit_two_pow_mul_add (i := 8) a (show b < 2 ^ 8 from hb) i
  have t2 := Nat.testBit_two_pow_mul_add (i := 8) a (show 0 < 2 ^ 8 by decide) i
  rw [Nat.add_zero] at t2
  rw [Nat.testBit_xor, show a * 256 + b = 2 ^ 8 * a + b by omega, show a * 256 = 2 ^ 8 * a by omega, t1, t2]
  by_cases h : i < 8
  · simp [h]
  · have : b.testBit i = false := Nat.testBit_lt_two_pow (Nat.lt_of_lt_of_le hb (show 2 ^ 8 ≤ 2 ^ i from Nat.pow_le_pow_right (by decide) (by omega)))
    simp [h, this]
/-- The two bytes of a check behind its bytes: nothing is left, exactly where they are the check. -/
theorem crcN_two (s a b : Nat) (hs : s < 65536) (ha : a < 256) (hb : b < 256) : crcBN (crcBN s a) b = 0 ↔ s = a * 256 + b := by
  have hx : ∀ x y, x < 65536 → y < 65536 → (shsN 8 (x ^^^ y) = 0 ↔ x = y) := by
    intro x y hx hy
    have hxy : x ^^^ y < 65536 := show x ^^^ y < 2 ^ 16 from Nat.xor_lt_two_pow hx hy
    constructor
    · intro h
      rw [← shsN_zero 8] at h
      have h0 := shsN_inj 8 _ 0 hxy (by decide) h
      have := congrArg (fun q => q ^^^ y) h0
      simpa [Nat.xor_assoc] using this
    · rintro rfl
      rw [Nat.xor_self, shsN_zero]
  have h1 : s ^^^ (a * 256) < 65536 := show s ^^^ (a * 256) < 2 ^ 16 from Nat.xor_lt_two_pow hs (by omega)
  show shsN 8 (shsN 8 (s ^^^ (a * 256)) ^^^ (b * 256)) = 0 ↔ _
  rw [hx _ _ (shsN_lt 8 _ h1) (by omega), ← shs8 b hb]
  constructor
  · intro h
    have h2 := shsN_inj 8 _ b h1 (by omega) h
    rw [← byte_xor a b hb, ← h2, Nat.xor_comm s, ← Nat.xor_assoc, Nat.xor_self, Nat.zero_xor]
  · intro h
    rw [h, ← byte_xor a b hb, Nat.xor_comm (a * 256) b, Nat.xor_assoc, Nat.xor_self, Nat.xor_zero]
theorem map_okB (m : List Nat) (hm : ∀ b ∈ m, b < 256) (hl : m.length ≤ 40) : okB (m.map fun b : Nat => (b : Int)) = true := by
  refine (okB_iff _).mpr ⟨by simpa using hl, fun b hb => ?_⟩
  obtain ⟨c, hc, rfl⟩ := List.mem_map.mp hb
  have := hm c hc
  omega
/-- TakeCheck takes bytes exactly where the checksum over all of them, the check's own two too, leaves nothing. -/
theorem take_iff (u : List Nat) (a b : Nat) (hu : ∀ c ∈ u, c < 256) (ha : a < 256) (hb : b < 256) (hl : u.length ≤ 38) :
    (takeC ((u ++ [a, b]).map fun b : Nat => (b : Int))).2 = decide (crcN (u ++ [a, b]) 65535 = 0) := by
  have hm : ∀ c ∈ u ++ [a, b], c < 256 := by
    intro c hc
    rcases List.mem_append.mp hc with hc | hc
    · exact hu c hc
    · simp only [List.mem_cons, List.not_mem_nil, or_false] at hc
      omega
  have ho := map_okB (u ++ [a, b]) hm (by simp; omega)
  obtain ⟨h1, h2⟩ := crc_nat u hu 65535 (by decide)
  have e1 : ((u ++ [a, b]).map fun b : Nat => (b : Int)).length = u.length + 2 := by simp
  have e2 : ((u ++ [a, b]).map fun b : Nat => (b : Int)) = (u.map fun b : Nat => (b : Int)) ++ [(a : Int), (b : Int)] := by simp
  have e3 : crcN (u ++ [a, b]) 65535 = crcBN (crcBN (crcN u 65535) a) b := by unfold crcN; rw [List.foldl_append, List.foldl_cons, List.foldl_cons, List.foldl_nil]
  have g1 : ((u.map fun b : Nat => (b : Int)) ++ [(a : Int), (b : Int)]).getD (u.length + 2 - 2) 0 = (a : Int) := by
    rw [List.getD_eq_getElem?_getD, List.getElem?_append_right (by simp)]
    simp
  have g2 : ((u.map fun b : Nat => (b : Int)) ++ [(a : Int), (b : Int)]).getD (u.length + 2 - 1) 0 = (b : Int) := by
    rw [List.getD_eq_getElem?_getD, List.getElem?_append_right (by simp)]
    simp
  have g3 : ((u.map fun b : Nat => (b : Int)) ++ [(a : Int), (b : Int)]).take (u.length + 2 - 2) = u.map fun b : Nat => (b : Int) := by
    rw [show u.length + 2 - 2 = (u.map fun b : Nat => (b : Int)).length by simp, List.take_left]
  unfold takeC
  rw [ho, e1, e3, e2, g1, g2, g3]
  have hk := crcN_two (crcN u 65535) a b h2 ha hb
  have h1' : crc (u.map fun b : Nat => (b : Int)) 65535 = (crcN u 65535 : Nat) := by
    rw [show (65535 : Int) = ((65535 : Nat) : Int) from rfl]
    exact h1
  rw [h1']
  by_cases h : crcN u 65535 = a * 256 + b
  · rw [if_pos ⟨rfl, by omega, by omega⟩, decide_eq_true (hk.mpr h)]
  · rw [if_neg (fun g => h (by have := g.2.2; omega)), decide_eq_false (fun g => h (hk.mp g))]
/-- A bit of a list of bytes, flipped: over natural numbers. -/
def fl (m : List Nat) (n : Nat) : List Nat := m.set (n / 8) (m.getD (n / 8) 0 ^^^ 2 ^ (n % 8))
theorem fl_length (m : List Nat) (n : Nat) : (fl m n).length = m.length := by simp [fl]
theorem fl_byte (m : List Nat) (hm : ∀ b ∈ m, b < 256) (n : Nat) (hn : n < 8 * m.length) : m.getD (n / 8) 0 ^^^ 2 ^ (n % 8) < 256 := by
  have hi : n / 8 < m.length := by omega
  have hv : m.getD (n / 8) 0 = m[n / 8] := by rw [List.getD_eq_getElem?_getD, List.getElem?_eq_getElem hi]; rfl
  have h1 := hm _ (List.getElem_mem hi)
  have hp : 2 ^ (n % 8) < 2 ^ 8 := Nat.pow_lt_pow_right (by decide) (by omega)
  rw [hv]
  exact (show m[n / 8] ^^^ 2 ^ (n % 8) < 2 ^ 8 from Nat.xor_lt_two_pow h1 hp)
theorem fl_bytes (m : List Nat) (hm : ∀ b ∈ m, b < 256) (n : Nat) (hn : n < 8 * m.length) : ∀ b ∈ fl m n, b < 256 := by
  intro b hb
  rcases List.mem_or_eq_of_mem_set hb with h | h
  · exact hm b h
  · rw [h]; exact fl_byte m hm n hn
theorem fl_synd (m : List Nat) (hm : ∀ b ∈ m, b < 256) (n : Nat) (hn : n < 8 * m.length) : crcN (fl m n) 65535 = crcN m 65535 ^^^ wt (16 + n % 8 + 8 * (m.length - 1 - n / 8)) := by
  have hi : n / 8 < m.length := by omega
  have hv : m.getD (n / 8) 0 = m[n / 8] := by rw [List.getD_eq_getElem?_getD, List.getElem?_eq_getElem hi]; rfl
  unfold fl
  rw [hv]
  exact crcN_flip m hm (n / 8) (n % 8) hi (by omega) 65535 (by decide)
theorem fl_twice (m : List Nat) (n : Nat) (hn : n < 8 * m.length) : fl (fl m n) n = m := by
  have hi : n / 8 < m.length := by omega
  have hv : m.getD (n / 8) 0 = m[n / 8] := by rw [List.getD_eq_getElem?_getD, List.getElem?_eq_getElem hi]; rfl
  have hg : (fl m n).getD (n / 8) 0 = m[n / 8] ^^^ 2 ^ (n % 8) := by
    unfold fl
    rw [List.getD_eq_getElem?_getD, List.getElem?_set_self (by omega), hv]
    rfl
  unfold fl at hg ⊢
  rw [hg, Nat.xor_assoc, Nat.xor_self, Nat.xor_zero, List.set_set, List.set_getElem_self]
theorem flN (m : List Nat) (hm : ∀ b ∈ m, b < 256) (hl : m.length ≤ 40) (n : Nat) (hn : n < 8 * m.length) : impl_FlipBit.f (m.map fun b : Nat => (b : Int)) (n : Int) = some ((fl m n).map fun b : Nat => (b : Int)) := by
  have hi : n / 8 < m.length := by omega
  have ho := map_okB m hm hl
  obtain ⟨v, h1, h2, h3, h4⟩ := flip_at _ ho n (by simpa using hn)
  have hv : v = m.getD (n / 8) 0 := by
    rw [rd_nat _ _ (by simpa using hi), List.getElem_map] at h1
    rw [List.getD_eq_getElem?_getD, List.getElem?_eq_getElem hi]
    exact (Int.ofNat_inj.mp h1).symm
  rw [h4, hv]
  unfold fl
  rw [List.map_set]
theorem take_synd (m : List Nat) (hm : ∀ b ∈ m, b < 256) (h2 : 2 ≤ m.length) (hl : m.length ≤ 40) : (takeC (m.map fun b : Nat => (b : Int))).2 = decide (crcN m 65535 = 0) := by
  have e : m = m.take (m.length - 2) ++ [m[m.length - 2], m[m.length - 1]] := by
    have e1 : m.drop (m.length - 2) = [m[m.length - 2], m[m.length - 1]] := by
      rw [List.drop_eq_getElem_cons (show m.length - 2 < m.length by omega)]
      have : m.length - 2 + 1 = m.length - 1 := by omega
      rw [this, List.drop_eq_getElem_cons (show m.length - 1 < m.length by omega), show m.length - 1 + 1 = m.length by omega, List.drop_length]
    conv => lhs; rw [← List.take_append_drop (m.length - 2) m, e1]
  have h := take_iff (m.take (m.length - 2)) m[m.length - 2] m[m.length - 1] (fun c hc => hm c (List.mem_of_mem_take hc)) (hm _ (List.getElem_mem _)) (hm _ (List.getElem_mem _)) (by rw [List.length_take]; omega)
  rw [← e] at h
  exact h
theorem count (x : Nat) (hx : x < 16777216) : bits_OnesCount.f (x : Int) = some ((pop 24 x : Nat) : Int) := by
  have h : bits_OnesCount64.f (x : Int) = some ((pop 24 x : Nat) : Int) := congrArg some (ones x hx _ _ _ _ _ _ rfl rfl rfl rfl rfl rfl)
  unfold bits_OnesCount.f
  rw [h]
  rfl
theorem pop24 (x : Nat) (hx : x < 65536) : pop 24 x = pop 16 x := by
  rw [show 24 = 16 + 8 from rfl, pop_add, show x / 2 ^ 16 = 0 by omega, pop_zero]; omega
/-- In how many bits two lists of bytes differ. -/
def dist : List Int → List Int → Nat
  | a :: x, b :: y => pop 16 (a.toNat ^^^ b.toNat) + dist x y
  | _, _ => 0
theorem dist_le (x y : List Int) : dist x y ≤ 16 * x.length := by
  induction x generalizing y with
  | nil => simp [dist]
  | cons a x ih =>
    cases y with
    | nil => simp [dist]
    | cons b y =>
      have := ih y
      have := pop_le 16 (a.toNat ^^^ b.toNat)
      simp only [dist, List.length_cons]
      omega
theorem xor_bytes (a b : Int) (ha : 0 ≤ a ∧ a ≤ 255) (hb : 0 ≤ b ∧ b ≤ 255) : Go.bits .xor .i64 a b = ((a.toNat ^^^ b.toNat : Nat) : Int) ∧ a.toNat ^^^ b.toNat < 256 := by
  obtain ⟨x, rfl⟩ := Int.eq_ofNat_of_zero_le ha.1
  obtain ⟨y, rfl⟩ := Int.eq_ofNat_of_zero_le hb.1
  rw [Int.toNat_natCast, Int.toNat_natCast]
  exact ⟨xorI x y (by omega) (by omega), show x ^^^ y < 2 ^ 8 from Nat.xor_lt_two_pow (by omega) (by omega)⟩
theorem impl_dist_loop (x y : List Int) (hx : ∀ b ∈ x, 0 ≤ b ∧ b ≤ 255) (hy : ∀ b ∈ y, 0 ≤ b ∧ b ≤ 255) (hl : x.length = y.length) (hn : x.length ≤ 1048576) (d : Nat) : ∀ (k i : Nat) (s : Nat), i + d = x.length → d < k → s ≤ 16 * i →
    impl_DistanceOf.l0 k x y s (x.length : Int) i = some ((s + dist (x.drop i) (y.drop i) : Nat) : Int) := by
  induction d with
  | zero =>
    intro k i s hi hk hs
    obtain ⟨k, rfl⟩ : ∃ m, k = m + 1 := ⟨k - 1, by omega⟩
    rw [impl_DistanceOf.l0, if_neg (by omega), List.drop_of_length_le (by omega)]
    simp [dist]
  | succ d ih =>
    intro k i s hi hk hs
    obtain ⟨k, rfl⟩ : ∃ m, k = m + 1 := ⟨k - 1, by omega⟩
    have h1 : i < x.length := by omega
    have h2 : i < y.length := by omega
    obtain ⟨e1, e2⟩ := xor_bytes x[i] y[i] (hx _ (List.getElem_mem h1)) (hy _ (List.getElem_mem h2))
    rw [impl_DistanceOf.l0, if_pos (by omega), if_pos (by omega), if_pos (by omega), if_pos (by omega), rd_nat x i h1, rd_nat y i h2, e1, u64 (by omega) (by omega), count _ (by omega), pop24 _ (by omega)]
    have hp := pop_le 16 (x[i].toNat ^^^ y[i].toNat)
    have hd : dist (x.drop i) (y.drop i) = pop 16 (x[i].toNat ^^^ y[i].toNat) + dist (x.drop (i + 1)) (y.drop (i + 1)) := by
      rw [List.drop_eq_getElem_cons h1, List.drop_eq_getElem_cons h2, dist]
    rw [hd]
    clear hd e1 e2
    generalize pop 16 (x[i].toNat ^^^ y[i].toNat) = p at hp ⊢
    simp only [Option.bind_some]
    rw [w64 (n := (s : Int) + _) (by omega) (by omega), w64 (n := (i : Int) + 1) (by omega) (by omega), show ((i : Int) + 1) = ((i + 1 : Nat) : Int) by omega, show ((s : Int) + (p : Int)) = ((s + p : Nat) : Int) by omega]
    rw [ih k (i + 1) _ (by omega) (by omega) (by omega), Nat.add_assoc]
/-- What DistanceOf gives. -/
def distF (x y : List Int) : Int := if okB x = true ∧ okB y = true ∧ x.length = y.length then (dist x y : Nat) else -1
theorem impl_distance (x y : List Int) (k : Nat) (hk : 42 < k) : impl_DistanceOf.f k x y = some (distF x y) := by
  obtain ⟨k, rfl⟩ : ∃ m, k = m + 1 := ⟨k - 1, by omega⟩
  unfold impl_DistanceOf.f distF
  rw [impl_bytes, impl_bytes]
  simp only [Option.bind_some, impl_DistanceOf.j0]
  by_cases hx : okB x = true
  · by_cases hy : okB y = true
    · obtain ⟨x1, x2⟩ := (okB_iff x).mp hx
      obtain ⟨y1, y2⟩ := (okB_iff y).mp hy
      by_cases hl : x.length = y.length
      · have := impl_dist_loop x y x2 y2 hl (by omega) x.length k 0 0 (by omega) (by omega) (by omega)
        rw [if_pos hx, if_pos hy, if_neg (by simp; omega), if_pos (show okB x = true ∧ okB y = true ∧ x.length = y.length from ⟨hx, hy, hl⟩)]
        simpa using this
      · rw [if_pos hx, if_pos hy, if_pos (by simp; omega), if_neg (show ¬ (okB x = true ∧ okB y = true ∧ x.length = y.length) from fun h => hl h.2.2)]
    · rw [if_pos hx, if_neg hy, if_pos trivial, if_neg (show ¬ (okB x = true ∧ okB y = true ∧ x.length = y.length) from fun h => hy h.2.1)]
  · rw [if_neg hx, if_pos trivial, if_neg (show ¬ (okB x = true ∧ okB y = true ∧ x.length = y.length) from fun h => hx h.1)]
theorem dist_self (x : List Int) : dist x x = 0 := by
  induction x with
  | nil => rfl
  | cons a x ih => simp only [dist, ih, Nat.xor_self, pop_zero]
theorem pop_none (k x : Nat) (h : pop k x = 0) : x % 2 ^ k = 0 := by
  induction k generalizing x with
  | zero => omega
  | succ k ih =>
    rw [pop_succ] at h
    have := ih (x / 2) (by omega)
    rw [Nat.pow_succ, Nat.mul_comm, Nat.mod_mul]
    omega
theorem pop_bit (k a j : Nat) : pop k (a ^^^ 2 ^ j) ≤ pop k a + 1 := by
  induction k generalizing a j with
  | zero => rw [pop_z, pop_z]; omega
  | succ k ih =>
    have h2 : (a ^^^ 2 ^ j) / 2 = a / 2 ^^^ 2 ^ j / 2 := Nat.xor_div_two
    rw [pop_succ, pop_succ, h2]
    cases j with
    | zero =>
      rw [Nat.pow_zero, show 1 / 2 = 0 from rfl, Nat.xor_zero]
      have := Nat.mod_lt (a ^^^ 1) (show 0 < 2 by decide)
      omega
    | succ j =>
      have e : 2 ^ (j + 1) / 2 = 2 ^ j := by rw [Nat.pow_succ]; omega
      have e2 : (a ^^^ 2 ^ (j + 1)) % 2 = a % 2 := by
        have e3 : (a ^^^ 2 ^ (j + 1)) % 2 ^ 1 = (a % 2 ^ 1) ^^^ (2 ^ (j + 1) % 2 ^ 1) := Nat.xor_mod_two_pow
        rw [Nat.pow_one, show 2 ^ (j + 1) % 2 = 0 by rw [Nat.pow_succ]; omega, Nat.xor_zero] at e3
        exact e3
      rw [e, e2]
      have := ih (a / 2) j
      omega
/-- In how many bits two lists of bytes differ: over natural numbers. -/
theorem dist_fl (x m : List Nat) (hl : x.length = m.length) (i j : Nat) :
    dist (x.map fun b : Nat => (b : Int)) ((m.set i (m.getD i 0 ^^^ 2 ^ j)).map fun b : Nat => (b : Int)) ≤ dist (x.map fun b : Nat => (b : Int)) (m.map fun b : Nat => (b : Int)) + 1 := by
  induction x generalizing m i with
  | nil => simp [dist]
  | cons a x ih =>
    cases m with
    | nil => simp at hl
    | cons b m =>
      cases i with
      | zero =>
        simp only [List.set_cons_zero, List.getD_cons_zero, List.map_cons, dist, Int.toNat_natCast]
        have := pop_bit 16 (a ^^^ b) j
        rw [Nat.xor_assoc] at this
        omega
      | succ i =>
        simp only [List.set_cons_succ, List.getD_cons_succ, List.map_cons, dist, Int.toNat_natCast]
        have := ih m (by simpa using hl) i
        omega
theorem dist_zero (x m : List Nat) (hl : x.length = m.length) (hx : ∀ b ∈ x, b < 256) (hm : ∀ b ∈ m, b < 256) (h : dist (x.map fun b : Nat => (b : Int)) (m.map fun b : Nat => (b : Int)) = 0) : x = m := by
  induction x generalizing m with
  | nil => cases m with
    | nil => rfl
    | cons b m => simp at hl
  | cons a x ih =>
    cases m with
    | nil => simp at hl
    | cons b m =>
      simp only [List.map_cons, dist, Int.toNat_natCast] at h
      have h1 : pop 16 (a ^^^ b) = 0 := by omega
      have h2 := ih m (by simpa using hl) (fun c hc => hx c (by simp [hc])) (fun c hc => hm c (by simp [hc])) (by omega)
      have ha := hx a (by simp)
      have hb := hm b (by simp)
      have h3 := pop_none 16 _ h1
      have h4 : a ^^^ b < 2 ^ 8 := Nat.xor_lt_two_pow ha hb
      have h5 : a ^^^ b = 0 := by rw [Nat.mod_eq_of_lt (by omega)] at h3; exact h3
      have h6 := congrArg (fun q => q ^^^ b) h5
      have h7 : a = b := by simpa [Nat.xor_assoc] using h6
      rw [h7, h2]
/-- The words behind the head: two bytes each; a last odd one is left out. -/
def dec : List Int → List Int
  | a :: b :: t => wrap64 (wrap64 (a * 256) + b) :: dec t
  | _ => []
theorem dec_length (t : List Int) : (dec t).length = t.length / 2 := by
  fun_induction dec t with
  | case1 a b t ih => simp only [List.length_cons, ih]; omega
  | case2 t h =>
    match t, h with
    | [], _ => rfl
    | [a], _ => simp
    | a :: b :: t, h => exact absurd rfl (h a b t)
theorem enc_dec (t : List Int) (hb : ∀ x ∈ t, 0 ≤ x ∧ x ≤ 255) (he : t.length % 2 = 0) : enc (dec t) = t := by
  fun_induction dec t with
  | case1 a b t ih =>
    have h1 := hb a (by simp)
    have h2 := hb b (by simp)
    have e1 : wrap64 (wrap64 (a * 256) + b) = a * 256 + b := by rw [w64 (n := a * 256) (by omega) (by omega), w64 (by omega) (by omega)]
    have e2 : Int.tdiv (a * 256 + b) 256 = a := by rw [Int.tdiv_eq_ediv_of_nonneg (by omega)]; omega
    have e3 : Int.tmod (a * 256 + b) 256 = b := by rw [Int.tmod_eq_emod_of_nonneg (by omega)]; omega
    rw [enc_cons, ih (fun x hx => hb x (by simp [hx])) (by simp only [List.length_cons] at he; omega), e1, e2, e3, w64 (by omega) (by omega)]
    rfl
  | case2 t h =>
    match t, h with
    | [], _ => rfl
    | [a], _ => simp at he
    | a :: b :: t, h => exact absurd rfl (h a b t)
/-- What is answered where there is no packet. -/
abbrev noPk : Int × Int × Int × Int × Int × Int × Int × List Int × Bool := (0, 0, 0, 0, 0, 0, 0, ([] : List Int), false)
theorem drop2 (x : List Int) (i : Nat) (h : i + 1 < x.length) : x.drop i = x[i]'(by omega) :: x[i + 1] :: x.drop (i + 2) := by
  rw [List.drop_eq_getElem_cons (show i < x.length by omega), List.drop_eq_getElem_cons (show i + 1 < x.length by omega)]
theorem rd_nat1 (x : List Int) (hx : x.length ≤ 1048576) (i : Nat) (h : i + 1 < x.length) : rd x (wrap64 ((i : Int) + 1)) = x[i + 1] := by
  rw [w64 (by omega) (by omega), show ((i : Int) + 1) = ((i + 1 : Nat) : Int) by omega, rd_nat x (i + 1) h]
theorem pk_len8 {kd fr too ad ln tg st n : Int} {w : Bool} (h : PkOk kd fr too ad ln tg st n w) : n ≤ 8 := by
  obtain ⟨_, _, _, h⟩ := h
  rcases h with h | h | h | h | h | h
  · omega
  · omega
  · omega
  · omega
  · omega
  · obtain ⟨_, _, _, _, _, _, _, _, _, _, h⟩ := h
    omega
theorem pk_bounds {kd fr too ad ln tg st n : Int} {w : Bool} (h : PkOk kd fr too ad ln tg st n w) (hn : 0 ≤ n) : w = true ∧ (1 ≤ kd ∧ kd ≤ 6) ∧ (0 ≤ fr ∧ fr ≤ 255) ∧ (0 ≤ too ∧ too ≤ 255) ∧ (0 ≤ ad ∧ ad ≤ 65535) ∧ (0 ≤ ln ∧ ln ≤ 64) ∧ (0 ≤ tg ∧ tg ≤ 7) ∧ (0 ≤ st ∧ st ≤ 2) := by
  obtain ⟨h1, h2, h3, h⟩ := h
  refine ⟨h3, ?_⟩
  rcases h with h | h | h | h | h | h
  · omega
  · omega
  · omega
  · omega
  · omega
  · obtain ⟨a, b, c, d, e, f, g, i, j, l, _⟩ := h
    omega
theorem enc_ok (l : List Int) (h : ∀ b ∈ l, 0 ≤ b ∧ b ≤ 65535) : (∀ b ∈ enc l, 0 ≤ b ∧ b ≤ 255) ∧ dec (enc l) = l := by
  induction l with
  | nil => exact ⟨by simp [enc], rfl⟩
  | cons x l ih =>
    obtain ⟨i1, i2⟩ := ih (fun b hb => h b (List.mem_cons_of_mem _ hb))
    have hx := h x (by simp)
    have e1 : wrap64 (Int.tdiv x 256) = x / 256 := by rw [Int.tdiv_eq_ediv_of_nonneg (by omega), w64 (by omega) (by omega)]
    have e2 : Int.tmod x 256 = x % 256 := Int.tmod_eq_emod_of_nonneg (by omega)
    rw [enc_cons, e1, e2]
    constructor
    · intro b hb
      simp only [List.cons_append, List.nil_append, List.mem_cons] at hb
      rcases hb with hb | hb | hb
      · omega
      · omega
      · exact i1 b hb
    · simp only [List.cons_append, List.nil_append, dec, i2]
      rw [w64 (n := x / 256 * 256) (by omega) (by omega), w64 (by omega) (by omega), show x / 256 * 256 + x % 256 = x by omega]
/-- The bytes of a packet are bytes. -/
theorem coded_ok (kd fr too ad ln tg st : Int) (l : List Int) (h : PkOk kd fr too ad ln tg st (l.length : Int) (wordsOk l)) : okB (coded kd fr too ad ln tg st l) = true := by
  have h8 := pk_len8 h
  obtain ⟨hw, b1, b2, b3, b4, b5, b6, b7⟩ := pk_bounds h (by omega)
  obtain ⟨i1, _⟩ := enc_ok l ((wordsOk_iff l).mp hw)
  have e1 : wrap64 (Int.tdiv ad 256) = ad / 256 := by rw [Int.tdiv_eq_ediv_of_nonneg (by omega), w64 (by omega) (by omega)]
  have e2 : Int.tmod ad 256 = ad % 256 := Int.tmod_eq_emod_of_nonneg (by omega)
  have e3 : wrap64 (wrap64 (tg * 16) + st) = tg * 16 + st := by rw [w64 (n := tg * 16) (by omega) (by omega), w64 (by omega) (by omega)]
  refine (okB_iff _).mpr ⟨by unfold coded; rw [List.length_append, enc_length]; simp only [List.length_cons, List.length_nil]; omega, fun b hb => ?_⟩
  unfold coded at hb
  rw [e1, e2, e3] at hb
  rcases List.mem_append.mp hb with hb | hb
  · simp only [List.mem_cons, List.not_mem_nil, or_false] at hb
    rcases hb with hb | hb | hb | hb | hb | hb | hb | hb <;> omega
  · exact i1 b hb
theorem pos_lt (N n : Nat) (hN : N ≤ 26) (hn : n < 8 * N) : 16 + n % 8 + 8 * (N - 1 - n / 8) < 224 := by omega
theorem pos_inj (N n n' : Nat) (hn : n < 8 * N) (hn' : n' < 8 * N) (h : 16 + n % 8 + 8 * (N - 1 - n / 8) = 16 + n' % 8 + 8 * (N - 1 - n' / 8)) : n = n' := by omega
theorem wt_diff (a b : Nat) (ha : a < 224) (hb : b < 224) (h : a ≠ b) : wt a ≠ wt b := by
  rcases Nat.lt_or_gt_of_ne h with h | h
  · exact fun e => wt_ne b hb a h e.symm
  · exact wt_ne a ha b h
theorem fin (k : Nat) (hk : 600 < k) (r : List Int) (hr : r.length = 12) (m0 m : List Nat) (x8 : Int) (hl : m.length = m0.length) (h2 : 2 ≤ m0.length) (h26 : m0.length ≤ 26) (hm0 : ∀ b ∈ m0, b < 256) (hm : ∀ b ∈ m, b < 256)
    (hd : dist (m0.map fun b : Nat => (b : Int)) (m.map fun b : Nat => (b : Int)) ≤ 3) (hs : crcN m0 65535 = 0) (hS : crcN m 65535 = 0 → m = m0) (i : Nat) (hi : wrap64 (1 + Int.tmod (rd r 0) 3) = i) :
    laws_FnChecks.l0 (k + 1) r (m0.map fun b : Nat => (b : Int)) x8 (m.map fun b : Nat => (b : Int)) i = some true := by
  have o1 := map_okB m0 hm0 (by omega)
  have o2 := map_okB m hm (by omega)
  have e1 : distF (m0.map fun b : Nat => (b : Int)) (m.map fun b : Nat => (b : Int)) = (dist (m0.map fun b : Nat => (b : Int)) (m.map fun b : Nat => (b : Int)) : Nat) := by
    unfold distF
    rw [if_pos ⟨o1, o2, by simp [hl]⟩]
  have e2 := take_synd m hm (by omega) (by omega)
  have hz : dist (m0.map fun b : Nat => (b : Int)) (m.map fun b : Nat => (b : Int)) = 0 ↔ crcN m 65535 = 0 := by
    constructor
    · intro h
      rw [← dist_zero m0 m hl.symm hm0 hm h]
      exact hs
    · intro h
      rw [hS h]
      exact dist_self _
  rw [laws_FnChecks.l0, if_pos (by omega), hi, if_neg (by omega), impl_distance _ _ k (by omega), Option.bind_some, e1, impl_take _ k (by omega) (by simp; omega), Option.bind_some]
  generalize dist (m0.map fun b : Nat => (b : Int)) (m.map fun b : Nat => (b : Int)) = D at hd hz ⊢
  rw [if_pos (by omega), if_pos (by omega), e2]
  by_cases h : crcN m 65535 = 0
  · have := hz.mpr h
    subst this
    rw [decide_eq_true h]
    rfl
  · have : ¬ (D : Int) = 0 := fun g => h (hz.mp (by omega))
    rw [decide_eq_false h, beq_eq_false_iff_ne.mpr this]
    rfl
theorem step (k : Nat) (r : List Int) (hr : r.length = 12) (hx : ∀ x ∈ r, 0 ≤ x ∧ x < 10000) (m0 m : List Nat) (h2 : 2 ≤ m0.length) (hl : m.length = m0.length) (h26 : m0.length ≤ 26) (hm : ∀ b ∈ m, b < 256) (i : Nat) (hi : (i : Int) < wrap64 (1 + Int.tmod (rd r 0) 3)) (h3 : i < 3) :
    ∃ n, n < 8 * m0.length ∧ laws_FnChecks.l0 (k + 1) r (m0.map fun b : Nat => (b : Int)) ((8 * m0.length : Nat) : Int) (m.map fun b : Nat => (b : Int)) i = laws_FnChecks.l0 k r (m0.map fun b : Nat => (b : Int)) ((8 * m0.length : Nat) : Int) ((fl m n).map fun b : Nat => (b : Int)) ((i + 1 : Nat) : Int) := by
  obtain ⟨p, hp, hp2⟩ := place_at r hr hx (1 + i) (by omega)
  have hn : p % (8 * m0.length) < 8 * m0.length := Nat.mod_lt _ (by omega)
  have e1 : wrap64 (1 + (i : Int)) = ((1 + i : Nat) : Int) := by rw [w64 (by omega) (by omega)]; omega
  have e2 : wrap64 ((i : Int) + 1) = ((i + 1 : Nat) : Int) := by rw [w64 (by omega) (by omega)]; omega
  refine ⟨p % (8 * m0.length), hn, ?_⟩
  rw [laws_FnChecks.l0, if_pos (by omega), if_pos hi, e1, if_pos (by omega), if_pos (by omega), if_neg (by omega), hp, show Int.tmod (p : Int) ((8 * m0.length : Nat) : Int) = ((p % (8 * m0.length) : Nat) : Int) from rfl, flN m hm (by omega) _ (by omega), Option.bind_some, e2]
theorem dist_step (x m : List Nat) (hl : x.length = m.length) (n : Nat) : dist (x.map fun b : Nat => (b : Int)) ((fl m n).map fun b : Nat => (b : Int)) ≤ dist (x.map fun b : Nat => (b : Int)) (m.map fun b : Nat => (b : Int)) + 1 := dist_fl x m hl (n / 8) (n % 8)
theorem xor_zero_eq (x y : Nat) (h : x ^^^ y = 0) : x = y := by
  have := congrArg (fun q => q ^^^ y) h
  simpa [Nat.xor_assoc] using this
theorem three_ne (a b c : Nat) (ha : a < 224) (hb : b < 224) (hc : c < 224) : wt a ^^^ wt b ^^^ wt c ≠ 0 := by
  intro h
  have h1 := pop_xor 16 (wt a ^^^ wt b) (wt c)
  have h2 := pop_xor 16 (wt a) (wt b)
  rw [h, show pop 16 0 = 0 from by decide +kernel] at h1
  have a1 := (wt_odd a ha).2
  have b1 := (wt_odd b hb).2
  have c1 := (wt_odd c hc).2
  omega
theorem loop (k : Nat) (hk : 700 < k) (r : List Int) (hr : r.length = 12) (hx : ∀ x ∈ r, 0 ≤ x ∧ x < 10000) (m0 : List Nat) (h2 : 2 ≤ m0.length) (h26 : m0.length ≤ 26) (hm0 : ∀ b ∈ m0, b < 256) (hs : crcN m0 65535 = 0) :
    laws_FnChecks.l0 k r (m0.map fun b : Nat => (b : Int)) ((8 * m0.length : Nat) : Int) (m0.map fun b : Nat => (b : Int)) ((0 : Nat) : Int) = some true := by
  obtain ⟨k, rfl⟩ : ∃ m, k = m + 4 := ⟨k - 4, by omega⟩
  obtain ⟨p, hp, hp2⟩ := place_at r hr hx 0 (by omega)
  have hq : wrap64 (1 + Int.tmod (rd r 0) 3) = ((1 + p % 3 : Nat) : Int) := by
    have e : rd r 0 = (p : Int) := hp
    rw [e, show Int.tmod (p : Int) 3 = ((p % 3 : Nat) : Int) from rfl, w64 (by omega) (by omega)]
    omega
  have d0 : dist (m0.map fun b : Nat => (b : Int)) (m0.map fun b : Nat => (b : Int)) = 0 := dist_self _
  obtain ⟨n1, hn1, e1⟩ := step (k + 3) r hr hx m0 m0 h2 rfl h26 hm0 0 (by rw [hq]; omega) (by omega)
  rw [e1]
  have l1 : (fl m0 n1).length = m0.length := fl_length m0 n1
  have b1 := fl_bytes m0 hm0 n1 hn1
  have s1 := fl_synd m0 hm0 n1 hn1
  have d1 := dist_step m0 m0 rfl n1
  rw [d0] at d1
  rw [hs, Nat.zero_xor] at s1
  have p1 := pos_lt m0.length n1 h26 hn1
  by_cases c1 : p % 3 = 0
  · exact fin (k + 2) (by omega) r hr m0 (fl m0 n1) _ l1 h2 h26 hm0 b1 (by omega) hs (fun h => absurd (s1.symm.trans h) (wt_odd _ p1).1) 1 (by rw [hq, c1])
  · obtain ⟨n2, hn2, e2⟩ := step (k + 2) r hr hx m0 (fl m0 n1) h2 l1 h26 b1 1 (by rw [hq]; omega) (by omega)
    rw [e2]
    have hn2' : n2 < 8 * (fl m0 n1).length := by rw [l1]; exact hn2
    have l2 : (fl (fl m0 n1) n2).length = m0.length := (fl_length _ n2).trans l1
    have b2 := fl_bytes _ b1 n2 hn2'
    have s2 := fl_synd _ b1 n2 hn2'
    have d2 := dist_step m0 (fl m0 n1) l1.symm n2
    rw [s1, l1] at s2
    have p2 := pos_lt m0.length n2 h26 hn2
    by_cases c2 : p % 3 = 1
    · refine fin (k + 1) (by omega) r hr m0 (fl (fl m0 n1) n2) _ l2 h2 h26 hm0 b2 (by omega) hs (fun h => ?_) 2 (by rw [hq, c2])
      rw [h] at s2
      have h3 := xor_zero_eq _ _ s2.symm
      by_cases c3 : n1 = n2
      · rw [← c3]
        exact fl_twice m0 n1 hn1
      · exact absurd h3 (wt_diff _ _ p1 p2 (fun g => c3 (pos_inj m0.length n1 n2 hn1 hn2 g)))
    · obtain ⟨n3, hn3, e3⟩ := step (k + 1) r hr hx m0 (fl (fl m0 n1) n2) h2 l2 h26 b2 2 (by rw [hq]; omega) (by omega)
      rw [e3]
      have hn3' : n3 < 8 * (fl (fl m0 n1) n2).length := by rw [l2]; exact hn3
      have l3 : (fl (fl (fl m0 n1) n2) n3).length = m0.length := (fl_length _ n3).trans l2
      have b3 := fl_bytes _ b2 n3 hn3'
      have s3 := fl_synd _ b2 n3 hn3'
      have d3 := dist_step m0 (fl (fl m0 n1) n2) l2.symm n3
      rw [s2, l2] at s3
      have p3 := pos_lt m0.length n3 h26 hn3
      exact fin k (by omega) r hr m0 (fl (fl (fl m0 n1) n2) n3) _ l3 h2 h26 hm0 b3 (by omega) hs (fun h => absurd (s3.symm.trans h) (three_ne _ _ _ p1 p2 p3)) 3 (by rw [hq]; omega)
theorem added (E : List Int) (ho : okB E = true) (hl : E.length ≤ 24) : ∃ m0 : List Nat, addC E = m0.map (fun b : Nat => (b : Int)) ∧ m0.length = E.length + 2 ∧ (∀ b ∈ m0, b < 256) ∧ crcN m0 65535 = 0 ∧ takeC (addC E) = (E, true) := by
  obtain ⟨m, hm, hb⟩ := nats E ((okB_iff E).mp ho).2
  obtain ⟨h1, h2⟩ := crc_nat m hb 65535 (by decide)
  have h3 : crc E 65535 = (crcN m 65535 : Nat) := by rw [hm]; exact h1
  have ha : crcN m 65535 / 256 < 256 := by omega
  have hb2 : crcN m 65535 % 256 < 256 := Nat.mod_lt _ (by decide)
  have hlm : m.length = E.length := by rw [hm, List.length_map]
  have e1 : addC E = (m ++ [crcN m 65535 / 256, crcN m 65535 % 256]).map (fun b : Nat => (b : Int)) := by
    unfold addC
    rw [if_pos ⟨ho, by omega⟩, h3, List.map_append, ← hm]
    rfl
  have hall : ∀ b ∈ m ++ [crcN m 65535 / 256, crcN m 65535 % 256], b < 256 := by
    intro c hc
    rcases List.mem_append.mp hc with hc | hc
    · exact hb c hc
    · simp only [List.mem_cons, List.not_mem_nil, or_false] at hc
      omega
  have e0 : crcN (m ++ [crcN m 65535 / 256, crcN m 65535 % 256]) 65535 = 0 := by
    have e3 : crcN (m ++ [crcN m 65535 / 256, crcN m 65535 % 256]) 65535 = crcBN (crcBN (crcN m 65535) (crcN m 65535 / 256)) (crcN m 65535 % 256) := by
      generalize crcN m 65535 / 256 = q
      generalize crcN m 65535 % 256 = r
      unfold crcN
      rw [List.foldl_append, List.foldl_cons, List.foldl_cons, List.foldl_nil]
    rw [e3, crcN_two _ _ _ h2 ha hb2]
    omega
  refine ⟨_, e1, by rw [List.length_append, hlm]; rfl, hall, e0, ?_⟩
  have e5 := take_synd _ hall (by rw [List.length_append]; simp only [List.length_cons, List.length_nil]; omega) (by rw [List.length_append, hlm]; simp only [List.length_cons, List.length_nil]; omega)
  rw [← e1, e0] at e5
  have e6 : addC E = E ++ [crc E 65535 / 256, crc E 65535 % 256] := by
    unfold addC
    rw [if_pos ⟨ho, by omega⟩]
  have e7 : (addC E).length - 2 = E.length := by rw [e6, List.length_append]; simp only [List.length_cons, List.length_nil]; omega
  have e8 : (addC E).take ((addC E).length - 2) = E := by rw [e7, e6, List.take_left]
  unfold takeC at e5 ⊢
  split at e5
  · rename_i c
    rw [if_pos c, e8]
  · exact absurd e5 (by decide)
theorem FnChecks : laws_FnChecks.Pure := by
  intro l _ _ hb
  refine ⟨l.length + 6000, ?_⟩
  unfold laws_FnChecks.f laws_big.f
  simp only [Option.bind_some]
  by_cases h : (l.length : Int) > 1048576
  · rw [if_pos (by simpa using h)]
  · rw [if_neg (by simpa using h)]
    have hl : l.length ≤ 1048576 := by omega
    obtain ⟨k, hk⟩ : ∃ k, l.length + 6000 = k + 1 := ⟨l.length + 5999, rfl⟩
    rw [hk]
    obtain ⟨kd, fr, too, ad, ln, tg, st, W, e, hp⟩ := draw_packet l hl hb (k + 1) (by omega)
    have h8 := pk_len8 hp
    obtain ⟨hw, b1, b2, b3, b4, b5, b6, b7⟩ := pk_bounds hp (by omega)
    obtain ⟨b, i1, i2⟩ := impl_packet kd fr too ad ln tg st W (by omega) (by omega) (k + 1) (by omega)
    have he := impl_encode kd fr too ad ln tg st W (by omega) (k + 1) (by omega) b i1
    rw [i2.mpr hp, if_pos rfl] at he
    have ho := coded_ok kd fr too ad ln tg st W hp
    have hcl : (coded kd fr too ad ln tg st W).length = 8 + 2 * W.length := by unfold coded; rw [List.length_append, enc_length]; simp only [List.length_cons, List.length_nil]
    obtain ⟨r, e2, hr, hrx⟩ := places l hl hb (k + 1) (by omega)
    rw [e, Option.bind_some]
    simp only
    rw [he, Option.bind_some, e2, Option.bind_some]
    generalize coded kd fr too ad ln tg st W = E at ho hcl
    obtain ⟨m0, a1, a2, a3, a4, a5⟩ := added E ho (by omega)
    have hal : (addC E).length = E.length + 2 := by rw [a1, List.length_map, a2]
    rw [impl_add E (k + 1) (by omega), Option.bind_some, impl_take _ (k + 1) (by omega) (by omega), Option.bind_some, a5]
    simp only
    rw [if_pos trivial, sameInts E E (by omega) (k + 1) (by omega), Option.bind_some, if_pos (by simp)]
    have hne : (((addC E).length : Int) != (wrap64 ((E.length : Int) + 2))) = false := by
      rw [hal, w64 (by omega) (by omega), bne_eq_false_iff_eq]
      omega
    rw [hne, laws_FnChecks.j0, if_neg (by decide), a1]
    have hlm : (((m0.map fun b : Nat => (b : Int)).length : Nat) : Int) = (m0.length : Int) := by rw [List.length_map]
    rw [hlm, w64 (n := 8 * (m0.length : Int)) (by omega) (by omega)]
    have hloop := loop k (by omega) r hr hrx m0 (by omega) (by omega) a3 a4
    rw [show ((8 * m0.length : Nat) : Int) = 8 * (m0.length : Int) by omega] at hloop
    exact hloop

end Go.Proofs.Ytdnekkbchlibhaa.Pure
