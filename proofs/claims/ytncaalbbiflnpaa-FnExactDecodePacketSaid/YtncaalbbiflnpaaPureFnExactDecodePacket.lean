/- DecodePacket of the program answers as DecodePacket of the reference at every argument, and the argument stays as it is. No condition. -/
import Derived.Test.YtncaalbbiflnpaaPFnExactDecodePacketx11
import Derived.Test.YtncaalbbiflnpaaBits
namespace Go.Proofs.Ytncaalbbiflnpaa.Pure
open Go.RowKit Go.Proofs.Ytncaalbbiflnpaa.PFnExactDecodePacket Go.Proofs.YtncaalbbiflnpaaW.PrintWords Go.Proofs.YtncaalbbiflnpaaW.PrintLast Go.Proofs.YtncaalbbiflnpaaW.PrintMore Go.Proofs.Ytncaalbbiflnpaa.Num
set_option linter.unusedVariables false
set_option linter.unusedSimpArgs false

theorem inRange (a b c : Int) : spec_l01In.f a b c = some (decide (b ≤ a ∧ a ≤ c)) := by
  unfold spec_l01In.f
  by_cases h : b ≤ a <;> simp [h]
theorem within (a b c : Int) : impl_within.f a b c = some (decide (b ≤ a ∧ a ≤ c)) := by
  unfold impl_within.f
  by_cases h : b ≤ a <;> simp [h]
theorem rd_nat (x : List Int) (i : Nat) (h : i < x.length) : rd x (i : Int) = x[i] := by
  unfold rd
  rw [Int.toNat_natCast, List.getD_eq_getElem?_getD, List.getElem?_eq_getElem h]
  rfl
theorem toIntS_loop (x : List Int) (hx : x.length ≤ 1048576) (d : Nat) : ∀ (k i : Nat) (z : List Int), i + d = x.length → d < k → z.length = d →
    laws_toIntS.l0 k x (x.take i ++ z) i = some x := by
  induction d with
  | zero =>
    intro k i z hi hk hz
    obtain ⟨k, rfl⟩ : ∃ m, k = m + 1 := ⟨k - 1, by omega⟩
    obtain rfl : z = [] := List.eq_nil_of_length_eq_zero hz
    simp only [laws_toIntS.l0]
    rw [if_neg (by omega), List.append_nil, List.take_of_length_le (by omega)]
  | succ d ih =>
    intro k i z hi hk hz
    obtain ⟨k, rfl⟩ : ∃ m, k = m + 1 := ⟨k - 1, by omega⟩
    cases z with
    | nil => simp at hz
    | cons y z =>
      have hlt : i < x.length := by omega
      have hl : (x.take i).length = i := by rw [List.length_take]; omega
      have hz' : z.length = d := by simpa using hz
      simp only [laws_toIntS.l0]
      rw [if_pos (by omega), if_pos (by omega), if_pos (by rw [List.length_append, hl]; simp only [List.length_cons]; omega), rd_nat x i hlt, Int.toNat_natCast, w64 (by omega) (by omega)]
      have e : (x.take i ++ y :: z).set i x[i] = x.take (i + 1) ++ z := by
        rw [List.set_append, hl, if_neg (by omega), Nat.sub_self, List.set_cons_zero, List.take_succ_eq_append_getElem hlt, List.append_assoc]
        rfl
      rw [e]
      exact ih k (i + 1) z (by omega) (by omega) hz'
theorem toIntS (x : List Int) (hx : x.length ≤ 1048576) (k : Nat) (hk : x.length < k) : laws_toIntS.f k x = some x := by
  unfold laws_toIntS.f
  rw [if_pos (by omega), Int.toNat_natCast, if_pos (by omega)]
  exact toIntS_loop x hx x.length k 0 (List.replicate x.length 0) (by omega) hk (by simp)
theorem eqIntS_loop (x y : List Int) (hxy : x.length = y.length) (hx : x.length ≤ 1048576) (d : Nat) : ∀ (k i : Nat), i + d = x.length → d < k →
    laws_eqIntS.l0 k x y i = some (decide (x.drop i = y.drop i)) := by
  induction d with
  | zero =>
    intro k i hi hk
    obtain ⟨k, rfl⟩ : ∃ m, k = m + 1 := ⟨k - 1, by omega⟩
    simp only [laws_eqIntS.l0]
    rw [if_neg (by omega), List.drop_of_length_le (by omega), List.drop_of_length_le (by omega)]
    simp
  | succ d ih =>
    intro k i hi hk
    obtain ⟨k, rfl⟩ : ∃ m, k = m + 1 := ⟨k - 1, by omega⟩
    have h1 : i < x.length := by omega
    have h2 : i < y.length := by omega
    simp only [laws_eqIntS.l0]
    rw [if_pos (by omega), if_pos (by omega), if_pos (by omega), rd_nat x i h1, rd_nat y i h2, w64 (by omega) (by omega)]
    by_cases e : x[i] = y[i]
    · have key : (x.drop i = y.drop i) ↔ (x.drop (i + 1) = y.drop (i + 1)) := by
        rw [List.drop_eq_getElem_cons h1, List.drop_eq_getElem_cons h2, e]
        exact ⟨fun h => (List.cons.inj h).2, fun h => by rw [h]⟩
      rw [if_pos e, show ((i : Int) + 1) = ((i + 1 : Nat) : Int) by omega, ih k (i + 1) (by omega) (by omega)]
      simp only [key]
    · have key : ¬ (x.drop i = y.drop i) := by
        rw [List.drop_eq_getElem_cons h1, List.drop_eq_getElem_cons h2]
        exact fun h => e (List.cons.inj h).1
      rw [if_neg e, decide_eq_false key]
theorem eqIntS (x y : List Int) (hx : x.length ≤ 1048576) (k : Nat) (hk : x.length < k) : laws_eqIntS.f k x y = some (decide (x = y)) := by
  unfold laws_eqIntS.f
  by_cases h : x.length = y.length
  · rw [if_pos (by omega)]
    exact eqIntS_loop x y h hx x.length k 0 (by omega) hk
  · rw [if_neg (by omega)]
    have : x ≠ y := fun e => h (by rw [e])
    simp [this]
theorem eqIntS_self (x : List Int) (hx : x.length ≤ 1048576) (k : Nat) (hk : x.length < k) : laws_eqIntS.f k x x = some true := by
  rw [eqIntS x x hx k hk]; simp
/-- The numbers a, a + 1, .. -/
def ups : Nat → Int → List Int
  | 0, _ => []
  | n + 1, a => a :: ups n (a + 1)
theorem ups_length (n : Nat) (a : Int) : (ups n a).length = n := by
  induction n generalizing a with
  | zero => rfl
  | succ n ih => simp [ups, ih]
theorem markIntS_loop (d : Nat) : ∀ (k i : Nat) (u z : List Int) (a : Int), z.length = d → u.length = i → i + d ≤ 1048576 → d < k → 0 ≤ a → a + d ≤ 4611686018427387904 →
    laws_markIntS.l0 k (u ++ z) a i = some (a + d, u ++ ups d a) := by
  induction d with
  | zero =>
    intro k i u z a hz hu hi hk h0 h1
    obtain ⟨k, rfl⟩ : ∃ m, k = m + 1 := ⟨k - 1, by omega⟩
    obtain rfl : z = [] := List.eq_nil_of_length_eq_zero hz
    simp only [laws_markIntS.l0]
    rw [if_neg (by rw [List.append_nil]; omega)]
    simp [ups]
  | succ d ih =>
    intro k i u z a hz hu hi hk h0 h1
    obtain ⟨k, rfl⟩ : ∃ m, k = m + 1 := ⟨k - 1, by omega⟩
    cases z with
    | nil => simp at hz
    | cons y z =>
      have hz' : z.length = d := by simpa using hz
      simp only [laws_markIntS.l0]
      rw [if_pos (by rw [List.length_append]; simp only [List.length_cons]; omega), if_pos (by omega), Int.toNat_natCast, w64 (by omega) (by omega), w64 (by omega) (by omega)]
      have e : (u ++ y :: z).set i a = (u ++ [a]) ++ z := by
        rw [List.set_append, hu, if_neg (by omega), Nat.sub_self, List.set_cons_zero]
        simp
      have hh := ih k (i + 1) (u ++ [a]) z (a + 1) hz' (by simp [hu]) (by omega) (by omega) (by omega) (by omega)
      rw [e, show ((i : Int) + 1) = ((i + 1 : Nat) : Int) by omega, hh]
      simp only [ups, List.append_assoc, List.singleton_append, Option.some.injEq, Prod.mk.injEq, and_true]
      omega
theorem markIntS (x : List Int) (hx : x.length ≤ 1048576) (a : Int) (h0 : 0 ≤ a) (h1 : a ≤ 1099511627776) (k : Nat) (hk : x.length < k) : laws_markIntS.f k x a = some (a + x.length, ups x.length a) := by
  have := markIntS_loop x.length k 0 [] x a rfl rfl (by omega) hk h0 (by omega)
  simpa [laws_markIntS.f] using this
theorem heldIntS_loop (d : Nat) : ∀ (k i : Nat) (u : List Int) (a : Int), u.length = i → i + d ≤ 1048576 → d < k → 0 ≤ a → a + d ≤ 4611686018427387904 →
    laws_heldIntS.l0 k (u ++ ups d a) a i = some (a + d) := by
  induction d with
  | zero =>
    intro k i u a hu hi hk h0 h1
    obtain ⟨k, rfl⟩ : ∃ m, k = m + 1 := ⟨k - 1, by omega⟩
    simp only [laws_heldIntS.l0]
    rw [if_neg (by rw [List.length_append, ups_length]; omega)]
    simp
  | succ d ih =>
    intro k i u a hu hi hk h0 h1
    obtain ⟨k, rfl⟩ : ∃ m, k = m + 1 := ⟨k - 1, by omega⟩
    have hlt : i < (u ++ ups (d + 1) a).length := by rw [List.length_append, ups_length]; omega
    have hr : rd (u ++ ups (d + 1) a) (i : Int) = a := by
      rw [rd_nat _ i hlt, List.getElem_append_right (by omega)]
      simp [hu, ups]
    simp only [laws_heldIntS.l0]
    rw [if_pos (by omega), if_pos (by omega), hr, if_pos rfl, w64 (by omega) (by omega), w64 (by omega) (by omega)]
    have hh := ih k (i + 1) (u ++ [a]) (a + 1) (by simp [hu]) (by omega) (by omega) (by omega) (by omega)
    simp only [ups]
    rw [List.append_assoc, List.singleton_append] at hh
    rw [show ((i : Int) + 1) = ((i + 1 : Nat) : Int) by omega, hh]
    simp only [Option.some.injEq]
    omega
theorem heldIntS (n : Nat) (hx : n ≤ 1048576) (a : Int) (h0 : 0 ≤ a) (h1 : a ≤ 1099511627776) (k : Nat) (hk : n < k) : laws_heldIntS.f k (ups n a) a = some (a + n) := by
  have := heldIntS_loop n k 0 [] a rfl (by omega) hk h0 (by omega)
  simpa [laws_heldIntS.f] using this
def okB (l : List Int) : Bool := decide (l.length ≤ 40) && l.all (fun b => decide (0 ≤ b) && decide (b ≤ 255))
theorem okB_iff (l : List Int) : okB l = true ↔ l.length ≤ 40 ∧ ∀ b ∈ l, 0 ≤ b ∧ b ≤ 255 := by
  simp [okB]
theorem spec_bytes_loop (x : List Int) (hx : x.length ≤ 1048576) (d : Nat) : ∀ (k i : Nat), i + d = x.length → d < k →
    spec_AreBytes.l0 k x i = some (decide (x.length ≤ 40) && (x.drop i).all (fun b => decide (0 ≤ b) && decide (b ≤ 255))) := by
  induction d with
  | zero =>
    intro k i hi hk
    obtain ⟨k, rfl⟩ : ∃ m, k = m + 1 := ⟨k - 1, by omega⟩
    simp only [spec_AreBytes.l0]
    rw [if_neg (by omega), List.drop_of_length_le (by omega)]
    simp
    omega
  | succ d ih =>
    intro k i hi hk
    obtain ⟨k, rfl⟩ : ∃ m, k = m + 1 := ⟨k - 1, by omega⟩
    have h1 : i < x.length := by omega
    simp only [spec_AreBytes.l0]
    rw [if_pos (by omega), if_pos (by omega), rd_nat x i h1, inRange, w64 (by omega) (by omega), List.drop_eq_getElem_cons h1, show ((i : Int) + 1) = ((i + 1 : Nat) : Int) by omega, ih k (i + 1) (by omega) (by omega)]
    simp only [Option.bind_some, List.all_cons]
    by_cases e : 0 ≤ x[i] ∧ x[i] ≤ 255
    · simp [e]
    · rw [show (decide (0 ≤ x[i] ∧ x[i] ≤ 255)) = false by simpa using e]
      have : (decide (0 ≤ x[i]) && decide (x[i] ≤ 255)) = false := by rw [← Bool.decide_and]; simpa using e
      rw [this]
      simp
theorem spec_bytes (x : List Int) (hx : x.length ≤ 1048576) (k : Nat) (hk : x.length < k) : spec_AreBytes.f k x = some (okB x) := by
  have := spec_bytes_loop x hx x.length k 0 (by omega) hk
  simpa [spec_AreBytes.f, okB] using this
theorem any_not (l : List Int) : l.any (fun x => !(decide (0 ≤ x) && decide (x ≤ 255))) = !(l.all (fun b => decide (0 ≤ b) && decide (b ≤ 255))) := by
  induction l with
  | nil => rfl
  | cons x t ih => rw [List.any_cons, List.all_cons, ih]; cases (decide (0 ≤ x) && decide (x ≤ 255)) <;> rfl
theorem impl_bytes (x : List Int) : impl_AreBytes.f x = some (okB x) := by
  unfold impl_AreBytes.f slices_ContainsFunc_int_int.f okB
  rw [if_pos (Or.inl rfl)]
  have e : (slices_ContainsFunc_int_int.p 50) = fun x => !(decide (0 ≤ x) && decide (x ≤ 255)) := by
    funext y
    simp [slices_ContainsFunc_int_int.p]
  rw [e, any_not]
  by_cases h : x.length ≤ 40
  · rw [if_pos (by omega)]; simp [h]
  · rw [if_neg (by omega)]; simp [h]
theorem equal_loop (x y : List Int) (hxy : x.length = y.length) (hx : x.length ≤ 1048576) (d : Nat) : ∀ (k i : Nat), i + d = x.length → d < k →
    slices_Equal_int_int.l0 k x y (x.length : Int) i = some (decide (x.drop i = y.drop i)) := by
  induction d with
  | zero =>
    intro k i hi hk
    obtain ⟨k, rfl⟩ : ∃ m, k = m + 1 := ⟨k - 1, by omega⟩
    rw [slices_Equal_int_int.l0, if_neg (by omega), List.drop_of_length_le (by omega), List.drop_of_length_le (by omega)]
    simp
  | succ d ih =>
    intro k i hi hk
    obtain ⟨k, rfl⟩ : ∃ m, k = m + 1 := ⟨k - 1, by omega⟩
    have h1 : i < x.length := by omega
    have h2 : i < y.length := by omega
    rw [slices_Equal_int_int.l0, if_pos (by omega), if_pos (by omega), if_pos (by omega), if_pos (by omega), rd_nat x i h1, rd_nat y i h2, w64 (by omega) (by omega)]
    by_cases e : x[i] = y[i]
    · have key : (x.drop i = y.drop i) ↔ (x.drop (i + 1) = y.drop (i + 1)) := by
        rw [List.drop_eq_getElem_cons h1, List.drop_eq_getElem_cons h2, e]
        exact ⟨fun h => (List.cons.inj h).2, fun h => by rw [h]⟩
      rw [if_pos e, show ((i : Int) + 1) = ((i + 1 : Nat) : Int) by omega, ih k (i + 1) (by omega) (by omega)]
      simp only [key]
    · have key : ¬ (x.drop i = y.drop i) := by
        rw [List.drop_eq_getElem_cons h1, List.drop_eq_getElem_cons h2]
        exact fun h => e (List.cons.inj h).1
      rw [if_neg e, decide_eq_false key]
theorem equal (x y : List Int) (hx : x.length ≤ 1048576) (k : Nat) (hk : x.length < k) : slices_Equal_int_int.f k x y = some (decide (x = y)) := by
  unfold slices_Equal_int_int.f
  by_cases h : x.length = y.length
  · rw [if_pos (by omega)]
    exact equal_loop x y h hx x.length k 0 (by omega) hk
  · rw [if_neg (by omega)]
    have : x ≠ y := fun e => h (by rw [e])
    simp [this]
def wordsOk (l : List Int) : Bool := l.all (fun b => decide (0 ≤ b) && decide (b ≤ 65535))
theorem wordsOk_iff (l : List Int) : wordsOk l = true ↔ ∀ b ∈ l, 0 ≤ b ∧ b ≤ 65535 := by
  simp [wordsOk]
/-- A valid packet, by its numbers, the number of its words, and whether these are words. -/
def PkOk (kd fr too ad ln tg st n : Int) (w : Bool) : Prop :=
  0 ≤ fr ∧ fr ≤ 255 ∧ w = true ∧
  ((kd = 1 ∧ 1 ≤ n ∧ n ≤ 8 ∧ 0 ≤ ad ∧ ad ≤ 65536 - n ∧ st = 0 ∧ too = 0 ∧ ln = 0 ∧ tg = 0) ∨
   (kd = 2 ∧ 1 ≤ n ∧ n ≤ 8 ∧ ad = 0 ∧ st = 0 ∧ too = 0 ∧ ln = 0 ∧ tg = 0) ∨
   (kd = 3 ∧ n = 0 ∧ 1 ≤ ln ∧ ln ≤ 64 ∧ 0 ≤ ad ∧ ad ≤ 65536 - ln ∧ 0 ≤ tg ∧ tg ≤ 7 ∧ st = 0 ∧ too = 0) ∨
   (kd = 4 ∧ n = 0 ∧ 0 ≤ ad ∧ ad ≤ 63 ∧ 0 ≤ too ∧ too ≤ 255 ∧ 0 ≤ tg ∧ tg ≤ 7 ∧ st = 0 ∧ ln = 0) ∨
   (kd = 5 ∧ n = 1 ∧ 0 ≤ ad ∧ ad ≤ 63 ∧ 0 ≤ too ∧ too ≤ 255 ∧ 0 ≤ tg ∧ tg ≤ 7 ∧ st = 0 ∧ ln = 0) ∨
   (kd = 6 ∧ ad = 0 ∧ 0 ≤ too ∧ too ≤ 255 ∧ 0 ≤ tg ∧ tg ≤ 7 ∧ 0 ≤ st ∧ st ≤ 2 ∧ 0 ≤ ln ∧ ln ≤ 64 ∧ (n = 0 ∨ st = 0 ∧ n ≤ 8 ∧ n ≤ ln)))
theorem impl_words (l : List Int) : slices_ContainsFunc_int_int.f l 73 = some (!wordsOk l) := by
  unfold slices_ContainsFunc_int_int.f wordsOk
  rw [if_pos (Or.inr rfl)]
  have e : (slices_ContainsFunc_int_int.p 73) = fun x => !(decide (0 ≤ x) && decide (x ≤ 65535)) := by
    funext y
    simp [slices_ContainsFunc_int_int.p]
  rw [e]
  congr 1
  induction l with
  | nil => rfl
  | cons x t ih => rw [List.any_cons, List.all_cons, ih]; cases (decide (0 ≤ x) && decide (x ≤ 65535)) <;> rfl
theorem data_ok (kd fr too ad ln tg st : Int) (l : List Int) (k : Nat) : ∃ b, impl_Packet_dataOk.f (k + 1) kd fr too ad ln tg st l = some b ∧
    (b = true ↔ wordsOk l = true ∧ ((kd = 1 ∨ kd = 2) → 1 ≤ (l.length : Int) ∧ (l.length : Int) ≤ 8) ∧ (kd = 5 → (l.length : Int) = 1) ∧ ((kd = 6 ∧ st = 0) → (l.length : Int) ≤ 8 ∧ (l.length : Int) ≤ ln) ∧ (¬ kd = 1 → ¬ kd = 2 → ¬ kd = 5 → ¬ (kd = 6 ∧ st = 0) → (l.length : Int) = 0)) := by
  unfold impl_Packet_dataOk.f
  rw [impl_words]
  generalize (l.length : Int) = n
  cases wordsOk l with
  | false => exact ⟨false, rfl, by simp⟩
  | true =>
    simp only [impl_Packet_dataOk.j0, within, Option.bind_some, Bool.not_true]
    rw [if_neg (by decide)]
    by_cases h1 : kd = 1
    · subst h1
      refine ⟨decide (1 ≤ n ∧ n ≤ 8), by simp, by simp⟩
    · by_cases h2 : kd = 2
      · subst h2
        refine ⟨decide (1 ≤ n ∧ n ≤ 8), by simp, by simp⟩
      · rw [if_neg h1, if_neg (by simpa using h2)]
        by_cases h5 : kd = 5
        · subst h5
          exact ⟨_, by rw [if_pos rfl], by simp⟩
        · by_cases h6 : kd = 6
          · subst h6
            by_cases hs : st = 0
            · by_cases hn : n ≤ 8
              · exact ⟨_, by rw [if_neg h5, if_pos rfl, if_pos hs, if_pos hn], by simp [hs, hn]⟩
              · exact ⟨_, by rw [if_neg h5, if_pos rfl, if_pos hs, if_neg hn], by simp [hs]; omega⟩
            · exact ⟨_, by rw [if_neg h5, if_pos rfl, if_neg hs], by simp [hs]⟩
          · exact ⟨_, by rw [if_neg h5, if_neg h6], by simp [h1, h2, h5, h6]⟩
theorem addr_ok (kd fr too ad ln tg st : Int) (l : List Int) (hl : l.length ≤ 1048576) (hn : -9223372036854775808 ≤ ln ∧ ln ≤ 9223372036854775807) (k : Nat) : ∃ b, impl_Packet_addressOk.f (k + 1) kd fr too ad ln tg st l = some b ∧
    (b = true ↔ ((kd = 1 → 0 ≤ ad ∧ ad ≤ 65535 ∧ (l.length : Int) ≤ 65536 - ad) ∧ (kd = 3 → 0 ≤ ad ∧ ad ≤ 65535 ∧ ln ≤ 65536 - ad) ∧ ((kd = 4 ∨ kd = 5) → 0 ≤ ad ∧ ad ≤ 63) ∧ (¬ kd = 1 → ¬ kd = 3 → ¬ kd = 4 → ¬ kd = 5 → ad = 0))) := by
  unfold impl_Packet_addressOk.f
  simp only [impl_Packet_addressOk.j0, impl_Packet_words.f, within, Option.bind_some]
  generalize (l.length : Int) = n
  by_cases h1 : kd = 1
  · subst h1
    by_cases ha : 0 ≤ ad ∧ ad ≤ 65535
    · rw [if_pos rfl, if_pos (by decide), if_pos (by simpa using ha), if_neg (by decide), w64 (by omega) (by omega)]
      exact ⟨_, rfl, by simp; omega⟩
    · rw [if_pos rfl, if_pos (by decide), if_neg (by simpa using ha)]
      exact ⟨_, rfl, by simp; omega⟩
  · rw [if_neg h1]
    by_cases h3 : kd = 3
    · subst h3
      by_cases ha : 0 ≤ ad ∧ ad ≤ 65535
      · rw [if_pos (by decide), if_pos (by simpa using ha), if_pos rfl, w64 (by omega) (by omega)]
        exact ⟨_, rfl, by simp; omega⟩
      · rw [if_pos (by decide), if_neg (by simpa using ha)]
        exact ⟨_, rfl, by simp; omega⟩
    · rw [if_neg (by simpa using h3)]
      by_cases h4 : kd = 4
      · rw [if_pos h4]
        exact ⟨_, rfl, by simp [h4]⟩
      · by_cases h5 : kd = 5
        · rw [if_neg h4, if_pos h5]
          exact ⟨_, rfl, by simp [h5]⟩
        · rw [if_neg h4, if_neg h5]
          exact ⟨_, rfl, by simp [h1, h3, h4, h5]⟩
theorem len_ok (kd fr too ad ln tg st : Int) (l : List Int) : ∃ b, impl_Packet_lengthOk.f kd fr too ad ln tg st l = some b ∧
    (b = true ↔ ((kd = 3 → 1 ≤ ln ∧ ln ≤ 64) ∧ (kd = 6 → 0 ≤ ln ∧ ln ≤ 64) ∧ (¬ kd = 3 → ¬ kd = 6 → ln = 0))) := by
  unfold impl_Packet_lengthOk.f
  simp only [within, Option.bind_some]
  by_cases h3 : kd = 3
  · rw [if_pos h3]
    exact ⟨_, rfl, by simp [h3]⟩
  · by_cases h6 : kd = 6
    · rw [if_neg h3, if_pos h6]
      exact ⟨_, rfl, by simp [h6]⟩
    · rw [if_neg h3, if_neg h6]
      exact ⟨_, rfl, by simp [h3, h6]⟩
theorem j2_ok (kd fr too ad ln tg st : Int) (l : List Int) (k : Nat) (x : Bool) : ∃ b, impl_IsPacket.j2 (k + 1 + 1) x kd fr too ad ln tg st l = some b ∧
    (b = true ↔ x = false ∧ ((kd = 6 → 0 ≤ st ∧ st ≤ 2) ∧ (¬ kd = 6 → st = 0)) ∧ wordsOk l = true ∧ ((kd = 1 ∨ kd = 2) → 1 ≤ (l.length : Int) ∧ (l.length : Int) ≤ 8) ∧ (kd = 5 → (l.length : Int) = 1) ∧ ((kd = 6 ∧ st = 0) → (l.length : Int) ≤ 8 ∧ (l.length : Int) ≤ ln) ∧ (¬ kd = 1 → ¬ kd = 2 → ¬ kd = 5 → ¬ (kd = 6 ∧ st = 0) → (l.length : Int) = 0)) := by
  obtain ⟨b, h1, h2⟩ := data_ok kd fr too ad ln tg st l k
  rw [impl_IsPacket.j2]
  cases x with
  | true => exact ⟨false, rfl, by simp⟩
  | false =>
    rw [if_neg (by decide), h1]
    simp only [within, Option.bind_some]
    by_cases h6 : kd = 6
    · by_cases hs : 0 ≤ st ∧ st ≤ 2
      · exact ⟨b, by rw [if_pos h6, if_pos (by simpa using hs)], by rw [h2]; simp [h6, hs]⟩
      · exact ⟨false, by rw [if_pos h6, if_neg (by simpa using hs)], by simp [h6]; omega⟩
    · by_cases hs : st = 0
      · exact ⟨b, by rw [if_neg h6, if_pos hs], by rw [h2]; simp [h6, hs]⟩
      · exact ⟨false, by rw [if_neg h6, if_neg hs], by simp [h6, hs]⟩
theorem bad (P : Prop) (hP : ¬ P) : ∃ b, some false = some b ∧ (b = true ↔ P) := ⟨false, rfl, (fun h => by cases h), fun h => absurd h hP⟩
theorem ends (P Q : Prop) (o : Option Bool) (h : ∃ b, o = some b ∧ (b = true ↔ P)) (hPQ : P ↔ Q) : ∃ b, o = some b ∧ (b = true ↔ Q) := by
  obtain ⟨b, h1, h2⟩ := h
  exact ⟨b, h1, h2.trans hPQ⟩
theorem pk1 (fr too ad ln tg st n : Int) (w : Bool) : PkOk 1 fr too ad ln tg st n w ↔ 0 ≤ fr ∧ fr ≤ 255 ∧ w = true ∧ (1 ≤ n ∧ n ≤ 8 ∧ 0 ≤ ad ∧ ad ≤ 65536 - n ∧ st = 0 ∧ too = 0 ∧ ln = 0 ∧ tg = 0) := by
  simp [PkOk]
theorem pk2 (fr too ad ln tg st n : Int) (w : Bool) : PkOk 2 fr too ad ln tg st n w ↔ 0 ≤ fr ∧ fr ≤ 255 ∧ w = true ∧ (1 ≤ n ∧ n ≤ 8 ∧ ad = 0 ∧ st = 0 ∧ too = 0 ∧ ln = 0 ∧ tg = 0) := by
  simp [PkOk]
theorem pk3 (fr too ad ln tg st n : Int) (w : Bool) : PkOk 3 fr too ad ln tg st n w ↔ 0 ≤ fr ∧ fr ≤ 255 ∧ w = true ∧ (n = 0 ∧ 1 ≤ ln ∧ ln ≤ 64 ∧ 0 ≤ ad ∧ ad ≤ 65536 - ln ∧ 0 ≤ tg ∧ tg ≤ 7 ∧ st = 0 ∧ too = 0) := by
  simp [PkOk]
theorem pk4 (fr too ad ln tg st n : Int) (w : Bool) : PkOk 4 fr too ad ln tg st n w ↔ 0 ≤ fr ∧ fr ≤ 255 ∧ w = true ∧ (n = 0 ∧ 0 ≤ ad ∧ ad ≤ 63 ∧ 0 ≤ too ∧ too ≤ 255 ∧ 0 ≤ tg ∧ tg ≤ 7 ∧ st = 0 ∧ ln = 0) := by
  simp [PkOk]
theorem pk5 (fr too ad ln tg st n : Int) (w : Bool) : PkOk 5 fr too ad ln tg st n w ↔ 0 ≤ fr ∧ fr ≤ 255 ∧ w = true ∧ (n = 1 ∧ 0 ≤ ad ∧ ad ≤ 63 ∧ 0 ≤ too ∧ too ≤ 255 ∧ 0 ≤ tg ∧ tg ≤ 7 ∧ st = 0 ∧ ln = 0) := by
  simp [PkOk]
theorem pk6 (fr too ad ln tg st n : Int) (w : Bool) : PkOk 6 fr too ad ln tg st n w ↔ 0 ≤ fr ∧ fr ≤ 255 ∧ w = true ∧ (ad = 0 ∧ 0 ≤ too ∧ too ≤ 255 ∧ 0 ≤ tg ∧ tg ≤ 7 ∧ 0 ≤ st ∧ st ≤ 2 ∧ 0 ≤ ln ∧ ln ≤ 64 ∧ (n = 0 ∨ st = 0 ∧ n ≤ 8 ∧ n ≤ ln)) := by
  simp [PkOk]
theorem pk_none (kd fr too ad ln tg st n : Int) (w : Bool) (h : ¬ (1 ≤ kd ∧ kd ≤ 6)) : ¬ PkOk kd fr too ad ln tg st n w := by
  intro hp
  have h2 := hp.2.2.2
  rcases h2 with h2 | h2 | h2 | h2 | h2 | h2 <;> (have := h2.1; omega)
theorem impl_packet1 (fr too ad ln tg st : Int) (l : List Int) (hl : l.length ≤ 1048576) (hn : -9223372036854775808 ≤ ln ∧ ln ≤ 9223372036854775807) (k : Nat) : ∃ b, impl_IsPacket.f (k + 1 + 1 + 1 + 1) 1 fr too ad ln tg st l = some b ∧
    (b = true ↔ PkOk 1 fr too ad ln tg st (l.length : Int) (wordsOk l)) := by
  obtain ⟨b1, a1, a2⟩ := addr_ok 1 fr too ad ln tg st l hl hn (k + 1 + 1 + 1)
  obtain ⟨b2, c1, c2⟩ := len_ok 1 fr too ad ln tg st l
  have hj := fun x => j2_ok 1 fr too ad ln tg st l k x
  have hn0 : 0 ≤ (l.length : Int) := by omega
  unfold impl_IsPacket.f
  rw [a1, c1, pk1]
  simp only [impl_IsPacket.j0, impl_IsPacket.j1, impl_IsId.f, within, Option.bind_some]
  clear a1 c1 hl hn
  generalize (l.length : Int) = n at *
  generalize wordsOk l = w at *
  have a3 : b1 = true ↔ 0 ≤ ad ∧ ad ≤ 65535 ∧ n ≤ 65536 - ad := by rw [a2]; simp
  have c3 : b2 = true ↔ ln = 0 := by rw [c2]; simp
  have hj2 : ∀ x, ∃ b, impl_IsPacket.j2 (k + 1 + 1) x 1 fr too ad ln tg st l = some b ∧ (b = true ↔ x = false ∧ (st = 0) ∧ w = true ∧ 1 ≤ n ∧ n ≤ 8) := by
    intro x
    obtain ⟨b, e1, e2⟩ := hj x
    refine ⟨b, e1, ?_⟩
    rw [e2]
    simp
  clear a2 c2 hj
  by_cases q2 : 0 ≤ fr ∧ fr ≤ 255
  · have p2 : decide (0 ≤ fr ∧ fr ≤ 255) = true := decide_eq_true q2
    cases b1 with
    | false =>
      simp only [p2, ↓reduceIte, Bool.not_false, Bool.not_true, Bool.false_eq_true, Int.reduceLE, Int.reduceEq, and_false, false_and, and_true, true_and, and_self, decide_false, decide_true, decide_eq_true_eq, Int.reduceNe, bne_self_eq_false]
      refine bad _ fun h => absurd (a3.mpr ?_) (by decide)
      obtain ⟨_, _, _, h⟩ := h
      omega
    | true =>
      have a4 := a3.mp rfl
      cases b2 with
      | false =>
        simp only [p2, ↓reduceIte, Bool.not_false, Bool.not_true, Bool.false_eq_true, Int.reduceLE, Int.reduceEq, and_false, false_and, and_true, true_and, and_self, decide_false, decide_true, decide_eq_true_eq, Int.reduceNe, bne_self_eq_false]
        refine bad _ fun h => absurd (c3.mpr ?_) (by decide)
        obtain ⟨_, _, _, h⟩ := h
        omega
      | true =>
        have c4 := c3.mp rfl
        clear a3 c3
        by_cases q4 : too = 0
        · have p4 : (too != 0) = false := by simpa using q4
          by_cases q5 : tg = 0
          · have p5 : (tg != 0) = false := by simpa using q5
            simp only [p2, p4, p5, ↓reduceIte, Bool.not_false, Bool.not_true, Bool.false_eq_true, Int.reduceLE, Int.reduceEq, and_false, false_and, and_true, true_and, and_self, decide_false, decide_true, decide_eq_true_eq, Int.reduceNe, bne_self_eq_false]
            refine ends _ _ _ (hj2 false) ?_
            clear hj2
            constructor
            · intro h
              obtain ⟨h0, h1, h2, h3⟩ := h
              exact ⟨q2.1, q2.2, h2, by omega⟩
            · intro h
              obtain ⟨_, _, h2, h3⟩ := h
              exact ⟨rfl, by omega, h2, by omega⟩
          · have p5 : (tg != 0) = true := by simpa using q5
            simp only [p2, p4, p5, ↓reduceIte, Bool.not_false, Bool.not_true, Bool.false_eq_true, Int.reduceLE, Int.reduceEq, and_false, false_and, and_true, true_and, and_self, decide_false, decide_true, decide_eq_true_eq, Int.reduceNe, bne_self_eq_false]
            refine ends _ _ _ (hj2 true) ?_
            clear hj2
            constructor
            · intro h
              obtain ⟨h0, h1, h2, h3⟩ := h
              cases h0
            · intro h
              obtain ⟨_, _, h2, h3⟩ := h
              exfalso; omega
        · have p4 : (too != 0) = true := by simpa using q4
          simp only [p2, p4, ↓reduceIte, Bool.not_false, Bool.not_true, Bool.false_eq_true, Int.reduceLE, Int.reduceEq, and_false, false_and, and_true, true_and, and_self, decide_false, decide_true, decide_eq_true_eq, Int.reduceNe, bne_self_eq_false]
          refine bad _ fun h => ?_
          obtain ⟨_, _, _, h⟩ := h
          omega
  · have p2 : decide (0 ≤ fr ∧ fr ≤ 255) = false := decide_eq_false q2
    simp only [p2, ↓reduceIte, Bool.not_false, Bool.not_true, Bool.false_eq_true, Int.reduceLE, Int.reduceEq, and_false, false_and, and_true, true_and, and_self, decide_false, decide_true, decide_eq_true_eq, Int.reduceNe, bne_self_eq_false]
    refine bad _ fun h => ?_
    omega
theorem impl_packet2 (fr too ad ln tg st : Int) (l : List Int) (hl : l.length ≤ 1048576) (hn : -9223372036854775808 ≤ ln ∧ ln ≤ 9223372036854775807) (k : Nat) : ∃ b, impl_IsPacket.f (k + 1 + 1 + 1 + 1) 2 fr too ad ln tg st l = some b ∧
    (b = true ↔ PkOk 2 fr too ad ln tg st (l.length : Int) (wordsOk l)) := by
  obtain ⟨b1, a1, a2⟩ := addr_ok 2 fr too ad ln tg st l hl hn (k + 1 + 1 + 1)
  obtain ⟨b2, c1, c2⟩ := len_ok 2 fr too ad ln tg st l
  have hj := fun x => j2_ok 2 fr too ad ln tg st l k x
  have hn0 : 0 ≤ (l.length : Int) := by omega
  unfold impl_IsPacket.f
  rw [a1, c1, pk2]
  simp only [impl_IsPacket.j0, impl_IsPacket.j1, impl_IsId.f, within, Option.bind_some]
  clear a1 c1 hl hn
  generalize (l.length : Int) = n at *
  generalize wordsOk l = w at *
  have a3 : b1 = true ↔ ad = 0 := by rw [a2]; simp
  have c3 : b2 = true ↔ ln = 0 := by rw [c2]; simp
  have hj2 : ∀ x, ∃ b, impl_IsPacket.j2 (k + 1 + 1) x 2 fr too ad ln tg st l = some b ∧ (b = true ↔ x = false ∧ (st = 0) ∧ w = true ∧ 1 ≤ n ∧ n ≤ 8) := by
    intro x
    obtain ⟨b, e1, e2⟩ := hj x
    refine ⟨b, e1, ?_⟩
    rw [e2]
    simp
  clear a2 c2 hj
  by_cases q2 : 0 ≤ fr ∧ fr ≤ 255
  · have p2 : decide (0 ≤ fr ∧ fr ≤ 255) = true := decide_eq_true q2
    cases b1 with
    | false =>
      simp only [p2, ↓reduceIte, Bool.not_false, Bool.not_true, Bool.false_eq_true, Int.reduceLE, Int.reduceEq, and_false, false_and, and_true, true_and, and_self, decide_false, decide_true, decide_eq_true_eq, Int.reduceNe, bne_self_eq_false]
      refine bad _ fun h => absurd (a3.mpr ?_) (by decide)
      obtain ⟨_, _, _, h⟩ := h
      omega
    | true =>
      have a4 := a3.mp rfl
      cases b2 with
      | false =>
        simp only [p2, ↓reduceIte, Bool.not_false, Bool.not_true, Bool.false_eq_true, Int.reduceLE, Int.reduceEq, and_false, false_and, and_true, true_and, and_self, decide_false, decide_true, decide_eq_true_eq, Int.reduceNe, bne_self_eq_false]
        refine bad _ fun h => absurd (c3.mpr ?_) (by decide)
        obtain ⟨_, _, _, h⟩ := h
        omega
      | true =>
        have c4 := c3.mp rfl
        clear a3 c3
        by_cases q4 : too = 0
        · have p4 : (too != 0) = false := by simpa using q4
          by_cases q5 : tg = 0
          · have p5 : (tg != 0) = false := by simpa using q5
            simp only [p2, p4, p5, ↓reduceIte, Bool.not_false, Bool.not_true, Bool.false_eq_true, Int.reduceLE, Int.reduceEq, and_false, false_and, and_true, true_and, and_self, decide_false, decide_true, decide_eq_true_eq, Int.reduceNe, bne_self_eq_false]
            refine ends _ _ _ (hj2 false) ?_
            clear hj2
            constructor
            · intro h
              obtain ⟨h0, h1, h2, h3⟩ := h
              exact ⟨q2.1, q2.2, h2, by omega⟩
            · intro h
              obtain ⟨_, _, h2, h3⟩ := h
              exact ⟨rfl, by omega, h2, by omega⟩
          · have p5 : (tg != 0) = true := by simpa using q5
            simp only [p2, p4, p5, ↓reduceIte, Bool.not_false, Bool.not_true, Bool.false_eq_true, Int.reduceLE, Int.reduceEq, and_false, false_and, and_true, true_and, and_self, decide_false, decide_true, decide_eq_true_eq, Int.reduceNe, bne_self_eq_false]
            refine ends _ _ _ (hj2 true) ?_
            clear hj2
            constructor
            · intro h
              obtain ⟨h0, h1, h2, h3⟩ := h
              cases h0
            · intro h
              obtain ⟨_, _, h2, h3⟩ := h
              exfalso; omega
        · have p4 : (too != 0) = true := by simpa using q4
          simp only [p2, p4, ↓reduceIte, Bool.not_false, Bool.not_true, Bool.false_eq_true, Int.reduceLE, Int.reduceEq, and_false, false_and, and_true, true_and, and_self, decide_false, decide_true, decide_eq_true_eq, Int.reduceNe, bne_self_eq_false]
          refine bad _ fun h => ?_
          obtain ⟨_, _, _, h⟩ := h
          omega
  · have p2 : decide (0 ≤ fr ∧ fr ≤ 255) = false := decide_eq_false q2
    simp only [p2, ↓reduceIte, Bool.not_false, Bool.not_true, Bool.false_eq_true, Int.reduceLE, Int.reduceEq, and_false, false_and, and_true, true_and, and_self, decide_false, decide_true, decide_eq_true_eq, Int.reduceNe, bne_self_eq_false]
    refine bad _ fun h => ?_
    omega
theorem impl_packet3 (fr too ad ln tg st : Int) (l : List Int) (hl : l.length ≤ 1048576) (hn : -9223372036854775808 ≤ ln ∧ ln ≤ 9223372036854775807) (k : Nat) : ∃ b, impl_IsPacket.f (k + 1 + 1 + 1 + 1) 3 fr too ad ln tg st l = some b ∧
    (b = true ↔ PkOk 3 fr too ad ln tg st (l.length : Int) (wordsOk l)) := by
  obtain ⟨b1, a1, a2⟩ := addr_ok 3 fr too ad ln tg st l hl hn (k + 1 + 1 + 1)
  obtain ⟨b2, c1, c2⟩ := len_ok 3 fr too ad ln tg st l
  have hj := fun x => j2_ok 3 fr too ad ln tg st l k x
  have hn0 : 0 ≤ (l.length : Int) := by omega
  unfold impl_IsPacket.f
  rw [a1, c1, pk3]
  simp only [impl_IsPacket.j0, impl_IsPacket.j1, impl_IsId.f, within, Option.bind_some]
  clear a1 c1 hl hn
  generalize (l.length : Int) = n at *
  generalize wordsOk l = w at *
  have a3 : b1 = true ↔ 0 ≤ ad ∧ ad ≤ 65535 ∧ ln ≤ 65536 - ad := by rw [a2]; simp
  have c3 : b2 = true ↔ 1 ≤ ln ∧ ln ≤ 64 := by rw [c2]; simp
  have hj2 : ∀ x, ∃ b, impl_IsPacket.j2 (k + 1 + 1) x 3 fr too ad ln tg st l = some b ∧ (b = true ↔ x = false ∧ (st = 0) ∧ w = true ∧ n = 0) := by
    intro x
    obtain ⟨b, e1, e2⟩ := hj x
    refine ⟨b, e1, ?_⟩
    rw [e2]
    simp
  clear a2 c2 hj
  by_cases q2 : 0 ≤ fr ∧ fr ≤ 255
  · have p2 : decide (0 ≤ fr ∧ fr ≤ 255) = true := decide_eq_true q2
    cases b1 with
    | false =>
      simp only [p2, ↓reduceIte, Bool.not_false, Bool.not_true, Bool.false_eq_true, Int.reduceLE, Int.reduceEq, and_false, false_and, and_true, true_and, and_self, decide_false, decide_true, decide_eq_true_eq, Int.reduceNe, bne_self_eq_false]
      refine bad _ fun h => absurd (a3.mpr ?_) (by decide)
      obtain ⟨_, _, _, h⟩ := h
      omega
    | true =>
      have a4 := a3.mp rfl
      cases b2 with
      | false =>
        simp only [p2, ↓reduceIte, Bool.not_false, Bool.not_true, Bool.false_eq_true, Int.reduceLE, Int.reduceEq, and_false, false_and, and_true, true_and, and_self, decide_false, decide_true, decide_eq_true_eq, Int.reduceNe, bne_self_eq_false]
        refine bad _ fun h => absurd (c3.mpr ?_) (by decide)
        obtain ⟨_, _, _, h⟩ := h
        omega
      | true =>
        have c4 := c3.mp rfl
        clear a3 c3
        by_cases q4 : too = 0
        · have p4 : (too != 0) = false := by simpa using q4
          by_cases q5 : 0 ≤ tg ∧ tg ≤ 7
          · have p5 : decide (0 ≤ tg ∧ tg ≤ 7) = true := by simpa using q5
            simp only [p2, p4, p5, ↓reduceIte, Bool.not_false, Bool.not_true, Bool.false_eq_true, Int.reduceLE, Int.reduceEq, and_false, false_and, and_true, true_and, and_self, decide_false, decide_true, decide_eq_true_eq, Int.reduceNe, bne_self_eq_false]
            refine ends _ _ _ (hj2 false) ?_
            clear hj2
            constructor
            · intro h
              obtain ⟨h0, h1, h2, h3⟩ := h
              exact ⟨q2.1, q2.2, h2, by omega⟩
            · intro h
              obtain ⟨_, _, h2, h3⟩ := h
              exact ⟨rfl, by omega, h2, by omega⟩
          · have p5 : decide (0 ≤ tg ∧ tg ≤ 7) = false := by simpa using q5
            simp only [p2, p4, p5, ↓reduceIte, Bool.not_false, Bool.not_true, Bool.false_eq_true, Int.reduceLE, Int.reduceEq, and_false, false_and, and_true, true_and, and_self, decide_false, decide_true, decide_eq_true_eq, Int.reduceNe, bne_self_eq_false]
            refine ends _ _ _ (hj2 true) ?_
            clear hj2
            constructor
            · intro h
              obtain ⟨h0, h1, h2, h3⟩ := h
              cases h0
            · intro h
              obtain ⟨_, _, h2, h3⟩ := h
              exfalso; omega
        · have p4 : (too != 0) = true := by simpa using q4
          simp only [p2, p4, ↓reduceIte, Bool.not_false, Bool.not_true, Bool.false_eq_true, Int.reduceLE, Int.reduceEq, and_false, false_and, and_true, true_and, and_self, decide_false, decide_true, decide_eq_true_eq, Int.reduceNe, bne_self_eq_false]
          refine bad _ fun h => ?_
          obtain ⟨_, _, _, h⟩ := h
          omega
  · have p2 : decide (0 ≤ fr ∧ fr ≤ 255) = false := decide_eq_false q2
    simp only [p2, ↓reduceIte, Bool.not_false, Bool.not_true, Bool.false_eq_true, Int.reduceLE, Int.reduceEq, and_false, false_and, and_true, true_and, and_self, decide_false, decide_true, decide_eq_true_eq, Int.reduceNe, bne_self_eq_false]
    refine bad _ fun h => ?_
    omega
theorem impl_packet4 (fr too ad ln tg st : Int) (l : List Int) (hl : l.length ≤ 1048576) (hn : -9223372036854775808 ≤ ln ∧ ln ≤ 9223372036854775807) (k : Nat) : ∃ b, impl_IsPacket.f (k + 1 + 1 + 1 + 1) 4 fr too ad ln tg st l = some b ∧
    (b = true ↔ PkOk 4 fr too ad ln tg st (l.length : Int) (wordsOk l)) := by
  obtain ⟨b1, a1, a2⟩ := addr_ok 4 fr too ad ln tg st l hl hn (k + 1 + 1 + 1)
  obtain ⟨b2, c1, c2⟩ := len_ok 4 fr too ad ln tg st l
  have hj := fun x => j2_ok 4 fr too ad ln tg st l k x
  have hn0 : 0 ≤ (l.length : Int) := by omega
  unfold impl_IsPacket.f
  rw [a1, c1, pk4]
  simp only [impl_IsPacket.j0, impl_IsPacket.j1, impl_IsId.f, within, Option.bind_some]
  clear a1 c1 hl hn
  generalize (l.length : Int) = n at *
  generalize wordsOk l = w at *
  have a3 : b1 = true ↔ 0 ≤ ad ∧ ad ≤ 63 := by rw [a2]; simp
  have c3 : b2 = true ↔ ln = 0 := by rw [c2]; simp
  have hj2 : ∀ x, ∃ b, impl_IsPacket.j2 (k + 1 + 1) x 4 fr too ad ln tg st l = some b ∧ (b = true ↔ x = false ∧ (st = 0) ∧ w = true ∧ n = 0) := by
    intro x
    obtain ⟨b, e1, e2⟩ := hj x
    refine ⟨b, e1, ?_⟩
    rw [e2]
    simp
  clear a2 c2 hj
  by_cases q2 : 0 ≤ fr ∧ fr ≤ 255
  · have p2 : decide (0 ≤ fr ∧ fr ≤ 255) = true := decide_eq_true q2
    cases b1 with
    | false =>
      simp only [p2, ↓reduceIte, Bool.not_false, Bool.not_true, Bool.false_eq_true, Int.reduceLE, Int.reduceEq, and_false, false_and, and_true, true_and, and_self, decide_false, decide_true, decide_eq_true_eq, Int.reduceNe, bne_self_eq_false]
      refine bad _ fun h => absurd (a3.mpr ?_) (by decide)
      obtain ⟨_, _, _, h⟩ := h
      omega
    | true =>
      have a4 := a3.mp rfl
      cases b2 with
      | false =>
        simp only [p2, ↓reduceIte, Bool.not_false, Bool.not_true, Bool.false_eq_true, Int.reduceLE, Int.reduceEq, and_false, false_and, and_true, true_and, and_self, decide_false, decide_true, decide_eq_true_eq, Int.reduceNe, bne_self_eq_false]
        refine bad _ fun h => absurd (c3.mpr ?_) (by decide)
        obtain ⟨_, _, _, h⟩ := h
        omega
      | true =>
        have c4 := c3.mp rfl
        clear a3 c3
        by_cases q4 : 0 ≤ too ∧ too ≤ 255
        · have p4 : decide (0 ≤ too ∧ too ≤ 255) = true := by simpa using q4
          by_cases q5 : 0 ≤ tg ∧ tg ≤ 7
          · have p5 : decide (0 ≤ tg ∧ tg ≤ 7) = true := by simpa using q5
            simp only [p2, p4, p5, ↓reduceIte, Bool.not_false, Bool.not_true, Bool.false_eq_true, Int.reduceLE, Int.reduceEq, and_false, false_and, and_true, true_and, and_self, decide_false, decide_true, decide_eq_true_eq, Int.reduceNe, bne_self_eq_false]
            refine ends _ _ _ (hj2 false) ?_
            clear hj2
            constructor
            · intro h
              obtain ⟨h0, h1, h2, h3⟩ := h
              exact ⟨q2.1, q2.2, h2, by omega⟩
            · intro h
              obtain ⟨_, _, h2, h3⟩ := h
              exact ⟨rfl, by omega, h2, by omega⟩
          · have p5 : decide (0 ≤ tg ∧ tg ≤ 7) = false := by simpa using q5
            simp only [p2, p4, p5, ↓reduceIte, Bool.not_false, Bool.not_true, Bool.false_eq_true, Int.reduceLE, Int.reduceEq, and_false, false_and, and_true, true_and, and_self, decide_false, decide_true, decide_eq_true_eq, Int.reduceNe, bne_self_eq_false]
            refine ends _ _ _ (hj2 true) ?_
            clear hj2
            constructor
            · intro h
              obtain ⟨h0, h1, h2, h3⟩ := h
              cases h0
            · intro h
              obtain ⟨_, _, h2, h3⟩ := h
              exfalso; omega
        · have p4 : decide (0 ≤ too ∧ too ≤ 255) = false := by simpa using q4
          simp only [p2, p4, ↓reduceIte, Bool.not_false, Bool.not_true, Bool.false_eq_true, Int.reduceLE, Int.reduceEq, and_false, false_and, and_true, true_and, and_self, decide_false, decide_true, decide_eq_true_eq, Int.reduceNe, bne_self_eq_false]
          refine bad _ fun h => ?_
          obtain ⟨_, _, _, h⟩ := h
          omega
  · have p2 : decide (0 ≤ fr ∧ fr ≤ 255) = false := decide_eq_false q2
    simp only [p2, ↓reduceIte, Bool.not_false, Bool.not_true, Bool.false_eq_true, Int.reduceLE, Int.reduceEq, and_false, false_and, and_true, true_and, and_self, decide_false, decide_true, decide_eq_true_eq, Int.reduceNe, bne_self_eq_false]
    refine bad _ fun h => ?_
    omega
theorem impl_packet5 (fr too ad ln tg st : Int) (l : List Int) (hl : l.length ≤ 1048576) (hn : -9223372036854775808 ≤ ln ∧ ln ≤ 9223372036854775807) (k : Nat) : ∃ b, impl_IsPacket.f (k + 1 + 1 + 1 + 1) 5 fr too ad ln tg st l = some b ∧
    (b = true ↔ PkOk 5 fr too ad ln tg st (l.length : Int) (wordsOk l)) := by
  obtain ⟨b1, a1, a2⟩ := addr_ok 5 fr too ad ln tg st l hl hn (k + 1 + 1 + 1)
  obtain ⟨b2, c1, c2⟩ := len_ok 5 fr too ad ln tg st l
  have hj := fun x => j2_ok 5 fr too ad ln tg st l k x
  have hn0 : 0 ≤ (l.length : Int) := by omega
  unfold impl_IsPacket.f
  rw [a1, c1, pk5]
  simp only [impl_IsPacket.j0, impl_IsPacket.j1, impl_IsId.f, within, Option.bind_some]
  clear a1 c1 hl hn
  generalize (l.length : Int) = n at *
  generalize wordsOk l = w at *
  have a3 : b1 = true ↔ 0 ≤ ad ∧ ad ≤ 63 := by rw [a2]; simp
  have c3 : b2 = true ↔ ln = 0 := by rw [c2]; simp
  have hj2 : ∀ x, ∃ b, impl_IsPacket.j2 (k + 1 + 1) x 5 fr too ad ln tg st l = some b ∧ (b = true ↔ x = false ∧ (st = 0) ∧ w = true ∧ n = 1) := by
    intro x
    obtain ⟨b, e1, e2⟩ := hj x
    refine ⟨b, e1, ?_⟩
    rw [e2]
    simp
  clear a2 c2 hj
  by_cases q2 : 0 ≤ fr ∧ fr ≤ 255
  · have p2 : decide (0 ≤ fr ∧ fr ≤ 255) = true := decide_eq_true q2
    cases b1 with
    | false =>
      simp only [p2, ↓reduceIte, Bool.not_false, Bool.not_true, Bool.false_eq_true, Int.reduceLE, Int.reduceEq, and_false, false_and, and_true, true_and, and_self, decide_false, decide_true, decide_eq_true_eq, Int.reduceNe, bne_self_eq_false]
      refine bad _ fun h => absurd (a3.mpr ?_) (by decide)
      obtain ⟨_, _, _, h⟩ := h
      omega
    | true =>
      have a4 := a3.mp rfl
      cases b2 with
      | false =>
        simp only [p2, ↓reduceIte, Bool.not_false, Bool.not_true, Bool.false_eq_true, Int.reduceLE, Int.reduceEq, and_false, false_and, and_true, true_and, and_self, decide_false, decide_true, decide_eq_true_eq, Int.reduceNe, bne_self_eq_false]
        refine bad _ fun h => absurd (c3.mpr ?_) (by decide)
        obtain ⟨_, _, _, h⟩ := h
        omega
      | true =>
        have c4 := c3.mp rfl
        clear a3 c3
        by_cases q4 : 0 ≤ too ∧ too ≤ 255
        · have p4 : decide (0 ≤ too ∧ too ≤ 255) = true := by simpa using q4
          by_cases q5 : 0 ≤ tg ∧ tg ≤ 7
          · have p5 : decide (0 ≤ tg ∧ tg ≤ 7) = true := by simpa using q5
            simp only [p2, p4, p5, ↓reduceIte, Bool.not_false, Bool.not_true, Bool.false_eq_true, Int.reduceLE, Int.reduceEq, and_false, false_and, and_true, true_and, and_self, decide_false, decide_true, decide_eq_true_eq, Int.reduceNe, bne_self_eq_false]
            refine ends _ _ _ (hj2 false) ?_
            clear hj2
            constructor
            · intro h
              obtain ⟨h0, h1, h2, h3⟩ := h
              exact ⟨q2.1, q2.2, h2, by omega⟩
            · intro h
              obtain ⟨_, _, h2, h3⟩ := h
              exact ⟨rfl, by omega, h2, by omega⟩
          · have p5 : decide (0 ≤ tg ∧ tg ≤ 7) = false := by simpa using q5
            simp only [p2, p4, p5, ↓reduceIte, Bool.not_false, Bool.not_true, Bool.false_eq_true, Int.reduceLE, Int.reduceEq, and_false, false_and, and_true, true_and, and_self, decide_false, decide_true, decide_eq_true_eq, Int.reduceNe, bne_self_eq_false]
            refine ends _ _ _ (hj2 true) ?_
            clear hj2
            constructor
            · intro h
              obtain ⟨h0, h1, h2, h3⟩ := h
              cases h0
            · intro h
              obtain ⟨_, _, h2, h3⟩ := h
              exfalso; omega
        · have p4 : decide (0 ≤ too ∧ too ≤ 255) = false := by simpa using q4
          simp only [p2, p4, ↓reduceIte, Bool.not_false, Bool.not_true, Bool.false_eq_true, Int.reduceLE, Int.reduceEq, and_false, false_and, and_true, true_and, and_self, decide_false, decide_true, decide_eq_true_eq, Int.reduceNe, bne_self_eq_false]
          refine bad _ fun h => ?_
          obtain ⟨_, _, _, h⟩ := h
          omega
  · have p2 : decide (0 ≤ fr ∧ fr ≤ 255) = false := decide_eq_false q2
    simp only [p2, ↓reduceIte, Bool.not_false, Bool.not_true, Bool.false_eq_true, Int.reduceLE, Int.reduceEq, and_false, false_and, and_true, true_and, and_self, decide_false, decide_true, decide_eq_true_eq, Int.reduceNe, bne_self_eq_false]
    refine bad _ fun h => ?_
    omega
theorem impl_packet6 (fr too ad ln tg st : Int) (l : List Int) (hl : l.length ≤ 1048576) (hn : -9223372036854775808 ≤ ln ∧ ln ≤ 9223372036854775807) (k : Nat) : ∃ b, impl_IsPacket.f (k + 1 + 1 + 1 + 1) 6 fr too ad ln tg st l = some b ∧
    (b = true ↔ PkOk 6 fr too ad ln tg st (l.length : Int) (wordsOk l)) := by
  obtain ⟨b1, a1, a2⟩ := addr_ok 6 fr too ad ln tg st l hl hn (k + 1 + 1 + 1)
  obtain ⟨b2, c1, c2⟩ := len_ok 6 fr too ad ln tg st l
  have hj := fun x => j2_ok 6 fr too ad ln tg st l k x
  have hn0 : 0 ≤ (l.length : Int) := by omega
  unfold impl_IsPacket.f
  rw [a1, c1, pk6]
  simp only [impl_IsPacket.j0, impl_IsPacket.j1, impl_IsId.f, within, Option.bind_some]
  clear a1 c1 hl hn
  generalize (l.length : Int) = n at *
  generalize wordsOk l = w at *
  have a3 : b1 = true ↔ ad = 0 := by rw [a2]; simp
  have c3 : b2 = true ↔ 0 ≤ ln ∧ ln ≤ 64 := by rw [c2]; simp
  have hj2 : ∀ x, ∃ b, impl_IsPacket.j2 (k + 1 + 1) x 6 fr too ad ln tg st l = some b ∧ (b = true ↔ x = false ∧ (0 ≤ st ∧ st ≤ 2) ∧ w = true ∧ (st = 0 → n ≤ 8 ∧ n ≤ ln) ∧ (¬ st = 0 → n = 0)) := by
    intro x
    obtain ⟨b, e1, e2⟩ := hj x
    refine ⟨b, e1, ?_⟩
    rw [e2]
    simp
  clear a2 c2 hj
  by_cases q2 : 0 ≤ fr ∧ fr ≤ 255
  · have p2 : decide (0 ≤ fr ∧ fr ≤ 255) = true := decide_eq_true q2
    cases b1 with
    | false =>
      simp only [p2, ↓reduceIte, Bool.not_false, Bool.not_true, Bool.false_eq_true, Int.reduceLE, Int.reduceEq, and_false, false_and, and_true, true_and, and_self, decide_false, decide_true, decide_eq_true_eq, Int.reduceNe, bne_self_eq_false]
      refine bad _ fun h => absurd (a3.mpr ?_) (by decide)
      obtain ⟨_, _, _, h⟩ := h
      omega
    | true =>
      have a4 := a3.mp rfl
      cases b2 with
      | false =>
        simp only [p2, ↓reduceIte, Bool.not_false, Bool.not_true, Bool.false_eq_true, Int.reduceLE, Int.reduceEq, and_false, false_and, and_true, true_and, and_self, decide_false, decide_true, decide_eq_true_eq, Int.reduceNe, bne_self_eq_false]
        refine bad _ fun h => absurd (c3.mpr ?_) (by decide)
        obtain ⟨_, _, _, h⟩ := h
        omega
      | true =>
        have c4 := c3.mp rfl
        clear a3 c3
        by_cases q4 : 0 ≤ too ∧ too ≤ 255
        · have p4 : decide (0 ≤ too ∧ too ≤ 255) = true := by simpa using q4
          by_cases q5 : 0 ≤ tg ∧ tg ≤ 7
          · have p5 : decide (0 ≤ tg ∧ tg ≤ 7) = true := by simpa using q5
            simp only [p2, p4, p5, ↓reduceIte, Bool.not_false, Bool.not_true, Bool.false_eq_true, Int.reduceLE, Int.reduceEq, and_false, false_and, and_true, true_and, and_self, decide_false, decide_true, decide_eq_true_eq, Int.reduceNe, bne_self_eq_false]
            refine ends _ _ _ (hj2 false) ?_
            clear hj2
            constructor
            · intro h
              obtain ⟨h0, h1, h2, h3⟩ := h
              exact ⟨q2.1, q2.2, h2, by omega⟩
            · intro h
              obtain ⟨_, _, h2, h3⟩ := h
              exact ⟨rfl, by omega, h2, by omega⟩
          · have p5 : decide (0 ≤ tg ∧ tg ≤ 7) = false := by simpa using q5
            simp only [p2, p4, p5, ↓reduceIte, Bool.not_false, Bool.not_true, Bool.false_eq_true, Int.reduceLE, Int.reduceEq, and_false, false_and, and_true, true_and, and_self, decide_false, decide_true, decide_eq_true_eq, Int.reduceNe, bne_self_eq_false]
            refine ends _ _ _ (hj2 true) ?_
            clear hj2
            constructor
            · intro h
              obtain ⟨h0, h1, h2, h3⟩ := h
              cases h0
            · intro h
              obtain ⟨_, _, h2, h3⟩ := h
              exfalso; omega
        · have p4 : decide (0 ≤ too ∧ too ≤ 255) = false := by simpa using q4
          simp only [p2, p4, ↓reduceIte, Bool.not_false, Bool.not_true, Bool.false_eq_true, Int.reduceLE, Int.reduceEq, and_false, false_and, and_true, true_and, and_self, decide_false, decide_true, decide_eq_true_eq, Int.reduceNe, bne_self_eq_false]
          refine bad _ fun h => ?_
          obtain ⟨_, _, _, h⟩ := h
          omega
  · have p2 : decide (0 ≤ fr ∧ fr ≤ 255) = false := decide_eq_false q2
    simp only [p2, ↓reduceIte, Bool.not_false, Bool.not_true, Bool.false_eq_true, Int.reduceLE, Int.reduceEq, and_false, false_and, and_true, true_and, and_self, decide_false, decide_true, decide_eq_true_eq, Int.reduceNe, bne_self_eq_false]
    refine bad _ fun h => ?_
    omega
theorem impl_packet (kd fr too ad ln tg st : Int) (l : List Int) (hl : l.length ≤ 1048576) (hn : -9223372036854775808 ≤ ln ∧ ln ≤ 9223372036854775807) (k : Nat) (hk : 8 < k) : ∃ b, impl_IsPacket.f k kd fr too ad ln tg st l = some b ∧
    (b = true ↔ PkOk kd fr too ad ln tg st (l.length : Int) (wordsOk l)) := by
  obtain ⟨k, rfl⟩ : ∃ m, k = m + 1 + 1 + 1 + 1 := ⟨k - 4, by omega⟩
  by_cases q : 1 ≤ kd ∧ kd ≤ 6
  · have : kd = 1 ∨ kd = 2 ∨ kd = 3 ∨ kd = 4 ∨ kd = 5 ∨ kd = 6 := by omega
    rcases this with rfl | rfl | rfl | rfl | rfl | rfl
    · exact impl_packet1 fr too ad ln tg st l hl hn k
    · exact impl_packet2 fr too ad ln tg st l hl hn k
    · exact impl_packet3 fr too ad ln tg st l hl hn k
    · exact impl_packet4 fr too ad ln tg st l hl hn k
    · exact impl_packet5 fr too ad ln tg st l hl hn k
    · exact impl_packet6 fr too ad ln tg st l hl hn k
  · unfold impl_IsPacket.f
    simp only [impl_IsPacket.j0, within, Option.bind_some]
    have q' : decide (1 ≤ kd ∧ kd ≤ 6) = false := decide_eq_false q
    simp only [q', Bool.not_false, ↓reduceIte, Bool.false_eq_true]
    exact bad _ (pk_none _ _ _ _ _ _ _ _ _ q)
theorem spec_words_loop (x : List Int) (hx : x.length ≤ 1048576) (d : Nat) : ∀ (k i : Nat), i + d = x.length → d < k →
    spec_l04Words.l0 k x i = some ((x.drop i).all (fun b => decide (0 ≤ b) && decide (b ≤ 65535))) := by
  induction d with
  | zero =>
    intro k i hi hk
    obtain ⟨k, rfl⟩ : ∃ m, k = m + 1 := ⟨k - 1, by omega⟩
    rw [spec_l04Words.l0, if_neg (by omega), List.drop_of_length_le (by omega)]
    rfl
  | succ d ih =>
    intro k i hi hk
    obtain ⟨k, rfl⟩ : ∃ m, k = m + 1 := ⟨k - 1, by omega⟩
    have h1 : i < x.length := by omega
    rw [spec_l04Words.l0, if_pos (by omega), if_pos (by omega), rd_nat x i h1, inRange, w64 (by omega) (by omega), List.drop_eq_getElem_cons h1, show ((i : Int) + 1) = ((i + 1 : Nat) : Int) by omega, ih k (i + 1) (by omega) (by omega)]
    simp only [Option.bind_some, List.all_cons]
    by_cases e : 0 ≤ x[i] ∧ x[i] ≤ 65535
    · simp [e]
    · rw [show (decide (0 ≤ x[i] ∧ x[i] ≤ 65535)) = false by simpa using e]
      have : (decide (0 ≤ x[i]) && decide (x[i] ≤ 65535)) = false := by rw [← Bool.decide_and]; simpa using e
      rw [this]
      simp
theorem spec_words (x : List Int) (hx : x.length ≤ 1048576) (k : Nat) (hk : x.length < k) : spec_l04Words.f k x = some (wordsOk x) := by
  have := spec_words_loop x hx x.length k 0 (by omega) hk
  simpa [spec_l04Words.f, wordsOk] using this
theorem zero_eq (kd fr too ad ln tg st : Int) (l : List Int) (a b c : Bool) : spec_l04Zero.f kd fr too ad ln tg st l a b c = some ((a || decide (too = 0)) && (b || decide (ln = 0)) && (c || decide (tg = 0))) := by
  unfold spec_l04Zero.f
  by_cases h1 : too = 0 <;> by_cases h2 : ln = 0 <;> by_cases h3 : tg = 0 <;> cases a <;> cases b <;> cases c <;> simp [h1, h2, h3]
theorem spec_packet1 (fr too ad ln tg st : Int) (l : List Int) (hl : l.length ≤ 1048576) (k : Nat) (hk : l.length + 2 < k + 1) : ∃ b, spec_IsPacket.f (k + 1) 1 fr too ad ln tg st l = some b ∧
    (b = true ↔ PkOk 1 fr too ad ln tg st (l.length : Int) (wordsOk l)) := by
  unfold spec_IsPacket.f
  rw [spec_words l hl (k + 1) (by omega), pk1]
  have hn : (l.length : Int) ≤ 1048576 ∧ 0 ≤ (l.length : Int) := by omega
  simp only [spec_IsPacket.j0, spec_IsId.f, inRange, zero_eq, Option.bind_some]
  generalize (l.length : Int) = n at *
  generalize wordsOk l = w at *
  clear hl hk
  by_cases q2 : 0 ≤ fr ∧ fr ≤ 255
  · have p2 : decide (0 ≤ fr ∧ fr ≤ 255) = true := decide_eq_true q2
    simp only [p2, ↓reduceIte, Bool.not_false, Bool.not_true, Bool.false_eq_true, Int.reduceLE, Int.reduceEq, and_false, false_and, and_true, true_and, and_self, decide_false, decide_true, decide_eq_true_eq, Int.reduceNe, bne_self_eq_false]
    cases w with
    | false => exact bad _ (by simp)
    | true =>
      simp only [↓reduceIte, Bool.not_false, Bool.not_true, Bool.false_eq_true, Int.reduceLE, Int.reduceEq, and_false, false_and, and_true, true_and, and_self, decide_false, decide_true, decide_eq_true_eq, Int.reduceNe, bne_self_eq_false]
      by_cases c0 : 1 ≤ n ∧ n ≤ 8
      · rw [if_pos (by simpa using c0)]
        rw [w64 (by omega) (by omega)]
        by_cases c2 : 0 ≤ ad ∧ ad ≤ 65536 - n
        · rw [if_pos (by simpa using c2)]
          by_cases c3 : st = 0
          · rw [if_pos c3]
            refine ⟨_, rfl, ?_⟩
            simp
            omega
          · rw [if_neg c3]
            refine bad _ fun h => ?_
            obtain ⟨_, _, _, h⟩ := h
            omega
        · rw [if_neg (by simpa using c2)]
          refine bad _ fun h => ?_
          obtain ⟨_, _, _, h⟩ := h
          omega
      · rw [if_neg (by simpa using c0)]
        refine bad _ fun h => ?_
        obtain ⟨_, _, _, h⟩ := h
        omega
  · have p2 : decide (0 ≤ fr ∧ fr ≤ 255) = false := decide_eq_false q2
    simp only [p2, ↓reduceIte, Bool.not_false, Bool.not_true, Bool.false_eq_true, Int.reduceLE, Int.reduceEq, and_false, false_and, and_true, true_and, and_self, decide_false, decide_true, decide_eq_true_eq, Int.reduceNe, bne_self_eq_false]
    refine bad _ fun h => ?_
    omega
theorem spec_packet2 (fr too ad ln tg st : Int) (l : List Int) (hl : l.length ≤ 1048576) (k : Nat) (hk : l.length + 2 < k + 1) : ∃ b, spec_IsPacket.f (k + 1) 2 fr too ad ln tg st l = some b ∧
    (b = true ↔ PkOk 2 fr too ad ln tg st (l.length : Int) (wordsOk l)) := by
  unfold spec_IsPacket.f
  rw [spec_words l hl (k + 1) (by omega), pk2]
  have hn : (l.length : Int) ≤ 1048576 ∧ 0 ≤ (l.length : Int) := by omega
  simp only [spec_IsPacket.j0, spec_IsId.f, inRange, zero_eq, Option.bind_some]
  generalize (l.length : Int) = n at *
  generalize wordsOk l = w at *
  clear hl hk
  by_cases q2 : 0 ≤ fr ∧ fr ≤ 255
  · have p2 : decide (0 ≤ fr ∧ fr ≤ 255) = true := decide_eq_true q2
    simp only [p2, ↓reduceIte, Bool.not_false, Bool.not_true, Bool.false_eq_true, Int.reduceLE, Int.reduceEq, and_false, false_and, and_true, true_and, and_self, decide_false, decide_true, decide_eq_true_eq, Int.reduceNe, bne_self_eq_false]
    cases w with
    | false => exact bad _ (by simp)
    | true =>
      simp only [↓reduceIte, Bool.not_false, Bool.not_true, Bool.false_eq_true, Int.reduceLE, Int.reduceEq, and_false, false_and, and_true, true_and, and_self, decide_false, decide_true, decide_eq_true_eq, Int.reduceNe, bne_self_eq_false]
      by_cases c0 : 1 ≤ n ∧ n ≤ 8
      · rw [if_pos (by simpa using c0)]
        by_cases c1 : ad = 0
        · rw [if_pos c1]
          by_cases c2 : st = 0
          · rw [if_pos c2]
            refine ⟨_, rfl, ?_⟩
            simp
            omega
          · rw [if_neg c2]
            refine bad _ fun h => ?_
            obtain ⟨_, _, _, h⟩ := h
            omega
        · rw [if_neg c1]
          refine bad _ fun h => ?_
          obtain ⟨_, _, _, h⟩ := h
          omega
      · rw [if_neg (by simpa using c0)]
        refine bad _ fun h => ?_
        obtain ⟨_, _, _, h⟩ := h
        omega
  · have p2 : decide (0 ≤ fr ∧ fr ≤ 255) = false := decide_eq_false q2
    simp only [p2, ↓reduceIte, Bool.not_false, Bool.not_true, Bool.false_eq_true, Int.reduceLE, Int.reduceEq, and_false, false_and, and_true, true_and, and_self, decide_false, decide_true, decide_eq_true_eq, Int.reduceNe, bne_self_eq_false]
    refine bad _ fun h => ?_
    omega
theorem spec_packet3 (fr too ad ln tg st : Int) (l : List Int) (hl : l.length ≤ 1048576) (k : Nat) (hk : l.length + 2 < k + 1) : ∃ b, spec_IsPacket.f (k + 1) 3 fr too ad ln tg st l = some b ∧
    (b = true ↔ PkOk 3 fr too ad ln tg st (l.length : Int) (wordsOk l)) := by
  unfold spec_IsPacket.f
  rw [spec_words l hl (k + 1) (by omega), pk3]
  have hn : (l.length : Int) ≤ 1048576 ∧ 0 ≤ (l.length : Int) := by omega
  simp only [spec_IsPacket.j0, spec_IsId.f, inRange, zero_eq, Option.bind_some]
  generalize (l.length : Int) = n at *
  generalize wordsOk l = w at *
  clear hl hk
  by_cases q2 : 0 ≤ fr ∧ fr ≤ 255
  · have p2 : decide (0 ≤ fr ∧ fr ≤ 255) = true := decide_eq_true q2
    simp only [p2, ↓reduceIte, Bool.not_false, Bool.not_true, Bool.false_eq_true, Int.reduceLE, Int.reduceEq, and_false, false_and, and_true, true_and, and_self, decide_false, decide_true, decide_eq_true_eq, Int.reduceNe, bne_self_eq_false]
    cases w with
    | false => exact bad _ (by simp)
    | true =>
      simp only [↓reduceIte, Bool.not_false, Bool.not_true, Bool.false_eq_true, Int.reduceLE, Int.reduceEq, and_false, false_and, and_true, true_and, and_self, decide_false, decide_true, decide_eq_true_eq, Int.reduceNe, bne_self_eq_false]
      by_cases c0 : n = 0
      · rw [if_pos c0]
        by_cases c1 : 1 ≤ ln ∧ ln ≤ 64
        · rw [if_pos (by simpa using c1)]
          rw [w64 (by omega) (by omega)]
          by_cases c3 : 0 ≤ ad ∧ ad ≤ 65536 - ln
          · rw [if_pos (by simpa using c3)]
            by_cases c4 : 0 ≤ tg ∧ tg ≤ 7
            · rw [if_pos (by simpa using c4)]
              by_cases c5 : st = 0
              · rw [if_pos c5]
                refine ⟨_, rfl, ?_⟩
                simp
                omega
              · rw [if_neg c5]
                refine bad _ fun h => ?_
                obtain ⟨_, _, _, h⟩ := h
                omega
            · rw [if_neg (by simpa using c4)]
              refine bad _ fun h => ?_
              obtain ⟨_, _, _, h⟩ := h
              omega
          · rw [if_neg (by simpa using c3)]
            refine bad _ fun h => ?_
            obtain ⟨_, _, _, h⟩ := h
            omega
        · rw [if_neg (by simpa using c1)]
          refine bad _ fun h => ?_
          obtain ⟨_, _, _, h⟩ := h
          omega
      · rw [if_neg c0]
        refine bad _ fun h => ?_
        obtain ⟨_, _, _, h⟩ := h
        omega
  · have p2 : decide (0 ≤ fr ∧ fr ≤ 255) = false := decide_eq_false q2
    simp only [p2, ↓reduceIte, Bool.not_false, Bool.not_true, Bool.false_eq_true, Int.reduceLE, Int.reduceEq, and_false, false_and, and_true, true_and, and_self, decide_false, decide_true, decide_eq_true_eq, Int.reduceNe, bne_self_eq_false]
    refine bad _ fun h => ?_
    omega
theorem spec_packet4 (fr too ad ln tg st : Int) (l : List Int) (hl : l.length ≤ 1048576) (k : Nat) (hk : l.length + 2 < k + 1) : ∃ b, spec_IsPacket.f (k + 1) 4 fr too ad ln tg st l = some b ∧
    (b = true ↔ PkOk 4 fr too ad ln tg st (l.length : Int) (wordsOk l)) := by
  unfold spec_IsPacket.f
  rw [spec_words l hl (k + 1) (by omega), pk4]
  have hn : (l.length : Int) ≤ 1048576 ∧ 0 ≤ (l.length : Int) := by omega
  simp only [spec_IsPacket.j0, spec_IsId.f, inRange, zero_eq, Option.bind_some]
  generalize (l.length : Int) = n at *
  generalize wordsOk l = w at *
  clear hl hk
  by_cases q2 : 0 ≤ fr ∧ fr ≤ 255
  · have p2 : decide (0 ≤ fr ∧ fr ≤ 255) = true := decide_eq_true q2
    simp only [p2, ↓reduceIte, Bool.not_false, Bool.not_true, Bool.false_eq_true, Int.reduceLE, Int.reduceEq, and_false, false_and, and_true, true_and, and_self, decide_false, decide_true, decide_eq_true_eq, Int.reduceNe, bne_self_eq_false]
    cases w with
    | false => exact bad _ (by simp)
    | true =>
      simp only [↓reduceIte, Bool.not_false, Bool.not_true, Bool.false_eq_true, Int.reduceLE, Int.reduceEq, and_false, false_and, and_true, true_and, and_self, decide_false, decide_true, decide_eq_true_eq, Int.reduceNe, bne_self_eq_false]
      by_cases c0 : n = 0
      · rw [if_pos c0]
        by_cases c1 : 0 ≤ ad ∧ ad ≤ 63
        · rw [if_pos (by simpa using c1)]
          by_cases c2 : 0 ≤ too ∧ too ≤ 255
          · rw [if_pos (by simpa using c2)]
            by_cases c3 : 0 ≤ tg ∧ tg ≤ 7
            · rw [if_pos (by simpa using c3)]
              by_cases c4 : st = 0
              · rw [if_pos c4]
                refine ⟨_, rfl, ?_⟩
                simp
                omega
              · rw [if_neg c4]
                refine bad _ fun h => ?_
                obtain ⟨_, _, _, h⟩ := h
                omega
            · rw [if_neg (by simpa using c3)]
              refine bad _ fun h => ?_
              obtain ⟨_, _, _, h⟩ := h
              omega
          · rw [if_neg (by simpa using c2)]
            refine bad _ fun h => ?_
            obtain ⟨_, _, _, h⟩ := h
            omega
        · rw [if_neg (by simpa using c1)]
          refine bad _ fun h => ?_
          obtain ⟨_, _, _, h⟩ := h
          omega
      · rw [if_neg c0]
        refine bad _ fun h => ?_
        obtain ⟨_, _, _, h⟩ := h
        omega
  · have p2 : decide (0 ≤ fr ∧ fr ≤ 255) = false := decide_eq_false q2
    simp only [p2, ↓reduceIte, Bool.not_false, Bool.not_true, Bool.false_eq_true, Int.reduceLE, Int.reduceEq, and_false, false_and, and_true, true_and, and_self, decide_false, decide_true, decide_eq_true_eq, Int.reduceNe, bne_self_eq_false]
    refine bad _ fun h => ?_
    omega
theorem spec_packet5 (fr too ad ln tg st : Int) (l : List Int) (hl : l.length ≤ 1048576) (k : Nat) (hk : l.length + 2 < k + 1) : ∃ b, spec_IsPacket.f (k + 1) 5 fr too ad ln tg st l = some b ∧
    (b = true ↔ PkOk 5 fr too ad ln tg st (l.length : Int) (wordsOk l)) := by
  unfold spec_IsPacket.f
  rw [spec_words l hl (k + 1) (by omega), pk5]
  have hn : (l.length : Int) ≤ 1048576 ∧ 0 ≤ (l.length : Int) := by omega
  simp only [spec_IsPacket.j0, spec_IsId.f, inRange, zero_eq, Option.bind_some]
  generalize (l.length : Int) = n at *
  generalize wordsOk l = w at *
  clear hl hk
  by_cases q2 : 0 ≤ fr ∧ fr ≤ 255
  · have p2 : decide (0 ≤ fr ∧ fr ≤ 255) = true := decide_eq_true q2
    simp only [p2, ↓reduceIte, Bool.not_false, Bool.not_true, Bool.false_eq_true, Int.reduceLE, Int.reduceEq, and_false, false_and, and_true, true_and, and_self, decide_false, decide_true, decide_eq_true_eq, Int.reduceNe, bne_self_eq_false]
    cases w with
    | false => exact bad _ (by simp)
    | true =>
      simp only [↓reduceIte, Bool.not_false, Bool.not_true, Bool.false_eq_true, Int.reduceLE, Int.reduceEq, and_false, false_and, and_true, true_and, and_self, decide_false, decide_true, decide_eq_true_eq, Int.reduceNe, bne_self_eq_false]
      by_cases c0 : n = 1
      · rw [if_pos c0]
        by_cases c1 : 0 ≤ ad ∧ ad ≤ 63
        · rw [if_pos (by simpa using c1)]
          by_cases c2 : 0 ≤ too ∧ too ≤ 255
          · rw [if_pos (by simpa using c2)]
            by_cases c3 : 0 ≤ tg ∧ tg ≤ 7
            · rw [if_pos (by simpa using c3)]
              by_cases c4 : st = 0
              · rw [if_pos c4]
                refine ⟨_, rfl, ?_⟩
                simp
                omega
              · rw [if_neg c4]
                refine bad _ fun h => ?_
                obtain ⟨_, _, _, h⟩ := h
                omega
            · rw [if_neg (by simpa using c3)]
              refine bad _ fun h => ?_
              obtain ⟨_, _, _, h⟩ := h
              omega
          · rw [if_neg (by simpa using c2)]
            refine bad _ fun h => ?_
            obtain ⟨_, _, _, h⟩ := h
            omega
        · rw [if_neg (by simpa using c1)]
          refine bad _ fun h => ?_
          obtain ⟨_, _, _, h⟩ := h
          omega
      · rw [if_neg c0]
        refine bad _ fun h => ?_
        obtain ⟨_, _, _, h⟩ := h
        omega
  · have p2 : decide (0 ≤ fr ∧ fr ≤ 255) = false := decide_eq_false q2
    simp only [p2, ↓reduceIte, Bool.not_false, Bool.not_true, Bool.false_eq_true, Int.reduceLE, Int.reduceEq, and_false, false_and, and_true, true_and, and_self, decide_false, decide_true, decide_eq_true_eq, Int.reduceNe, bne_self_eq_false]
    refine bad _ fun h => ?_
    omega
theorem spec_packet6 (fr too ad ln tg st : Int) (l : List Int) (hl : l.length ≤ 1048576) (k : Nat) (hk : l.length + 2 < k + 1) : ∃ b, spec_IsPacket.f (k + 1) 6 fr too ad ln tg st l = some b ∧
    (b = true ↔ PkOk 6 fr too ad ln tg st (l.length : Int) (wordsOk l)) := by
  unfold spec_IsPacket.f
  rw [spec_words l hl (k + 1) (by omega), pk6]
  have hn : (l.length : Int) ≤ 1048576 ∧ 0 ≤ (l.length : Int) := by omega
  simp only [spec_IsPacket.j0, spec_IsId.f, inRange, zero_eq, Option.bind_some]
  generalize (l.length : Int) = n at *
  generalize wordsOk l = w at *
  clear hl hk
  by_cases q2 : 0 ≤ fr ∧ fr ≤ 255
  · have p2 : decide (0 ≤ fr ∧ fr ≤ 255) = true := decide_eq_true q2
    simp only [p2, ↓reduceIte, Bool.not_false, Bool.not_true, Bool.false_eq_true, Int.reduceLE, Int.reduceEq, and_false, false_and, and_true, true_and, and_self, decide_false, decide_true, decide_eq_true_eq, Int.reduceNe, bne_self_eq_false]
    cases w with
    | false => exact bad _ (by simp)
    | true =>
      simp only [↓reduceIte, Bool.not_false, Bool.not_true, Bool.false_eq_true, Int.reduceLE, Int.reduceEq, and_false, false_and, and_true, true_and, and_self, decide_false, decide_true, decide_eq_true_eq, Int.reduceNe, bne_self_eq_false]
      by_cases c0 : ad = 0
      · rw [if_pos c0]
        by_cases c1 : 0 ≤ too ∧ too ≤ 255
        · rw [if_pos (by simpa using c1)]
          by_cases c2 : 0 ≤ tg ∧ tg ≤ 7
          · rw [if_pos (by simpa using c2)]
            by_cases c3 : 0 ≤ st ∧ st ≤ 2
            · rw [if_pos (by simpa using c3)]
              by_cases c4 : 0 ≤ ln ∧ ln ≤ 64
              · rw [if_pos (by simpa using c4)]
                by_cases c7 : n = 0
                · rw [if_pos c7]
                  refine ⟨_, rfl, ?_⟩
                  simp
                  omega
                · by_cases c8 : st = 0
                  · rw [if_neg c7, if_pos c8]
                    refine ⟨_, rfl, ?_⟩
                    have hm : n ≤ mn 8 ln ↔ n ≤ 8 ∧ n ≤ ln := by
                      unfold mn
                      split <;> omega
                    rw [decide_eq_true_iff, hm]
                    omega
                  · rw [if_neg c7, if_neg c8]
                    refine bad _ fun h => ?_
                    obtain ⟨_, _, _, h⟩ := h
                    omega
              · rw [if_neg (by simpa using c4)]
                refine bad _ fun h => ?_
                obtain ⟨_, _, _, h⟩ := h
                omega
            · rw [if_neg (by simpa using c3)]
              refine bad _ fun h => ?_
              obtain ⟨_, _, _, h⟩ := h
              omega
          · rw [if_neg (by simpa using c2)]
            refine bad _ fun h => ?_
            obtain ⟨_, _, _, h⟩ := h
            omega
        · rw [if_neg (by simpa using c1)]
          refine bad _ fun h => ?_
          obtain ⟨_, _, _, h⟩ := h
          omega
      · rw [if_neg c0]
        refine bad _ fun h => ?_
        obtain ⟨_, _, _, h⟩ := h
        omega
  · have p2 : decide (0 ≤ fr ∧ fr ≤ 255) = false := decide_eq_false q2
    simp only [p2, ↓reduceIte, Bool.not_false, Bool.not_true, Bool.false_eq_true, Int.reduceLE, Int.reduceEq, and_false, false_and, and_true, true_and, and_self, decide_false, decide_true, decide_eq_true_eq, Int.reduceNe, bne_self_eq_false]
    refine bad _ fun h => ?_
    omega
theorem spec_packet (kd fr too ad ln tg st : Int) (l : List Int) (hl : l.length ≤ 1048576) (k : Nat) (hk : l.length + 2 < k) : ∃ b, spec_IsPacket.f k kd fr too ad ln tg st l = some b ∧
    (b = true ↔ PkOk kd fr too ad ln tg st (l.length : Int) (wordsOk l)) := by
  obtain ⟨k, rfl⟩ : ∃ m, k = m + 1 := ⟨k - 1, by omega⟩
  by_cases q : 1 ≤ kd ∧ kd ≤ 6
  · have : kd = 1 ∨ kd = 2 ∨ kd = 3 ∨ kd = 4 ∨ kd = 5 ∨ kd = 6 := by omega
    rcases this with rfl | rfl | rfl | rfl | rfl | rfl
    · exact spec_packet1 fr too ad ln tg st l hl k hk
    · exact spec_packet2 fr too ad ln tg st l hl k hk
    · exact spec_packet3 fr too ad ln tg st l hl k hk
    · exact spec_packet4 fr too ad ln tg st l hl k hk
    · exact spec_packet5 fr too ad ln tg st l hl k hk
    · exact spec_packet6 fr too ad ln tg st l hl k hk
  · unfold spec_IsPacket.f
    rw [spec_words l hl (k + 1) (by omega)]
    simp only [spec_IsPacket.j0, spec_IsId.f, inRange, zero_eq, Option.bind_some]
    have hb := pk_none kd fr too ad ln tg st (l.length : Int) (wordsOk l) q
    rw [if_neg (show ¬ kd = 1 by omega), if_neg (show ¬ kd = 2 by omega), if_neg (show ¬ kd = 3 by omega), if_neg (show ¬ kd = 4 by omega), if_neg (show ¬ kd = 5 by omega), if_neg (show ¬ kd = 6 by omega)]
    generalize wordsOk l = w at *
    have hb' := bad _ hb
    by_cases q2 : 0 ≤ fr ∧ fr ≤ 255 <;> cases w <;> simpa [q2] using hb
theorem intB {n : Int} (h : (Lit.int .i64 n).wf = true) : -9223372036854775808 ≤ n ∧ n ≤ 9223372036854775807 := by
  simp [Lit.wf, IntKind.min, IntKind.max, IntKind.signed, IntKind.bits] at h
  omega
theorem eqB {a b : Bool} {P : Prop} (h1 : a = true ↔ P) (h2 : b = true ↔ P) : a = b := by
  have h : a = true ↔ b = true := h1.trans h2.symm
  cases a <;> cases b <;> simp_all
theorem eqPacket_self (a0 a1 a2 a3 a4 a5 a6 : Int) (l : List Int) (hl : l.length ≤ 1048576) (k : Nat) (hk : l.length < k) : laws_eqPacket.f k a0 a1 a2 a3 a4 a5 a6 l a0 a1 a2 a3 a4 a5 a6 l = some true := by
  unfold laws_eqPacket.f
  rw [if_pos rfl, if_pos rfl, if_pos rfl, if_pos rfl, if_pos rfl, if_pos rfl, if_pos rfl, eqIntS_self l hl k hk]
  rfl
theorem pk_len {kd fr too ad ln tg st n : Int} {w : Bool} (h : PkOk kd fr too ad ln tg st n w) : n ≤ 8 := by
  obtain ⟨_, _, _, h⟩ := h
  rcases h with h | h | h | h | h | h
  · omega
  · omega
  · omega
  · omega
  · omega
  · obtain ⟨_, _, _, _, _, _, _, _, _, _, h⟩ := h
    omega
/-- The words, two bytes each. -/
def enc (l : List Int) : List Int := l.flatMap fun x => [wrap64 (Int.tdiv x 256), Int.tmod x 256]
theorem enc_cons (x : Int) (l : List Int) : enc (x :: l) = [wrap64 (Int.tdiv x 256), Int.tmod x 256] ++ enc l := by simp [enc]
theorem enc_length (l : List Int) : (enc l).length = 2 * l.length := by
  induction l with
  | nil => rfl
  | cons x l ih => rw [enc_cons, List.length_append, ih]; simp; omega
theorem impl_enc_loop (x : List Int) (hx : x.length ≤ 1048576) (d : Nat) : ∀ (k i : Nat) (acc : List Int), i + d = x.length → d < k → acc.length + 2 * d ≤ 17592186044414 →
    impl_EncodePacket.l0 k acc x (x.length : Int) i = some (acc ++ enc (x.drop i)) := by
  induction d with
  | zero =>
    intro k i acc hi hk _
    obtain ⟨k, rfl⟩ : ∃ m, k = m + 1 := ⟨k - 1, by omega⟩
    simp only [impl_EncodePacket.l0]
    rw [if_neg (by omega), List.drop_of_length_le (by omega)]
    simp [enc]
  | succ d ih =>
    intro k i acc hi hk ha
    obtain ⟨k, rfl⟩ : ∃ m, k = m + 1 := ⟨k - 1, by omega⟩
    have h1 : i < x.length := by omega
    simp only [impl_EncodePacket.l0]
    rw [if_pos (by omega), if_pos (by omega), if_pos (by omega), rd_nat x i h1, w64 (n := (i : Int) + 1) (by omega) (by omega), List.drop_eq_getElem_cons h1, enc_cons, Option.bind_some]
    rw [if_pos (by simp only [List.length_cons, List.length_nil]; omega), show ((i : Int) + 1) = ((i + 1 : Nat) : Int) by omega, ih k (i + 1) _ (by omega) (by omega) (by rw [List.length_append]; simp only [List.length_cons, List.length_nil]; omega), List.append_assoc]
/-- What both encodings answer: at a packet that is none, nothing. -/
def coded (kd fr too ad ln tg st : Int) (l : List Int) : List Int := [kd, fr, too, wrap64 (Int.tdiv ad 256), Int.tmod ad 256, ln, wrap64 (wrap64 (tg * 16) + st), (l.length : Int)] ++ enc l
theorem impl_encode (kd fr too ad ln tg st : Int) (l : List Int) (hl : l.length ≤ 1048576) (k : Nat) (hk : l.length + 2 < k) (b : Bool) (hb : impl_IsPacket.f k kd fr too ad ln tg st l = some b) :
    impl_EncodePacket.f k kd fr too ad ln tg st l = some (if b = true then coded kd fr too ad ln tg st l else []) := by
  unfold impl_EncodePacket.f
  rw [hb, Option.bind_some]
  cases b with
  | false => rfl
  | true =>
    have h := impl_enc_loop l hl l.length k 0 [kd, fr, too, wrap64 (Int.tdiv ad 256), Int.tmod ad 256, ln, wrap64 (wrap64 (tg * 16) + st), (l.length : Int)] (by omega) (by omega) (by simp only [List.length_cons, List.length_nil]; omega)
    rw [if_pos rfl, if_pos rfl]
    exact h
theorem coded_length (kd fr too ad ln tg st : Int) (l : List Int) (b : Bool) : (if b = true then coded kd fr too ad ln tg st l else []).length ≤ 8 + 2 * l.length := by
  cases b with
  | false => simp
  | true => simp [coded, enc_length]; omega
/-- The words behind the head: two bytes each; a last odd one is left out. -/
def dec : List Int → List Int
  | a :: b :: t => wrap64 (wrap64 (a * 256) + b) :: dec t
  | _ => []
theorem dec_length (t : List Int) : (dec t).length = t.length / 2 := by
  fun_induction dec t with
  | case1 a b t ih => simp only [List.length_cons, ih]; omega
  | case2 t h =>
    match t, h with
    | [], _ => rfl
    | [a], _ => simp
    | a :: b :: t, h => exact absurd rfl (h a b t)
theorem enc_dec (t : List Int) (hb : ∀ x ∈ t, 0 ≤ x ∧ x ≤ 255) (he : t.length % 2 = 0) : enc (dec t) = t := by
  fun_induction dec t with
  | case1 a b t ih =>
    have h1 := hb a (by simp)
    have h2 := hb b (by simp)
    have e1 : wrap64 (wrap64 (a * 256) + b) = a * 256 + b := by rw [w64 (n := a * 256) (by omega) (by omega), w64 (by omega) (by omega)]
    have e2 : Int.tdiv (a * 256 + b) 256 = a := by rw [Int.tdiv_eq_ediv_of_nonneg (by omega)]; omega
    have e3 : Int.tmod (a * 256 + b) 256 = b := by rw [Int.tmod_eq_emod_of_nonneg (by omega)]; omega
    rw [enc_cons, ih (fun x hx => hb x (by simp [hx])) (by simp only [List.length_cons] at he; omega), e1, e2, e3, w64 (by omega) (by omega)]
    rfl
  | case2 t h =>
    match t, h with
    | [], _ => rfl
    | [a], _ => simp at he
    | a :: b :: t, h => exact absurd rfl (h a b t)
/-- What is answered where there is no packet. -/
abbrev noPk : Int × Int × Int × Int × Int × Int × Int × List Int × Bool := (0, 0, 0, 0, 0, 0, 0, ([] : List Int), false)
theorem drop2 (x : List Int) (i : Nat) (h : i + 1 < x.length) : x.drop i = x[i]'(by omega) :: x[i + 1] :: x.drop (i + 2) := by
  rw [List.drop_eq_getElem_cons (show i < x.length by omega), List.drop_eq_getElem_cons (show i + 1 < x.length by omega)]
theorem rd_nat1 (x : List Int) (hx : x.length ≤ 1048576) (i : Nat) (h : i + 1 < x.length) : rd x (wrap64 ((i : Int) + 1)) = x[i + 1] := by
  rw [w64 (by omega) (by omega), show ((i : Int) + 1) = ((i + 1 : Nat) : Int) by omega, rd_nat x (i + 1) h]
theorem impl_dec_loop (x : List Int) (hx : x.length ≤ 1048576) (h0 h1 h2 h3 h4 h5 h6 : Int) (d : Nat) : ∀ (k i : Nat) (acc : List Int), i + 2 * d ≤ x.length → x.length < i + 2 * d + 2 → d < k → acc.length + d ≤ 1048576 →
    impl_DecodePacket.l0 k x i h0 h1 h2 h3 h4 h5 h6 acc = (impl_IsPacket.f (k - d - 1) h0 h1 h2 h3 h4 h5 h6 (acc ++ dec (x.drop i))).bind fun t => (if t = true then ((impl_EncodePacket.f (k - d - 1) h0 h1 h2 h3 h4 h5 h6 (acc ++ dec (x.drop i))).bind fun u => ((slices_Equal_int_int.f (k - d - 1) u x).bind fun v => (if v = true then (some (h0, h1, h2, h3, h4, h5, h6, acc ++ dec (x.drop i), true)) else (some noPk)))) else (some noPk)) := by
  induction d with
  | zero =>
    intro k i acc hi hi2 hk _
    obtain ⟨k, rfl⟩ : ∃ m, k = m + 1 := ⟨k - 1, by omega⟩
    have hd : dec (x.drop i) = [] := List.eq_nil_of_length_eq_zero (by rw [dec_length, List.length_drop]; omega)
    simp only [impl_DecodePacket.l0]
    rw [if_neg (by rw [w64 (by omega) (by omega)]; omega), hd, List.append_nil]
    rfl
  | succ d ih =>
    intro k i acc hi hi2 hk ha
    obtain ⟨k, rfl⟩ : ∃ m, k = m + 1 := ⟨k - 1, by omega⟩
    have hlt : i + 1 < x.length := by omega
    simp only [impl_DecodePacket.l0]
    have hw : wrap64 ((i : Int) + 1) = ((i + 1 : Nat) : Int) := by rw [w64 (by omega) (by omega)]; omega
    rw [rd_nat1 x hx i hlt, rd_nat x i (by omega), hw, if_pos (by omega), if_pos (by omega), if_pos (by omega), if_pos (by omega), if_pos (by omega), w64 (n := (i : Int) + 2) (by omega) (by omega), show ((i : Int) + 2) = ((i + 2 : Nat) : Int) by omega, ih k (i + 2) _ (by omega) (by omega) (by omega) (by rw [List.length_append]; simp only [List.length_cons, List.length_nil]; omega)]
    rw [drop2 x i hlt]
    simp only [dec, List.append_assoc, List.singleton_append]
    rw [show k + 1 - (d + 1) - 1 = k - d - 1 by omega]
theorem spec_dec_loop (x : List Int) (hx : x.length ≤ 1048576) (h0 h1 h2 h3 h4 h5 h6 : Int) (d : Nat) : ∀ (k i : Nat) (acc : List Int), i + 2 * d = x.length → d < k → acc.length + d ≤ 1048576 →
    spec_DecodePacket.l0 k x i h0 h1 h2 h3 h4 h5 h6 acc = (spec_IsPacket.f (k - d - 1) h0 h1 h2 h3 h4 h5 h6 (acc ++ dec (x.drop i))).bind fun t => (if t = true then (some (h0, h1, h2, h3, h4, h5, h6, acc ++ dec (x.drop i), true)) else (some noPk)) := by
  induction d with
  | zero =>
    intro k i acc hi hk _
    obtain ⟨k, rfl⟩ : ∃ m, k = m + 1 := ⟨k - 1, by omega⟩
    have hd : dec (x.drop i) = [] := List.eq_nil_of_length_eq_zero (by rw [dec_length, List.length_drop]; omega)
    simp only [spec_DecodePacket.l0]
    rw [if_neg (by omega), hd, List.append_nil]
    rfl
  | succ d ih =>
    intro k i acc hi hk ha
    obtain ⟨k, rfl⟩ : ∃ m, k = m + 1 := ⟨k - 1, by omega⟩
    have hlt : i + 1 < x.length := by omega
    simp only [spec_DecodePacket.l0]
    have hw : wrap64 ((i : Int) + 1) = ((i + 1 : Nat) : Int) := by rw [w64 (by omega) (by omega)]; omega
    rw [rd_nat1 x hx i hlt, rd_nat x i (by omega), hw, if_pos (by omega), if_pos (by omega), if_pos (by omega), if_pos (by omega), if_pos (by omega), w64 (n := (i : Int) + 2) (by omega) (by omega), show ((i : Int) + 2) = ((i + 2 : Nat) : Int) by omega, ih k (i + 2) _ (by omega) (by omega) (by rw [List.length_append]; simp only [List.length_cons, List.length_nil]; omega)]
    rw [drop2 x i hlt]
    simp only [dec, List.append_assoc, List.singleton_append]
    rw [show k + 1 - (d + 1) - 1 = k - d - 1 by omega]
theorem good (x0 x1 x2 x3 x4 x5 x6 x7 : Int) (t : List Int) (hb : ∀ b ∈ x0 :: x1 :: x2 :: x3 :: x4 :: x5 :: x6 :: x7 :: t, 0 ≤ b ∧ b ≤ 255) (hl : t.length ≤ 40) :
    coded x0 x1 x2 (wrap64 (wrap64 (x3 * 256) + x4)) x5 (wrap64 (Int.tdiv x6 16)) (Int.tmod x6 16) (dec t) = x0 :: x1 :: x2 :: x3 :: x4 :: x5 :: x6 :: x7 :: t ↔ (t.length : Int) = 2 * x7 := by
  have h3 := hb x3 (by simp)
  have h4 := hb x4 (by simp)
  have h6 := hb x6 (by simp)
  have h7 := hb x7 (by simp)
  have e1 : wrap64 (wrap64 (x3 * 256) + x4) = x3 * 256 + x4 := by rw [w64 (n := x3 * 256) (by omega) (by omega), w64 (by omega) (by omega)]
  have e2 : wrap64 (Int.tdiv (x3 * 256 + x4) 256) = x3 := by rw [Int.tdiv_eq_ediv_of_nonneg (by omega), w64 (by omega) (by omega)]; omega
  have e3 : Int.tmod (x3 * 256 + x4) 256 = x4 := by rw [Int.tmod_eq_emod_of_nonneg (by omega)]; omega
  have e4 : Int.tdiv x6 16 = x6 / 16 := Int.tdiv_eq_ediv_of_nonneg (by omega)
  have e5 : Int.tmod x6 16 = x6 % 16 := Int.tmod_eq_emod_of_nonneg (by omega)
  have e6 : wrap64 (wrap64 (wrap64 (Int.tdiv x6 16) * 16) + Int.tmod x6 16) = x6 := by
    rw [e4, e5, w64 (n := x6 / 16) (by omega) (by omega), w64 (n := x6 / 16 * 16) (by omega) (by omega), w64 (by omega) (by omega)]
    omega
  unfold coded
  rw [e1, e2, e3, e6, dec_length]
  simp only [List.cons_append, List.nil_append, List.cons.injEq, true_and]
  constructor
  · intro ⟨h, he⟩
    have hL : (enc (dec t)).length = t.length := by rw [he]
    rw [enc_length, dec_length] at hL
    omega
  · intro h
    refine ⟨by omega, ?_⟩
    exact enc_dec t (fun x hx => hb x (by simp [hx])) (by omega)
theorem core (l : List Int) (hl : l.length ≤ 1048576) : ∃ V : Int × Int × Int × Int × Int × Int × Int × List Int × Bool, V.2.2.2.2.2.2.2.1.length ≤ 100 ∧ ∀ k, l.length + 100 < k → spec_DecodePacket.f k l = some V ∧ impl_DecodePacket.f k l = some V := by
  by_cases hA : okB l = true
  · obtain ⟨h40, hb⟩ := (okB_iff l).mp hA
    by_cases h8 : l.length < 8
    · refine ⟨noPk, by simp [noPk], ?_⟩
      intro k hk
      obtain ⟨k, rfl⟩ : ∃ m, k = m + 1 := ⟨k - 1, by omega⟩
      unfold spec_DecodePacket.f impl_DecodePacket.f
      rw [spec_bytes l hl _ (by omega), Option.bind_some, if_pos hA, if_pos (by omega), if_pos (by omega)]
      simp only [spec_DecodePacket.j0, impl_DecodePacket.j0, if_true]
      exact ⟨trivial, trivial⟩
    · match l, h8 with
      | x0 :: x1 :: x2 :: x3 :: x4 :: x5 :: x6 :: x7 :: t, _ =>
        have hlen : (x0 :: x1 :: x2 :: x3 :: x4 :: x5 :: x6 :: x7 :: t).length = t.length + 8 := rfl
        have hg := good x0 x1 x2 x3 x4 x5 x6 x7 t hb (by omega)
        have hd : dec ((x0 :: x1 :: x2 :: x3 :: x4 :: x5 :: x6 :: x7 :: t).drop 8) = dec t := rfl
        have hdl := dec_length t
        have hx5 := hb x5 (by simp)
        have hx7 := hb x7 (by simp)
        have r0 : rd (x0 :: x1 :: x2 :: x3 :: x4 :: x5 :: x6 :: x7 :: t) 0 = x0 := rfl
        have r1 : rd (x0 :: x1 :: x2 :: x3 :: x4 :: x5 :: x6 :: x7 :: t) 1 = x1 := rfl
        have r2 : rd (x0 :: x1 :: x2 :: x3 :: x4 :: x5 :: x6 :: x7 :: t) 2 = x2 := rfl
        have r3 : rd (x0 :: x1 :: x2 :: x3 :: x4 :: x5 :: x6 :: x7 :: t) 3 = x3 := rfl
        have r4 : rd (x0 :: x1 :: x2 :: x3 :: x4 :: x5 :: x6 :: x7 :: t) 4 = x4 := rfl
        have r5 : rd (x0 :: x1 :: x2 :: x3 :: x4 :: x5 :: x6 :: x7 :: t) 5 = x5 := rfl
        have r6 : rd (x0 :: x1 :: x2 :: x3 :: x4 :: x5 :: x6 :: x7 :: t) 6 = x6 := rfl
        have r7 : rd (x0 :: x1 :: x2 :: x3 :: x4 :: x5 :: x6 :: x7 :: t) 7 = x7 := rfl
        generalize (x0 :: x1 :: x2 :: x3 :: x4 :: x5 :: x6 :: x7 :: t) = l at *
        generalize hW : dec t = W at *
        generalize hp3 : wrap64 (wrap64 (x3 * 256) + x4) = p3 at *
        generalize hp5 : wrap64 (Int.tdiv x6 16) = p5 at *
        generalize hp6 : Int.tmod x6 16 = p6 at *
        by_cases hP : PkOk x0 x1 x2 p3 x5 p5 p6 (W.length : Int) (wordsOk W) ∧ (t.length : Int) = 2 * x7
        · refine ⟨(x0, x1, x2, p3, x5, p5, p6, W, true), by simp only; omega, ?_⟩
          intro k hk
          obtain ⟨k, rfl⟩ : ∃ m, k = m + 1 := ⟨k - 1, by omega⟩
          constructor
          · obtain ⟨b, s1, s2⟩ := spec_packet x0 x1 x2 p3 x5 p5 p6 W (by omega) (k - t.length / 2 - 1) (by omega)
            have hlp := spec_dec_loop l hl x0 x1 x2 p3 x5 p5 p6 (t.length / 2) k 8 [] (by omega) (by omega) (by simp; omega)
            rw [List.nil_append, hd, s1, s2.mpr hP.1, Option.bind_some, if_pos rfl] at hlp
            unfold spec_DecodePacket.f
            rw [spec_bytes l hl _ (by omega), Option.bind_some, if_pos hA, if_neg (by omega), if_pos (by omega), r7, w64 (n := 2 * x7) (by omega) (by omega), w64 (by omega) (by omega)]
            rw [show ((l.length : Int) != 8 + 2 * x7) = false by simp; omega]
            simp only [spec_DecodePacket.j0]
            rw [if_neg (by decide), if_pos (by omega), if_pos (by omega), if_pos (by omega), if_pos (by omega), if_pos (by omega), if_pos (by omega), if_pos (by omega), r0, r1, r2, r3, r4, r5, r6, hp3, hp5, hp6]
            exact hlp
          · obtain ⟨b, s1, s2⟩ := impl_packet x0 x1 x2 p3 x5 p5 p6 W (by omega) (by omega) (k - t.length / 2 - 1) (by omega)
            have he := impl_encode x0 x1 x2 p3 x5 p5 p6 W (by omega) (k - t.length / 2 - 1) (by omega) b s1
            have hlp := impl_dec_loop l hl x0 x1 x2 p3 x5 p5 p6 (t.length / 2) k 8 [] (by omega) (by omega) (by omega) (by simp; omega)
            rw [List.nil_append, hd, he, s1, s2.mpr hP.1, Option.bind_some, if_pos rfl, if_pos rfl, Option.bind_some, hg.mpr hP.2, equal l l hl _ (by omega), Option.bind_some, if_pos (by simp)] at hlp
            unfold impl_DecodePacket.f
            rw [impl_bytes, Option.bind_some, hA, if_neg (by omega)]
            simp only [impl_DecodePacket.j0]
            rw [if_neg (by decide), if_pos (by omega), if_pos (by omega), if_pos (by omega), if_pos (by omega), if_pos (by omega), if_pos (by omega), if_pos (by omega), r0, r1, r2, r3, r4, r5, r6, hp3, hp5, hp6]
            exact hlp
        · refine ⟨noPk, by simp [noPk], ?_⟩
          intro k hk
          obtain ⟨k, rfl⟩ : ∃ m, k = m + 1 := ⟨k - 1, by omega⟩
          constructor
          · unfold spec_DecodePacket.f
            rw [spec_bytes l hl _ (by omega), Option.bind_some, if_pos hA, if_neg (by omega), if_pos (by omega), r7, w64 (n := 2 * x7) (by omega) (by omega), w64 (by omega) (by omega)]
            by_cases hn : (t.length : Int) = 2 * x7
            · obtain ⟨b, s1, s2⟩ := spec_packet x0 x1 x2 p3 x5 p5 p6 W (by omega) (k - t.length / 2 - 1) (by omega)
              have hlp := spec_dec_loop l hl x0 x1 x2 p3 x5 p5 p6 (t.length / 2) k 8 [] (by omega) (by omega) (by simp; omega)
              have hbf : b = false := by
                cases b with
                | false => rfl
                | true => exact absurd ⟨s2.mp rfl, hn⟩ hP
              rw [List.nil_append, hd, s1, hbf, Option.bind_some, if_neg (by decide)] at hlp
              rw [show ((l.length : Int) != 8 + 2 * x7) = false by simp; omega]
              simp only [spec_DecodePacket.j0]
              rw [if_neg (by decide), if_pos (by omega), if_pos (by omega), if_pos (by omega), if_pos (by omega), if_pos (by omega), if_pos (by omega), if_pos (by omega), r0, r1, r2, r3, r4, r5, r6, hp3, hp5, hp6]
              exact hlp
            · rw [show ((l.length : Int) != 8 + 2 * x7) = true by simp; omega]
              simp only [spec_DecodePacket.j0, if_true]
          · obtain ⟨b, s1, s2⟩ := impl_packet x0 x1 x2 p3 x5 p5 p6 W (by omega) (by omega) (k - t.length / 2 - 1) (by omega)
            have he := impl_encode x0 x1 x2 p3 x5 p5 p6 W (by omega) (k - t.length / 2 - 1) (by omega) b s1
            have hlp := impl_dec_loop l hl x0 x1 x2 p3 x5 p5 p6 (t.length / 2) k 8 [] (by omega) (by omega) (by omega) (by simp; omega)
            unfold impl_DecodePacket.f
            rw [impl_bytes, Option.bind_some, hA, if_neg (by omega)]
            simp only [impl_DecodePacket.j0]
            rw [if_neg (by decide), if_pos (by omega), if_pos (by omega), if_pos (by omega), if_pos (by omega), if_pos (by omega), if_pos (by omega), if_pos (by omega), r0, r1, r2, r3, r4, r5, r6, hp3, hp5, hp6]
            refine hlp.trans ?_
            rw [List.nil_append, hd, he, s1, Option.bind_some]
            cases b with
            | false => rfl
            | true =>
              have hn : ¬ (t.length : Int) = 2 * x7 := fun h => hP ⟨s2.mp rfl, h⟩
              have hcl := coded_length x0 x1 x2 p3 x5 p5 p6 W true
              rw [if_pos rfl] at hcl
              rw [if_pos rfl, if_pos rfl, Option.bind_some, equal _ l (by omega) _ (by omega), Option.bind_some, if_neg (by simpa using fun h => hn (hg.mp h))]
      | [], h => simp at h
      | [_], h => simp at h
      | [_, _], h => simp at h
      | [_, _, _], h => simp at h
      | [_, _, _, _], h => simp at h
      | [_, _, _, _, _], h => simp at h
      | [_, _, _, _, _, _], h => simp at h
      | [_, _, _, _, _, _, _], h => simp at h
  · refine ⟨noPk, by simp [noPk], ?_⟩
    intro k hk
    obtain ⟨k, rfl⟩ : ∃ m, k = m + 1 := ⟨k - 1, by omega⟩
    have hA' : okB l = false := by simpa using hA
    unfold spec_DecodePacket.f impl_DecodePacket.f
    rw [spec_bytes l hl _ (by omega), impl_bytes, hA']
    simp only [Option.bind_some, Bool.false_eq_true, if_false, Bool.not_false, spec_DecodePacket.j0, impl_DecodePacket.j0, if_true, ite_self, and_self]
theorem FnExactDecodePacket : laws_FnExactDecodePacket.Pure := by
  intro l _ _ _
  by_cases h : (l.length : Int) > 1048576
  · refine ⟨0, ?_⟩
    unfold laws_FnExactDecodePacket.f
    rw [if_pos h]
  · have hl : l.length ≤ 1048576 := by omega
    obtain ⟨⟨p0, p1, p2, p3, p4, p5, p6, W, ok⟩, hn, hc⟩ := core l hl
    have hn : W.length ≤ 100 := hn
    obtain ⟨k, hk⟩ : ∃ k, k = l.length + 200 := ⟨_, rfl⟩
    refine ⟨k + 1 + 1 + 1, ?_⟩
    obtain ⟨c1, c2⟩ := hc (k + 1 + 1 + 1) (by omega)
    obtain ⟨_, c3⟩ := hc (k + 1) (by omega)
    have mk (j : Nat) (hj : 150 < j) : laws_markPacket.f j p0 p1 p2 p3 p4 p5 p6 W 1 = some ((1 : Int) + (W.length : Int), ups W.length 1) := by
      unfold laws_markPacket.f
      rw [markIntS W (by omega) 1 (by decide) (by decide) _ (by omega)]
      rfl
    have hd (j : Nat) (hj : 150 < j) : laws_heldPacket.f j p0 p1 p2 p3 p4 p5 p6 (ups W.length 1) 1 = some ((1 : Int) + (W.length : Int)) := by
      unfold laws_heldPacket.f
      rw [heldIntS W.length (by omega) 1 (by decide) (by decide) _ (by omega), Option.bind_some, if_neg (by omega)]
    have self (j : Nat) (hj : 150 < j) := eqPacket_self p0 p1 p2 p3 p4 p5 p6 W (by omega) j (by omega)
    have j2 : laws_FnExactDecodePacket.j2 (k + 1) ((1 : Int) + (W.length : Int)) false p0 p1 p2 p3 p4 p5 p6 (ups W.length 1) = some true := by
      simp only [laws_FnExactDecodePacket.j2]
      rw [if_neg (by decide), hd k (by omega), Option.bind_some, if_neg (by omega), if_pos rfl]
    have j1 : laws_FnExactDecodePacket.j1 (k + 1 + 1) l ok false p0 p1 p2 p3 p4 p5 p6 W p0 p1 p2 p3 p4 p5 p6 W = some true := by
      simp only [laws_FnExactDecodePacket.j1]
      rw [if_neg (by decide)]
      simp only [mk (k + 1) (by omega), hd (k + 1) (by omega), toIntS l hl (k + 1) (by omega), c3, self (k + 1) (by omega), Option.bind_some, bne_self_eq_false]
      rw [if_neg (by omega), if_pos trivial, if_pos trivial]
      exact j2
    have j0 : laws_FnExactDecodePacket.j0 (k + 1 + 1 + 1) l ok l ok false p0 p1 p2 p3 p4 p5 p6 W p0 p1 p2 p3 p4 p5 p6 W = some true := by
      simp only [laws_FnExactDecodePacket.j0]
      rw [if_neg (by decide)]
      simp only [toIntS l hl (k + 1 + 1) (by omega), eqIntS_self l hl (k + 1 + 1) (by omega), markIntS l hl 1 (by decide) (by decide) (k + 1 + 1) (by omega), self (k + 1 + 1) (by omega), Option.bind_some, bne_self_eq_false]
      rw [if_pos trivial, if_neg (by omega), if_pos trivial]
      exact j1
    unfold laws_FnExactDecodePacket.f
    rw [if_neg h]
    simp only [toIntS l hl (k + 1 + 1 + 1) (by omega), c1, c2, self (k + 1 + 1 + 1) (by omega), Option.bind_some, bne_self_eq_false]
    rw [if_pos trivial]
    exact j0

end Go.Proofs.Ytncaalbbiflnpaa.Pure
