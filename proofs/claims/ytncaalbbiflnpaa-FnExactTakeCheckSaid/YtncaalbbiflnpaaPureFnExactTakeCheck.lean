/- TakeCheck of the program answers as TakeCheck of the reference at every argument, and the arguments stay as they are. No condition. -/
import Derived.Test.YtncaalbbiflnpaaPFnExactTakeCheckx4
import Derived.Test.YtncaalbbiflnpaaBits
namespace Go.Proofs.Ytncaalbbiflnpaa.Pure
open Go.RowKit Go.Proofs.Ytncaalbbiflnpaa.PFnExactTakeCheck Go.Proofs.YtncaalbbiflnpaaW.PrintWords Go.Proofs.YtncaalbbiflnpaaW.PrintLast Go.Proofs.YtncaalbbiflnpaaW.PrintMore Go.Proofs.Ytncaalbbiflnpaa.Num
set_option linter.unusedVariables false
set_option linter.unusedSimpArgs false

theorem inRange (a b c : Int) : spec_l01In.f a b c = some (decide (b ≤ a ∧ a ≤ c)) := by
  unfold spec_l01In.f
  by_cases h : b ≤ a <;> simp [h]
theorem within (a b c : Int) : impl_within.f a b c = some (decide (b ≤ a ∧ a ≤ c)) := by
  unfold impl_within.f
  by_cases h : b ≤ a <;> simp [h]
theorem rd_nat (x : List Int) (i : Nat) (h : i < x.length) : rd x (i : Int) = x[i] := by
  unfold rd
  rw [Int.toNat_natCast, List.getD_eq_getElem?_getD, List.getElem?_eq_getElem h]
  rfl
theorem toIntS_loop (x : List Int) (hx : x.length ≤ 1048576) (d : Nat) : ∀ (k i : Nat) (z : List Int), i + d = x.length → d < k → z.length = d →
    laws_toIntS.l0 k x (x.take i ++ z) i = some x := by
  induction d with
  | zero =>
    intro k i z hi hk hz
    obtain ⟨k, rfl⟩ : ∃ m, k = m + 1 := ⟨k - 1, by omega⟩
    obtain rfl : z = [] := List.eq_nil_of_length_eq_zero hz
    simp only [laws_toIntS.l0]
    rw [if_neg (by omega), List.append_nil, List.take_of_length_le (by omega)]
  | succ d ih =>
    intro k i z hi hk hz
    obtain ⟨k, rfl⟩ : ∃ m, k = m + 1 := ⟨k - 1, by omega⟩
    cases z with
    | nil => simp at hz
    | cons y z =>
      have hlt : i < x.length := by omega
      have hl : (x.take i).length = i := by rw [List.length_take]; omega
      have hz' : z.length = d := by simpa using hz
      simp only [laws_toIntS.l0]
      rw [if_pos (by omega), if_pos (by omega), if_pos (by rw [List.length_append, hl]; simp only [List.length_cons]; omega), rd_nat x i hlt, Int.toNat_natCast, w64 (by omega) (by omega)]
      have e : (x.take i ++ y :: z).set i x[i] = x.take (i + 1) ++ z := by
        rw [List.set_append, hl, if_neg (by omega), Nat.sub_self, List.set_cons_zero, List.take_succ_eq_append_getElem hlt, List.append_assoc]
        rfl
      rw [e]
      exact ih k (i + 1) z (by omega) (by omega) hz'
theorem toIntS (x : List Int) (hx : x.length ≤ 1048576) (k : Nat) (hk : x.length < k) : laws_toIntS.f k x = some x := by
  unfold laws_toIntS.f
  rw [if_pos (by omega), Int.toNat_natCast, if_pos (by omega)]
  exact toIntS_loop x hx x.length k 0 (List.replicate x.length 0) (by omega) hk (by simp)
theorem eqIntS_loop (x y : List Int) (hxy : x.length = y.length) (hx : x.length ≤ 1048576) (d : Nat) : ∀ (k i : Nat), i + d = x.length → d < k →
    laws_eqIntS.l0 k x y i = some (decide (x.drop i = y.drop i)) := by
  induction d with
  | zero =>
    intro k i hi hk
    obtain ⟨k, rfl⟩ : ∃ m, k = m + 1 := ⟨k - 1, by omega⟩
    simp only [laws_eqIntS.l0]
    rw [if_neg (by omega), List.drop_of_length_le (by omega), List.drop_of_length_le (by omega)]
    simp
  | succ d ih =>
    intro k i hi hk
    obtain ⟨k, rfl⟩ : ∃ m, k = m + 1 := ⟨k - 1, by omega⟩
    have h1 : i < x.length := by omega
    have h2 : i < y.length := by omega
    simp only [laws_eqIntS.l0]
    rw [if_pos (by omega), if_pos (by omega), if_pos (by omega), rd_nat x i h1, rd_nat y i h2, w64 (by omega) (by omega)]
    by_cases e : x[i] = y[i]
    · have key : (x.drop i = y.drop i) ↔ (x.drop (i + 1) = y.drop (i + 1)) := by
        rw [List.drop_eq_getElem_cons h1, List.drop_eq_getElem_cons h2, e]
        exact ⟨fun h => (List.cons.inj h).2, fun h => by rw [h]⟩
      rw [if_pos e, show ((i : Int) + 1) = ((i + 1 : Nat) : Int) by omega, ih k (i + 1) (by omega) (by omega)]
      simp only [key]
    · have key : ¬ (x.drop i = y.drop i) := by
        rw [List.drop_eq_getElem_cons h1, List.drop_eq_getElem_cons h2]
        exact fun h => e (List.cons.inj h).1
      rw [if_neg e, decide_eq_false key]
theorem eqIntS (x y : List Int) (hx : x.length ≤ 1048576) (k : Nat) (hk : x.length < k) : laws_eqIntS.f k x y = some (decide (x = y)) := by
  unfold laws_eqIntS.f
  by_cases h : x.length = y.length
  · rw [if_pos (by omega)]
    exact eqIntS_loop x y h hx x.length k 0 (by omega) hk
  · rw [if_neg (by omega)]
    have : x ≠ y := fun e => h (by rw [e])
    simp [this]
theorem eqIntS_self (x : List Int) (hx : x.length ≤ 1048576) (k : Nat) (hk : x.length < k) : laws_eqIntS.f k x x = some true := by
  rw [eqIntS x x hx k hk]; simp
/-- The numbers a, a + 1, .. -/
def ups : Nat → Int → List Int
  | 0, _ => []
  | n + 1, a => a :: ups n (a + 1)
theorem ups_length (n : Nat) (a : Int) : (ups n a).length = n := by
  induction n generalizing a with
  | zero => rfl
  | succ n ih => simp [ups, ih]
theorem markIntS_loop (d : Nat) : ∀ (k i : Nat) (u z : List Int) (a : Int), z.length = d → u.length = i → i + d ≤ 1048576 → d < k → 0 ≤ a → a + d ≤ 4611686018427387904 →
    laws_markIntS.l0 k (u ++ z) a i = some (a + d, u ++ ups d a) := by
  induction d with
  | zero =>
    intro k i u z a hz hu hi hk h0 h1
    obtain ⟨k, rfl⟩ : ∃ m, k = m + 1 := ⟨k - 1, by omega⟩
    obtain rfl : z = [] := List.eq_nil_of_length_eq_zero hz
    simp only [laws_markIntS.l0]
    rw [if_neg (by rw [List.append_nil]; omega)]
    simp [ups]
  | succ d ih =>
    intro k i u z a hz hu hi hk h0 h1
    obtain ⟨k, rfl⟩ : ∃ m, k = m + 1 := ⟨k - 1, by omega⟩
    cases z with
    | nil => simp at hz
    | cons y z =>
      have hz' : z.length = d := by simpa using hz
      simp only [laws_markIntS.l0]
      rw [if_pos (by rw [List.length_append]; simp only [List.length_cons]; omega), if_pos (by omega), Int.toNat_natCast, w64 (by omega) (by omega), w64 (by omega) (by omega)]
      have e : (u ++ y :: z).set i a = (u ++ [a]) ++ z := by
        rw [List.set_append, hu, if_neg (by omega), Nat.sub_self, List.set_cons_zero]
        simp
      have hh := ih k (i + 1) (u ++ [a]) z (a + 1) hz' (by simp [hu]) (by omega) (by omega) (by omega) (by omega)
      rw [e, show ((i : Int) + 1) = ((i + 1 : Nat) : Int) by omega, hh]
      simp only [ups, List.append_assoc, List.singleton_append, Option.some.injEq, Prod.mk.injEq, and_true]
      omega
theorem markIntS (x : List Int) (hx : x.length ≤ 1048576) (a : Int) (h0 : 0 ≤ a) (h1 : a ≤ 1099511627776) (k : Nat) (hk : x.length < k) : laws_markIntS.f k x a = some (a + x.length, ups x.length a) := by
  have := markIntS_loop x.length k 0 [] x a rfl rfl (by omega) hk h0 (by omega)
  simpa [laws_markIntS.f] using this
theorem heldIntS_loop (d : Nat) : ∀ (k i : Nat) (u : List Int) (a : Int), u.length = i → i + d ≤ 1048576 → d < k → 0 ≤ a → a + d ≤ 4611686018427387904 →
    laws_heldIntS.l0 k (u ++ ups d a) a i = some (a + d) := by
  induction d with
  | zero =>
    intro k i u a hu hi hk h0 h1
    obtain ⟨k, rfl⟩ : ∃ m, k = m + 1 := ⟨k - 1, by omega⟩
    simp only [laws_heldIntS.l0]
    rw [if_neg (by rw [List.length_append, ups_length]; omega)]
    simp
  | succ d ih =>
    intro k i u a hu hi hk h0 h1
    obtain ⟨k, rfl⟩ : ∃ m, k = m + 1 := ⟨k - 1, by omega⟩
    have hlt : i < (u ++ ups (d + 1) a).length := by rw [List.length_append, ups_length]; omega
    have hr : rd (u ++ ups (d + 1) a) (i : Int) = a := by
      rw [rd_nat _ i hlt, List.getElem_append_right (by omega)]
      simp [hu, ups]
    simp only [laws_heldIntS.l0]
    rw [if_pos (by omega), if_pos (by omega), hr, if_pos rfl, w64 (by omega) (by omega), w64 (by omega) (by omega)]
    have hh := ih k (i + 1) (u ++ [a]) (a + 1) (by simp [hu]) (by omega) (by omega) (by omega) (by omega)
    simp only [ups]
    rw [List.append_assoc, List.singleton_append] at hh
    rw [show ((i : Int) + 1) = ((i + 1 : Nat) : Int) by omega, hh]
    simp only [Option.some.injEq]
    omega
theorem heldIntS (n : Nat) (hx : n ≤ 1048576) (a : Int) (h0 : 0 ≤ a) (h1 : a ≤ 1099511627776) (k : Nat) (hk : n < k) : laws_heldIntS.f k (ups n a) a = some (a + n) := by
  have := heldIntS_loop n k 0 [] a rfl (by omega) hk h0 (by omega)
  simpa [laws_heldIntS.f] using this
def okB (l : List Int) : Bool := decide (l.length ≤ 40) && l.all (fun b => decide (0 ≤ b) && decide (b ≤ 255))
theorem okB_iff (l : List Int) : okB l = true ↔ l.length ≤ 40 ∧ ∀ b ∈ l, 0 ≤ b ∧ b ≤ 255 := by
  simp [okB]
theorem spec_bytes_loop (x : List Int) (hx : x.length ≤ 1048576) (d : Nat) : ∀ (k i : Nat), i + d = x.length → d < k →
    spec_AreBytes.l0 k x i = some (decide (x.length ≤ 40) && (x.drop i).all (fun b => decide (0 ≤ b) && decide (b ≤ 255))) := by
  induction d with
  | zero =>
    intro k i hi hk
    obtain ⟨k, rfl⟩ : ∃ m, k = m + 1 := ⟨k - 1, by omega⟩
    simp only [spec_AreBytes.l0]
    rw [if_neg (by omega), List.drop_of_length_le (by omega)]
    simp
    omega
  | succ d ih =>
    intro k i hi hk
    obtain ⟨k, rfl⟩ : ∃ m, k = m + 1 := ⟨k - 1, by omega⟩
    have h1 : i < x.length := by omega
    simp only [spec_AreBytes.l0]
    rw [if_pos (by omega), if_pos (by omega), rd_nat x i h1, inRange, w64 (by omega) (by omega), List.drop_eq_getElem_cons h1, show ((i : Int) + 1) = ((i + 1 : Nat) : Int) by omega, ih k (i + 1) (by omega) (by omega)]
    simp only [Option.bind_some, List.all_cons]
    by_cases e : 0 ≤ x[i] ∧ x[i] ≤ 255
    · simp [e]
    · rw [show (decide (0 ≤ x[i] ∧ x[i] ≤ 255)) = false by simpa using e]
      have : (decide (0 ≤ x[i]) && decide (x[i] ≤ 255)) = false := by rw [← Bool.decide_and]; simpa using e
      rw [this]
      simp
theorem spec_bytes (x : List Int) (hx : x.length ≤ 1048576) (k : Nat) (hk : x.length < k) : spec_AreBytes.f k x = some (okB x) := by
  have := spec_bytes_loop x hx x.length k 0 (by omega) hk
  simpa [spec_AreBytes.f, okB] using this
theorem any_not (l : List Int) : l.any (fun x => !(decide (0 ≤ x) && decide (x ≤ 255))) = !(l.all (fun b => decide (0 ≤ b) && decide (b ≤ 255))) := by
  induction l with
  | nil => rfl
  | cons x t ih => rw [List.any_cons, List.all_cons, ih]; cases (decide (0 ≤ x) && decide (x ≤ 255)) <;> rfl
theorem impl_bytes (x : List Int) : impl_AreBytes.f x = some (okB x) := by
  unfold impl_AreBytes.f slices_ContainsFunc_int_int.f okB
  rw [if_pos (Or.inl rfl)]
  have e : (slices_ContainsFunc_int_int.p 50) = fun x => !(decide (0 ≤ x) && decide (x ≤ 255)) := by
    funext y
    simp [slices_ContainsFunc_int_int.p]
  rw [e, any_not]
  by_cases h : x.length ≤ 40
  · rw [if_pos (by omega)]; simp [h]
  · rw [if_neg (by omega)]; simp [h]
/-- One bit of the checksum, one byte, all bytes. -/
def sh (x : Int) : Int := if wrap64 (x * 2) > 65535 then Go.bits .xor .i64 (wrap64 (x * 2)) 69665 else wrap64 (x * 2)
def shs : Nat → Int → Int
  | 0, x => x
  | n + 1, x => shs n (sh x)
def crcB (x b : Int) : Int := shs 8 (Go.bits .xor .i64 x (wrap64 (b * 256)))
def crc (l : List Int) (x : Int) : Int := l.foldl crcB x
theorem spec_bits (l : List Int) (i : Int) (d : Nat) : ∀ (k j : Nat) (x : Int), j + d = 8 → spec_CheckOf.l1 (k + d + 1) l x i j = spec_CheckOf.l0 k l (shs d x) (wrap64 (i + 1)) := by
  induction d with
  | zero =>
    intro k j x hj
    rw [spec_CheckOf.l1]
    rw [if_neg (by omega)]
    rfl
  | succ d ih =>
    intro k j x hj
    rw [show k + (d + 1) + 1 = (k + d + 1) + 1 by omega]
    rw [spec_CheckOf.l1]
    rw [if_pos (by omega), w64 (n := (j : Int) + 1) (by omega) (by omega), show ((j : Int) + 1) = ((j + 1 : Nat) : Int) by omega]
    by_cases e : wrap64 (x * 2) > 65535
    · rw [if_pos e, ih k (j + 1) _ (by omega)]
      simp only [shs, sh]
      rw [if_pos e]
    · rw [if_neg e, ih k (j + 1) _ (by omega)]
      simp only [shs, sh]
      rw [if_neg e]
theorem spec_crc_loop (l : List Int) (hl : l.length ≤ 1048576) (d : Nat) : ∀ (k i : Nat) (x : Int), i + d = l.length → 10 * d < k → spec_CheckOf.l0 k l x i = some (crc (l.drop i) x) := by
  induction d with
  | zero =>
    intro k i x hi hk
    obtain ⟨k, rfl⟩ : ∃ m, k = m + 1 := ⟨k - 1, by omega⟩
    simp only [spec_CheckOf.l0]
    rw [if_neg (by omega), List.drop_of_length_le (by omega)]
    rfl
  | succ d ih =>
    intro k i x hi hk
    obtain ⟨k, rfl⟩ : ∃ m, k = m + 8 + 1 + 1 := ⟨k - 10, by omega⟩
    have h1 : i < l.length := by omega
    rw [spec_CheckOf.l0]
    rw [if_pos (by omega), if_pos (by omega), rd_nat l i h1]
    have hb := spec_bits l (i : Int) 8 k 0 (Go.bits .xor .i64 x (wrap64 (l[i] * 256))) (by decide)
    rw [show ((0 : Nat) : Int) = 0 from rfl] at hb
    rw [hb, w64 (n := (i : Int) + 1) (by omega) (by omega), show ((i : Int) + 1) = ((i + 1 : Nat) : Int) by omega, ih k (i + 1) _ (by omega) (by omega), List.drop_eq_getElem_cons h1]
    rfl
theorem spec_check (l : List Int) (hl : l.length ≤ 1048576) (k : Nat) (hk : l.length + 410 < k) : spec_CheckOf.f k l = some (if okB l then crc l 65535 else -1) := by
  unfold spec_CheckOf.f
  rw [spec_bytes l hl k (by omega)]
  simp only [Option.bind_some]
  by_cases h : okB l = true
  · have := (okB_iff l).mp h
    rw [if_pos h, if_pos h]
    have h2 := spec_crc_loop l hl l.length k 0 65535 (by omega) (by omega)
    simpa using h2
  · rw [if_neg h, if_neg h]
theorem impl_bits (l : List Int) (n i : Int) (d : Nat) : ∀ (k j : Nat) (x : Int), j + d = 8 → impl_CheckOf.l1 (k + d + 1) x l n i j = impl_CheckOf.l0 k (shs d x) l n (wrap64 (i + 1)) := by
  induction d with
  | zero =>
    intro k j x hj
    rw [impl_CheckOf.l1]
    rw [if_neg (by omega)]
    rfl
  | succ d ih =>
    intro k j x hj
    rw [show k + (d + 1) + 1 = (k + d + 1) + 1 by omega]
    rw [impl_CheckOf.l1]
    rw [if_pos (by omega), w64 (n := (j : Int) + 1) (by omega) (by omega), show ((j : Int) + 1) = ((j + 1 : Nat) : Int) by omega]
    by_cases e : wrap64 (x * 2) > 65535
    · rw [if_pos e, ih k (j + 1) _ (by omega)]
      simp only [shs, sh]
      rw [if_pos e]
    · rw [if_neg e, ih k (j + 1) _ (by omega)]
      simp only [shs, sh]
      rw [if_neg e]
theorem impl_crc_loop (l : List Int) (hl : l.length ≤ 1048576) (d : Nat) : ∀ (k i : Nat) (x : Int), i + d = l.length → 10 * d < k → impl_CheckOf.l0 k x l (l.length : Int) i = some (crc (l.drop i) x) := by
  induction d with
  | zero =>
    intro k i x hi hk
    obtain ⟨k, rfl⟩ : ∃ m, k = m + 1 := ⟨k - 1, by omega⟩
    simp only [impl_CheckOf.l0]
    rw [if_neg (by omega), List.drop_of_length_le (by omega)]
    rfl
  | succ d ih =>
    intro k i x hi hk
    obtain ⟨k, rfl⟩ : ∃ m, k = m + 8 + 1 + 1 := ⟨k - 10, by omega⟩
    have h1 : i < l.length := by omega
    rw [impl_CheckOf.l0]
    rw [if_pos (by omega), if_pos (by omega), if_pos (by omega), rd_nat l i h1]
    have hb := impl_bits l (l.length : Int) (i : Int) 8 k 0 (Go.bits .xor .i64 x (wrap64 (l[i] * 256))) (by decide)
    rw [show ((0 : Nat) : Int) = 0 from rfl] at hb
    rw [hb, w64 (n := (i : Int) + 1) (by omega) (by omega), show ((i : Int) + 1) = ((i + 1 : Nat) : Int) by omega, ih k (i + 1) _ (by omega) (by omega), List.drop_eq_getElem_cons h1]
    rfl
theorem impl_check (l : List Int) (k : Nat) (hk : 410 < k) : impl_CheckOf.f k l = some (if okB l then crc l 65535 else -1) := by
  unfold impl_CheckOf.f
  rw [impl_bytes l]
  simp only [Option.bind_some]
  by_cases h : okB l = true
  · have := (okB_iff l).mp h
    rw [if_pos h, if_pos h]
    have h2 := impl_crc_loop l (by omega) l.length k 0 65535 (by omega) (by omega)
    simpa using h2
  · rw [if_neg h, if_neg h]
theorem clone (l : List Int) (hl : l.length ≤ 1048576) : slices_Clone_int_int.f l = some l := by
  unfold slices_Clone_int_int.f
  rw [if_pos (by omega)]
theorem xor_split (q r p s : Nat) (hr : r < 65536) (hs : s < 65536) : (65536 * q + r) ^^^ (65536 * p + s) = 65536 * (q ^^^ p) + (r ^^^ s) := by
  have hx : r ^^^ s < 2 ^ 16 := Nat.xor_lt_two_pow hr hs
  apply Nat.eq_of_testBit_eq
  intro i
  have t1 := Nat.testBit_two_pow_mul_add (i := 16) q (show r < 2 ^ 16 from hr) i
  have t2 := Nat.testBit_two_pow_mul_add (i := 16) p (show s < 2 ^ 16 from hs) i
  have t3 := Nat.testBit_two_pow_mul_add (i := 16) (q ^^^ p) hx i
  rw [Nat.testBit_xor, show (65536 : Nat) * q = 2 ^ 16 * q from rfl, show (65536 : Nat) * p = 2 ^ 16 * p from rfl, show (65536 : Nat) * (q ^^^ p) = 2 ^ 16 * (q ^^^ p) from rfl, t1, t2, t3]
  by_cases h : i < 16 <;> simp [h, Nat.testBit_xor]
/-- One bit of the checksum, of a natural number. -/
def shN (x : Nat) : Nat := if 2 * x > 65535 then (2 * x) ^^^ 69665 else 2 * x
theorem shN_lt (x : Nat) (hx : x < 65536) : shN x < 65536 := by
  unfold shN
  by_cases h : 2 * x > 65535
  · rw [if_pos h]
    have e : 2 * x = 65536 * 1 + (2 * x - 65536) := by omega
    have e2 : 69665 = 65536 * 1 + 4129 := rfl
    rw [e, e2, xor_split 1 _ 1 4129 (by omega) (by decide)]
    have : (2 * x - 65536) ^^^ 4129 < 2 ^ 16 := Nat.xor_lt_two_pow (by omega) (by decide)
    have e3 : (1 : Nat) ^^^ 1 = 0 := rfl
    rw [e3]
    omega
  · rw [if_neg h]; omega
theorem sh_nat (x : Nat) (hx : x < 65536) : sh (x : Int) = (shN x : Nat) := by
  unfold sh shN
  rw [w64 (by omega) (by omega)]
  by_cases h : 2 * x > 65535
  · rw [if_pos h, if_pos (by omega), show (x : Int) * 2 = ((2 * x : Nat) : Int) by omega, show (69665 : Int) = ((69665 : Nat) : Int) from rfl, xorI _ _ (by omega) (by decide)]
  · rw [if_neg h, if_neg (by omega)]; omega
def shsN : Nat → Nat → Nat
  | 0, x => x
  | n + 1, x => shsN n (shN x)
theorem shs_nat (n x : Nat) (hx : x < 65536) : shs n (x : Int) = (shsN n x : Nat) ∧ shsN n x < 65536 := by
  induction n generalizing x with
  | zero =>
    rw [shs, shsN]
    exact ⟨rfl, hx⟩
  | succ n ih =>
    have h1 := sh_nat x hx
    have h2 := shN_lt x hx
    rw [shs, shsN, h1]
    exact ih _ h2
def crcBN (x b : Nat) : Nat := shsN 8 (x ^^^ (b * 256))
theorem crcB_nat (x b : Nat) (hx : x < 65536) (hb : b < 256) : crcB (x : Int) (b : Int) = (crcBN x b : Nat) ∧ crcBN x b < 65536 := by
  unfold crcB crcBN
  rw [w64 (by omega) (by omega), show (b : Int) * 256 = ((b * 256 : Nat) : Int) by omega, xorI _ _ (by omega) (by omega)]
  exact shs_nat 8 _ (show x ^^^ (b * 256) < 2 ^ 16 from Nat.xor_lt_two_pow (by omega) (by omega))
def crcN (l : List Nat) (x : Nat) : Nat := l.foldl crcBN x
theorem crc_nat (l : List Nat) (hl : ∀ b ∈ l, b < 256) (x : Nat) (hx : x < 65536) : crc (l.map fun b : Nat => (b : Int)) (x : Int) = (crcN l x : Nat) ∧ crcN l x < 65536 := by
  induction l generalizing x with
  | nil =>
    rw [List.map_nil, crc, crcN, List.foldl_nil, List.foldl_nil]
    exact ⟨rfl, hx⟩
  | cons b t ih =>
    obtain ⟨h1, h2⟩ := crcB_nat x b hx (hl b (by simp))
    have h3 := ih (fun c hc => hl c (by simp [hc])) _ h2
    rw [crc, crcN] at h3 ⊢
    rw [List.map_cons, List.foldl_cons, List.foldl_cons, h1]
    exact h3
theorem nats (l : List Int) (hl : ∀ b ∈ l, 0 ≤ b ∧ b ≤ 255) : ∃ m : List Nat, l = m.map (fun b : Nat => (b : Int)) ∧ ∀ b ∈ m, b < 256 := by
  refine ⟨l.map Int.toNat, ?_, ?_⟩
  · rw [List.map_map]
    conv => lhs; rw [← List.map_id l]
    refine List.map_congr_left fun b hb => ?_
    have := hl b hb
    simp only [id, Function.comp]
    omega
  · intro b hb
    obtain ⟨c, hc, rfl⟩ := List.mem_map.mp hb
    have := hl c hc
    omega
theorem crc_range (l : List Int) (hl : ∀ b ∈ l, 0 ≤ b ∧ b ≤ 255) : 0 ≤ crc l 65535 ∧ crc l 65535 ≤ 65535 := by
  obtain ⟨m, rfl, hm⟩ := nats l hl
  obtain ⟨h1, h2⟩ := crc_nat m hm 65535 (by decide)
  have h3 : crc (m.map fun b : Nat => (b : Int)) 65535 = (crcN m 65535 : Nat) := h1
  omega
theorem split_eq (c : Int) (h : 0 ≤ c ∧ c ≤ 65535) : impl_SplitWord.f c = some (c / 256, c % 256) := by
  unfold impl_SplitWord.f impl_isWord.f
  simp only [within, Option.bind_some]
  rw [if_pos (by simpa using h), Int.tdiv_eq_ediv_of_nonneg h.1, Int.tmod_eq_emod_of_nonneg h.1, w64 (by omega) (by omega)]
/-- What AddCheck gives. -/
def addC (l : List Int) : List Int := if okB l = true ∧ l.length ≤ 38 then l ++ [crc l 65535 / 256, crc l 65535 % 256] else []
theorem addC_length (l : List Int) : (addC l).length ≤ 40 := by
  unfold addC
  split
  · rw [List.length_append]; simp only [List.length_cons, List.length_nil]; omega
  · simp
theorem impl_add (l : List Int) (k : Nat) (hk : 411 < k) : impl_AddCheck.f k l = some (addC l) := by
  obtain ⟨k, rfl⟩ : ∃ m, k = m + 1 := ⟨k - 1, by omega⟩
  unfold impl_AddCheck.f addC
  rw [impl_bytes]
  simp only [Option.bind_some, impl_AddCheck.j0]
  by_cases hb : okB l = true
  · have hc := (okB_iff l).mp hb
    have hr := crc_range l hc.2
    by_cases h : l.length ≤ 38
    · rw [if_pos hb, if_neg (by simp; omega), if_pos (show okB l = true ∧ l.length ≤ 38 from ⟨hb, h⟩), impl_check l k (by omega)]
      simp only [hb, if_true, Option.bind_some]
      rw [split_eq _ hr, clone l (by omega)]
      simp only [Option.bind_some]
      rw [if_pos (by simp only [List.length_cons, List.length_nil]; omega)]
    · rw [if_pos hb, if_neg (show ¬ (okB l = true ∧ l.length ≤ 38) from fun x => h x.2), if_pos (by simp; omega)]
  · rw [if_neg hb, if_neg (show ¬ (okB l = true ∧ l.length ≤ 38) from fun x => hb x.1), if_pos trivial]
theorem equal_loop (x y : List Int) (hxy : x.length = y.length) (hx : x.length ≤ 1048576) (d : Nat) : ∀ (k i : Nat), i + d = x.length → d < k →
    slices_Equal_int_int.l0 k x y (x.length : Int) i = some (decide (x.drop i = y.drop i)) := by
  induction d with
  | zero =>
    intro k i hi hk
    obtain ⟨k, rfl⟩ : ∃ m, k = m + 1 := ⟨k - 1, by omega⟩
    rw [slices_Equal_int_int.l0, if_neg (by omega), List.drop_of_length_le (by omega), List.drop_of_length_le (by omega)]
    simp
  | succ d ih =>
    intro k i hi hk
    obtain ⟨k, rfl⟩ : ∃ m, k = m + 1 := ⟨k - 1, by omega⟩
    have h1 : i < x.length := by omega
    have h2 : i < y.length := by omega
    rw [slices_Equal_int_int.l0, if_pos (by omega), if_pos (by omega), if_pos (by omega), if_pos (by omega), rd_nat x i h1, rd_nat y i h2, w64 (by omega) (by omega)]
    by_cases e : x[i] = y[i]
    · have key : (x.drop i = y.drop i) ↔ (x.drop (i + 1) = y.drop (i + 1)) := by
        rw [List.drop_eq_getElem_cons h1, List.drop_eq_getElem_cons h2, e]
        exact ⟨fun h => (List.cons.inj h).2, fun h => by rw [h]⟩
      rw [if_pos e, show ((i : Int) + 1) = ((i + 1 : Nat) : Int) by omega, ih k (i + 1) (by omega) (by omega)]
      simp only [key]
    · have key : ¬ (x.drop i = y.drop i) := by
        rw [List.drop_eq_getElem_cons h1, List.drop_eq_getElem_cons h2]
        exact fun h => e (List.cons.inj h).1
      rw [if_neg e, decide_eq_false key]
theorem equal (x y : List Int) (hx : x.length ≤ 1048576) (k : Nat) (hk : x.length < k) : slices_Equal_int_int.f k x y = some (decide (x = y)) := by
  unfold slices_Equal_int_int.f
  by_cases h : x.length = y.length
  · rw [if_pos (by omega)]
    exact equal_loop x y h hx x.length k 0 (by omega) hk
  · rw [if_neg (by omega)]
    have : x ≠ y := fun e => h (by rw [e])
    simp [this]
theorem okB_take (l : List Int) (n : Nat) (h : okB l = true) : okB (l.take n) = true := by
  rw [okB_iff] at h ⊢
  exact ⟨by rw [List.length_take]; omega, fun b hb => h.2 b (List.mem_of_mem_take hb)⟩
/-- What TakeCheck gives. -/
def takeC (l : List Int) : List Int × Bool :=
  if okB l = true ∧ 2 ≤ l.length ∧ crc (l.take (l.length - 2)) 65535 = l.getD (l.length - 2) 0 * 256 + l.getD (l.length - 1) 0 then (l.take (l.length - 2), true) else ([], false)
theorem takeC_length (l : List Int) : (takeC l).1.length ≤ 40 := by
  unfold takeC
  split
  · rename_i h
    have := ((okB_iff l).mp h.1).1
    rw [List.length_take]
    omega
  · simp
theorem last_two (l : List Int) (h : 2 ≤ l.length) : l = l.take (l.length - 2) ++ [l.getD (l.length - 2) 0, l.getD (l.length - 1) 0] := by
  have h1 : l.length - 2 < l.length := by omega
  have h2 : l.length - 1 < l.length := by omega
  have e1 : l.drop (l.length - 2) = [l.getD (l.length - 2) 0, l.getD (l.length - 1) 0] := by
    rw [List.drop_eq_getElem_cons h1, show l.length - 2 + 1 = l.length - 1 by omega, List.drop_eq_getElem_cons h2, show l.length - 1 + 1 = l.length by omega, List.drop_length, List.getD_eq_getElem?_getD, List.getD_eq_getElem?_getD, List.getElem?_eq_getElem h1, List.getElem?_eq_getElem h2]
    rfl
  conv => lhs; rw [← List.take_append_drop (l.length - 2) l, e1]
theorem impl_take (l : List Int) (k : Nat) (hk : 420 < k) (hl : l.length ≤ 1048576) : impl_TakeCheck.f k l = some (takeC l) := by
  unfold impl_TakeCheck.f takeC
  rw [w64 (n := (l.length : Int) - 2) (by omega) (by omega)]
  by_cases h2 : 2 ≤ l.length
  · rw [if_neg (by omega), impl_bytes]
    simp only [Option.bind_some]
    by_cases hb : okB l = true
    · obtain ⟨b1, b2⟩ := (okB_iff l).mp hb
      have ht := okB_take l (l.length - 2) hb
      have hr := crc_range (l.take (l.length - 2)) ((okB_iff _).mp ht).2
      have htl : (l.take (l.length - 2)).length = l.length - 2 := by rw [List.length_take]; omega
      have ea : addC (l.take (l.length - 2)) = l.take (l.length - 2) ++ [crc (l.take (l.length - 2)) 65535 / 256, crc (l.take (l.length - 2)) 65535 % 256] := by
        unfold addC
        rw [if_pos ⟨ht, by omega⟩]
      have hal := addC_length (l.take (l.length - 2))
      rw [if_pos hb, if_pos (by omega), if_pos (by omega), show ((l.length : Int) - 2).toNat = l.length - 2 by omega, impl_add _ k (by omega)]
      simp only [Option.bind_some]
      rw [equal _ l (by omega) k (by omega), clone _ (by omega)]
      simp only [Option.bind_some]
      have hm : 0 ≤ l.getD (l.length - 1) 0 ∧ l.getD (l.length - 1) 0 ≤ 255 := by
        rw [List.getD_eq_getElem?_getD, List.getElem?_eq_getElem (show l.length - 1 < l.length by omega)]
        exact b2 _ (List.getElem_mem _)
      have key : addC (l.take (l.length - 2)) = l ↔ crc (l.take (l.length - 2)) 65535 = l.getD (l.length - 2) 0 * 256 + l.getD (l.length - 1) 0 := by
        have e := last_two l h2
        rw [ea]
        generalize crc (l.take (l.length - 2)) 65535 = c at hr
        generalize l.getD (l.length - 2) 0 = x at e
        generalize l.getD (l.length - 1) 0 = y at e hm
        constructor
        · intro h
          have h3 := List.append_cancel_left (h.trans e)
          simp only [List.cons.injEq, and_true] at h3
          omega
        · intro h
          rw [show c / 256 = x by omega, show c % 256 = y by omega]
          exact e.symm
      by_cases hc : crc (l.take (l.length - 2)) 65535 = l.getD (l.length - 2) 0 * 256 + l.getD (l.length - 1) 0
      · rw [if_pos (by simpa using key.mpr hc), if_pos ⟨hb, h2, hc⟩]
      · rw [if_neg (by simpa using fun h => hc (key.mp h)), if_neg (fun h => hc h.2.2)]
    · rw [if_neg hb, if_neg (fun h => hb h.1)]
  · rw [if_pos (by omega), if_neg (fun h => h2 h.2.1)]
theorem spec_take (l : List Int) (k : Nat) (hk : l.length + 420 < k) (hl : l.length ≤ 1048576) : spec_TakeCheck.f k l = some (takeC l) := by
  obtain ⟨k, rfl⟩ : ∃ m, k = m + 1 := ⟨k - 1, by omega⟩
  unfold spec_TakeCheck.f takeC
  rw [spec_bytes l hl (k + 1) (by omega)]
  simp only [Option.bind_some, spec_TakeCheck.j0]
  by_cases hb : okB l = true
  · by_cases h2 : 2 ≤ l.length
    · have ht := okB_take l (l.length - 2) hb
      have htl : (l.take (l.length - 2)).length = l.length - 2 := by rw [List.length_take]; omega
      rw [if_pos hb, if_neg (by simp; omega), w64 (n := (l.length : Int) - 2) (by omega) (by omega), w64 (n := (l.length : Int) - 1) (by omega) (by omega), if_pos (by omega), if_pos (by omega), show ((l.length : Int) - 2).toNat = l.length - 2 by omega, spec_check _ (by omega) k (by omega), if_pos ht]
      simp only [Option.bind_some]
      have h1' : l.length - 2 < l.length := by omega
      have h2' : l.length - 1 < l.length := by omega
      obtain ⟨b1, b2⟩ := (okB_iff l).mp hb
      have r1 : rd l ((l.length : Int) - 2) = l.getD (l.length - 2) 0 := by unfold rd; rw [show ((l.length : Int) - 2).toNat = l.length - 2 by omega]
      have r2 : rd l ((l.length : Int) - 1) = l.getD (l.length - 1) 0 := by unfold rd; rw [show ((l.length : Int) - 1).toNat = l.length - 1 by omega]
      have g1 : 0 ≤ l.getD (l.length - 2) 0 ∧ l.getD (l.length - 2) 0 ≤ 255 := by
        rw [List.getD_eq_getElem?_getD, List.getElem?_eq_getElem h1']
        exact b2 _ (List.getElem_mem _)
      have g2 : 0 ≤ l.getD (l.length - 1) 0 ∧ l.getD (l.length - 1) 0 ≤ 255 := by
        rw [List.getD_eq_getElem?_getD, List.getElem?_eq_getElem h2']
        exact b2 _ (List.getElem_mem _)
      rw [if_pos (by omega), if_pos (by omega), if_pos (by omega), r1, r2, w64 (n := l.getD (l.length - 2) 0 * 256) (by omega) (by omega), w64 (by omega) (by omega)]
      by_cases hc : crc (l.take (l.length - 2)) 65535 = l.getD (l.length - 2) 0 * 256 + l.getD (l.length - 1) 0
      · rw [if_pos hc, if_pos (by simp only [List.length_nil]; omega), if_pos (show okB l = true ∧ 2 ≤ l.length ∧ crc (l.take (l.length - 2)) 65535 = l.getD (l.length - 2) 0 * 256 + l.getD (l.length - 1) 0 from ⟨hb, h2, hc⟩), List.nil_append]
      · rw [if_neg hc, if_neg (show ¬ (okB l = true ∧ 2 ≤ l.length ∧ crc (l.take (l.length - 2)) 65535 = l.getD (l.length - 2) 0 * 256 + l.getD (l.length - 1) 0) from fun h => hc h.2.2)]
    · rw [if_pos hb, if_pos (by simp; omega), if_neg (fun h => h2 h.2.1)]
  · rw [if_neg hb, if_pos trivial, if_neg (fun h => hb h.1)]
theorem last (n : Nat) (hn : n ≤ 1048576) (a : Int) (k : Nat) (hk : n < k) : laws_FnExactTakeCheck.j2 (k + 1) (ups n 1) (1 + n) false = some true := by
  rw [laws_FnExactTakeCheck.j2, if_neg (by decide), heldIntS n hn 1 (by decide) (by decide) k hk]
  simp only [Option.bind_some]
  rw [if_neg (by omega), if_pos trivial]
theorem tail (l : List Int) (hl : l.length ≤ 1048576) (k : Nat) (hk : l.length + 430 < k) : laws_FnExactTakeCheck.j1 (k + 1 + 1) l (takeC l).1 (takeC l).2 (takeC l).1 false = some true := by
  have hS := takeC_length l
  have hS' : (takeC l).1.length ≤ 1048576 := by omega
  have hk' : (takeC l).1.length < k + 1 := by omega
  rw [laws_FnExactTakeCheck.j1, if_neg (by decide)]
  simp only [markIntS (takeC l).1 hS' 1 (by decide) (by decide) (k + 1) hk', heldIntS (takeC l).1.length hS' 1 (by decide) (by decide) (k + 1) hk', toIntS l hl (k + 1) (by omega), impl_take l (k + 1) (by omega) hl, eqIntS_self (takeC l).1 hS' (k + 1) hk', Option.bind_some]
  rw [if_neg (by omega), if_pos trivial, if_pos trivial, show ((takeC l).2 != (takeC l).2) = false by simp]
  exact last _ hS' 0 k (by omega)
theorem mid (l : List Int) (hl : l.length ≤ 1048576) (k : Nat) (hk : l.length + 430 < k) : laws_FnExactTakeCheck.j0 (k + 1 + 1 + 1) l (takeC l).1 (takeC l).2 l (takeC l).1 (takeC l).2 false = some true := by
  have hS := takeC_length l
  have hS' : (takeC l).1.length ≤ 1048576 := by omega
  have hk' : (takeC l).1.length < k + 1 + 1 := by omega
  rw [laws_FnExactTakeCheck.j0, if_neg (by decide)]
  simp only [toIntS l hl (k + 1 + 1) (by omega), eqIntS_self l hl (k + 1 + 1) (by omega), markIntS l hl 1 (by decide) (by decide) (k + 1 + 1) (by omega), eqIntS_self (takeC l).1 hS' (k + 1 + 1) hk', Option.bind_some]
  rw [if_pos trivial, if_neg (by omega), if_pos trivial, show ((takeC l).2 != (takeC l).2) = false by simp]
  exact tail l hl k hk
theorem FnExactTakeCheck : laws_FnExactTakeCheck.Pure := by
  intro l0 _ _ _
  refine ⟨l0.length + 431 + 1 + 1 + 1, ?_⟩
  unfold laws_FnExactTakeCheck.f
  by_cases h : (l0.length : Int) > 1048576
  · rw [if_pos h]
  · have hl : l0.length ≤ 1048576 := by omega
    have hS := takeC_length l0
    have hS' : (takeC l0).1.length ≤ 1048576 := by omega
    have hm := mid l0 hl (l0.length + 431) (by omega)
    rw [if_neg h]
    simp only [toIntS l0 hl _ (show l0.length < l0.length + 431 + 1 + 1 + 1 by omega), spec_take l0 _ (show l0.length + 420 < l0.length + 431 + 1 + 1 + 1 by omega) hl, impl_take l0 _ (show 420 < l0.length + 431 + 1 + 1 + 1 by omega) hl, eqIntS_self _ hS' _ (show (takeC l0).1.length < l0.length + 431 + 1 + 1 + 1 by omega), Option.bind_some]
    rw [if_pos trivial, show ((takeC l0).2 != (takeC l0).2) = false by simp]
    exact hm

end Go.Proofs.Ytncaalbbiflnpaa.Pure
