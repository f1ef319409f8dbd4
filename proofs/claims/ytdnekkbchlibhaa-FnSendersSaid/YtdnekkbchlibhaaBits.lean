/- Whole numbers: wraps, bits, and how many bits of a number are set. Plain facts; no condition beyond those that each states. -/
import Derived.Laws.BitsAllLaws
import Derived.Laws.BitsLemmas
import Derived.RowKit
namespace Go.Proofs.Ytdnekkbchlibhaa.Num
open Go.RowKit

theorem w64 {n : Int} (h0 : -9223372036854775808 ≤ n) (h1 : n ≤ 9223372036854775807) : wrap64 n = n := by unfold wrap64; omega
theorem u64 {n : Int} (h0 : 0 ≤ n) (h1 : n < 18446744073709551616) : IntKind.u64.wrap n = n := by rw [IntKind.wrap_u64]; omega
theorem i64w {n : Int} (h0 : -9223372036854775808 ≤ n) (h1 : n ≤ 9223372036854775807) : IntKind.i64.wrap n = n := by rw [IntKind.wrap_i64]; omega
theorem wraps_i64 (n : Int) (h0 : 0 ≤ n) (h1 : n < 2 ^ 62) : IntKind.i64.wrap n = n := by rw [IntKind.wrap_i64]; omega
theorem andI (a b : Nat) (ha : a < 2 ^ 62) (hb : b < 2 ^ 62) : Go.bits .and .i64 (a : Int) (b : Int) = ((a &&& b : Nat) : Int) :=
  (bits_nat .i64 62 (by decide) wraps_i64 a b ha hb).1
theorem orI (a b : Nat) (ha : a < 2 ^ 62) (hb : b < 2 ^ 62) : Go.bits .or .i64 (a : Int) (b : Int) = ((a ||| b : Nat) : Int) :=
  (bits_nat .i64 62 (by decide) wraps_i64 a b ha hb).2
theorem xorI (a b : Nat) (ha : a < 2 ^ 62) (hb : b < 2 ^ 62) : Go.bits .xor .i64 (a : Int) (b : Int) = ((a ^^^ b : Nat) : Int) := by
  have hx : a ^^^ b < 2 ^ 62 := Nat.xor_lt_two_pow ha hb
  show IntKind.i64.wrap ((BitVec.ofInt 64 (a : Int) ^^^ BitVec.ofInt 64 (b : Int)).toNat : Int) = _
  rw [BitVec.toNat_xor, ofInt_u64 a (by omega), ofInt_u64 b (by omega)]
  exact wraps_i64 _ (Int.natCast_nonneg _) (by exact_mod_cast hx)
theorem andNotI (a b : Nat) (ha : a < 2 ^ 62) (hb : b < 2 ^ 62) : Go.bits .andNot .i64 (a : Int) (b : Int) = ((a &&& (18446744073709551615 - b) : Nat) : Int) := by
  have hx : a &&& (18446744073709551615 - b) ≤ a := Nat.and_le_left
  show IntKind.i64.wrap ((BitVec.ofInt 64 (a : Int) &&& ~~~BitVec.ofInt 64 (b : Int)).toNat : Int) = _
  rw [BitVec.toNat_and, BitVec.toNat_not, ofInt_u64 a (by omega), ofInt_u64 b (by omega)]
  have e : 2 ^ 64 - 1 - b = 18446744073709551615 - b := by omega
  rw [e]
  have h2 : a &&& (18446744073709551615 - b) < 2 ^ 62 := by omega
  exact wraps_i64 _ (Int.natCast_nonneg _) (by exact_mod_cast h2)

theorem and255 (x : Int) : 0 ≤ Go.bits .and .i64 x 255 ∧ Go.bits .and .i64 x 255 ≤ 255 := by
  have h : Go.bits .and .i64 x 255 = IntKind.i64.wrap (((BitVec.ofInt 64 x).toNat &&& 255 : Nat) : Int) := by
    show IntKind.i64.wrap ((BitVec.ofInt 64 x &&& BitVec.ofInt 64 255).toNat : Int) = _
    rw [BitVec.toNat_and]
    rfl
  have h2 : (BitVec.ofInt 64 x).toNat &&& 255 ≤ 255 := Nat.and_le_right
  rw [h, i64w (by omega) (by omega)]
  omega
/-- How many of the lowest k bits are set. -/
def pop : Nat → Nat → Nat
  | 0, _ => 0
  | k + 1, x => x % 2 + pop k (x / 2)
theorem pop_succ (k x : Nat) : pop (k + 1) x = x % 2 + pop k (x / 2) := rfl
theorem pop_z (x : Nat) : pop 0 x = 0 := rfl
theorem pop_add (a b x : Nat) : pop (a + b) x = pop a x + pop b (x / 2 ^ a) := by
  induction a generalizing x with
  | zero => simp [pop]
  | succ a ih =>
    rw [show a + 1 + b = (a + b) + 1 by omega]
    simp only [pop]
    rw [ih, Nat.div_div_eq_div_mul, Nat.pow_succ, Nat.mul_comm 2]
    omega
theorem pop_le (k x : Nat) : pop k x ≤ k := by
  induction k generalizing x with
  | zero => simp [pop]
  | succ k ih => have := ih (x / 2); simp only [pop]; omega
theorem pop_zero (k : Nat) : pop k 0 = 0 := by
  induction k with
  | zero => rfl
  | succ k ih => simp [pop, ih]
theorem pop8_mod (x : Nat) : pop 8 x = pop 8 (x % 256) := by simp only [pop]; omega

theorem land256 (q r M : Nat) (hr : r < 256) : (256 * q + r) &&& M = 256 * (q &&& (M / 256)) + (r &&& (M % 256)) := by
  have hM : M % 256 < 256 := Nat.mod_lt _ (by decide)
  have e : M = 2 ^ 8 * (M / 256) + M % 256 := by omega
  have h1 : r &&& (M % 256) < 2 ^ 8 := Nat.and_lt_two_pow _ hM
  apply Nat.eq_of_testBit_eq
  intro i
  have t1 := Nat.testBit_two_pow_mul_add (i := 8) q (show r < 2 ^ 8 by omega) i
  have t2 := Nat.testBit_two_pow_mul_add (i := 8) (M / 256) (show M % 256 < 2 ^ 8 by omega) i
  have t3 := Nat.testBit_two_pow_mul_add (i := 8) (q &&& M / 256) h1 i
  rw [Nat.testBit_and]
  conv => lhs; rw [e]
  rw [show (256 : Nat) * q = 2 ^ 8 * q from rfl, show (256 : Nat) * (q &&& M / 256) = 2 ^ 8 * (q &&& M / 256) from rfl, t1, t2, t3]
  by_cases h : i < 8 <;> simp [h, Nat.testBit_and]
theorem land3 (a b c M : Nat) (ha : a < 256) (hb : b < 256) (hc : c < 256) : (65536 * c + 256 * b + a) &&& M = 65536 * (c &&& (M / 65536 % 256)) + 256 * (b &&& (M / 256 % 256)) + (a &&& (M % 256)) := by
  rw [show 65536 * c + 256 * b + a = 256 * (256 * c + b) + a by omega, land256 _ _ _ ha, land256 _ _ _ hb]
  have := land256 0 c (M / 256 / 256) hc
  simp only [Nat.mul_zero, Nat.zero_add, Nat.zero_and, Nat.div_div_eq_div_mul, Nat.reduceMul] at this
  simp only [Nat.div_div_eq_div_mul, Nat.reduceMul]
  rw [this]
  omega
theorem byteA : ∀ r : Fin 256, ∀ t : Fin 2, (t.val * 128 + r.val / 2) &&& 85 = (r.val / 2) &&& 85 := by decide +kernel
theorem byteA' : ∀ r : Fin 256, ((r.val / 2) &&& 85) + (r.val &&& 85) < 256 := by decide +kernel
theorem byteB : ∀ r : Fin 256, ∀ t : Fin 4, (t.val * 64 + r.val / 4) &&& 51 = (r.val / 4) &&& 51 := by decide +kernel
def stA (r : Nat) : Nat := ((r / 2) &&& 85) + (r &&& 85)
def stB (r : Nat) : Nat := ((r / 4) &&& 51) + (r &&& 51)
theorem byteAll : ∀ r : Fin 256, stA r.val < 256 ∧ stB (stA r.val) % 16 ≤ 4 ∧ stB (stA r.val) / 16 ≤ 4 ∧ (stB (stA r.val) / 16 + stB (stA r.val)) % 16 = pop 8 r.val := by decide +kernel
/-- The three steps on a number of three bytes. -/
theorem stepA (a b c : Nat) (ha : a < 256) (hb : b < 256) (hc : c < 256) : (((65536 * c + 256 * b + a) / 2) &&& 6148914691236517205) + ((65536 * c + 256 * b + a) &&& 6148914691236517205) = 65536 * stA c + 256 * stA b + stA a := by
  have e : (65536 * c + 256 * b + a) / 2 = 65536 * (0 * 128 + c / 2) + 256 * (c % 2 * 128 + b / 2) + (b % 2 * 128 + a / 2) := by omega
  rw [e, land3 _ _ _ _ (by omega) (by omega) (by omega), land3 _ _ _ _ ha hb hc]
  have x1 := byteA ⟨c, hc⟩ ⟨0, by omega⟩
  have x2 := byteA ⟨b, hb⟩ ⟨c % 2, by omega⟩
  have x3 := byteA ⟨a, ha⟩ ⟨b % 2, by omega⟩
  simp only at x1 x2 x3
  simp only [Nat.reduceDiv, Nat.reduceMod]
  rw [x1, x2, x3]
  unfold stA
  omega
theorem stepB (a b c : Nat) (ha : a < 256) (hb : b < 256) (hc : c < 256) : (((65536 * c + 256 * b + a) / 4) &&& 3689348814741910323) + ((65536 * c + 256 * b + a) &&& 3689348814741910323) = 65536 * stB c + 256 * stB b + stB a := by
  have e : (65536 * c + 256 * b + a) / 4 = 65536 * (0 * 64 + c / 4) + 256 * (c % 4 * 64 + b / 4) + (b % 4 * 64 + a / 4) := by omega
  rw [e, land3 _ _ _ _ (by omega) (by omega) (by omega), land3 _ _ _ _ ha hb hc]
  have x1 := byteB ⟨c, hc⟩ ⟨0, by omega⟩
  have x2 := byteB ⟨b, hb⟩ ⟨c % 4, by omega⟩
  have x3 := byteB ⟨a, ha⟩ ⟨b % 4, by omega⟩
  simp only at x1 x2 x3
  simp only [Nat.reduceDiv, Nat.reduceMod]
  rw [x1, x2, x3]
  unfold stB
  omega
theorem stepC (a b c : Nat) (ha : a % 16 ≤ 4 ∧ a / 16 ≤ 4) (hb : b % 16 ≤ 4 ∧ b / 16 ≤ 4) (hc : c % 16 ≤ 4 ∧ c / 16 ≤ 4) :
    (((65536 * c + 256 * b + a) / 16) + (65536 * c + 256 * b + a)) &&& 1085102592571150095 = 65536 * ((c / 16 + c) % 16) + 256 * ((b / 16 + b) % 16) + (a / 16 + a) % 16 := by
  have e : (65536 * c + 256 * b + a) / 16 + (65536 * c + 256 * b + a) = 65536 * (c / 16 + c) + 256 * (c % 16 * 16 + b / 16 + b) + (b % 16 * 16 + a / 16 + a) := by omega
  rw [e, land3 _ _ _ _ (by omega) (by omega) (by omega)]
  simp only [Nat.reduceDiv, Nat.reduceMod]
  rw [nat_mask4, nat_mask4, nat_mask4]
  omega
/-- What the program's count comes to, of a number of three bytes. -/
theorem count24 (x : Nat) (hx : x < 16777216) : 
    let A := ((x / 2) &&& 6148914691236517205) + (x &&& 6148914691236517205)
    let B := ((A / 4) &&& 3689348814741910323) + (A &&& 3689348814741910323)
    let C := ((B / 16) + B) &&& 1085102592571150095
    A < 16777216 ∧ B < 16777216 ∧ C % 256 ≤ 8 ∧ C / 256 % 256 ≤ 8 ∧ C / 65536 ≤ 8 ∧ C % 256 + C / 256 % 256 + C / 65536 = pop 24 x := by
  intro A B C
  have ex : x = 65536 * (x / 65536) + 256 * (x / 256 % 256) + x % 256 := by omega
  have hA : A = 65536 * stA (x / 65536) + 256 * stA (x / 256 % 256) + stA (x % 256) := by
    have := stepA (x % 256) (x / 256 % 256) (x / 65536) (by omega) (by omega) (by omega)
    rw [← ex] at this; exact this
  obtain ⟨a1, a2, a3, a4⟩ := byteAll ⟨x % 256, by omega⟩
  obtain ⟨b1, b2, b3, b4⟩ := byteAll ⟨x / 256 % 256, by omega⟩
  obtain ⟨c1, c2, c3, c4⟩ := byteAll ⟨x / 65536, by omega⟩
  simp only at a1 a2 a3 a4 b1 b2 b3 b4 c1 c2 c3 c4
  have hB : B = 65536 * stB (stA (x / 65536)) + 256 * stB (stA (x / 256 % 256)) + stB (stA (x % 256)) := by
    have := stepB _ _ _ a1 b1 c1
    rw [← hA] at this; exact this
  have hC : C = 65536 * ((stB (stA (x / 65536)) / 16 + stB (stA (x / 65536))) % 16) + 256 * ((stB (stA (x / 256 % 256)) / 16 + stB (stA (x / 256 % 256))) % 16) + (stB (stA (x % 256)) / 16 + stB (stA (x % 256))) % 16 := by
    have := stepC _ _ _ ⟨a2, a3⟩ ⟨b2, b3⟩ ⟨c2, c3⟩
    rw [← hB] at this; exact this
  have hp : pop 24 x = pop 8 (x % 256) + pop 8 (x / 256 % 256) + pop 8 (x / 65536) := by
    rw [show 24 = 8 + (8 + 8) from rfl, pop_add 8 (8 + 8), pop_add 8 8, pop8_mod x, pop8_mod (x / 2 ^ 8), Nat.div_div_eq_div_mul]
    simp only [Nat.reducePow, Nat.reduceMul]
    omega
  have h8a := pop_le 8 (x % 256)
  have h8b := pop_le 8 (x / 256 % 256)
  have h8c := pop_le 8 (x / 65536)
  rw [a4, b4, c4] at hC
  rw [hp]
  clear a4 b4 c4 hp
  generalize pop 8 (x % 256) = p at *
  generalize pop 8 (x / 256 % 256) = q at *
  generalize pop 8 (x / 65536) = r at *
  refine ⟨?_, ?_, ?_, ?_, ?_, ?_⟩
  · clear hC hB; omega
  · clear hC hA
    generalize stB (stA (x / 65536)) = t at *
    generalize stB (stA (x / 256 % 256)) = u at *
    generalize stB (stA (x % 256)) = v at *
    omega
  · rw [hC]; omega
  · rw [hC]; omega
  · rw [hC]; omega
  · rw [hC]; omega
theorem andU (a m : Nat) (ha : a < 18446744073709551616) (hm : m < 18446744073709551616) : Go.bits .and .u64 (a : Int) (m : Int) = ((a &&& m : Nat) : Int) := u64_and_nat a m ha hm
/-- The same as Go's numbers have it. -/
theorem ones (x : Nat) (hx : x < 16777216) (a b c d e g : Int)
    (ha : a = IntKind.u64.wrap ((Go.bits .and .u64 ((x : Int) / 2) 6148914691236517205) + (Go.bits .and .u64 (x : Int) 6148914691236517205)))
    (hb : b = IntKind.u64.wrap ((Go.bits .and .u64 (a / 4) 3689348814741910323) + (Go.bits .and .u64 a 3689348814741910323)))
    (hc : c = Go.bits .and .u64 (IntKind.u64.wrap ((b / 16) + b)) 1085102592571150095)
    (hd : d = IntKind.u64.wrap (c + (c / 256))) (he : e = IntKind.u64.wrap (d + (d / 65536))) (hg : g = IntKind.u64.wrap (e + (e / 4294967296))) :
    Go.bits .and .i64 (wrap64 g) 127 = ((pop 24 x : Nat) : Int) := by
  obtain ⟨h1, h2, h3, h4, h5, h6⟩ := count24 x hx
  have h7 := pop_le 24 x
  have m0 : (6148914691236517205 : Int) = ((6148914691236517205 : Nat) : Int) := rfl
  have m1 : (3689348814741910323 : Int) = ((3689348814741910323 : Nat) : Int) := rfl
  have m2 : (1085102592571150095 : Int) = ((1085102592571150095 : Nat) : Int) := rfl
  rw [show (x : Int) / 2 = ((x / 2 : Nat) : Int) by omega, m0, andU _ _ (by omega) (by decide), andU _ _ (by omega) (by decide)] at ha
  generalize hA : ((x / 2) &&& 6148914691236517205) + (x &&& 6148914691236517205) = A at h1 h2 h3 h4 h5 h6
  have ea : a = (A : Int) := by rw [ha, u64 (by omega) (by omega)]; omega
  clear ha; subst ea
  rw [show (A : Int) / 4 = ((A / 4 : Nat) : Int) by omega, m1, andU _ _ (by omega) (by decide), andU _ _ (by omega) (by decide)] at hb
  generalize hB : ((A / 4) &&& 3689348814741910323) + (A &&& 3689348814741910323) = B at h2 h3 h4 h5 h6
  have eb : b = (B : Int) := by rw [hb, u64 (by omega) (by omega)]; omega
  clear hb; subst eb
  rw [show (B : Int) / 16 + B = ((B / 16 + B : Nat) : Int) by omega, u64 (by omega) (by omega), m2, andU _ _ (by omega) (by decide)] at hc
  generalize ((B / 16) + B) &&& 1085102592571150095 = C at hc h3 h4 h5 h6
  subst hc
  obtain ⟨p, q, r, rfl, hp, hq, hr⟩ : ∃ p q r, C = 65536 * r + 256 * q + p ∧ p ≤ 8 ∧ q ≤ 8 ∧ r ≤ 8 := ⟨C % 256, C / 256 % 256, C / 65536, by omega, h3, h4, h5⟩
  clear h3 h4 h5
  have e1 : (65536 * r + 256 * q + p) % 256 = p := by omega
  have e2 : (65536 * r + 256 * q + p) / 256 % 256 = q := by omega
  have e3 : (65536 * r + 256 * q + p) / 65536 = r := by omega
  rw [e1, e2, e3] at h6
  have h8 : pop 24 x = p + q + r := h6.symm
  clear e1 e2 e3
  clear h1 h2 h6 hA hB
  have ed : d = ((65536 * r + 256 * (q + r) + (p + q) : Nat) : Int) := by rw [hd, u64 (by omega) (by omega)]; omega
  clear hd; subst ed
  have ee : e = ((65536 * r + 256 * (q + r) + (p + q + r) : Nat) : Int) := by rw [he, u64 (by omega) (by omega)]; omega
  clear he; subst ee
  have eg : g = ((65536 * r + 256 * (q + r) + (p + q + r) : Nat) : Int) := by rw [hg, u64 (by omega) (by omega)]; omega
  clear hg; subst eg
  rw [w64 (by omega) (by omega), show (127 : Int) = ((127 : Nat) : Int) from rfl, andI _ _ (by omega) (by omega), nat_mask7, h8]
  omega
attribute [irreducible] pop
end Go.Proofs.Ytdnekkbchlibhaa.Num
