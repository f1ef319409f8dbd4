/- CheckOf of the program answers as CheckOf of the reference at every argument, and the arguments stay as they are. No condition. -/
import Derived.Test.YtncaalbbiflnpaaPFnExactCheckOfx2
import Derived.Test.YtncaalbbiflnpaaBits
namespace Go.Proofs.Ytncaalbbiflnpaa.Pure
open Go.RowKit Go.Proofs.Ytncaalbbiflnpaa.PFnExactCheckOf Go.Proofs.YtncaalbbiflnpaaW.PrintWords Go.Proofs.YtncaalbbiflnpaaW.PrintLast Go.Proofs.YtncaalbbiflnpaaW.PrintMore Go.Proofs.Ytncaalbbiflnpaa.Num
set_option linter.unusedVariables false
set_option linter.unusedSimpArgs false

theorem inRange (a b c : Int) : spec_l01In.f a b c = some (decide (b ≤ a ∧ a ≤ c)) := by
  unfold spec_l01In.f
  by_cases h : b ≤ a <;> simp [h]
theorem rd_nat (x : List Int) (i : Nat) (h : i < x.length) : rd x (i : Int) = x[i] := by
  unfold rd
  rw [Int.toNat_natCast, List.getD_eq_getElem?_getD, List.getElem?_eq_getElem h]
  rfl
theorem toIntS_loop (x : List Int) (hx : x.length ≤ 1048576) (d : Nat) : ∀ (k i : Nat) (z : List Int), i + d = x.length → d < k → z.length = d →
    laws_toIntS.l0 k x (x.take i ++ z) i = some x := by
  induction d with
  | zero =>
    intro k i z hi hk hz
    obtain ⟨k, rfl⟩ : ∃ m, k = m + 1 := ⟨k - 1, by omega⟩
    obtain rfl : z = [] := List.eq_nil_of_length_eq_zero hz
    simp only [laws_toIntS.l0]
    rw [if_neg (by omega), List.append_nil, List.take_of_length_le (by omega)]
  | succ d ih =>
    intro k i z hi hk hz
    obtain ⟨k, rfl⟩ : ∃ m, k = m + 1 := ⟨k - 1, by omega⟩
    cases z with
    | nil => simp at hz
    | cons y z =>
      have hlt : i < x.length := by omega
      have hl : (x.take i).length = i := by rw [List.length_take]; omega
      have hz' : z.length = d := by simpa using hz
      simp only [laws_toIntS.l0]
      rw [if_pos (by omega), if_pos (by omega), if_pos (by rw [List.length_append, hl]; simp only [List.length_cons]; omega), rd_nat x i hlt, Int.toNat_natCast, w64 (by omega) (by omega)]
      have e : (x.take i ++ y :: z).set i x[i] = x.take (i + 1) ++ z := by
        rw [List.set_append, hl, if_neg (by omega), Nat.sub_self, List.set_cons_zero, List.take_succ_eq_append_getElem hlt, List.append_assoc]
        rfl
      rw [e]
      exact ih k (i + 1) z (by omega) (by omega) hz'
theorem toIntS (x : List Int) (hx : x.length ≤ 1048576) (k : Nat) (hk : x.length < k) : laws_toIntS.f k x = some x := by
  unfold laws_toIntS.f
  rw [if_pos (by omega), Int.toNat_natCast, if_pos (by omega)]
  exact toIntS_loop x hx x.length k 0 (List.replicate x.length 0) (by omega) hk (by simp)
theorem eqIntS_loop (x y : List Int) (hxy : x.length = y.length) (hx : x.length ≤ 1048576) (d : Nat) : ∀ (k i : Nat), i + d = x.length → d < k →
    laws_eqIntS.l0 k x y i = some (decide (x.drop i = y.drop i)) := by
  induction d with
  | zero =>
    intro k i hi hk
    obtain ⟨k, rfl⟩ : ∃ m, k = m + 1 := ⟨k - 1, by omega⟩
    simp only [laws_eqIntS.l0]
    rw [if_neg (by omega), List.drop_of_length_le (by omega), List.drop_of_length_le (by omega)]
    simp
  | succ d ih =>
    intro k i hi hk
    obtain ⟨k, rfl⟩ : ∃ m, k = m + 1 := ⟨k - 1, by omega⟩
    have h1 : i < x.length := by omega
    have h2 : i < y.length := by omega
    simp only [laws_eqIntS.l0]
    rw [if_pos (by omega), if_pos (by omega), if_pos (by omega), rd_nat x i h1, rd_nat y i h2, w64 (by omega) (by omega)]
    by_cases e : x[i] = y[i]
    · have key : (x.drop i = y.drop i) ↔ (x.drop (i + 1) = y.drop (i + 1)) := by
        rw [List.drop_eq_getElem_cons h1, List.drop_eq_getElem_cons h2, e]
        exact ⟨fun h => (List.cons.inj h).2, fun h => by rw [h]⟩
      rw [if_pos e, show ((i : Int) + 1) = ((i + 1 : Nat) : Int) by omega, ih k (i + 1) (by omega) (by omega)]
      simp only [key]
    · have key : ¬ (x.drop i = y.drop i) := by
        rw [List.drop_eq_getElem_cons h1, List.drop_eq_getElem_cons h2]
        exact fun h => e (List.cons.inj h).1
      rw [if_neg e, decide_eq_false key]
theorem eqIntS (x y : List Int) (hx : x.length ≤ 1048576) (k : Nat) (hk : x.length < k) : laws_eqIntS.f k x y = some (decide (x = y)) := by
  unfold laws_eqIntS.f
  by_cases h : x.length = y.length
  · rw [if_pos (by omega)]
    exact eqIntS_loop x y h hx x.length k 0 (by omega) hk
  · rw [if_neg (by omega)]
    have : x ≠ y := fun e => h (by rw [e])
    simp [this]
theorem eqIntS_self (x : List Int) (hx : x.length ≤ 1048576) (k : Nat) (hk : x.length < k) : laws_eqIntS.f k x x = some true := by
  rw [eqIntS x x hx k hk]; simp
def okB (l : List Int) : Bool := decide (l.length ≤ 40) && l.all (fun b => decide (0 ≤ b) && decide (b ≤ 255))
theorem okB_iff (l : List Int) : okB l = true ↔ l.length ≤ 40 ∧ ∀ b ∈ l, 0 ≤ b ∧ b ≤ 255 := by
  simp [okB]
theorem spec_bytes_loop (x : List Int) (hx : x.length ≤ 1048576) (d : Nat) : ∀ (k i : Nat), i + d = x.length → d < k →
    spec_AreBytes.l0 k x i = some (decide (x.length ≤ 40) && (x.drop i).all (fun b => decide (0 ≤ b) && decide (b ≤ 255))) := by
  induction d with
  | zero =>
    intro k i hi hk
    obtain ⟨k, rfl⟩ : ∃ m, k = m + 1 := ⟨k - 1, by omega⟩
    simp only [spec_AreBytes.l0]
    rw [if_neg (by omega), List.drop_of_length_le (by omega)]
    simp
    omega
  | succ d ih =>
    intro k i hi hk
    obtain ⟨k, rfl⟩ : ∃ m, k = m + 1 := ⟨k - 1, by omega⟩
    have h1 : i < x.length := by omega
    simp only [spec_AreBytes.l0]
    rw [if_pos (by omega), if_pos (by omega), rd_nat x i h1, inRange, w64 (by omega) (by omega), List.drop_eq_getElem_cons h1, show ((i : Int) + 1) = ((i + 1 : Nat) : Int) by omega, ih k (i + 1) (by omega) (by omega)]
    simp only [Option.bind_some, List.all_cons]
    by_cases e : 0 ≤ x[i] ∧ x[i] ≤ 255
    · simp [e]
    · rw [show (decide (0 ≤ x[i] ∧ x[i] ≤ 255)) = false by simpa using e]
      have : (decide (0 ≤ x[i]) && decide (x[i] ≤ 255)) = false := by rw [← Bool.decide_and]; simpa using e
      rw [this]
      simp
theorem spec_bytes (x : List Int) (hx : x.length ≤ 1048576) (k : Nat) (hk : x.length < k) : spec_AreBytes.f k x = some (okB x) := by
  have := spec_bytes_loop x hx x.length k 0 (by omega) hk
  simpa [spec_AreBytes.f, okB] using this
theorem any_not (l : List Int) : l.any (fun x => !(decide (0 ≤ x) && decide (x ≤ 255))) = !(l.all (fun b => decide (0 ≤ b) && decide (b ≤ 255))) := by
  induction l with
  | nil => rfl
  | cons x t ih => rw [List.any_cons, List.all_cons, ih]; cases (decide (0 ≤ x) && decide (x ≤ 255)) <;> rfl
theorem impl_bytes (x : List Int) : impl_AreBytes.f x = some (okB x) := by
  unfold impl_AreBytes.f slices_ContainsFunc_int_int.f okB
  rw [if_pos (Or.inl rfl)]
  have e : (slices_ContainsFunc_int_int.p 50) = fun x => !(decide (0 ≤ x) && decide (x ≤ 255)) := by
    funext y
    simp [slices_ContainsFunc_int_int.p]
  rw [e, any_not]
  by_cases h : x.length ≤ 40
  · rw [if_pos (by omega)]; simp [h]
  · rw [if_neg (by omega)]; simp [h]
/-- One bit of the checksum, one byte, all bytes. -/
def sh (x : Int) : Int := if wrap64 (x * 2) > 65535 then Go.bits .xor .i64 (wrap64 (x * 2)) 69665 else wrap64 (x * 2)
def shs : Nat → Int → Int
  | 0, x => x
  | n + 1, x => shs n (sh x)
def crcB (x b : Int) : Int := shs 8 (Go.bits .xor .i64 x (wrap64 (b * 256)))
def crc (l : List Int) (x : Int) : Int := l.foldl crcB x
theorem spec_bits (l : List Int) (i : Int) (d : Nat) : ∀ (k j : Nat) (x : Int), j + d = 8 → spec_CheckOf.l1 (k + d + 1) l x i j = spec_CheckOf.l0 k l (shs d x) (wrap64 (i + 1)) := by
  induction d with
  | zero =>
    intro k j x hj
    rw [spec_CheckOf.l1]
    rw [if_neg (by omega)]
    rfl
  | succ d ih =>
    intro k j x hj
    rw [show k + (d + 1) + 1 = (k + d + 1) + 1 by omega]
    rw [spec_CheckOf.l1]
    rw [if_pos (by omega), w64 (n := (j : Int) + 1) (by omega) (by omega), show ((j : Int) + 1) = ((j + 1 : Nat) : Int) by omega]
    by_cases e : wrap64 (x * 2) > 65535
    · rw [if_pos e, ih k (j + 1) _ (by omega)]
      simp only [shs, sh]
      rw [if_pos e]
    · rw [if_neg e, ih k (j + 1) _ (by omega)]
      simp only [shs, sh]
      rw [if_neg e]
theorem spec_crc_loop (l : List Int) (hl : l.length ≤ 1048576) (d : Nat) : ∀ (k i : Nat) (x : Int), i + d = l.length → 10 * d < k → spec_CheckOf.l0 k l x i = some (crc (l.drop i) x) := by
  induction d with
  | zero =>
    intro k i x hi hk
    obtain ⟨k, rfl⟩ : ∃ m, k = m + 1 := ⟨k - 1, by omega⟩
    simp only [spec_CheckOf.l0]
    rw [if_neg (by omega), List.drop_of_length_le (by omega)]
    rfl
  | succ d ih =>
    intro k i x hi hk
    obtain ⟨k, rfl⟩ : ∃ m, k = m + 8 + 1 + 1 := ⟨k - 10, by omega⟩
    have h1 : i < l.length := by omega
    rw [spec_CheckOf.l0]
    rw [if_pos (by omega), if_pos (by omega), rd_nat l i h1]
    have hb := spec_bits l (i : Int) 8 k 0 (Go.bits .xor .i64 x (wrap64 (l[i] * 256))) (by decide)
    rw [show ((0 : Nat) : Int) = 0 from rfl] at hb
    rw [hb, w64 (n := (i : Int) + 1) (by omega) (by omega), show ((i : Int) + 1) = ((i + 1 : Nat) : Int) by omega, ih k (i + 1) _ (by omega) (by omega), List.drop_eq_getElem_cons h1]
    rfl
theorem spec_check (l : List Int) (hl : l.length ≤ 1048576) (k : Nat) (hk : l.length + 410 < k) : spec_CheckOf.f k l = some (if okB l then crc l 65535 else -1) := by
  unfold spec_CheckOf.f
  rw [spec_bytes l hl k (by omega)]
  simp only [Option.bind_some]
  by_cases h : okB l = true
  · have := (okB_iff l).mp h
    rw [if_pos h, if_pos h]
    have h2 := spec_crc_loop l hl l.length k 0 65535 (by omega) (by omega)
    simpa using h2
  · rw [if_neg h, if_neg h]
theorem impl_bits (l : List Int) (n i : Int) (d : Nat) : ∀ (k j : Nat) (x : Int), j + d = 8 → impl_CheckOf.l1 (k + d + 1) x l n i j = impl_CheckOf.l0 k (shs d x) l n (wrap64 (i + 1)) := by
  induction d with
  | zero =>
    intro k j x hj
    rw [impl_CheckOf.l1]
    rw [if_neg (by omega)]
    rfl
  | succ d ih =>
    intro k j x hj
    rw [show k + (d + 1) + 1 = (k + d + 1) + 1 by omega]
    rw [impl_CheckOf.l1]
    rw [if_pos (by omega), w64 (n := (j : Int) + 1) (by omega) (by omega), show ((j : Int) + 1) = ((j + 1 : Nat) : Int) by omega]
    by_cases e : wrap64 (x * 2) > 65535
    · rw [if_pos e, ih k (j + 1) _ (by omega)]
      simp only [shs, sh]
      rw [if_pos e]
    · rw [if_neg e, ih k (j + 1) _ (by omega)]
      simp only [shs, sh]
      rw [if_neg e]
theorem impl_crc_loop (l : List Int) (hl : l.length ≤ 1048576) (d : Nat) : ∀ (k i : Nat) (x : Int), i + d = l.length → 10 * d < k → impl_CheckOf.l0 k x l (l.length : Int) i = some (crc (l.drop i) x) := by
  induction d with
  | zero =>
    intro k i x hi hk
    obtain ⟨k, rfl⟩ : ∃ m, k = m + 1 := ⟨k - 1, by omega⟩
    simp only [impl_CheckOf.l0]
    rw [if_neg (by omega), List.drop_of_length_le (by omega)]
    rfl
  | succ d ih =>
    intro k i x hi hk
    obtain ⟨k, rfl⟩ : ∃ m, k = m + 8 + 1 + 1 := ⟨k - 10, by omega⟩
    have h1 : i < l.length := by omega
    rw [impl_CheckOf.l0]
    rw [if_pos (by omega), if_pos (by omega), if_pos (by omega), rd_nat l i h1]
    have hb := impl_bits l (l.length : Int) (i : Int) 8 k 0 (Go.bits .xor .i64 x (wrap64 (l[i] * 256))) (by decide)
    rw [show ((0 : Nat) : Int) = 0 from rfl] at hb
    rw [hb, w64 (n := (i : Int) + 1) (by omega) (by omega), show ((i : Int) + 1) = ((i + 1 : Nat) : Int) by omega, ih k (i + 1) _ (by omega) (by omega), List.drop_eq_getElem_cons h1]
    rfl
theorem impl_check (l : List Int) (k : Nat) (hk : 410 < k) : impl_CheckOf.f k l = some (if okB l then crc l 65535 else -1) := by
  unfold impl_CheckOf.f
  rw [impl_bytes l]
  simp only [Option.bind_some]
  by_cases h : okB l = true
  · have := (okB_iff l).mp h
    rw [if_pos h, if_pos h]
    have h2 := impl_crc_loop l (by omega) l.length k 0 65535 (by omega) (by omega)
    simpa using h2
  · rw [if_neg h, if_neg h]
theorem FnExactCheckOf : laws_FnExactCheckOf.Pure := by
  intro l0 _ _ _
  refine ⟨l0.length + 420, ?_⟩
  unfold laws_FnExactCheckOf.f
  by_cases h : (l0.length : Int) > 1048576
  · rw [if_pos h]
  · have hl : l0.length ≤ 1048576 := by omega
    have hk : l0.length < l0.length + 420 := by omega
    rw [if_neg h]
    simp only [toIntS l0 hl _ hk, spec_check l0 hl _ (show l0.length + 410 < l0.length + 420 by omega), impl_check l0 _ (show 410 < l0.length + 420 by omega), eqIntS_self l0 hl _ hk, Option.bind_some]
    simp

end Go.Proofs.Ytncaalbbiflnpaa.Pure
