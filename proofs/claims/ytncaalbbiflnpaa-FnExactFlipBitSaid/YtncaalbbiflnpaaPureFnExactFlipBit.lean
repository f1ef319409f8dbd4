/- FlipBit of the program answers as FlipBit of the reference at every argument, and the arguments stay as they are. No condition. -/
import Derived.Test.YtncaalbbiflnpaaPFnExactFlipBitx2
import Derived.Test.YtncaalbbiflnpaaBits
namespace Go.Proofs.Ytncaalbbiflnpaa.Pure
open Go.RowKit Go.Proofs.Ytncaalbbiflnpaa.PFnExactFlipBit Go.Proofs.YtncaalbbiflnpaaW.PrintWords Go.Proofs.YtncaalbbiflnpaaW.PrintLast Go.Proofs.YtncaalbbiflnpaaW.PrintMore Go.Proofs.Ytncaalbbiflnpaa.Num
set_option linter.unusedVariables false
set_option linter.unusedSimpArgs false

theorem inRange (a b c : Int) : spec_l01In.f a b c = some (decide (b ≤ a ∧ a ≤ c)) := by
  unfold spec_l01In.f
  by_cases h : b ≤ a <;> simp [h]
theorem within (a b c : Int) : impl_within.f a b c = some (decide (b ≤ a ∧ a ≤ c)) := by
  unfold impl_within.f
  by_cases h : b ≤ a <;> simp [h]
theorem rd_nat (x : List Int) (i : Nat) (h : i < x.length) : rd x (i : Int) = x[i] := by
  unfold rd
  rw [Int.toNat_natCast, List.getD_eq_getElem?_getD, List.getElem?_eq_getElem h]
  rfl
theorem toIntS_loop (x : List Int) (hx : x.length ≤ 1048576) (d : Nat) : ∀ (k i : Nat) (z : List Int), i + d = x.length → d < k → z.length = d →
    laws_toIntS.l0 k x (x.take i ++ z) i = some x := by
  induction d with
  | zero =>
    intro k i z hi hk hz
    obtain ⟨k, rfl⟩ : ∃ m, k = m + 1 := ⟨k - 1, by omega⟩
    obtain rfl : z = [] := List.eq_nil_of_length_eq_zero hz
    simp only [laws_toIntS.l0]
    rw [if_neg (by omega), List.append_nil, List.take_of_length_le (by omega)]
  | succ d ih =>
    intro k i z hi hk hz
    obtain ⟨k, rfl⟩ : ∃ m, k = m + 1 := ⟨k - 1, by omega⟩
    cases z with
    | nil => simp at hz
    | cons y z =>
      have hlt : i < x.length := by omega
      have hl : (x.take i).length = i := by rw [List.length_take]; omega
      have hz' : z.length = d := by simpa using hz
      simp only [laws_toIntS.l0]
      rw [if_pos (by omega), if_pos (by omega), if_pos (by rw [List.length_append, hl]; simp only [List.length_cons]; omega), rd_nat x i hlt, Int.toNat_natCast, w64 (by omega) (by omega)]
      have e : (x.take i ++ y :: z).set i x[i] = x.take (i + 1) ++ z := by
        rw [List.set_append, hl, if_neg (by omega), Nat.sub_self, List.set_cons_zero, List.take_succ_eq_append_getElem hlt, List.append_assoc]
        rfl
      rw [e]
      exact ih k (i + 1) z (by omega) (by omega) hz'
theorem toIntS (x : List Int) (hx : x.length ≤ 1048576) (k : Nat) (hk : x.length < k) : laws_toIntS.f k x = some x := by
  unfold laws_toIntS.f
  rw [if_pos (by omega), Int.toNat_natCast, if_pos (by omega)]
  exact toIntS_loop x hx x.length k 0 (List.replicate x.length 0) (by omega) hk (by simp)
theorem eqIntS_loop (x y : List Int) (hxy : x.length = y.length) (hx : x.length ≤ 1048576) (d : Nat) : ∀ (k i : Nat), i + d = x.length → d < k →
    laws_eqIntS.l0 k x y i = some (decide (x.drop i = y.drop i)) := by
  induction d with
  | zero =>
    intro k i hi hk
    obtain ⟨k, rfl⟩ : ∃ m, k = m + 1 := ⟨k - 1, by omega⟩
    simp only [laws_eqIntS.l0]
    rw [if_neg (by omega), List.drop_of_length_le (by omega), List.drop_of_length_le (by omega)]
    simp
  | succ d ih =>
    intro k i hi hk
    obtain ⟨k, rfl⟩ : ∃ m, k = m + 1 := ⟨k - 1, by omega⟩
    have h1 : i < x.length := by omega
    have h2 : i < y.length := by omega
    simp only [laws_eqIntS.l0]
    rw [if_pos (by omega), if_pos (by omega), if_pos (by omega), rd_nat x i h1, rd_nat y i h2, w64 (by omega) (by omega)]
    by_cases e : x[i] = y[i]
    · have key : (x.drop i = y.drop i) ↔ (x.drop (i + 1) = y.drop (i + 1)) := by
        rw [List.drop_eq_getElem_cons h1, List.drop_eq_getElem_cons h2, e]
        exact ⟨fun h => (List.cons.inj h).2, fun h => by rw [h]⟩
      rw [if_pos e, show ((i : Int) + 1) = ((i + 1 : Nat) : Int) by omega, ih k (i + 1) (by omega) (by omega)]
      simp only [key]
    · have key : ¬ (x.drop i = y.drop i) := by
        rw [List.drop_eq_getElem_cons h1, List.drop_eq_getElem_cons h2]
        exact fun h => e (List.cons.inj h).1
      rw [if_neg e, decide_eq_false key]
theorem eqIntS (x y : List Int) (hx : x.length ≤ 1048576) (k : Nat) (hk : x.length < k) : laws_eqIntS.f k x y = some (decide (x = y)) := by
  unfold laws_eqIntS.f
  by_cases h : x.length = y.length
  · rw [if_pos (by omega)]
    exact eqIntS_loop x y h hx x.length k 0 (by omega) hk
  · rw [if_neg (by omega)]
    have : x ≠ y := fun e => h (by rw [e])
    simp [this]
theorem eqIntS_self (x : List Int) (hx : x.length ≤ 1048576) (k : Nat) (hk : x.length < k) : laws_eqIntS.f k x x = some true := by
  rw [eqIntS x x hx k hk]; simp
/-- The numbers a, a + 1, .. -/
def ups : Nat → Int → List Int
  | 0, _ => []
  | n + 1, a => a :: ups n (a + 1)
theorem ups_length (n : Nat) (a : Int) : (ups n a).length = n := by
  induction n generalizing a with
  | zero => rfl
  | succ n ih => simp [ups, ih]
theorem markIntS_loop (d : Nat) : ∀ (k i : Nat) (u z : List Int) (a : Int), z.length = d → u.length = i → i + d ≤ 1048576 → d < k → 0 ≤ a → a + d ≤ 4611686018427387904 →
    laws_markIntS.l0 k (u ++ z) a i = some (a + d, u ++ ups d a) := by
  induction d with
  | zero =>
    intro k i u z a hz hu hi hk h0 h1
    obtain ⟨k, rfl⟩ : ∃ m, k = m + 1 := ⟨k - 1, by omega⟩
    obtain rfl : z = [] := List.eq_nil_of_length_eq_zero hz
    simp only [laws_markIntS.l0]
    rw [if_neg (by rw [List.append_nil]; omega)]
    simp [ups]
  | succ d ih =>
    intro k i u z a hz hu hi hk h0 h1
    obtain ⟨k, rfl⟩ : ∃ m, k = m + 1 := ⟨k - 1, by omega⟩
    cases z with
    | nil => simp at hz
    | cons y z =>
      have hz' : z.length = d := by simpa using hz
      simp only [laws_markIntS.l0]
      rw [if_pos (by rw [List.length_append]; simp only [List.length_cons]; omega), if_pos (by omega), Int.toNat_natCast, w64 (by omega) (by omega), w64 (by omega) (by omega)]
      have e : (u ++ y :: z).set i a = (u ++ [a]) ++ z := by
        rw [List.set_append, hu, if_neg (by omega), Nat.sub_self, List.set_cons_zero]
        simp
      have hh := ih k (i + 1) (u ++ [a]) z (a + 1) hz' (by simp [hu]) (by omega) (by omega) (by omega) (by omega)
      rw [e, show ((i : Int) + 1) = ((i + 1 : Nat) : Int) by omega, hh]
      simp only [ups, List.append_assoc, List.singleton_append, Option.some.injEq, Prod.mk.injEq, and_true]
      omega
theorem markIntS (x : List Int) (hx : x.length ≤ 1048576) (a : Int) (h0 : 0 ≤ a) (h1 : a ≤ 1099511627776) (k : Nat) (hk : x.length < k) : laws_markIntS.f k x a = some (a + x.length, ups x.length a) := by
  have := markIntS_loop x.length k 0 [] x a rfl rfl (by omega) hk h0 (by omega)
  simpa [laws_markIntS.f] using this
theorem heldIntS_loop (d : Nat) : ∀ (k i : Nat) (u : List Int) (a : Int), u.length = i → i + d ≤ 1048576 → d < k → 0 ≤ a → a + d ≤ 4611686018427387904 →
    laws_heldIntS.l0 k (u ++ ups d a) a i = some (a + d) := by
  induction d with
  | zero =>
    intro k i u a hu hi hk h0 h1
    obtain ⟨k, rfl⟩ : ∃ m, k = m + 1 := ⟨k - 1, by omega⟩
    simp only [laws_heldIntS.l0]
    rw [if_neg (by rw [List.length_append, ups_length]; omega)]
    simp
  | succ d ih =>
    intro k i u a hu hi hk h0 h1
    obtain ⟨k, rfl⟩ : ∃ m, k = m + 1 := ⟨k - 1, by omega⟩
    have hlt : i < (u ++ ups (d + 1) a).length := by rw [List.length_append, ups_length]; omega
    have hr : rd (u ++ ups (d + 1) a) (i : Int) = a := by
      rw [rd_nat _ i hlt, List.getElem_append_right (by omega)]
      simp [hu, ups]
    simp only [laws_heldIntS.l0]
    rw [if_pos (by omega), if_pos (by omega), hr, if_pos rfl, w64 (by omega) (by omega), w64 (by omega) (by omega)]
    have hh := ih k (i + 1) (u ++ [a]) (a + 1) (by simp [hu]) (by omega) (by omega) (by omega) (by omega)
    simp only [ups]
    rw [List.append_assoc, List.singleton_append] at hh
    rw [show ((i : Int) + 1) = ((i + 1 : Nat) : Int) by omega, hh]
    simp only [Option.some.injEq]
    omega
theorem heldIntS (n : Nat) (hx : n ≤ 1048576) (a : Int) (h0 : 0 ≤ a) (h1 : a ≤ 1099511627776) (k : Nat) (hk : n < k) : laws_heldIntS.f k (ups n a) a = some (a + n) := by
  have := heldIntS_loop n k 0 [] a rfl (by omega) hk h0 (by omega)
  simpa [laws_heldIntS.f] using this
def okB (l : List Int) : Bool := decide (l.length ≤ 40) && l.all (fun b => decide (0 ≤ b) && decide (b ≤ 255))
theorem okB_iff (l : List Int) : okB l = true ↔ l.length ≤ 40 ∧ ∀ b ∈ l, 0 ≤ b ∧ b ≤ 255 := by
  simp [okB]
theorem spec_bytes_loop (x : List Int) (hx : x.length ≤ 1048576) (d : Nat) : ∀ (k i : Nat), i + d = x.length → d < k →
    spec_AreBytes.l0 k x i = some (decide (x.length ≤ 40) && (x.drop i).all (fun b => decide (0 ≤ b) && decide (b ≤ 255))) := by
  induction d with
  | zero =>
    intro k i hi hk
    obtain ⟨k, rfl⟩ : ∃ m, k = m + 1 := ⟨k - 1, by omega⟩
    simp only [spec_AreBytes.l0]
    rw [if_neg (by omega), List.drop_of_length_le (by omega)]
    simp
    omega
  | succ d ih =>
    intro k i hi hk
    obtain ⟨k, rfl⟩ : ∃ m, k = m + 1 := ⟨k - 1, by omega⟩
    have h1 : i < x.length := by omega
    simp only [spec_AreBytes.l0]
    rw [if_pos (by omega), if_pos (by omega), rd_nat x i h1, inRange, w64 (by omega) (by omega), List.drop_eq_getElem_cons h1, show ((i : Int) + 1) = ((i + 1 : Nat) : Int) by omega, ih k (i + 1) (by omega) (by omega)]
    simp only [Option.bind_some, List.all_cons]
    by_cases e : 0 ≤ x[i] ∧ x[i] ≤ 255
    · simp [e]
    · rw [show (decide (0 ≤ x[i] ∧ x[i] ≤ 255)) = false by simpa using e]
      have : (decide (0 ≤ x[i]) && decide (x[i] ≤ 255)) = false := by rw [← Bool.decide_and]; simpa using e
      rw [this]
      simp
theorem spec_bytes (x : List Int) (hx : x.length ≤ 1048576) (k : Nat) (hk : x.length < k) : spec_AreBytes.f k x = some (okB x) := by
  have := spec_bytes_loop x hx x.length k 0 (by omega) hk
  simpa [spec_AreBytes.f, okB] using this
theorem any_not (l : List Int) : l.any (fun x => !(decide (0 ≤ x) && decide (x ≤ 255))) = !(l.all (fun b => decide (0 ≤ b) && decide (b ≤ 255))) := by
  induction l with
  | nil => rfl
  | cons x t ih => rw [List.any_cons, List.all_cons, ih]; cases (decide (0 ≤ x) && decide (x ≤ 255)) <;> rfl
theorem impl_bytes (x : List Int) : impl_AreBytes.f x = some (okB x) := by
  unfold impl_AreBytes.f slices_ContainsFunc_int_int.f okB
  rw [if_pos (Or.inl rfl)]
  have e : (slices_ContainsFunc_int_int.p 50) = fun x => !(decide (0 ≤ x) && decide (x ≤ 255)) := by
    funext y
    simp [slices_ContainsFunc_int_int.p]
  rw [e, any_not]
  by_cases h : x.length ≤ 40
  · rw [if_pos (by omega)]; simp [h]
  · rw [if_neg (by omega)]; simp [h]
theorem clone (l : List Int) (hl : l.length ≤ 1048576) : slices_Clone_int_int.f l = some l := by
  unfold slices_Clone_int_int.f
  rw [if_pos (by omega)]
theorem core (l : List Int) (a : Int) (hl : l.length ≤ 1048576) (k : Nat) (hk : l.length < k) : ∃ S, spec_FlipBit.f k l a = some S ∧ impl_FlipBit.f l a = some S ∧ S.length = l.length := by
  unfold spec_FlipBit.f impl_FlipBit.f
  rw [spec_bytes l hl k hk, impl_bytes, clone l hl]
  simp only [Option.bind_some, List.nil_append, List.length_nil, Nat.zero_add, inRange, within]
  rw [if_pos (by omega)]
  by_cases hb : okB l = true
  · have hc := (okB_iff l).mp hb
    by_cases hr : 0 ≤ a ∧ a ≤ wrap64 (wrap64 (8 * (l.length : Int)) - 1)
    · have hw : wrap64 (wrap64 (8 * (l.length : Int)) - 1) = 8 * l.length - 1 := by rw [w64 (n := 8 * (l.length : Int)) (by omega) (by omega), w64 (by omega) (by omega)]
      obtain ⟨n, rfl⟩ := Int.eq_ofNat_of_zero_le hr.1
      have e1 : wrap64 (Int.tdiv (n : Int) 8) = ((n / 8 : Nat) : Int) := by
        rw [show Int.tdiv (n : Int) 8 = ((n / 8 : Nat) : Int) from rfl]
        exact w64 (by omega) (by omega)
      have e2 : Int.tmod (n : Int) 8 = ((n % 8 : Nat) : Int) := rfl
      have e3 : IntKind.u64.wrap ((n % 8 : Nat) : Int) = ((n % 8 : Nat) : Int) := u64 (by omega) (by omega)
      refine ⟨l.set ((n / 8 : Nat) : Int).toNat (Go.bits .xor .i64 (rd l ((n / 8 : Nat) : Int)) (shl .i64 1 ((n % 8 : Nat) : Int))), ?_, ?_, ?_⟩
      · rw [if_pos hb, if_pos (by simpa using hr), e1, e2, if_pos (by omega), if_pos (by omega), if_pos (by omega)]
      · rw [if_pos hb, if_pos (by simpa using hr), e1, e2, e3, if_pos (by omega), if_pos (by omega), if_pos (by omega)]
      · simp
    · exact ⟨l, by rw [if_pos hb, if_neg (by simpa using hr)], by rw [if_pos hb, if_neg (by simpa using hr)], rfl⟩
  · exact ⟨l, by rw [if_neg hb], by rw [if_neg hb], rfl⟩
theorem tail (l : List Int) (a : Int) (hl : l.length ≤ 1048576) (S : List Int) (hS : impl_FlipBit.f l a = some S) (hn : S.length = l.length) (k : Nat) (hk : l.length < k) : laws_FnExactFlipBit.j0 (k + 1) l a S S false = some true := by
  have hS' : S.length ≤ 1048576 := by omega
  have hk' : S.length < k := by omega
  simp only [laws_FnExactFlipBit.j0]
  rw [if_neg (by decide)]
  simp only [markIntS S hS' 1 (by decide) (by decide) k hk', heldIntS S.length hS' 1 (by decide) (by decide) k hk', toIntS l hl k hk, hS, eqIntS_self S hS' k hk', Option.bind_some]
  rw [if_neg (by omega)]
  simp
  omega
theorem FnExactFlipBit : laws_FnExactFlipBit.Pure := by
  intro l0 a1 _ _ _ _
  refine ⟨l0.length + 1 + 1, ?_⟩
  unfold laws_FnExactFlipBit.f
  by_cases h : (l0.length : Int) > 1048576
  · rw [if_pos h]
  · have hl : l0.length ≤ 1048576 := by omega
    have hk : l0.length < l0.length + 1 + 1 := by omega
    obtain ⟨S, h1, h2, h3⟩ := core l0 a1 hl _ hk
    have hS' : S.length ≤ 1048576 := by omega
    have hk' : S.length < l0.length + 1 + 1 := by omega
    have ht := tail l0 a1 hl S h2 h3 (l0.length + 1) (by omega)
    rw [if_neg h]
    simp only [toIntS l0 hl _ hk, h1, h2, eqIntS_self S hS' _ hk', eqIntS_self l0 hl _ hk, markIntS l0 hl 1 (by decide) (by decide) _ hk, Option.bind_some, if_true, Bool.not_true]
    rw [if_neg (by omega)]
    exact ht

end Go.Proofs.Ytncaalbbiflnpaa.Pure
