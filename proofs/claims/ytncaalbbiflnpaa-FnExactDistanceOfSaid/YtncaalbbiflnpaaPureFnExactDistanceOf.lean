/- DistanceOf of the program answers as DistanceOf of the reference at every argument, and the arguments stay as they are. No condition. -/
import Derived.Test.YtncaalbbiflnpaaPFnExactDistanceOfx2
import Derived.Test.YtncaalbbiflnpaaBits
namespace Go.Proofs.Ytncaalbbiflnpaa.Pure
open Go.RowKit Go.Proofs.Ytncaalbbiflnpaa.PFnExactDistanceOf Go.Proofs.YtncaalbbiflnpaaW.PrintWords Go.Proofs.YtncaalbbiflnpaaW.PrintLast Go.Proofs.YtncaalbbiflnpaaW.PrintMore Go.Proofs.Ytncaalbbiflnpaa.Num
set_option linter.unusedVariables false
set_option linter.unusedSimpArgs false

theorem inRange (a b c : Int) : spec_l01In.f a b c = some (decide (b ≤ a ∧ a ≤ c)) := by
  unfold spec_l01In.f
  by_cases h : b ≤ a <;> simp [h]
theorem rd_nat (x : List Int) (i : Nat) (h : i < x.length) : rd x (i : Int) = x[i] := by
  unfold rd
  rw [Int.toNat_natCast, List.getD_eq_getElem?_getD, List.getElem?_eq_getElem h]
  rfl
theorem toIntS_loop (x : List Int) (hx : x.length ≤ 1048576) (d : Nat) : ∀ (k i : Nat) (z : List Int), i + d = x.length → d < k → z.length = d →
    laws_toIntS.l0 k x (x.take i ++ z) i = some x := by
  induction d with
  | zero =>
    intro k i z hi hk hz
    obtain ⟨k, rfl⟩ : ∃ m, k = m + 1 := ⟨k - 1, by omega⟩
    obtain rfl : z = [] := List.eq_nil_of_length_eq_zero hz
    simp only [laws_toIntS.l0]
    rw [if_neg (by omega), List.append_nil, List.take_of_length_le (by omega)]
  | succ d ih =>
    intro k i z hi hk hz
    obtain ⟨k, rfl⟩ : ∃ m, k = m + 1 := ⟨k - 1, by omega⟩
    cases z with
    | nil => simp at hz
    | cons y z =>
      have hlt : i < x.length := by omega
      have hl : (x.take i).length = i := by rw [List.length_take]; omega
      have hz' : z.length = d := by simpa using hz
      simp only [laws_toIntS.l0]
      rw [if_pos (by omega), if_pos (by omega), if_pos (by rw [List.length_append, hl]; simp only [List.length_cons]; omega), rd_nat x i hlt, Int.toNat_natCast, w64 (by omega) (by omega)]
      have e : (x.take i ++ y :: z).set i x[i] = x.take (i + 1) ++ z := by
        rw [List.set_append, hl, if_neg (by omega), Nat.sub_self, List.set_cons_zero, List.take_succ_eq_append_getElem hlt, List.append_assoc]
        rfl
      rw [e]
      exact ih k (i + 1) z (by omega) (by omega) hz'
theorem toIntS (x : List Int) (hx : x.length ≤ 1048576) (k : Nat) (hk : x.length < k) : laws_toIntS.f k x = some x := by
  unfold laws_toIntS.f
  rw [if_pos (by omega), Int.toNat_natCast, if_pos (by omega)]
  exact toIntS_loop x hx x.length k 0 (List.replicate x.length 0) (by omega) hk (by simp)
theorem eqIntS_loop (x y : List Int) (hxy : x.length = y.length) (hx : x.length ≤ 1048576) (d : Nat) : ∀ (k i : Nat), i + d = x.length → d < k →
    laws_eqIntS.l0 k x y i = some (decide (x.drop i = y.drop i)) := by
  induction d with
  | zero =>
    intro k i hi hk
    obtain ⟨k, rfl⟩ : ∃ m, k = m + 1 := ⟨k - 1, by omega⟩
    simp only [laws_eqIntS.l0]
    rw [if_neg (by omega), List.drop_of_length_le (by omega), List.drop_of_length_le (by omega)]
    simp
  | succ d ih =>
    intro k i hi hk
    obtain ⟨k, rfl⟩ : ∃ m, k = m + 1 := ⟨k - 1, by omega⟩
    have h1 : i < x.length := by omega
    have h2 : i < y.length := by omega
    simp only [laws_eqIntS.l0]
    rw [if_pos (by omega), if_pos (by omega), if_pos (by omega), rd_nat x i h1, rd_nat y i h2, w64 (by omega) (by omega)]
    by_cases e : x[i] = y[i]
    · have key : (x.drop i = y.drop i) ↔ (x.drop (i + 1) = y.drop (i + 1)) := by
        rw [List.drop_eq_getElem_cons h1, List.drop_eq_getElem_cons h2, e]
        exact ⟨fun h => (List.cons.inj h).2, fun h => by rw [h]⟩
      rw [if_pos e, show ((i : Int) + 1) = ((i + 1 : Nat) : Int) by omega, ih k (i + 1) (by omega) (by omega)]
      simp only [key]
    · have key : ¬ (x.drop i = y.drop i) := by
        rw [List.drop_eq_getElem_cons h1, List.drop_eq_getElem_cons h2]
        exact fun h => e (List.cons.inj h).1
      rw [if_neg e, decide_eq_false key]
theorem eqIntS (x y : List Int) (hx : x.length ≤ 1048576) (k : Nat) (hk : x.length < k) : laws_eqIntS.f k x y = some (decide (x = y)) := by
  unfold laws_eqIntS.f
  by_cases h : x.length = y.length
  · rw [if_pos (by omega)]
    exact eqIntS_loop x y h hx x.length k 0 (by omega) hk
  · rw [if_neg (by omega)]
    have : x ≠ y := fun e => h (by rw [e])
    simp [this]
theorem eqIntS_self (x : List Int) (hx : x.length ≤ 1048576) (k : Nat) (hk : x.length < k) : laws_eqIntS.f k x x = some true := by
  rw [eqIntS x x hx k hk]; simp
def okB (l : List Int) : Bool := decide (l.length ≤ 40) && l.all (fun b => decide (0 ≤ b) && decide (b ≤ 255))
theorem okB_iff (l : List Int) : okB l = true ↔ l.length ≤ 40 ∧ ∀ b ∈ l, 0 ≤ b ∧ b ≤ 255 := by
  simp [okB]
theorem spec_bytes_loop (x : List Int) (hx : x.length ≤ 1048576) (d : Nat) : ∀ (k i : Nat), i + d = x.length → d < k →
    spec_AreBytes.l0 k x i = some (decide (x.length ≤ 40) && (x.drop i).all (fun b => decide (0 ≤ b) && decide (b ≤ 255))) := by
  induction d with
  | zero =>
    intro k i hi hk
    obtain ⟨k, rfl⟩ : ∃ m, k = m + 1 := ⟨k - 1, by omega⟩
    simp only [spec_AreBytes.l0]
    rw [if_neg (by omega), List.drop_of_length_le (by omega)]
    simp
    omega
  | succ d ih =>
    intro k i hi hk
    obtain ⟨k, rfl⟩ : ∃ m, k = m + 1 := ⟨k - 1, by omega⟩
    have h1 : i < x.length := by omega
    simp only [spec_AreBytes.l0]
    rw [if_pos (by omega), if_pos (by omega), rd_nat x i h1, inRange, w64 (by omega) (by omega), List.drop_eq_getElem_cons h1, show ((i : Int) + 1) = ((i + 1 : Nat) : Int) by omega, ih k (i + 1) (by omega) (by omega)]
    simp only [Option.bind_some, List.all_cons]
    by_cases e : 0 ≤ x[i] ∧ x[i] ≤ 255
    · simp [e]
    · rw [show (decide (0 ≤ x[i] ∧ x[i] ≤ 255)) = false by simpa using e]
      have : (decide (0 ≤ x[i]) && decide (x[i] ≤ 255)) = false := by rw [← Bool.decide_and]; simpa using e
      rw [this]
      simp
theorem spec_bytes (x : List Int) (hx : x.length ≤ 1048576) (k : Nat) (hk : x.length < k) : spec_AreBytes.f k x = some (okB x) := by
  have := spec_bytes_loop x hx x.length k 0 (by omega) hk
  simpa [spec_AreBytes.f, okB] using this
theorem any_not (l : List Int) : l.any (fun x => !(decide (0 ≤ x) && decide (x ≤ 255))) = !(l.all (fun b => decide (0 ≤ b) && decide (b ≤ 255))) := by
  induction l with
  | nil => rfl
  | cons x t ih => rw [List.any_cons, List.all_cons, ih]; cases (decide (0 ≤ x) && decide (x ≤ 255)) <;> rfl
theorem impl_bytes (x : List Int) : impl_AreBytes.f x = some (okB x) := by
  unfold impl_AreBytes.f slices_ContainsFunc_int_int.f okB
  rw [if_pos (Or.inl rfl)]
  have e : (slices_ContainsFunc_int_int.p 50) = fun x => !(decide (0 ≤ x) && decide (x ≤ 255)) := by
    funext y
    simp [slices_ContainsFunc_int_int.p]
  rw [e, any_not]
  by_cases h : x.length ≤ 40
  · rw [if_pos (by omega)]; simp [h]
  · rw [if_neg (by omega)]; simp [h]
theorem count (x : Nat) (hx : x < 16777216) : bits_OnesCount.f (x : Int) = some ((pop 24 x : Nat) : Int) := by
  have h : bits_OnesCount64.f (x : Int) = some ((pop 24 x : Nat) : Int) := congrArg some (ones x hx _ _ _ _ _ _ rfl rfl rfl rfl rfl rfl)
  unfold bits_OnesCount.f
  rw [h]
  rfl
theorem cones_loop (x : Nat) (hx : x < 65536) (d : Nat) : ∀ (k i : Nat) (a : Int), i + d = 16 → d < k → 0 ≤ a → a ≤ i →
    spec_CountOnes.l0 k x a i = some (a + (pop d (x / 2 ^ i) : Nat)) := by
  induction d with
  | zero =>
    intro k i a hi hk h0 h1
    obtain ⟨k, rfl⟩ : ∃ m, k = m + 1 := ⟨k - 1, by omega⟩
    simp only [spec_CountOnes.l0]
    rw [if_neg (by omega)]
    simp [pop_z]
  | succ d ih =>
    intro k i a hi hk h0 h1
    obtain ⟨k, rfl⟩ : ∃ m, k = m + 1 := ⟨k - 1, by omega⟩
    simp only [spec_CountOnes.l0]
    have e1 : shr .i64 (x : Int) (i : Int) = ((x / 2 ^ i : Nat) : Int) := by
      unfold shr
      rw [Int.toNat_natCast, Nat.min_eq_left (show i ≤ IntKind.i64.bits by show i ≤ 64; omega)]
      simp
    have hq : x / 2 ^ i ≤ x := Nat.div_le_self _ _
    have e2 : Go.bits .and .i64 ((x / 2 ^ i : Nat) : Int) 1 = ((x / 2 ^ i % 2 : Nat) : Int) := by
      rw [show (1 : Int) = ((1 : Nat) : Int) from rfl, andI _ _ (by omega) (by decide), nat_mask1]
    rw [if_pos (by omega), if_pos (by omega), e1, e2, w64 (by omega) (by omega), w64 (by omega) (by omega), show (i : Int) + 1 = ((i + 1 : Nat) : Int) by omega]
    rw [ih k (i + 1) _ (by omega) (by omega) (by omega) (by omega)]
    simp only [pop_succ, pop_z]
    rw [Nat.div_div_eq_div_mul, Nat.pow_succ]
    congr 1
    omega
theorem pop24 (x : Nat) (hx : x < 65536) : pop 24 x = pop 16 x := by
  rw [show 24 = 16 + 8 from rfl, pop_add, show x / 2 ^ 16 = 0 by omega, pop_zero]; omega
theorem spec_count (x : Nat) (hx : x < 65536) (k : Nat) (hk : 16 < k) : spec_CountOnes.f k (x : Int) = some ((pop 16 x : Nat) : Int) := by
  unfold spec_CountOnes.f
  rw [inRange]
  simp only [Option.bind_some]
  have hl := cones_loop x hx 16 k 0 0 (by decide) hk (by decide) (by decide)
  rw [Nat.pow_zero, Nat.div_one, Int.zero_add] at hl
  rw [if_pos (by simp; omega)]
  exact hl
/-- In how many bits two lists of bytes differ. -/
def dist : List Int → List Int → Nat
  | a :: x, b :: y => pop 16 (a.toNat ^^^ b.toNat) + dist x y
  | _, _ => 0
theorem dist_le (x y : List Int) : dist x y ≤ 16 * x.length := by
  induction x generalizing y with
  | nil => simp [dist]
  | cons a x ih =>
    cases y with
    | nil => simp [dist]
    | cons b y =>
      have := ih y
      have := pop_le 16 (a.toNat ^^^ b.toNat)
      simp only [dist, List.length_cons]
      omega
theorem xor_bytes (a b : Int) (ha : 0 ≤ a ∧ a ≤ 255) (hb : 0 ≤ b ∧ b ≤ 255) : Go.bits .xor .i64 a b = ((a.toNat ^^^ b.toNat : Nat) : Int) ∧ a.toNat ^^^ b.toNat < 256 := by
  obtain ⟨x, rfl⟩ := Int.eq_ofNat_of_zero_le ha.1
  obtain ⟨y, rfl⟩ := Int.eq_ofNat_of_zero_le hb.1
  rw [Int.toNat_natCast, Int.toNat_natCast]
  exact ⟨xorI x y (by omega) (by omega), show x ^^^ y < 2 ^ 8 from Nat.xor_lt_two_pow (by omega) (by omega)⟩
theorem impl_dist_loop (x y : List Int) (hx : ∀ b ∈ x, 0 ≤ b ∧ b ≤ 255) (hy : ∀ b ∈ y, 0 ≤ b ∧ b ≤ 255) (hl : x.length = y.length) (hn : x.length ≤ 1048576) (d : Nat) : ∀ (k i : Nat) (s : Nat), i + d = x.length → d < k → s ≤ 16 * i →
    impl_DistanceOf.l0 k x y s (x.length : Int) i = some ((s + dist (x.drop i) (y.drop i) : Nat) : Int) := by
  induction d with
  | zero =>
    intro k i s hi hk hs
    obtain ⟨k, rfl⟩ : ∃ m, k = m + 1 := ⟨k - 1, by omega⟩
    rw [impl_DistanceOf.l0, if_neg (by omega), List.drop_of_length_le (by omega)]
    simp [dist]
  | succ d ih =>
    intro k i s hi hk hs
    obtain ⟨k, rfl⟩ : ∃ m, k = m + 1 := ⟨k - 1, by omega⟩
    have h1 : i < x.length := by omega
    have h2 : i < y.length := by omega
    obtain ⟨e1, e2⟩ := xor_bytes x[i] y[i] (hx _ (List.getElem_mem h1)) (hy _ (List.getElem_mem h2))
    rw [impl_DistanceOf.l0, if_pos (by omega), if_pos (by omega), if_pos (by omega), if_pos (by omega), rd_nat x i h1, rd_nat y i h2, e1, u64 (by omega) (by omega), count _ (by omega), pop24 _ (by omega)]
    have hp := pop_le 16 (x[i].toNat ^^^ y[i].toNat)
    have hd : dist (x.drop i) (y.drop i) = pop 16 (x[i].toNat ^^^ y[i].toNat) + dist (x.drop (i + 1)) (y.drop (i + 1)) := by
      rw [List.drop_eq_getElem_cons h1, List.drop_eq_getElem_cons h2, dist]
    rw [hd]
    clear hd e1 e2
    generalize pop 16 (x[i].toNat ^^^ y[i].toNat) = p at hp ⊢
    simp only [Option.bind_some]
    rw [w64 (n := (s : Int) + _) (by omega) (by omega), w64 (n := (i : Int) + 1) (by omega) (by omega), show ((i : Int) + 1) = ((i + 1 : Nat) : Int) by omega, show ((s : Int) + (p : Int)) = ((s + p : Nat) : Int) by omega]
    rw [ih k (i + 1) _ (by omega) (by omega) (by omega), Nat.add_assoc]
/-- What DistanceOf gives. -/
def distF (x y : List Int) : Int := if okB x = true ∧ okB y = true ∧ x.length = y.length then (dist x y : Nat) else -1
theorem impl_distance (x y : List Int) (k : Nat) (hk : 42 < k) : impl_DistanceOf.f k x y = some (distF x y) := by
  obtain ⟨k, rfl⟩ : ∃ m, k = m + 1 := ⟨k - 1, by omega⟩
  unfold impl_DistanceOf.f distF
  rw [impl_bytes, impl_bytes]
  simp only [Option.bind_some, impl_DistanceOf.j0]
  by_cases hx : okB x = true
  · by_cases hy : okB y = true
    · obtain ⟨x1, x2⟩ := (okB_iff x).mp hx
      obtain ⟨y1, y2⟩ := (okB_iff y).mp hy
      by_cases hl : x.length = y.length
      · have := impl_dist_loop x y x2 y2 hl (by omega) x.length k 0 0 (by omega) (by omega) (by omega)
        rw [if_pos hx, if_pos hy, if_neg (by simp; omega), if_pos (show okB x = true ∧ okB y = true ∧ x.length = y.length from ⟨hx, hy, hl⟩)]
        simpa using this
      · rw [if_pos hx, if_pos hy, if_pos (by simp; omega), if_neg (show ¬ (okB x = true ∧ okB y = true ∧ x.length = y.length) from fun h => hl h.2.2)]
    · rw [if_pos hx, if_neg hy, if_pos trivial, if_neg (show ¬ (okB x = true ∧ okB y = true ∧ x.length = y.length) from fun h => hy h.2.1)]
  · rw [if_neg hx, if_pos trivial, if_neg (show ¬ (okB x = true ∧ okB y = true ∧ x.length = y.length) from fun h => hx h.1)]
theorem spec_dist_loop (x y : List Int) (hx : ∀ b ∈ x, 0 ≤ b ∧ b ≤ 255) (hy : ∀ b ∈ y, 0 ≤ b ∧ b ≤ 255) (hl : x.length = y.length) (hn : x.length ≤ 1048576) (d : Nat) : ∀ (k i : Nat) (s : Nat), i + d = x.length → d + 20 < k → s ≤ 16 * i →
    spec_DistanceOf.l0 k x y s i = some ((s + dist (x.drop i) (y.drop i) : Nat) : Int) := by
  induction d with
  | zero =>
    intro k i s hi hk hs
    obtain ⟨k, rfl⟩ : ∃ m, k = m + 1 := ⟨k - 1, by omega⟩
    rw [spec_DistanceOf.l0, if_neg (by omega), List.drop_of_length_le (by omega)]
    simp [dist]
  | succ d ih =>
    intro k i s hi hk hs
    obtain ⟨k, rfl⟩ : ∃ m, k = m + 1 := ⟨k - 1, by omega⟩
    have h1 : i < x.length := by omega
    have h2 : i < y.length := by omega
    obtain ⟨e1, e2⟩ := xor_bytes x[i] y[i] (hx _ (List.getElem_mem h1)) (hy _ (List.getElem_mem h2))
    rw [spec_DistanceOf.l0, if_pos (by omega), if_pos (by omega), if_pos (by omega), rd_nat x i h1, rd_nat y i h2, e1, spec_count _ (by omega) k (by omega)]
    have hp := pop_le 16 (x[i].toNat ^^^ y[i].toNat)
    have hd : dist (x.drop i) (y.drop i) = pop 16 (x[i].toNat ^^^ y[i].toNat) + dist (x.drop (i + 1)) (y.drop (i + 1)) := by
      rw [List.drop_eq_getElem_cons h1, List.drop_eq_getElem_cons h2, dist]
    rw [hd]
    clear hd e1 e2
    generalize pop 16 (x[i].toNat ^^^ y[i].toNat) = p at hp ⊢
    simp only [Option.bind_some]
    rw [w64 (n := (s : Int) + _) (by omega) (by omega), w64 (n := (i : Int) + 1) (by omega) (by omega), show ((i : Int) + 1) = ((i + 1 : Nat) : Int) by omega, show ((s : Int) + (p : Int)) = ((s + p : Nat) : Int) by omega]
    rw [ih k (i + 1) _ (by omega) (by omega) (by omega), Nat.add_assoc]
theorem spec_distance (x y : List Int) (h1 : x.length ≤ 1048576) (h2 : y.length ≤ 1048576) (k : Nat) (hk : x.length + y.length + 100 < k) : spec_DistanceOf.f k x y = some (distF x y) := by
  obtain ⟨k, rfl⟩ : ∃ m, k = m + 1 := ⟨k - 1, by omega⟩
  unfold spec_DistanceOf.f distF
  rw [spec_bytes x h1 (k + 1) (by omega), spec_bytes y h2 (k + 1) (by omega)]
  simp only [Option.bind_some, spec_DistanceOf.j0]
  by_cases hx : okB x = true
  · by_cases hy : okB y = true
    · obtain ⟨x1, x2⟩ := (okB_iff x).mp hx
      obtain ⟨y1, y2⟩ := (okB_iff y).mp hy
      by_cases hl : x.length = y.length
      · have := spec_dist_loop x y x2 y2 hl (by omega) x.length k 0 0 (by omega) (by omega) (by omega)
        rw [if_pos hx, if_pos hy, if_neg (by simp; omega), if_pos (show okB x = true ∧ okB y = true ∧ x.length = y.length from ⟨hx, hy, hl⟩)]
        simpa using this
      · rw [if_pos hx, if_pos hy, if_pos (by simp; omega), if_neg (show ¬ (okB x = true ∧ okB y = true ∧ x.length = y.length) from fun h => hl h.2.2)]
    · rw [if_pos hx, if_neg hy, if_pos trivial, if_neg (show ¬ (okB x = true ∧ okB y = true ∧ x.length = y.length) from fun h => hy h.2.1)]
  · rw [if_neg hx, if_pos trivial, if_neg (show ¬ (okB x = true ∧ okB y = true ∧ x.length = y.length) from fun h => hx h.1)]
theorem FnExactDistanceOf : laws_FnExactDistanceOf.Pure := by
  intro l0 l1 _ _ _ _ _ _
  refine ⟨l0.length + l1.length + 101, ?_⟩
  unfold laws_FnExactDistanceOf.f
  by_cases h : (l0.length : Int) > 1048576
  · rw [if_pos h]
  · by_cases h' : (l1.length : Int) > 1048576
    · rw [if_neg h, if_pos h']
    · have hl : l0.length ≤ 1048576 := by omega
      have hl' : l1.length ≤ 1048576 := by omega
      have hk : l0.length < l0.length + l1.length + 101 := by omega
      have hk' : l1.length < l0.length + l1.length + 101 := by omega
      rw [if_neg h, if_neg h']
      simp only [toIntS l0 hl _ hk, toIntS l1 hl' _ hk', spec_distance l0 l1 hl hl' _ (show l0.length + l1.length + 100 < l0.length + l1.length + 101 by omega), impl_distance l0 l1 _ (show 42 < l0.length + l1.length + 101 by omega), eqIntS_self l0 hl _ hk, eqIntS_self l1 hl' _ hk', Option.bind_some, if_true]

end Go.Proofs.Ytncaalbbiflnpaa.Pure
