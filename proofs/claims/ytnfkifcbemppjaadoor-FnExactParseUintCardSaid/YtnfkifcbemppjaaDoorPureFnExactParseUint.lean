/- The program reads a whole number as the reference does: at every text of at most 2^20 bytes (longer ones the law passes by). No condition. -/
import Derived.Test.YtnfkifcbemppjaaDoorPFnExactParseUintx1
import Derived.Lib.ItoaLen
import Derived.Lib.AtoiBound
namespace Go.Proofs.YtnfkifcbemppjaaDoor.Pure
open Go.RowKit Go.Proofs.YtnfkifcbemppjaaDoor.PFnExactParseUint Go.Proofs.YtnfkifcbemppjaaDoorW.PrintWords Go.Proofs.YtnfkifcbemppjaaDoorW.PrintLast Go.Proofs.YtnfkifcbemppjaaDoorW.PrintMore
set_option linter.unusedVariables false
set_option linter.unusedSimpArgs false

theorem ba_app (a b : ByteArray) : (a ++ b).data.toList = a.data.toList ++ b.data.toList := by
  simp
theorem ba_size (a : ByteArray) : a.size = a.data.toList.length := by
  rw [Array.length_toList]
  rfl
theorem ba_of (s : ByteArray) (l : List UInt8) (h : s.data.toList = l) : s = ⟨l.toArray⟩ := by
  subst h
  rfl
theorem impl_format (a : Int) (h : -9223372036854775808 ≤ a ∧ a ≤ 9223372036854775807) : impl_FormatInt.f a = some ⟨(Lib.itoa a).toArray⟩ := by
  unfold impl_FormatInt.f strconv_Itoa_13.f
  rw [if_pos h]
  rfl
/-- The digits of a number, none of 0. -/
def D (u : Nat) : List UInt8 := if u = 0 then [] else Lib.decDigits u
theorem D_step (u : Nat) (h : u ≠ 0) : D u = D (u / 10) ++ [UInt8.ofNat (48 + u % 10)] := by
  unfold D
  rw [if_neg h, Lib.decDigits]
  by_cases c : u < 10
  · rw [dif_pos c, if_pos (by omega), show u % 10 = u by omega]
    rfl
  · rw [dif_neg c, if_neg (by omega)]
theorem figure (d : Int) (h : 0 ≤ d ∧ d < 10) : spec_l01Figure.f d = some (48 + d) := by
  unfold spec_l01Figure.f
  rw [if_pos h.2, show wrap64 (48 + d) = 48 + d from by unfold wrap64; omega, show (48 + d) % 256 = 48 + d by omega]
theorem one_byte (t : Int) : (strOfNums [t]).data.toList = [UInt8.ofNat t.toNat] := by
  simp [strOfNums]
theorem td (x : Int) : (x < 0 ∧ Int.tdiv x 10 = -((-x) / 10) ∧ Int.tmod x 10 = -((-x) % 10)) ∨ (0 ≤ x ∧ Int.tdiv x 10 = x / 10 ∧ Int.tmod x 10 = x % 10) := by
  by_cases h : x < 0
  · refine Or.inl ⟨h, ?_, ?_⟩
    · have := Int.neg_tdiv (-x) 10
      rw [Int.neg_neg] at this
      rw [this, Int.tdiv_eq_ediv_of_nonneg (by omega)]
    · have := Int.neg_tmod (-x) 10
      rw [Int.neg_neg] at this
      rw [this, Int.tmod_eq_emod_of_nonneg (by omega)]
  · exact Or.inr ⟨by omega, Int.tdiv_eq_ediv_of_nonneg (by omega), Int.tmod_eq_emod_of_nonneg (by omega)⟩
theorem fmt_loop (neg : Bool) : ∀ (u k : Nat) (x : Int) (acc : ByteArray), x.natAbs = u → (-9223372036854775808 ≤ x ∧ x ≤ 9223372036854775807) → u < k → acc.size + (D u).length + 1 ≤ 1000000 →
    ∃ s, spec_FormatInt.l0 k x neg acc = some s ∧ s.data.toList = (if neg = true then [45] else []) ++ (D u ++ acc.data.toList) := by
  intro u
  induction u using Nat.strongRecOn with
  | _ u ih =>
    intro k x acc hx hb hk hs
    obtain ⟨k, rfl⟩ : ∃ m, k = m + 1 := ⟨k - 1, by omega⟩
    rw [spec_FormatInt.l0]
    by_cases h0 : x = 0
    · have hu : u = 0 := by omega
      rw [if_pos h0]
      subst hu
      cases neg with
      | true =>
        rw [if_pos rfl, if_pos (by omega)]
        exact ⟨_, rfl, by rw [ba_app]; simp [D]⟩
      | false =>
        rw [if_neg (by decide)]
        exact ⟨_, rfl, by simp [D]⟩
    · have hu : u ≠ 0 := by omega
      have hd := td x
      generalize Int.tdiv x 10 = q at hd ⊢
      generalize Int.tmod x 10 = m at hd ⊢
      have hw : wrap64 q = q := by unfold wrap64; omega
      have hlen : (D u).length = (D (u / 10)).length + 1 := by rw [D_step u hu, List.length_append]; rfl
      have step : ∀ d : Int, d = ((u % 10 : Nat) : Int) → ∃ s, ((spec_l01Figure.f d).bind fun t => ((some (([t] : List Int) : List Int)).bind fun y => (if (strOfNums y).size + acc.size ≤ 9223372036854775807 then (spec_FormatInt.l0 k (wrap64 q) neg ((strOfNums y) ++ acc)) else (none)))) = some s ∧ s.data.toList = (if neg = true then [45] else []) ++ (D u ++ acc.data.toList) := by
        intro d hdd
        have h1 : (strOfNums [48 + d]).size = 1 := by rw [ba_size, one_byte]; rfl
        have h2 : (strOfNums [48 + d] ++ acc).size = 1 + acc.size := by rw [ByteArray.size_append, h1]
        rw [figure d (by omega), Option.bind_some, Option.bind_some, h1, if_pos (by omega), hw]
        obtain ⟨s, e1, e2⟩ := ih (u / 10) (by omega) k q (strOfNums [48 + d] ++ acc) (by omega) (by omega) (by omega) (by omega)
        refine ⟨s, e1, ?_⟩
        rw [e2, ba_app, one_byte, D_step u hu, hdd, show (48 + ((u % 10 : Nat) : Int)).toNat = 48 + u % 10 by omega, List.append_assoc]
      rw [if_neg h0]
      by_cases h1 : m < 0
      · rw [if_pos h1]
        have hw2 : wrap64 (-m) = -m := by unfold wrap64; omega
        rw [hw2]
        exact step _ (by omega)
      · rw [if_neg h1]
        exact step _ (by omega)
/-- The reference writes a number as the library does. -/
theorem spec_format (a : Int) (h : -9223372036854775808 ≤ a ∧ a ≤ 9223372036854775807) (k : Nat) (hk : a.natAbs < k) : spec_FormatInt.f k a = some ⟨(Lib.itoa a).toArray⟩ := by
  have hl := Lib.itoa_length_le a h.1 h.2
  unfold spec_FormatInt.f
  by_cases h0 : a = 0
  · subst h0
    rw [if_pos rfl]
    have : Lib.itoa 0 = [48] := by
      have h := Lib.itoa_nonneg 0
      rw [Lib.decDigits_one (by decide)] at h
      exact h
    rw [this]
  · rw [if_neg h0]
    unfold Lib.itoa at hl ⊢
    by_cases hn : a < 0
    · rw [if_pos hn] at hl ⊢
      rw [decide_eq_true hn]
      have hD : D a.natAbs = Lib.decDigits a.natAbs := by unfold D; rw [if_neg (by omega)]
      rw [List.length_cons, ← hD] at hl
      obtain ⟨s, e1, e2⟩ := fmt_loop true a.natAbs k a ⟨#[]⟩ rfl h hk (by show 0 + _ + 1 ≤ _; omega)
      rw [e1, ba_of s _ e2, hD]
      simp
    · rw [if_neg hn] at hl ⊢
      rw [decide_eq_false hn]
      have hD : D a.natAbs = Lib.decDigits a.toNat := by unfold D; rw [if_neg (by omega), show a.natAbs = a.toNat by omega]
      rw [← hD] at hl
      obtain ⟨s, e1, e2⟩ := fmt_loop false a.natAbs k a ⟨#[]⟩ rfl h hk (by show 0 + _ + 1 ≤ _; omega)
      rw [e1, ba_of s _ e2, hD]
      simp
def F (a : Nat) (l : List UInt8) : Nat := l.foldl (fun a c => 10 * a + (c.toNat - 48)) a
theorem F_ge (l : List UInt8) : ∀ a, a ≤ F a l := by
  induction l with
  | nil => intro a; exact Nat.le_refl _
  | cons c r ih => intro a; have := ih (10 * a + (c.toNat - 48)); unfold F at this ⊢; rw [List.foldl_cons]; omega
theorem F_snoc (a : Nat) (l : List UInt8) (c : UInt8) : F a (l ++ [c]) = 10 * F a l + (c.toNat - 48) := by unfold F; rw [List.foldl_append, List.foldl_cons, List.foldl_nil]
def isD (c : UInt8) : Prop := 48 ≤ c.toNat ∧ c.toNat ≤ 57
theorem digit_val (d : Nat) (h : d < 10) : (UInt8.ofNat (48 + d)).toNat = 48 + d := by rw [UInt8.toNat_ofNat']; omega
theorem dig_val (v : Nat) : (∀ c ∈ Lib.decDigits v, isD c) ∧ F 0 (Lib.decDigits v) = v := by
  induction v using Nat.strongRecOn with
  | _ v ih =>
    rw [Lib.decDigits]
    by_cases h : v < 10
    · rw [dif_pos h]
      have := digit_val v h
      refine ⟨fun c hc => ?_, ?_⟩
      · rw [List.mem_singleton] at hc; subst hc; unfold isD; omega
      · unfold F; rw [List.foldl_cons, List.foldl_nil, this]; omega
    · rw [dif_neg h]
      obtain ⟨h1, h2⟩ := ih (v / 10) (by omega)
      have := digit_val (v % 10) (by omega)
      refine ⟨fun c hc => ?_, ?_⟩
      · rcases List.mem_append.mp hc with hc | hc
        · exact h1 c hc
        · rw [List.mem_singleton] at hc; subst hc; unfold isD; omega
      · rw [F_snoc, h2, this]; omega
theorem dig_len (m : Nat) : ∀ v, v < 10 ^ (m + 1) → (Lib.decDigits v).length ≤ m + 1 := by
  induction m with
  | zero => intro v h; rw [Lib.decDigits_one (by omega)]; simp
  | succ m ih =>
    intro v h
    rw [Lib.decDigits]
    by_cases c : v < 10
    · rw [dif_pos c]; simp
    · rw [dif_neg c, List.length_append]
      have := ih (v / 10) (by rw [Nat.pow_succ] at h; omega)
      simp only [List.length_cons, List.length_nil]
      omega
theorem dig_ne (v : Nat) : Lib.decDigits v ≠ [] := by
  rw [Lib.decDigits]
  by_cases c : v < 10
  · rw [dif_pos c]; simp
  · rw [dif_neg c]; simp
theorem parse_digits (l : List UInt8) : ∀ a, (∀ c ∈ l, isD c) → F a l ≤ 1000000000000 → Lib.parseUint10 a l = .ok (F a l) := by
  induction l with
  | nil => intro a _ _; rfl
  | cons c r ih =>
    intro a hd hF
    have hc := hd c (by simp)
    have e : F a (c :: r) = F (10 * a + (c.toNat - 48)) r := rfl
    have hge := F_ge r (10 * a + (c.toNat - 48))
    rw [e] at hF ⊢
    rw [Lib.parseUint10, if_pos (show 48 ≤ c.toNat ∧ c.toNat ≤ 57 from hc), if_neg (by omega), if_neg (by omega), show a * 10 + (c.toNat - 48) = 10 * a + (c.toNat - 48) by omega]
    exact ih _ (fun c hc => hd c (by simp [hc])) hF
theorem atoi_digits (v : Nat) (hv : v ≤ 1000000000) : Lib.atoiAll (Lib.decDigits v) = .ok (v : Int) := by
  obtain ⟨h1, h2⟩ := dig_val v
  have h3 := dig_ne v
  generalize Lib.decDigits v = l at h1 h2 h3
  cases l with
  | nil => exact absurd rfl h3
  | cons c r =>
    have hc := h1 c (by simp)
    unfold isD at hc
    have hp := parse_digits (c :: r) 0 h1 (by omega)
    rw [h2] at hp
    unfold Lib.atoiAll
    simp only
    rw [if_neg (by omega)]
    unfold Lib.parseMag
    rw [if_neg h3, hp]
    simp only
    rw [if_neg (by omega), if_neg (by omega), if_neg (by omega)]
/-- What the reference's loop answers from a number and what is left of the text. -/
def res (t : List UInt8) : Nat → List UInt8 → Int × Bool
  | n, [] => if n > 1000000000 then (0, false) else if Lib.itoa n = t then ((n : Int), true) else (0, false)
  | n, c :: r => if c.toNat < 48 then (0, false) else if c.toNat > 57 then (0, false) else res t (10 * n + (c.toNat - 48)) r
theorem res_form (t l : List UInt8) : ∀ n, res t n l = (0, false) ∨ ∃ m : Nat, m ≤ 1000000000 ∧ res t n l = ((m : Int), true) ∧ Lib.decDigits m = t := by
  induction l with
  | nil =>
    intro n
    unfold res
    by_cases h : n > 1000000000
    · rw [if_pos h]; exact Or.inl rfl
    · rw [if_neg h]
      by_cases e : Lib.itoa n = t
      · rw [if_pos e]; exact Or.inr ⟨n, by omega, rfl, by rw [← e, Lib.itoa_nonneg]⟩
      · rw [if_neg e]; exact Or.inl rfl
  | cons c r ih =>
    intro n
    unfold res
    by_cases h1 : c.toNat < 48
    · rw [if_pos h1]; exact Or.inl rfl
    · rw [if_neg h1]
      by_cases h2 : c.toNat > 57
      · rw [if_pos h2]; exact Or.inl rfl
      · rw [if_neg h2]; exact ih _
theorem res_digits (t l : List UInt8) : ∀ n, (∀ c ∈ l, isD c) → F n l ≤ 1000000000 → Lib.decDigits (F n l) = t → res t n l = (((F n l : Nat) : Int), true) := by
  induction l with
  | nil =>
    intro n _ hF e
    have e0 : F n [] = n := rfl
    rw [e0] at hF e ⊢
    unfold res
    rw [if_neg (by omega), if_pos (by rw [Lib.itoa_nonneg]; exact e)]
  | cons c r ih =>
    intro n hd hF e
    have hc := hd c (by simp)
    unfold isD at hc
    have e0 : F n (c :: r) = F (10 * n + (c.toNat - 48)) r := rfl
    rw [e0] at hF e ⊢
    unfold res
    rw [if_neg (by omega), if_neg (by omega)]
    exact ih _ (fun c hc => hd c (by simp [hc])) hF e
theorem tl_iff (a b : ByteArray) : a.toList = b.toList ↔ a.data.toList = b.data.toList := by
  constructor
  · intro h
    simpa [ByteArray.toList_eq] using h
  · intro h
    simpa [ByteArray.toList_eq] using h
theorem bt_get (s : ByteArray) (i : Nat) (h : i < s.data.toList.length) : bt s (i : Int) = ((s.data.toList[i]).toNat : Int) := by
  have h2 : i < s.size := by rw [ba_size]; exact h
  unfold bt
  rw [Int.toNat_natCast, dif_pos h2]
  rfl
theorem w64 {n : Int} (h0 : -9223372036854775808 ≤ n) (h1 : n ≤ 9223372036854775807) : wrap64 n = n := by unfold wrap64; omega
theorem stepw (n i c : Nat) (hn : n ≤ 9999999999) (hi : i ≤ 10) (h1 : 48 ≤ c) (h2 : c ≤ 57) : wrap64 (wrap64 (wrap64 (10 * (n : Int)) + wrap64 (c : Int)) - 48) = ((10 * n + (c - 48) : Nat) : Int) ∧ wrap64 ((i : Int) + 1) = ((i + 1 : Nat) : Int) := by
  rw [w64 (n := 10 * (n : Int)) (by omega) (by omega), w64 (n := (c : Int)) (by omega) (by omega), w64 (n := 10 * (n : Int) + (c : Int)) (by omega) (by omega), w64 (n := 10 * (n : Int) + (c : Int) - 48) (by omega) (by omega), w64 (n := (i : Int) + 1) (by omega) (by omega)]
  omega
theorem spec_loop (s : ByteArray) (hs : s.data.toList.length ≤ 10) (d : Nat) : ∀ k i n : Nat, i + d = s.data.toList.length → d + 20000000000 < k → n < 10 ^ i → spec_ParseUint.l0 k s (n : Int) (i : Int) = some (res s.data.toList n (s.data.toList.drop i)) := by
  have hsz := ba_size s
  induction d with
  | zero =>
    intro k i n hi hk hn
    obtain ⟨k, rfl⟩ : ∃ m, k = m + 1 := ⟨k - 1, by omega⟩
    have hp : 10 ^ i ≤ 10 ^ 10 := Nat.pow_le_pow_right (by decide) (by omega)
    rw [spec_ParseUint.l0, if_neg (by omega), List.drop_eq_nil_of_le (by omega)]
    unfold res
    by_cases h : n > 1000000000
    · rw [if_pos (by omega), if_pos h]
    · rw [if_neg (by omega), if_neg h, spec_format _ ⟨by omega, by omega⟩ k (by omega), Option.bind_some]
      by_cases e : Lib.itoa n = s.data.toList
      · rw [if_pos ((tl_iff _ _).mpr e), if_pos e]
      · rw [if_neg (fun g => e ((tl_iff _ _).mp g)), if_neg e]
  | succ d ih =>
    intro k i n hi hk hn
    obtain ⟨k, rfl⟩ : ∃ m, k = m + 1 := ⟨k - 1, by omega⟩
    have hp : 10 ^ i ≤ 10 ^ 10 := Nat.pow_le_pow_right (by decide) (by omega)
    have hlt : i < s.data.toList.length := by omega
    have hb := bt_get s i hlt
    have hdr := List.drop_eq_getElem_cons hlt
    rw [spec_ParseUint.l0, if_pos (by omega), if_pos (by omega), hb, hdr]
    generalize s.data.toList[i] = c
    unfold res
    by_cases h1 : c.toNat < 48
    · rw [if_pos (by omega), if_pos h1]
    · rw [if_neg (by omega), if_neg h1]
      by_cases h2 : c.toNat > 57
      · rw [if_pos (by omega), if_pos h2]
      · rw [if_neg (by omega), if_neg h2]
        obtain ⟨w1, w2⟩ := stepw n i c.toNat (by omega) (by omega) (by omega) (by omega)
        rw [w1, w2]
        exact ih k (i + 1) _ (by omega) (by omega) (by rw [Nat.pow_succ]; omega)
theorem g_form (l : List UInt8) : impl_ParseUint.g l = (0, false) ∨ ∃ m : Nat, m ≤ 1000000000 ∧ Lib.decDigits m = l := by
  unfold impl_ParseUint.g
  cases Lib.atoiAll l with
  | «syntax» => exact Or.inl rfl
  | range => exact Or.inl rfl
  | ok v =>
    dsimp only
    by_cases h : 0 ≤ v ∧ v ≤ 1000000000 ∧ Lib.itoa v = l
    · obtain ⟨h1, h2, h3⟩ := h
      obtain ⟨m, rfl⟩ := Int.eq_ofNat_of_zero_le h1
      exact Or.inr ⟨m, by omega, by rw [← h3, Lib.itoa_nonneg]⟩
    · rw [if_neg h]; exact Or.inl rfl
theorem g_digits (m : Nat) (h : m ≤ 1000000000) : impl_ParseUint.g (Lib.decDigits m) = ((m : Int), true) := by
  unfold impl_ParseUint.g
  rw [atoi_digits m h]
  dsimp only
  rw [if_pos ⟨by omega, by omega, Lib.itoa_nonneg m⟩]
theorem spec_uint (s : ByteArray) (k : Nat) (hk : 30000000000 < k) : spec_ParseUint.f k s = some (impl_ParseUint.g s.data.toList) := by
  unfold spec_ParseUint.f
  have hsz := ba_size s
  by_cases hl : s.data.toList.length > 10
  · rw [if_pos (by omega)]
    rcases g_form s.data.toList with h | ⟨m, h1, h2⟩
    · rw [h]
    · have := dig_len 9 m (by omega)
      rw [h2] at this
      omega
  · rw [if_neg (by omega)]
    have h := spec_loop s (by omega) s.data.toList.length k 0 0 (by omega) (by omega) (by decide)
    have h' : spec_ParseUint.l0 k s 0 0 = some (res s.data.toList 0 (s.data.toList.drop 0)) := h
    rw [h', List.drop_zero]
    by_cases hex : ∃ m : Nat, m ≤ 1000000000 ∧ Lib.decDigits m = s.data.toList
    · obtain ⟨m, h1, h2⟩ := hex
      obtain ⟨d1, d2⟩ := dig_val m
      have hr := res_digits s.data.toList (Lib.decDigits m) 0 d1 (by omega) (by rw [d2, h2])
      rw [d2] at hr
      rw [← h2] at hr ⊢
      rw [hr, g_digits m h1]
    · rcases res_form s.data.toList s.data.toList 0 with h | ⟨m, h1, _, h2⟩
      · rw [h]
        rcases g_form s.data.toList with g | ⟨m, h1, h2⟩
        · rw [g]
        · exact absurd ⟨m, h1, h2⟩ hex
      · exact absurd ⟨m, h1, h2⟩ hex
theorem FnExactParseUint : laws_FnExactParseUint.Pure := by
  intro s hs
  refine ⟨40000000000, ?_⟩
  unfold laws_FnExactParseUint.f
  by_cases hb : (s.size : Int) > 1048576
  · rw [if_pos hb]
  · rw [if_neg hb]
    have h2 : impl_ParseUint.f s = some (impl_ParseUint.g s.data.toList) := by
      unfold impl_ParseUint.f
      rw [if_pos hs]
    rw [spec_uint s _ (by decide), Option.bind_some, h2, Option.bind_some, if_pos rfl, if_neg (by simp)]

end Go.Proofs.YtnfkifcbemppjaaDoor.Pure
