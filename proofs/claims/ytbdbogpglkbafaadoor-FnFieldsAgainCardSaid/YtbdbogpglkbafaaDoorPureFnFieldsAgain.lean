/- The fields of a line, joined by single spaces, have the same fields: at every draw. No condition. -/
import Derived.Test.YtbdbogpglkbafaaDoorPFnFieldsAgainx4
import Derived.Test.YtbdbogpglkbafaaDoorBits
import Derived.Lib.Fields
import Derived.Lib.ItoaLen
namespace Go.Proofs.YtbdbogpglkbafaaDoor.Pure
open Go.RowKit Go.Proofs.YtbdbogpglkbafaaDoor.PFnFieldsAgain Go.Proofs.YtbdbogpglkbafaaDoorW.PrintWords Go.Proofs.YtbdbogpglkbafaaDoorW.PrintLast Go.Proofs.YtbdbogpglkbafaaDoorW.PrintMore Go.Proofs.YtbdbogpglkbafaaDoor.Num
set_option linter.unusedVariables false
set_option linter.unusedSimpArgs false

/-- A cursor of the draws: it stands in its bytes. -/
def Cur (b : List Int) (i : Int) : Prop := b.length ≤ 1048576 ∧ 0 ≤ i ∧ i ≤ b.length ∧ ∀ x ∈ b, 0 ≤ x ∧ x ≤ 255
theorem new_loop (l : List Int) (d : Nat) : ∀ (k i : Nat) (h : Int), i + d = 4000 → d < k → ∃ h', spec_l01New.l0 k l h i = some (l, 0, h') := by
  induction d with
  | zero =>
    intro k i h hi hk
    obtain ⟨k, rfl⟩ : ∃ m, k = m + 1 := ⟨k - 1, by omega⟩
    rw [spec_l01New.l0]
    by_cases e : (i : Int) < (l.length : Int)
    · rw [if_pos e, if_neg (by omega)]; exact ⟨_, rfl⟩
    · rw [if_neg e]; exact ⟨_, rfl⟩
  | succ d ih =>
    intro k i h hi hk
    obtain ⟨k, rfl⟩ : ∃ m, k = m + 1 := ⟨k - 1, by omega⟩
    rw [spec_l01New.l0]
    by_cases e : (i : Int) < (l.length : Int)
    · rw [if_pos e, if_pos (by omega), if_pos (by omega), w64 (n := (i : Int) + 1) (by omega) (by omega), show ((i : Int) + 1) = ((i + 1 : Nat) : Int) by omega]
      exact ih k (i + 1) _ (by omega) (by omega)
    · rw [if_neg e]; exact ⟨_, rfl⟩
theorem new_cur (l : List Int) (hl : l.length ≤ 1048576) (hb : ∀ x ∈ l, (Lit.int .u8 x).wf = true) (k : Nat) (hk : 4000 < k) : ∃ h, spec_l01New.f k l = some (l, 0, h) ∧ Cur l 0 := by
  obtain ⟨h, e⟩ := new_loop l 4000 k 0 (wrap64 (98663 + (l.length : Int))) (by decide) hk
  refine ⟨h, e, hl, by omega, by omega, fun x hx => ?_⟩
  have h3 := hb x hx
  simp [Lit.wf] at h3
  exact h3
theorem byte_cur (b : List Int) (i h : Int) (hc : Cur b i) : ∃ v i' h', spec_l01Byte.f b i h = some (v, i', h') ∧ Cur b i' ∧ 0 ≤ v ∧ v ≤ 255 := by
  obtain ⟨h1, h2, h3, h4⟩ := hc
  unfold spec_l01Byte.f
  by_cases e : i < (b.length : Int)
  · rw [if_pos e, if_pos h2, w64 (n := i + 1) (by omega) (by omega)]
    exact ⟨_, _, _, rfl, ⟨h1, by omega, by omega, h4⟩, and255 _⟩
  · rw [if_neg e]
    exact ⟨_, _, _, rfl, ⟨h1, h2, h3, h4⟩, and255 _⟩
theorem below_cur (b : List Int) (i h n : Int) (hc : Cur b i) : ∃ v i' h', spec_l01Below.f b i h n = some (v, i', h') ∧ Cur b i' ∧ 0 ≤ v ∧ (0 < n → v < n) ∧ (n ≤ 0 → v = 0) := by
  unfold spec_l01Below.f
  by_cases e : n ≤ 0
  · rw [if_pos e]
    exact ⟨0, _, _, rfl, hc, by omega, by omega, fun _ => rfl⟩
  · rw [if_neg e]
    have tm : ∀ x : Int, 0 ≤ x → 0 ≤ Int.tmod x n ∧ Int.tmod x n < n := fun x hx => by
      rw [Int.tmod_eq_emod_of_nonneg hx]
      exact ⟨Int.emod_nonneg _ (by omega), Int.emod_lt_of_pos _ (by omega)⟩
    obtain ⟨v1, i1, h1, e1, c1, r1⟩ := byte_cur b i h hc
    by_cases e2 : n ≤ 256
    · rw [if_pos e2, e1]
      simp only [Option.bind_some]
      rw [if_neg (by omega)]
      exact ⟨_, _, _, rfl, c1, (tm _ r1.1).1, fun _ => (tm _ r1.1).2, fun h => absurd h e⟩
    · obtain ⟨v2, i2, h2, e3, c2, r2⟩ := byte_cur b i1 h1 c1
      obtain ⟨v3, i3, h3, e4, c3, r3⟩ := byte_cur b i2 h2 c2
      obtain ⟨v4, i4, h4, e5, c4, r4⟩ := byte_cur b i3 h3 c3
      rw [if_neg e2, e1]
      simp only [Option.bind_some]
      rw [e3]
      simp only [Option.bind_some]
      rw [e4]
      simp only [Option.bind_some]
      rw [e5]
      simp only [Option.bind_some]
      have hv : wrap64 (wrap64 (wrap64 (wrap64 (v1 * 16777216) + wrap64 (v2 * 65536)) + wrap64 (v3 * 256)) + v4) = v1 * 16777216 + v2 * 65536 + v3 * 256 + v4 := by
        rw [w64 (n := v1 * 16777216) (by omega) (by omega), w64 (n := v2 * 65536) (by omega) (by omega), w64 (n := v3 * 256) (by omega) (by omega), w64 (n := v1 * 16777216 + v2 * 65536) (by omega) (by omega), w64 (n := v1 * 16777216 + v2 * 65536 + v3 * 256) (by omega) (by omega), w64 (by omega) (by omega)]
      rw [if_neg (by omega), hv]
      have hnn : 0 ≤ v1 * 16777216 + v2 * 65536 + v3 * 256 + v4 := by omega
      exact ⟨_, _, _, rfl, c4, (tm _ hnn).1, fun _ => (tm _ hnn).2, fun h => absurd h e⟩
theorem once_cur (b : List Int) (i h n : Int) (hc : Cur b i) : ∃ v i' h', spec_l01Once.f b i h n = some (v, i', h') ∧ Cur b i' := by
  obtain ⟨v, i', h', e, c, _⟩ := below_cur b i h n hc
  unfold spec_l01Once.f
  rw [e]
  exact ⟨_, _, _, rfl, c⟩
theorem ba_app (a b : ByteArray) : (a ++ b).data.toList = a.data.toList ++ b.data.toList := by
  simp
theorem ba_size (a : ByteArray) : a.size = a.data.toList.length := by
  rw [Array.length_toList]
  rfl
theorem ba_of (s : ByteArray) (l : List UInt8) (h : s.data.toList = l) : s = ⟨l.toArray⟩ := by
  subst h
  rfl
theorem impl_format (a : Int) (h : -9223372036854775808 ≤ a ∧ a ≤ 9223372036854775807) : impl_FormatInt.f a = some ⟨(Lib.itoa a).toArray⟩ := by
  unfold impl_FormatInt.f strconv_Itoa_39.f
  rw [if_pos h]
  rfl
theorem within (a b c : Int) : impl_within.f a b c = some (decide (b ≤ a ∧ a ≤ c)) := by
  unfold impl_within.f
  by_cases h : b ≤ a <;> simp [h]
def mkB (l : List UInt8) : ByteArray := ⟨l.toArray⟩
def inR (b : UInt8) : Bool := decide (32 ≤ b.toNat) && decide (b.toNat ≤ 126)
theorem sp_inR : ∀ n : Nat, n < 256 → inR (UInt8.ofNat n) = true → Lib.isSp (UInt8.ofNat n) = decide (n = 32) := by decide +kernel
theorem sp_of (b : UInt8) (h : inR b = true) : Lib.isSp b = decide (b.toNat = 32) := by
  have hb : b.toNat < 256 := b.toNat_lt
  have h2 := sp_inR b.toNat hb
  rw [UInt8.ofNat_toNat] at h2
  exact h2 h
theorem inR_iff (b : UInt8) : inR b = true ↔ 32 ≤ b.toNat ∧ b.toNat ≤ 126 := by
  unfold inR
  simp
def fin (xs : List ByteArray) : List ByteArray × Bool := if xs.length > 24 then ([], false) else (xs, true)
/-- What both answer. -/
def S (l : List UInt8) : List ByteArray × Bool := if l.length > 600 then ([], false) else if l.all inR = true then fin ((Lib.fields l).map mkB) else ([], false)
theorem bt_get (s : ByteArray) (i : Nat) (h : i < s.data.toList.length) : bt s (i : Int) = ((s.data.toList[i]).toNat : Int) := by
  have h2 : i < s.size := by rw [ba_size]; exact h
  unfold bt
  rw [Int.toNat_natCast, dif_pos h2]
  rfl
theorem ext_of (s : ByteArray) (a b : Nat) (h : b ≤ s.data.toList.length) : s.extract a b = mkB ((s.data.toList.take b).drop a) := by
  apply ba_of
  rw [ByteArray.data_extract, Array.toList_extract, List.extract_eq_take_drop, List.drop_take]
theorem impl_split_loop (s : ByteArray) (hs : s.data.toList.length ≤ 600) (d : Nat) : ∀ k i : Nat, i + d = s.data.toList.length → d < k → (s.data.toList.take i).all inR = true → impl_SplitFields.l0 k s (s.size : Int) (i : Int) = some (if (s.data.toList.drop i).all inR = true then fin ((Lib.fields s.data.toList).map mkB) else ([], false)) := by
  have hsz := ba_size s
  induction d with
  | zero =>
    intro k i hi hk ht
    obtain ⟨k, rfl⟩ : ∃ m, k = m + 1 := ⟨k - 1, by omega⟩
    have hall : s.data.toList.all inR = true := by rw [← List.take_of_length_le (show s.data.toList.length ≤ i by omega)]; exact ht
    have hF : strings_Fields.f s = some ((Lib.fields s.data.toList).map fun l => (⟨l.toArray⟩ : ByteArray)) := by
      unfold strings_Fields.f
      rw [if_pos ⟨by omega, List.all_eq_true.mpr (fun b hb => by have := (inR_iff b).mp (List.all_eq_true.mp hall b hb); exact decide_eq_true (by omega))⟩]
    rw [impl_SplitFields.l0, if_neg (by omega), hF, Option.bind_some, List.drop_eq_nil_of_le (by omega), List.all_nil, if_pos (show (true : Bool) = true from rfl)]
    unfold fin
    rw [show (fun l => (⟨List.toArray l⟩ : ByteArray)) = mkB from rfl]
    by_cases c : ((Lib.fields s.data.toList).map mkB).length > 24
    · rw [if_pos (by omega), if_pos c]
    · rw [if_neg (by omega), if_neg c]
  | succ d ih =>
    intro k i hi hk ht
    obtain ⟨k, rfl⟩ : ∃ m, k = m + 1 := ⟨k - 1, by omega⟩
    have hlt : i < s.data.toList.length := by omega
    have hb := bt_get s i hlt
    have hdr := List.drop_eq_getElem_cons hlt
    have htk : s.data.toList.take (i + 1) = s.data.toList.take i ++ [s.data.toList[i]] := by rw [List.take_add_one, List.getElem?_eq_getElem hlt]; rfl
    have hlt256 := (s.data.toList[i]).toNat_lt
    rw [impl_SplitFields.l0, if_pos (by omega), if_pos (by omega), if_pos (by omega), hb, hdr, List.all_cons]
    have ih2 := ih k (i + 1) (by omega) (by omega)
    rw [htk, List.all_append, ht, List.all_cons, List.all_nil, Bool.and_true, Bool.true_and] at ih2
    generalize s.data.toList[i] = c at ih2 hlt256 ⊢
    rw [w64 (n := (c.toNat : Int)) (by omega) (by omega), within, Option.bind_some, w64 (n := (i : Int) + 1) (by omega) (by omega), show ((i : Int) + 1) = ((i + 1 : Nat) : Int) by omega]
    by_cases hc : inR c = true
    · have h2 := (inR_iff c).mp hc
      rw [if_pos (decide_eq_true (by omega)), ih2 hc, hc, Bool.true_and]
    · have h2 : ¬ (32 ≤ c.toNat ∧ c.toNat ≤ 126) := fun g => hc ((inR_iff c).mpr g)
      have hf : inR c = false := by simpa using hc
      rw [if_neg (by rw [decide_eq_true_iff]; omega), hf, Bool.false_and, if_neg (by decide)]
theorem impl_split (s : ByteArray) (k : Nat) (hk : 700 < k) : impl_SplitFields.f k s = some (S s.data.toList) := by
  have hsz := ba_size s
  unfold impl_SplitFields.f S
  by_cases h : s.data.toList.length > 600
  · rw [if_pos (by omega), if_pos h]
  · rw [if_neg (by omega), if_neg h]
    have := impl_split_loop s (by omega) s.data.toList.length k 0 (by omega) (by omega) (by rfl)
    rw [List.drop_zero] at this
    exact this
theorem spec_split_loop (s : ByteArray) (hs : s.data.toList.length ≤ 600) (d : Nat) : ∀ (k i b : Nat) (out : List ByteArray), i + d = s.data.toList.length → 3 * d + 5 < k → b ≤ i → out.length ≤ i →
    spec_SplitFields.l0 k s out (b : Int) (i : Int) = some (if (s.data.toList.drop i).all inR = true then fin (out ++ (Lib.fieldsGo ((s.data.toList.take i).drop b) (s.data.toList.drop i)).map mkB) else ([], false)) := by
  have hsz := ba_size s
  induction d with
  | zero =>
    intro k i b out hi hk hb ho
    obtain ⟨k, rfl⟩ : ∃ m, k = m + 1 + 1 + 1 + 1 := ⟨k - 4, by omega⟩
    have hd : s.data.toList.drop i = [] := List.drop_eq_nil_of_le (by omega)
    have last : ∀ xs : List ByteArray, ∀ b' : Int, spec_SplitFields.l0 (k + 1) s xs b' ((i + 1 : Nat) : Int) = some (fin xs) := by
      intro xs b'
      rw [spec_SplitFields.l0, if_neg (by omega)]
      unfold fin
      by_cases c : xs.length > 24
      · rw [if_pos (by omega), if_pos c]
      · rw [if_neg (by omega), if_neg c]
    have hlen : ((s.data.toList.take i).drop b).length = i - b := by rw [List.length_drop, List.length_take]; omega
    rw [hd, List.all_nil, if_pos (show (true : Bool) = true from rfl), spec_SplitFields.l0, if_pos (by omega), if_neg (by omega), spec_SplitFields.j1, if_neg (by decide), if_neg (by omega), spec_SplitFields.j2, if_neg (by decide), w64 (n := (i : Int) + 1) (by omega) (by omega), show ((i : Int) + 1) = ((i + 1 : Nat) : Int) by omega]
    unfold Lib.fieldsGo
    by_cases hbi : b < i
    · have hne : ((s.data.toList.take i).drop b).isEmpty = false := by rw [List.isEmpty_eq_false_iff]; intro g; rw [g] at hlen; simp at hlen; omega
      rw [if_pos (by omega), if_pos (by omega), if_pos (by omega), if_pos (by omega), if_pos (by omega), Int.toNat_natCast, Int.toNat_natCast, ext_of s b i (by omega), last, hne]
      rfl
    · have he : ((s.data.toList.take i).drop b).isEmpty = true := by rw [List.isEmpty_iff]; exact List.eq_nil_of_length_eq_zero (by omega)
      rw [if_neg (by omega), last, he]
      simp
  | succ d ih =>
    intro k i b out hi hk hb ho
    obtain ⟨k, rfl⟩ : ∃ m, k = m + 1 + 1 + 1 := ⟨k - 3, by omega⟩
    have hlt : i < s.data.toList.length := by omega
    have hbt := bt_get s i hlt
    have hdr := List.drop_eq_getElem_cons hlt
    have htk : s.data.toList.take (i + 1) = s.data.toList.take i ++ [s.data.toList[i]] := by rw [List.take_add_one, List.getElem?_eq_getElem hlt]; rfl
    have hlt256 := (s.data.toList[i]).toNat_lt
    have hlen : ((s.data.toList.take i).drop b).length = i - b := by rw [List.length_drop, List.length_take]; omega
    have hcur : (s.data.toList.take (i + 1)).drop b = (s.data.toList.take i).drop b ++ [s.data.toList[i]] := by rw [htk, List.drop_append_of_le_length (by rw [List.length_take]; omega)]
    have hnew : (s.data.toList.take (i + 1)).drop (i + 1) = [] := List.drop_eq_nil_of_le (by rw [List.length_take]; omega)
    have ihA := ih k (i + 1) b out (by omega) (by omega) (by omega) (by omega)
    have ihB := ih k (i + 1) (i + 1) out (by omega) (by omega) (by omega) (by omega)
    have ihC := ih k (i + 1) (i + 1) (out ++ [mkB ((s.data.toList.take i).drop b)]) (by omega) (by omega) (by omega) (by rw [List.length_append]; simp only [List.length_cons, List.length_nil]; omega)
    have hext := ext_of s b i (by omega)
    rw [hcur] at ihA
    rw [hnew] at ihB ihC
    rw [spec_SplitFields.l0, if_pos (by omega), if_pos (by omega), if_pos (by omega), hbt, hdr, List.all_cons]
    generalize s.data.toList[i] = c at ihA hlt256 hbt ⊢
    generalize (s.data.toList.take i).drop b = cur at ihA ihC hlen hext ⊢
    generalize s.data.toList.drop (i + 1) = rest at ihA ihB ihC ⊢
    by_cases hc : inR c = true
    · have h2 := (inR_iff c).mp hc
      have hj : (if (c.toNat : Int) < 32 then (spec_SplitFields.j1 (k + 1 + 1) s out b i true) else (spec_SplitFields.j1 (k + 1 + 1) s out b i (decide ((c.toNat : Int) > 126)))) = spec_SplitFields.j1 (k + 1 + 1) s out b i false := by
        rw [if_neg (by omega), decide_eq_false (by omega)]
      rw [hj, spec_SplitFields.j1, if_neg (by decide), if_pos (by omega), if_pos (by omega), hbt, hc, Bool.true_and, spec_SplitFields.j2, w64 (n := (i : Int) + 1) (by omega) (by omega), show ((i : Int) + 1) = ((i + 1 : Nat) : Int) by omega]
      by_cases h32 : c.toNat = 32
      · have hsp : Lib.isSp c = true := by rw [sp_of c hc]; exact decide_eq_true h32
        have hbe : (((c.toNat : Int)) != 32) = false := by rw [bne_eq_false_iff_eq]; omega
        rw [hbe, if_neg (by decide)]
        unfold Lib.fieldsGo
        rw [if_pos hsp]
        by_cases hbi : b < i
        · have hne : cur.isEmpty = false := by rw [List.isEmpty_eq_false_iff]; intro g; rw [g] at hlen; simp at hlen; omega
          rw [if_pos (by omega), if_pos (by omega), if_pos (by omega), if_pos (by omega), if_pos (by omega), Int.toNat_natCast, Int.toNat_natCast, hext, ihC, hne]
          simp
        · have he : cur.isEmpty = true := by rw [List.isEmpty_iff]; exact List.eq_nil_of_length_eq_zero (by omega)
          rw [if_neg (by omega), ihB, he]
          simp
      · have hsp : Lib.isSp c = false := by rw [sp_of c hc]; exact decide_eq_false h32
        have hbe : (((c.toNat : Int)) != 32) = true := by rw [bne_iff_ne]; omega
        rw [hbe, if_pos rfl, ihA]
        conv => rhs; unfold Lib.fieldsGo
        rw [hsp]
        simp
    · have h2 : ¬ (32 ≤ c.toNat ∧ c.toNat ≤ 126) := fun g => hc ((inR_iff c).mpr g)
      have hf : inR c = false := by simpa using hc
      have hj : (if (c.toNat : Int) < 32 then (spec_SplitFields.j1 (k + 1 + 1) s out b i true) else (spec_SplitFields.j1 (k + 1 + 1) s out b i (decide ((c.toNat : Int) > 126)))) = some ([], false) := by
        by_cases q : (c.toNat : Int) < 32
        · rw [if_pos q, spec_SplitFields.j1, if_pos rfl]
        · rw [if_neg q, decide_eq_true (by omega), spec_SplitFields.j1, if_pos rfl]
      rw [hj, hf, Bool.false_and, if_neg (by decide)]
theorem spec_split (s : ByteArray) (k : Nat) (hk : 2000 < k) : spec_SplitFields.f k s = some (S s.data.toList) := by
  have hsz := ba_size s
  unfold spec_SplitFields.f S
  rw [Option.bind_some]
  by_cases h : s.data.toList.length > 600
  · rw [if_pos (by omega), if_pos h]
  · rw [if_neg (by omega), if_neg h]
    have := spec_split_loop s (by omega) s.data.toList.length k 0 0 [] (by omega) (by omega) (by omega) (by simp)
    rw [List.drop_zero, List.take_zero, List.drop_nil, List.nil_append] at this
    exact this
theorem rd_of (x : List ByteArray) (i : Nat) (h : i < x.length) : rdOf ByteArray.empty x (i : Int) = x[i] := by
  unfold rdOf
  rw [Int.toNat_natCast, List.getD_eq_getElem?_getD, List.getElem?_eq_getElem h]
  rfl
theorem long_loop (n b : Int) (hn : 0 ≤ n ∧ n ≤ 30000) (d : Nat) : ∀ (k i : Nat) (acc : List Int), (i : Int) + d = n → d < k → (acc.length : Int) = n → ∃ r, spec_l01Long.l0 k n b acc (i : Int) = some (strOfNums r) ∧ (r.length : Int) = n := by
  induction d with
  | zero =>
    intro k i acc hi hk ha
    obtain ⟨k, rfl⟩ : ∃ m, k = m + 1 := ⟨k - 1, by omega⟩
    rw [spec_l01Long.l0, if_neg (by omega)]
    exact ⟨acc, rfl, ha⟩
  | succ d ih =>
    intro k i acc hi hk ha
    obtain ⟨k, rfl⟩ : ∃ m, k = m + 1 := ⟨k - 1, by omega⟩
    rw [spec_l01Long.l0, if_pos (by omega), if_pos (by omega), if_pos (by omega), w64 (n := (i : Int) + 1) (by omega) (by omega), show ((i : Int) + 1) = ((i + 1 : Nat) : Int) by omega]
    exact ih k (i + 1) _ (by omega) (by omega) (by rw [List.length_set]; exact ha)
theorem long_f (n b : Int) (hn : 0 ≤ n ∧ n ≤ 30000) (k : Nat) (hk : 30010 < k) : ∃ x, spec_l01Long.f k n b = some x ∧ (x.size : Int) = n := by
  obtain ⟨r, e, h⟩ := long_loop n b hn n.toNat k 0 (List.replicate n.toNat 0) (by omega) (by omega) (by simp; omega)
  unfold spec_l01Long.f
  rw [if_pos hn.1, if_pos (by omega)]
  exact ⟨_, e, by rw [strOfNums_size]; exact h⟩
theorem str_size (t : Int) : (strOfNums [t]).size = 1 := by rw [strOfNums_size]; rfl
theorem inner (b : List Int) (x4 x6 : Int) (d : Nat) : ∀ (K k m : Nat) (x5 : ByteArray) (i h : Int), m + d = 5 → K + d + 2 < k → x5.size + d ≤ 100000 → Cur b i →
    ∃ (k' : Nat) (x5' : ByteArray) (i' h' : Int), K ≤ k' ∧ spec_DrawSplitFields.l1 k x4 x5 x6 (m : Int) b i h = spec_DrawSplitFields.l0 k' x4 x5' (wrap64 (x6 + 1)) b i' h' ∧ Cur b i' ∧ x5'.size ≤ x5.size + d := by
  induction d with
  | zero =>
    intro K k m x5 i h hm hk hs hc
    obtain ⟨k, rfl⟩ : ∃ q, k = q + 1 := ⟨k - 1, by omega⟩
    obtain ⟨v, i1, h1, e1, c1, r0, r1, _⟩ := below_cur b i h 5 hc
    have r2 := r1 (by decide)
    rw [spec_DrawSplitFields.l1, e1, Option.bind_some, if_neg (by omega)]
    exact ⟨k, x5, i1, h1, by omega, rfl, c1, by omega⟩
  | succ d ih =>
    intro K k m x5 i h hm hk hs hc
    obtain ⟨k, rfl⟩ : ∃ q, k = q + 1 := ⟨k - 1, by omega⟩
    obtain ⟨v, i1, h1, e1, c1, r0, r1, _⟩ := below_cur b i h 5 hc
    rw [spec_DrawSplitFields.l1, e1, Option.bind_some]
    by_cases q : (m : Int) ≤ v
    · obtain ⟨u, i2, h2, e2, c2, _⟩ := below_cur b i1 h1 94 c1
      simp only
      rw [if_pos q, e2, Option.bind_some]
      simp only
      have hz : (x5 ++ strOfNums [(wrap64 (33 + u)) % 256]).size = x5.size + 1 := by rw [ByteArray.size_append, str_size]
      obtain ⟨k', x5', i', h', g1, g2, g3, g4⟩ := ih K k (m + 1) (x5 ++ strOfNums [(wrap64 (33 + u)) % 256]) i2 h2 (by omega) (by omega) (by omega) c2
      rw [Option.bind_some, str_size, if_pos (by omega), w64 (n := (m : Int) + 1) (by omega) (by omega), show ((m : Int) + 1) = ((m + 1 : Nat) : Int) by omega]
      exact ⟨k', x5', i', h', g1, g2, g3, by omega⟩
    · simp only
      rw [if_neg q]
      exact ⟨k, x5, i1, h1, by omega, rfl, c1, by omega⟩
theorem outer (b : List Int) (n : Nat) (hn : n ≤ 25) (d : Nat) : ∀ (k m : Nat) (x5 : ByteArray) (i h : Int), m + d = n → 40000 + 20 * d < k → x5.size ≤ 12 * m → Cur b i → ∃ r, spec_DrawSplitFields.l0 k (n : Int) x5 (m : Int) b i h = some r := by
  induction d with
  | zero =>
    intro k m x5 i h hm hk hs hc
    obtain ⟨k, rfl⟩ : ∃ q, k = q + 1 := ⟨k - 1, by omega⟩
    obtain ⟨v, i1, h1, e1, c1, r0, r1, _⟩ := below_cur b i h 12 hc
    rw [spec_DrawSplitFields.l0, if_neg (by omega), e1, Option.bind_some]
    by_cases q0 : v = 0
    · simp only
      rw [if_pos q0]
      obtain ⟨u, i2, h2, e2, c2, s0, s1, _⟩ := below_cur b i1 h1 6 c1
      have s2 := s1 (by decide)
      obtain ⟨u, rfl⟩ := Int.eq_ofNat_of_zero_le s0
      have hu : u < 6 := by omega
      have hp : ∀ t : Nat, t < 6 → (rdOf ByteArray.empty [(⟨#[32]⟩ : ByteArray), (⟨#[32, 32]⟩ : ByteArray), (⟨#[9]⟩ : ByteArray), (⟨#[10]⟩ : ByteArray), (⟨#[127]⟩ : ByteArray), (⟨#[233]⟩ : ByteArray)] (t : Int)).size ≤ 2 := by decide
      have hp2 := hp u hu
      unfold spec_l01Pick.f
      have e2' : spec_l01Below.f b i1 h1 (([(⟨#[32]⟩ : ByteArray), (⟨#[32, 32]⟩ : ByteArray), (⟨#[9]⟩ : ByteArray), (⟨#[10]⟩ : ByteArray), (⟨#[127]⟩ : ByteArray), (⟨#[233]⟩ : ByteArray)].length : Nat) : Int) = some ((u : Int), i2, h2) := e2
      rw [e2', Option.bind_some]
      simp only
      rw [if_pos (by omega), if_pos (show (u : Int) < (([(⟨#[32]⟩ : ByteArray), (⟨#[32, 32]⟩ : ByteArray), (⟨#[9]⟩ : ByteArray), (⟨#[10]⟩ : ByteArray), (⟨#[127]⟩ : ByteArray), (⟨#[233]⟩ : ByteArray)].length : Nat) : Int) from s2), Option.bind_some]
      simp only
      rw [if_pos (by omega)]
      exact ⟨_, rfl⟩
    · simp only
      rw [if_neg q0]
      by_cases q1 : v = 1
      · rw [if_pos q1]
        by_cases q2 : (x5.size : Int) < 600
        · obtain ⟨u, i2, h2, e2, c2, s0, s1, _⟩ := below_cur b i1 h1 2 c1
          have s2 := s1 (by decide)
          obtain ⟨x, e3, hx⟩ := long_f (600 - (x5.size : Int) + u) 32 (by omega) k (by omega)
          rw [if_pos q2, e2, Option.bind_some]
          simp only
          rw [w64 (n := 600 - (x5.size : Int)) (by omega) (by omega), w64 (n := 600 - (x5.size : Int) + u) (by omega) (by omega), e3, Option.bind_some, if_pos (by omega)]
          exact ⟨_, rfl⟩
        · rw [if_neg q2]
          exact ⟨_, rfl⟩
      · rw [if_neg q1]
        exact ⟨_, rfl⟩
  | succ d ih =>
    intro k m x5 i h hm hk hs hc
    obtain ⟨k, rfl⟩ : ∃ q, k = q + 1 + 1 + 1 := ⟨k - 3, by omega⟩
    have next : ∀ (y : ByteArray) (i h : Int), y.size ≤ 12 * m + 3 → Cur b i → ∃ r, spec_DrawSplitFields.j3 (k + 1) (n : Int) y (m : Int) b i h = some r := by
      intro y i h hy hc
      rw [spec_DrawSplitFields.j3]
      obtain ⟨k', x5', i', h', g1, g2, g3, g4⟩ := inner b (n : Int) (m : Int) 5 (k - 10) k 0 y i h (by omega) (by omega) (by omega) hc
      have g2' : spec_DrawSplitFields.l1 k (n : Int) y (m : Int) 0 b i h = _ := g2
      rw [g2', w64 (n := (m : Int) + 1) (by omega) (by omega), show ((m : Int) + 1) = ((m + 1 : Nat) : Int) by omega]
      exact ih k' (m + 1) x5' i' h' (by omega) (by omega) (by omega) g3
    have mid : ∀ (t : Bool) (i h : Int), Cur b i → ∃ r, spec_DrawSplitFields.j2 (k + 1 + 1) (n : Int) x5 (m : Int) t b i h = some r := by
      intro t i h hc
      rw [spec_DrawSplitFields.j2]
      cases t with
      | true =>
        obtain ⟨v, i1, h1, e1, c1, r0, r1, _⟩ := below_cur b i h 2 hc
        obtain ⟨u, i2, h2, e2, c2, s0, s1, _⟩ := below_cur b i1 h1 3 c1
        have r2 := r1 (by decide)
        have s2 := s1 (by decide)
        have hvu : 0 ≤ v * u ∧ v * u ≤ 2 := by
          have : v = 0 ∨ v = 1 := by omega
          rcases this with rfl | rfl
          · omega
          · omega
        obtain ⟨x, e3, hx⟩ := long_f (1 + v * u) 32 (by omega) (k + 1) (by omega)
        rw [if_pos rfl, e1, Option.bind_some]
        simp only
        rw [e2, Option.bind_some]
        simp only
        rw [w64 (n := v * u) (by omega) (by omega), w64 (n := 1 + v * u) (by omega) (by omega), e3, Option.bind_some, if_pos (by omega)]
        exact next _ i2 h2 (by rw [ByteArray.size_append]; omega) c2
      | false =>
        rw [if_neg (by decide)]
        exact next x5 i h (by omega) hc
    rw [spec_DrawSplitFields.l0, if_pos (by omega)]
    by_cases q : (m : Int) > 0
    · rw [if_pos q]
      exact mid true i h hc
    · rw [if_neg q]
      obtain ⟨v, i1, h1, e1, c1⟩ := once_cur b i h 5 hc
      rw [e1, Option.bind_some]
      exact mid v i1 h1 c1
theorem draw_split (l : List Int) (hl : l.length ≤ 1048576) (hb : ∀ x ∈ l, (Lit.int .u8 x).wf = true) (k : Nat) (hk : 50000 < k) : ∃ x, spec_DrawSplitFields.f k l = some x := by
  obtain ⟨k, rfl⟩ : ∃ q, k = q + 1 := ⟨k - 1, by omega⟩
  obtain ⟨h0, e0, c0⟩ := new_cur l hl hb (k + 1) (by omega)
  obtain ⟨v, i1, h1, e1, c1, r0, r1, _⟩ := below_cur l 0 h0 9 c0
  have r2 := r1 (by decide)
  obtain ⟨t, i2, h2, e2, c2⟩ := once_cur l i1 h1 15 c1
  unfold spec_DrawSplitFields.f
  rw [e0, Option.bind_some]
  simp only
  rw [e1, Option.bind_some]
  simp only
  rw [e2, Option.bind_some]
  cases t with
  | true =>
    obtain ⟨u, i3, h3, e3, c3, s0, s1, _⟩ := below_cur l i2 h2 2 c2
    have s2 := s1 (by decide)
    simp only
    rw [if_pos trivial, e3, Option.bind_some]
    simp only
    obtain ⟨n, hn⟩ := Int.eq_ofNat_of_zero_le (show 0 ≤ 24 + u by omega)
    rw [w64 (n := 24 + u) (by omega) (by omega), hn, spec_DrawSplitFields.j0]
    exact outer l n (by omega) n k 0 ⟨#[]⟩ i3 h3 (by omega) (by omega) (by decide) c3
  | false =>
    obtain ⟨n, rfl⟩ := Int.eq_ofNat_of_zero_le r0
    simp only
    rw [if_neg (by decide), spec_DrawSplitFields.j0]
    exact outer l n (by omega) n k 0 ⟨#[]⟩ i2 h2 (by omega) (by omega) (by decide) c2
theorem same_loop (x : List ByteArray) (hx : x.length ≤ 1048576) (d : Nat) : ∀ k i : Nat, i + d = x.length → d < k → laws_sameTexts.l0 k x x (i : Int) = some true := by
  induction d with
  | zero =>
    intro k i hi hk
    obtain ⟨k, rfl⟩ : ∃ m, k = m + 1 := ⟨k - 1, by omega⟩
    rw [laws_sameTexts.l0, if_neg (by omega)]
  | succ d ih =>
    intro k i hi hk
    obtain ⟨k, rfl⟩ : ∃ m, k = m + 1 := ⟨k - 1, by omega⟩
    rw [laws_sameTexts.l0, if_pos (by omega), if_pos (by omega), if_pos (by omega), if_pos rfl, w64 (n := (i : Int) + 1) (by omega) (by omega), show ((i : Int) + 1) = ((i + 1 : Nat) : Int) by omega]
    exact ih k (i + 1) (by omega) (by omega)
theorem same_self (x : List ByteArray) (hx : x.length ≤ 1048576) (k : Nat) (hk : x.length < k) : laws_sameTexts.f k x x = some true := by
  unfold laws_sameTexts.f
  rw [if_pos rfl]
  exact same_loop x hx x.length k 0 (by omega) hk
def J (ps : List (List UInt8)) : List UInt8 := ps.flatMap fun f => f ++ [32]
theorem J_cons (f : List UInt8) (ps : List (List UInt8)) : J (f :: ps) = f ++ [32] ++ J ps := by unfold J; rw [List.flatMap_cons]
theorem go_word (f : List UInt8) : ∀ (cur rest : List UInt8), (∀ b ∈ f, Lib.isSp b = false) → Lib.fieldsGo cur (f ++ rest) = Lib.fieldsGo (cur ++ f) rest := by
  induction f with
  | nil => intro cur rest _; simp
  | cons b f ih =>
    intro cur rest h
    rw [List.cons_append, Lib.fieldsGo_more cur b _ (h b (by simp)), ih _ _ (fun c hc => h c (by simp [hc])), List.append_assoc]
    rfl
theorem fields_J (ps : List (List UInt8)) (h : ∀ f ∈ ps, f ≠ [] ∧ ∀ b ∈ f, Lib.isSp b = false) : Lib.fieldsGo [] (J ps) = ps := by
  induction ps with
  | nil => rfl
  | cons f ps ih =>
    obtain ⟨h1, h2⟩ := h f (by simp)
    rw [J_cons, List.append_assoc, go_word f [] _ h2, List.nil_append, List.cons_append, List.nil_append, Lib.fieldsGo_end f 32 _ (by decide) h1, ih (fun g hg => h g (by simp [hg]))]
theorem fields_prop (l : List UInt8) : ∀ cur : List UInt8, (∀ b ∈ cur, Lib.isSp b = false ∧ inR b = true) → (∀ b ∈ l, inR b = true) →
    ∀ f ∈ Lib.fieldsGo cur l, f ≠ [] ∧ (∀ b ∈ f, Lib.isSp b = false ∧ inR b = true) ∧ f.length ≤ cur.length + l.length := by
  induction l with
  | nil =>
    intro cur hc _ f hf
    unfold Lib.fieldsGo at hf
    split at hf
    · simp at hf
    · rename_i hne
      rw [List.mem_singleton] at hf
      subst hf
      exact ⟨fun e => hne (by rw [e]; rfl), hc, by simp⟩
  | cons b l ih =>
    intro cur hc hl f hf
    have hl2 : ∀ c ∈ l, inR c = true := fun c h => hl c (by simp [h])
    unfold Lib.fieldsGo at hf
    split at hf
    · split at hf
      · obtain ⟨h1, h2, h3⟩ := ih [] (by simp) hl2 f hf
        refine ⟨h1, h2, ?_⟩
        simp only [List.length_nil, List.length_cons] at h3 ⊢
        omega
      · rename_i hne
        rcases List.mem_cons.mp hf with hf | hf
        · subst hf
          exact ⟨fun e => hne (by rw [e]; rfl), hc, by simp⟩
        · obtain ⟨h1, h2, h3⟩ := ih [] (by simp) hl2 f hf
          refine ⟨h1, h2, ?_⟩
          simp only [List.length_nil, List.length_cons] at h3 ⊢
          omega
    · rename_i hsp
      have hsp2 : Lib.isSp b = false := by simpa using hsp
      obtain ⟨h1, h2, h3⟩ := ih (cur ++ [b]) (fun c h => by
        rcases List.mem_append.mp h with h | h
        · exact hc c h
        · rw [List.mem_singleton] at h; subst h; exact ⟨hsp2, hl c (by simp)⟩) hl2 f hf
      refine ⟨h1, h2, ?_⟩
      rw [List.length_append] at h3
      simp only [List.length_cons, List.length_nil] at h3 ⊢
      omega
theorem J_in (ps : List (List UInt8)) (h : ∀ f ∈ ps, ∀ b ∈ f, inR b = true) : (J ps).all inR = true := by
  rw [List.all_eq_true]
  intro b hb
  unfold J at hb
  rw [List.mem_flatMap] at hb
  obtain ⟨f, hf, hb⟩ := hb
  rcases List.mem_append.mp hb with hb | hb
  · exact h f hf b hb
  · rw [List.mem_singleton] at hb
    subst hb
    decide
theorem again (ps : List (List UInt8)) (h24 : ps.length ≤ 24) (hf : ∀ f ∈ ps, f ≠ [] ∧ (∀ b ∈ f, Lib.isSp b = false ∧ inR b = true) ∧ f.length ≤ 600) (d : Nat) : ∀ (k i : Nat) (acc : ByteArray), i + d = ps.length → 4000 + d < k → acc.size ≤ 601 * i → acc.data.toList ++ J (ps.drop i) = J ps →
    laws_FnFieldsAgain.l0 k (ps.map mkB) true acc (i : Int) = some true := by
  induction d with
  | zero =>
    intro k i acc hi hk hs hJ
    obtain ⟨k, rfl⟩ : ∃ m, k = m + 1 := ⟨k - 1, by omega⟩
    have hlen : ((ps.map mkB).length : Int) = (ps.length : Int) := by rw [List.length_map]
    have hd : ps.drop i = [] := List.drop_eq_nil_of_le (by omega)
    rw [hd] at hJ
    have hJ2 : acc.data.toList = J ps := by rw [← hJ]; simp [J]
    have hsz := ba_size acc
    rw [laws_FnFieldsAgain.l0, if_neg (by omega), impl_split acc k (by omega), Option.bind_some, if_pos rfl, hJ2]
    by_cases q : (acc.size : Int) > 600
    · rw [if_pos q]
    · rw [if_neg q]
      have hS : S (J ps) = (ps.map mkB, true) := by
        unfold S
        rw [if_neg (by rw [← hJ2]; omega), if_pos (J_in ps (fun f h b hb => ((hf f h).2.1 b hb).2))]
        have e : Lib.fields (J ps) = ps := fields_J ps (fun f h => ⟨(hf f h).1, fun b hb => ((hf f h).2.1 b hb).1⟩)
        rw [e]
        unfold fin
        rw [if_neg (by rw [List.length_map]; omega)]
      rw [hS]
      simp only
      rw [if_pos trivial, same_self _ (by rw [List.length_map]; omega) k (by rw [List.length_map]; omega)]
      rfl
  | succ d ih =>
    intro k i acc hi hk hs hJ
    obtain ⟨k, rfl⟩ : ∃ m, k = m + 1 := ⟨k - 1, by omega⟩
    have hlen : ((ps.map mkB).length : Int) = (ps.length : Int) := by rw [List.length_map]
    have hlt : i < ps.length := by omega
    have hr : rdOf ByteArray.empty (ps.map mkB) (i : Int) = mkB ps[i] := by rw [rd_of _ i (by rw [List.length_map]; exact hlt), List.getElem_map]
    have hz : (mkB ps[i]).size = ps[i].length := by rw [ba_size]; rfl
    have h6 := (hf _ (List.getElem_mem hlt)).2.2
    have hz2 : (acc ++ mkB ps[i]).size = acc.size + ps[i].length := by rw [ByteArray.size_append, hz]
    have hz3 : (acc ++ mkB ps[i] ++ (⟨#[32]⟩ : ByteArray)).size = acc.size + ps[i].length + 1 := by rw [ByteArray.size_append, hz2]; rfl
    rw [laws_FnFieldsAgain.l0, if_pos (by omega), if_pos (by omega), hr, hz, if_pos (by omega), hz2, if_pos (by omega), w64 (n := (i : Int) + 1) (by omega) (by omega), show ((i : Int) + 1) = ((i + 1 : Nat) : Int) by omega]
    refine ih k (i + 1) _ (by omega) (by omega) (by omega) ?_
    rw [← hJ, List.drop_eq_getElem_cons hlt, J_cons, ba_app, ba_app]
    simp [mkB]
theorem S_no (l : List UInt8) (h : (S l).2 = false) : S l = ([], false) := by
  unfold S fin at h ⊢
  split
  · rfl
  · rename_i h1
    rw [if_neg h1] at h
    split
    · rename_i h2
      rw [if_pos h2] at h
      split
      · rfl
      · rename_i h3
        rw [if_neg h3] at h
        exact absurd h (by simp)
    · rfl
theorem S_yes (l : List UInt8) (h : (S l).2 = true) : ∃ ps : List (List UInt8), S l = (ps.map mkB, true) ∧ ps.length ≤ 24 ∧ ∀ f ∈ ps, f ≠ [] ∧ (∀ b ∈ f, Lib.isSp b = false ∧ inR b = true) ∧ f.length ≤ 600 := by
  unfold S fin at h ⊢
  split
  · rename_i h1
    rw [if_pos h1] at h
    exact absurd h (by decide)
  · rename_i h1
    rw [if_neg h1] at h
    split
    · rename_i h2
      rw [if_pos h2] at h
      split
      · rename_i h3
        rw [if_pos h3] at h
        exact absurd h (by decide)
      · rename_i h3
        rw [List.length_map] at h3
        refine ⟨Lib.fields l, rfl, by omega, fun f hf => ?_⟩
        obtain ⟨g1, g2, g3⟩ := fields_prop l [] (by simp) (fun b hb => List.all_eq_true.mp h2 b hb) f hf
        refine ⟨g1, g2, ?_⟩
        simp only [List.length_nil] at g3
        omega
    · rename_i h2
      rw [if_neg h2] at h
      exact absurd h (by decide)
theorem FnFieldsAgain : laws_FnFieldsAgain.Pure := by
  intro l _ _ hb
  refine ⟨l.length + 60000, ?_⟩
  unfold laws_FnFieldsAgain.f laws_big.f
  simp only [Option.bind_some]
  by_cases h : (l.length : Int) > 1048576
  · rw [if_pos (by simpa using h)]
  · rw [if_neg (by simpa using h)]
    have hl : l.length ≤ 1048576 := by omega
    generalize hk : l.length + 60000 = k
    obtain ⟨s, e0⟩ := draw_split l hl hb k (by omega)
    rw [e0, Option.bind_some, impl_split s k (by omega), Option.bind_some, spec_split s k (by omega), Option.bind_some]
    cases hc : (S s.data.toList).2 with
    | true =>
      obtain ⟨ps, e1, h24, hf⟩ := S_yes _ hc
      rw [e1]
      simp only
      rw [if_pos trivial]
      exact again ps h24 hf ps.length k 0 ⟨#[]⟩ (by omega) (by omega) (by decide) (by simp)
    | false =>
      rw [S_no _ hc]
      simp only
      have e : Lib.itoa (-3) = [45, 51] := by
        have h := Lib.itoa_neg 3 (by decide)
        rw [Lib.decDigits_one (by decide)] at h
        exact h
      rw [if_neg (by decide), if_neg (by decide), if_pos (by decide), impl_format (-3) (by decide), Option.bind_some, e]
      simp [ByteArray.toList_eq]

end Go.Proofs.YtbdbogpglkbafaaDoor.Pure
