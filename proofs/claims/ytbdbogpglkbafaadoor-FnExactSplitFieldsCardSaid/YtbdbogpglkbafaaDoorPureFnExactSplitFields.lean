/- The program splits a line into its fields as the reference does, in memory of their own: at every line of at most 2^20 bytes (longer ones the law passes by). No condition. -/
import Derived.Test.YtbdbogpglkbafaaDoorPFnExactSplitFieldsx2
import Derived.Test.YtbdbogpglkbafaaDoorBits
import Derived.Lib.Fields
namespace Go.Proofs.YtbdbogpglkbafaaDoor.Pure
open Go.RowKit Go.Proofs.YtbdbogpglkbafaaDoor.PFnExactSplitFields Go.Proofs.YtbdbogpglkbafaaDoorW.PrintWords Go.Proofs.YtbdbogpglkbafaaDoorW.PrintLast Go.Proofs.YtbdbogpglkbafaaDoorW.PrintMore Go.Proofs.YtbdbogpglkbafaaDoor.Num
set_option linter.unusedVariables false
set_option linter.unusedSimpArgs false

theorem ba_app (a b : ByteArray) : (a ++ b).data.toList = a.data.toList ++ b.data.toList := by
  simp
theorem ba_size (a : ByteArray) : a.size = a.data.toList.length := by
  rw [Array.length_toList]
  rfl
theorem ba_of (s : ByteArray) (l : List UInt8) (h : s.data.toList = l) : s = ⟨l.toArray⟩ := by
  subst h
  rfl
theorem within (a b c : Int) : impl_within.f a b c = some (decide (b ≤ a ∧ a ≤ c)) := by
  unfold impl_within.f
  by_cases h : b ≤ a <;> simp [h]
def mkB (l : List UInt8) : ByteArray := ⟨l.toArray⟩
def inR (b : UInt8) : Bool := decide (32 ≤ b.toNat) && decide (b.toNat ≤ 126)
theorem sp_inR : ∀ n : Nat, n < 256 → inR (UInt8.ofNat n) = true → Lib.isSp (UInt8.ofNat n) = decide (n = 32) := by decide +kernel
theorem sp_of (b : UInt8) (h : inR b = true) : Lib.isSp b = decide (b.toNat = 32) := by
  have hb : b.toNat < 256 := b.toNat_lt
  have h2 := sp_inR b.toNat hb
  rw [UInt8.ofNat_toNat] at h2
  exact h2 h
theorem inR_iff (b : UInt8) : inR b = true ↔ 32 ≤ b.toNat ∧ b.toNat ≤ 126 := by
  unfold inR
  simp
def fin (xs : List ByteArray) : List ByteArray × Bool := if xs.length > 24 then ([], false) else (xs, true)
/-- What both answer. -/
def S (l : List UInt8) : List ByteArray × Bool := if l.length > 600 then ([], false) else if l.all inR = true then fin ((Lib.fields l).map mkB) else ([], false)
theorem bt_get (s : ByteArray) (i : Nat) (h : i < s.data.toList.length) : bt s (i : Int) = ((s.data.toList[i]).toNat : Int) := by
  have h2 : i < s.size := by rw [ba_size]; exact h
  unfold bt
  rw [Int.toNat_natCast, dif_pos h2]
  rfl
theorem ext_of (s : ByteArray) (a b : Nat) (h : b ≤ s.data.toList.length) : s.extract a b = mkB ((s.data.toList.take b).drop a) := by
  apply ba_of
  rw [ByteArray.data_extract, Array.toList_extract, List.extract_eq_take_drop, List.drop_take]
theorem impl_split_loop (s : ByteArray) (hs : s.data.toList.length ≤ 600) (d : Nat) : ∀ k i : Nat, i + d = s.data.toList.length → d < k → (s.data.toList.take i).all inR = true → impl_SplitFields.l0 k s (s.size : Int) (i : Int) = some (if (s.data.toList.drop i).all inR = true then fin ((Lib.fields s.data.toList).map mkB) else ([], false)) := by
  have hsz := ba_size s
  induction d with
  | zero =>
    intro k i hi hk ht
    obtain ⟨k, rfl⟩ : ∃ m, k = m + 1 := ⟨k - 1, by omega⟩
    have hall : s.data.toList.all inR = true := by rw [← List.take_of_length_le (show s.data.toList.length ≤ i by omega)]; exact ht
    have hF : strings_Fields.f s = some ((Lib.fields s.data.toList).map fun l => (⟨l.toArray⟩ : ByteArray)) := by
      unfold strings_Fields.f
      rw [if_pos ⟨by omega, List.all_eq_true.mpr (fun b hb => by have := (inR_iff b).mp (List.all_eq_true.mp hall b hb); exact decide_eq_true (by omega))⟩]
    rw [impl_SplitFields.l0, if_neg (by omega), hF, Option.bind_some, List.drop_eq_nil_of_le (by omega), List.all_nil, if_pos (show (true : Bool) = true from rfl)]
    unfold fin
    rw [show (fun l => (⟨List.toArray l⟩ : ByteArray)) = mkB from rfl]
    by_cases c : ((Lib.fields s.data.toList).map mkB).length > 24
    · rw [if_pos (by omega), if_pos c]
    · rw [if_neg (by omega), if_neg c]
  | succ d ih =>
    intro k i hi hk ht
    obtain ⟨k, rfl⟩ : ∃ m, k = m + 1 := ⟨k - 1, by omega⟩
    have hlt : i < s.data.toList.length := by omega
    have hb := bt_get s i hlt
    have hdr := List.drop_eq_getElem_cons hlt
    have htk : s.data.toList.take (i + 1) = s.data.toList.take i ++ [s.data.toList[i]] := by rw [List.take_add_one, List.getElem?_eq_getElem hlt]; rfl
    have hlt256 := (s.data.toList[i]).toNat_lt
    rw [impl_SplitFields.l0, if_pos (by omega), if_pos (by omega), if_pos (by omega), hb, hdr, List.all_cons]
    have ih2 := ih k (i + 1) (by omega) (by omega)
    rw [htk, List.all_append, ht, List.all_cons, List.all_nil, Bool.and_true, Bool.true_and] at ih2
    generalize s.data.toList[i] = c at ih2 hlt256 ⊢
    rw [w64 (n := (c.toNat : Int)) (by omega) (by omega), within, Option.bind_some, w64 (n := (i : Int) + 1) (by omega) (by omega), show ((i : Int) + 1) = ((i + 1 : Nat) : Int) by omega]
    by_cases hc : inR c = true
    · have h2 := (inR_iff c).mp hc
      rw [if_pos (decide_eq_true (by omega)), ih2 hc, hc, Bool.true_and]
    · have h2 : ¬ (32 ≤ c.toNat ∧ c.toNat ≤ 126) := fun g => hc ((inR_iff c).mpr g)
      have hf : inR c = false := by simpa using hc
      rw [if_neg (by rw [decide_eq_true_iff]; omega), hf, Bool.false_and, if_neg (by decide)]
theorem impl_split (s : ByteArray) (k : Nat) (hk : 700 < k) : impl_SplitFields.f k s = some (S s.data.toList) := by
  have hsz := ba_size s
  unfold impl_SplitFields.f S
  by_cases h : s.data.toList.length > 600
  · rw [if_pos (by omega), if_pos h]
  · rw [if_neg (by omega), if_neg h]
    have := impl_split_loop s (by omega) s.data.toList.length k 0 (by omega) (by omega) (by rfl)
    rw [List.drop_zero] at this
    exact this
theorem spec_split_loop (s : ByteArray) (hs : s.data.toList.length ≤ 600) (d : Nat) : ∀ (k i b : Nat) (out : List ByteArray), i + d = s.data.toList.length → 3 * d + 5 < k → b ≤ i → out.length ≤ i →
    spec_SplitFields.l0 k s out (b : Int) (i : Int) = some (if (s.data.toList.drop i).all inR = true then fin (out ++ (Lib.fieldsGo ((s.data.toList.take i).drop b) (s.data.toList.drop i)).map mkB) else ([], false)) := by
  have hsz := ba_size s
  induction d with
  | zero =>
    intro k i b out hi hk hb ho
    obtain ⟨k, rfl⟩ : ∃ m, k = m + 1 + 1 + 1 + 1 := ⟨k - 4, by omega⟩
    have hd : s.data.toList.drop i = [] := List.drop_eq_nil_of_le (by omega)
    have last : ∀ xs : List ByteArray, ∀ b' : Int, spec_SplitFields.l0 (k + 1) s xs b' ((i + 1 : Nat) : Int) = some (fin xs) := by
      intro xs b'
      rw [spec_SplitFields.l0, if_neg (by omega)]
      unfold fin
      by_cases c : xs.length > 24
      · rw [if_pos (by omega), if_pos c]
      · rw [if_neg (by omega), if_neg c]
    have hlen : ((s.data.toList.take i).drop b).length = i - b := by rw [List.length_drop, List.length_take]; omega
    rw [hd, List.all_nil, if_pos (show (true : Bool) = true from rfl), spec_SplitFields.l0, if_pos (by omega), if_neg (by omega), spec_SplitFields.j1, if_neg (by decide), if_neg (by omega), spec_SplitFields.j2, if_neg (by decide), w64 (n := (i : Int) + 1) (by omega) (by omega), show ((i : Int) + 1) = ((i + 1 : Nat) : Int) by omega]
    unfold Lib.fieldsGo
    by_cases hbi : b < i
    · have hne : ((s.data.toList.take i).drop b).isEmpty = false := by rw [List.isEmpty_eq_false_iff]; intro g; rw [g] at hlen; simp at hlen; omega
      rw [if_pos (by omega), if_pos (by omega), if_pos (by omega), if_pos (by omega), if_pos (by omega), Int.toNat_natCast, Int.toNat_natCast, ext_of s b i (by omega), last, hne]
      rfl
    · have he : ((s.data.toList.take i).drop b).isEmpty = true := by rw [List.isEmpty_iff]; exact List.eq_nil_of_length_eq_zero (by omega)
      rw [if_neg (by omega), last, he]
      simp
  | succ d ih =>
    intro k i b out hi hk hb ho
    obtain ⟨k, rfl⟩ : ∃ m, k = m + 1 + 1 + 1 := ⟨k - 3, by omega⟩
    have hlt : i < s.data.toList.length := by omega
    have hbt := bt_get s i hlt
    have hdr := List.drop_eq_getElem_cons hlt
    have htk : s.data.toList.take (i + 1) = s.data.toList.take i ++ [s.data.toList[i]] := by rw [List.take_add_one, List.getElem?_eq_getElem hlt]; rfl
    have hlt256 := (s.data.toList[i]).toNat_lt
    have hlen : ((s.data.toList.take i).drop b).length = i - b := by rw [List.length_drop, List.length_take]; omega
    have hcur : (s.data.toList.take (i + 1)).drop b = (s.data.toList.take i).drop b ++ [s.data.toList[i]] := by rw [htk, List.drop_append_of_le_length (by rw [List.length_take]; omega)]
    have hnew : (s.data.toList.take (i + 1)).drop (i + 1) = [] := List.drop_eq_nil_of_le (by rw [List.length_take]; omega)
    have ihA := ih k (i + 1) b out (by omega) (by omega) (by omega) (by omega)
    have ihB := ih k (i + 1) (i + 1) out (by omega) (by omega) (by omega) (by omega)
    have ihC := ih k (i + 1) (i + 1) (out ++ [mkB ((s.data.toList.take i).drop b)]) (by omega) (by omega) (by omega) (by rw [List.length_append]; simp only [List.length_cons, List.length_nil]; omega)
    have hext := ext_of s b i (by omega)
    rw [hcur] at ihA
    rw [hnew] at ihB ihC
    rw [spec_SplitFields.l0, if_pos (by omega), if_pos (by omega), if_pos (by omega), hbt, hdr, List.all_cons]
    generalize s.data.toList[i] = c at ihA hlt256 hbt ⊢
    generalize (s.data.toList.take i).drop b = cur at ihA ihC hlen hext ⊢
    generalize s.data.toList.drop (i + 1) = rest at ihA ihB ihC ⊢
    by_cases hc : inR c = true
    · have h2 := (inR_iff c).mp hc
      have hj : (if (c.toNat : Int) < 32 then (spec_SplitFields.j1 (k + 1 + 1) s out b i true) else (spec_SplitFields.j1 (k + 1 + 1) s out b i (decide ((c.toNat : Int) > 126)))) = spec_SplitFields.j1 (k + 1 + 1) s out b i false := by
        rw [if_neg (by omega), decide_eq_false (by omega)]
      rw [hj, spec_SplitFields.j1, if_neg (by decide), if_pos (by omega), if_pos (by omega), hbt, hc, Bool.true_and, spec_SplitFields.j2, w64 (n := (i : Int) + 1) (by omega) (by omega), show ((i : Int) + 1) = ((i + 1 : Nat) : Int) by omega]
      by_cases h32 : c.toNat = 32
      · have hsp : Lib.isSp c = true := by rw [sp_of c hc]; exact decide_eq_true h32
        have hbe : (((c.toNat : Int)) != 32) = false := by rw [bne_eq_false_iff_eq]; omega
        rw [hbe, if_neg (by decide)]
        unfold Lib.fieldsGo
        rw [if_pos hsp]
        by_cases hbi : b < i
        · have hne : cur.isEmpty = false := by rw [List.isEmpty_eq_false_iff]; intro g; rw [g] at hlen; simp at hlen; omega
          rw [if_pos (by omega), if_pos (by omega), if_pos (by omega), if_pos (by omega), if_pos (by omega), Int.toNat_natCast, Int.toNat_natCast, hext, ihC, hne]
          simp
        · have he : cur.isEmpty = true := by rw [List.isEmpty_iff]; exact List.eq_nil_of_length_eq_zero (by omega)
          rw [if_neg (by omega), ihB, he]
          simp
      · have hsp : Lib.isSp c = false := by rw [sp_of c hc]; exact decide_eq_false h32
        have hbe : (((c.toNat : Int)) != 32) = true := by rw [bne_iff_ne]; omega
        rw [hbe, if_pos rfl, ihA]
        conv => rhs; unfold Lib.fieldsGo
        rw [hsp]
        simp
    · have h2 : ¬ (32 ≤ c.toNat ∧ c.toNat ≤ 126) := fun g => hc ((inR_iff c).mpr g)
      have hf : inR c = false := by simpa using hc
      have hj : (if (c.toNat : Int) < 32 then (spec_SplitFields.j1 (k + 1 + 1) s out b i true) else (spec_SplitFields.j1 (k + 1 + 1) s out b i (decide ((c.toNat : Int) > 126)))) = some ([], false) := by
        by_cases q : (c.toNat : Int) < 32
        · rw [if_pos q, spec_SplitFields.j1, if_pos rfl]
        · rw [if_neg q, decide_eq_true (by omega), spec_SplitFields.j1, if_pos rfl]
      rw [hj, hf, Bool.false_and, if_neg (by decide)]
theorem spec_split (s : ByteArray) (k : Nat) (hk : 2000 < k) : spec_SplitFields.f k s = some (S s.data.toList) := by
  have hsz := ba_size s
  unfold spec_SplitFields.f S
  rw [Option.bind_some]
  by_cases h : s.data.toList.length > 600
  · rw [if_pos (by omega), if_pos h]
  · rw [if_neg (by omega), if_neg h]
    have := spec_split_loop s (by omega) s.data.toList.length k 0 0 [] (by omega) (by omega) (by omega) (by simp)
    rw [List.drop_zero, List.take_zero, List.drop_nil, List.nil_append] at this
    exact this
theorem rd_of (x : List ByteArray) (i : Nat) (h : i < x.length) : rdOf ByteArray.empty x (i : Int) = x[i] := by
  unfold rdOf
  rw [Int.toNat_natCast, List.getD_eq_getElem?_getD, List.getElem?_eq_getElem h]
  rfl
theorem eq_loop (x : List ByteArray) (hx : x.length ≤ 1048576) (d : Nat) : ∀ k i : Nat, i + d = x.length → d < k → laws_eqStringS.l0 k x x (i : Int) = some true := by
  induction d with
  | zero =>
    intro k i hi hk
    obtain ⟨k, rfl⟩ : ∃ m, k = m + 1 := ⟨k - 1, by omega⟩
    rw [laws_eqStringS.l0, if_neg (by omega)]
  | succ d ih =>
    intro k i hi hk
    obtain ⟨k, rfl⟩ : ∃ m, k = m + 1 := ⟨k - 1, by omega⟩
    rw [laws_eqStringS.l0, if_pos (by omega), if_pos (by omega), if_pos (by omega), if_pos rfl, w64 (n := (i : Int) + 1) (by omega) (by omega), show ((i : Int) + 1) = ((i + 1 : Nat) : Int) by omega]
    exact ih k (i + 1) (by omega) (by omega)
theorem eq_self (x : List ByteArray) (hx : x.length ≤ 1048576) (k : Nat) (hk : x.length < k) : laws_eqStringS.f k x x = some true := by
  unfold laws_eqStringS.f
  rw [if_pos rfl]
  exact eq_loop x hx x.length k 0 (by omega) hk
theorem mark_loop : ∀ (u k : Nat) (acc : ByteArray), u < k → u ≤ 1000 → acc.size + u + 1 ≤ 1000000 → ∃ s, ∀ k', k ≤ k' → laws_markText.l0 k' (u : Int) acc = some s := by
  intro u
  induction u using Nat.strongRecOn with
  | _ u ih =>
    intro k acc hk hu hs
    by_cases h0 : u = 0
    · subst h0
      refine ⟨(⟨#[109]⟩ : ByteArray) ++ acc, fun k' hk' => ?_⟩
      obtain ⟨k', rfl⟩ : ∃ m, k' = m + 1 := ⟨k' - 1, by omega⟩
      rw [laws_markText.l0, if_neg (by omega), if_pos (by omega)]
    · have hsz : ∀ t : Int, (strOfNums [t]).size = 1 := fun t => by rw [ba_size]; rfl
      have hd : Int.tdiv (u : Int) 10 = ((u / 10 : Nat) : Int) := rfl
      have hw : wrap64 ((u / 10 : Nat) : Int) = ((u / 10 : Nat) : Int) := w64 (by omega) (by omega)
      obtain ⟨s, e⟩ := ih (u / 10) (by omega) (k - 1) (strOfNums [(wrap64 (48 + (Int.tmod (u : Int) 10))) % 256] ++ acc) (by omega) (by omega) (by rw [ByteArray.size_append, hsz]; omega)
      refine ⟨s, fun k' hk' => ?_⟩
      obtain ⟨k', rfl⟩ : ∃ m, k' = m + 1 := ⟨k' - 1, by omega⟩
      rw [laws_markText.l0, if_pos (by omega), Option.bind_some, hsz, if_pos (by omega), hd, hw]
      exact e k' (by omega)
theorem mark_text (n : Nat) (h : n ≤ 1000) : ∃ s, ∀ k, 1001 < k → laws_markText.f k (n : Int) = some s := by
  by_cases h0 : n = 0
  · refine ⟨(⟨#[109, 48]⟩ : ByteArray), fun k hk => ?_⟩
    unfold laws_markText.f
    rw [if_pos (by omega)]
  · obtain ⟨s, e⟩ := mark_loop n 1001 ⟨#[]⟩ (by omega) h (by show 0 + n + 1 ≤ _; omega)
    refine ⟨s, fun k hk => ?_⟩
    unfold laws_markText.f
    rw [if_neg (by omega)]
    exact e k (by omega)
/-- The n-th mark. -/
noncomputable def M (n : Nat) : ByteArray := if h : n ≤ 1000 then (mark_text n h).choose else ByteArray.empty
theorem M_spec (n : Nat) (h : n ≤ 1000) (k : Nat) (hk : 1001 < k) : laws_markText.f k (n : Int) = some (M n) := by
  unfold M
  rw [dif_pos h]
  exact (mark_text n h).choose_spec k hk
noncomputable def ML (i d : Nat) : List ByteArray := (List.range' i d).map fun j => M (1 + j)
theorem marks_loop (d : Nat) : ∀ (k i : Nat) (x : List ByteArray), i + d = x.length → d + 1002 < k → x.length ≤ 600 →
    laws_markStringS.l0 k x ((1 + i : Nat) : Int) (i : Int) = some (((1 + x.length : Nat) : Int), x.take i ++ ML i d) := by
  induction d with
  | zero =>
    intro k i x hi hk hx
    obtain ⟨k, rfl⟩ : ∃ m, k = m + 1 := ⟨k - 1, by omega⟩
    have : i = x.length := by omega
    subst this
    rw [laws_markStringS.l0, if_neg (by omega), List.take_length]
    simp [ML]
  | succ d ih =>
    intro k i x hi hk hx
    obtain ⟨k, rfl⟩ : ∃ m, k = m + 1 := ⟨k - 1, by omega⟩
    have e1 : wrap64 (((1 + i : Nat) : Int) + 1) = ((1 + (i + 1) : Nat) : Int) := by rw [w64 (by omega) (by omega)]; omega
    have e2 : wrap64 ((i : Int) + 1) = ((i + 1 : Nat) : Int) := by rw [w64 (by omega) (by omega)]; omega
    have h := ih k (i + 1) (x.set i (M (1 + i))) (by rw [List.length_set]; omega) (by omega) (by rw [List.length_set]; omega)
    rw [laws_markStringS.l0, if_pos (by omega), M_spec (1 + i) (by omega) k (by omega), Option.bind_some, if_pos (by omega), e1, e2, Int.toNat_natCast, h, List.length_set]
    congr 2
    have ht : (x.set i (M (1 + i))).take (i + 1) = x.take i ++ [M (1 + i)] := by
      rw [List.take_add_one, List.getElem?_set_self (by omega), List.take_set_of_le (Nat.le_refl _)]
      rfl
    rw [ht, List.append_assoc]
    unfold ML
    rw [List.range'_succ, List.map_cons]
    rfl
theorem marks (x : List ByteArray) (hx : x.length ≤ 600) (k : Nat) (hk : 2000 < k) : laws_markStringS.f k x 1 = some (((1 + x.length : Nat) : Int), ML 0 x.length) := by
  unfold laws_markStringS.f
  have h := marks_loop x.length k 0 x (by omega) (by omega) hx
  rw [List.take_zero, List.nil_append] at h
  exact h
theorem held_loop (n : Nat) (hn : n ≤ 600) (d : Nat) : ∀ (k i : Nat), i + d = n → d + 1002 < k → laws_heldStringS.l0 k (ML 0 n) ((1 + i : Nat) : Int) (i : Int) = some ((1 + n : Nat) : Int) := by
  have hl : (ML 0 n).length = n := by simp [ML]
  induction d with
  | zero =>
    intro k i hi hk
    obtain ⟨k, rfl⟩ : ∃ m, k = m + 1 := ⟨k - 1, by omega⟩
    obtain rfl : i = n := by omega
    rw [laws_heldStringS.l0, if_neg (by omega)]
  | succ d ih =>
    intro k i hi hk
    obtain ⟨k, rfl⟩ : ∃ m, k = m + 1 := ⟨k - 1, by omega⟩
    have e1 : wrap64 (((1 + i : Nat) : Int) + 1) = ((1 + (i + 1) : Nat) : Int) := by rw [w64 (by omega) (by omega)]; omega
    have e2 : wrap64 ((i : Int) + 1) = ((i + 1 : Nat) : Int) := by rw [w64 (by omega) (by omega)]; omega
    have hg : (ML 0 n)[i]'(by omega) = M (1 + i) := by simp [ML]
    rw [laws_heldStringS.l0, if_pos (by omega), if_pos (by omega), M_spec (1 + i) (by omega) k (by omega), Option.bind_some, rd_of _ i (by omega), hg, if_pos rfl, e1, e2]
    exact ih k (i + 1) (by omega) (by omega)
theorem held (n : Nat) (hn : n ≤ 600) (k : Nat) (hk : 2000 < k) : laws_heldStringS.f k (ML 0 n) 1 = some ((1 + n : Nat) : Int) := by
  unfold laws_heldStringS.f
  exact held_loop n hn n k 0 (by omega) (by omega)
theorem S_len (l : List UInt8) : (S l).1.length ≤ 24 := by
  unfold S fin
  split
  · simp
  · split
    · split
      · simp
      · dsimp only; omega
    · simp
theorem FnExactSplitFields : laws_FnExactSplitFields.Pure := by
  intro s hs
  refine ⟨10002, ?_⟩
  unfold laws_FnExactSplitFields.f
  by_cases h : (s.size : Int) > 1048576
  · rw [if_pos h]
  · rw [if_neg h, spec_split s _ (by omega), Option.bind_some, impl_split s _ (by omega), Option.bind_some]
    have hl := S_len s.data.toList
    rw [eq_self _ (by omega) _ (by omega), Option.bind_some, if_pos rfl, bne_self_eq_false, laws_FnExactSplitFields.j0, if_neg (by decide), marks _ (by omega) _ (by omega), Option.bind_some]
    simp only
    rw [held _ (by omega) _ (by omega), Option.bind_some, if_neg (by omega), if_pos rfl, impl_split s _ (by omega), Option.bind_some, eq_self _ (by omega) _ (by omega), Option.bind_some, if_pos rfl, bne_self_eq_false, laws_FnExactSplitFields.j1, if_neg (by decide), held _ (by omega) _ (by omega), Option.bind_some, if_neg (by omega), if_pos rfl]

end Go.Proofs.YtbdbogpglkbafaaDoor.Pure
