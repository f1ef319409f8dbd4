/- The program writes a whole number in decimal as the reference does: at every number. No condition. -/
import Derived.Test.YtbdbogpglkbafaaDoorPFnExactFormatIntx1
import Derived.Lib.ItoaLen
namespace Go.Proofs.YtbdbogpglkbafaaDoor.Pure
open Go.RowKit Go.Proofs.YtbdbogpglkbafaaDoor.PFnExactFormatInt Go.Proofs.YtbdbogpglkbafaaDoorW.PrintWords Go.Proofs.YtbdbogpglkbafaaDoorW.PrintLast Go.Proofs.YtbdbogpglkbafaaDoorW.PrintMore
set_option linter.unusedVariables false
set_option linter.unusedSimpArgs false

/-- The digits of a number, none of 0. -/
def D (u : Nat) : List UInt8 := if u = 0 then [] else Lib.decDigits u
theorem D_step (u : Nat) (h : u ≠ 0) : D u = D (u / 10) ++ [UInt8.ofNat (48 + u % 10)] := by
  unfold D
  rw [if_neg h, Lib.decDigits]
  by_cases c : u < 10
  · rw [dif_pos c, if_pos (by omega), show u % 10 = u by omega]
    rfl
  · rw [dif_neg c, if_neg (by omega)]
theorem figure (d : Int) (h : 0 ≤ d ∧ d < 10) : spec_l01Figure.f d = some (48 + d) := by
  unfold spec_l01Figure.f
  rw [if_pos h.2, show wrap64 (48 + d) = 48 + d from by unfold wrap64; omega, show (48 + d) % 256 = 48 + d by omega]
theorem one_byte (t : Int) : (strOfNums [t]).data.toList = [UInt8.ofNat t.toNat] := by
  simp [strOfNums]
theorem ba_app (a b : ByteArray) : (a ++ b).data.toList = a.data.toList ++ b.data.toList := by
  simp
theorem ba_size (a : ByteArray) : a.size = a.data.toList.length := by
  rw [Array.length_toList]
  rfl
theorem ba_of (s : ByteArray) (l : List UInt8) (h : s.data.toList = l) : s = ⟨l.toArray⟩ := by
  subst h
  rfl
theorem td (x : Int) : (x < 0 ∧ Int.tdiv x 10 = -((-x) / 10) ∧ Int.tmod x 10 = -((-x) % 10)) ∨ (0 ≤ x ∧ Int.tdiv x 10 = x / 10 ∧ Int.tmod x 10 = x % 10) := by
  by_cases h : x < 0
  · refine Or.inl ⟨h, ?_, ?_⟩
    · have := Int.neg_tdiv (-x) 10
      rw [Int.neg_neg] at this
      rw [this, Int.tdiv_eq_ediv_of_nonneg (by omega)]
    · have := Int.neg_tmod (-x) 10
      rw [Int.neg_neg] at this
      rw [this, Int.tmod_eq_emod_of_nonneg (by omega)]
  · exact Or.inr ⟨by omega, Int.tdiv_eq_ediv_of_nonneg (by omega), Int.tmod_eq_emod_of_nonneg (by omega)⟩
theorem fmt_loop (neg : Bool) : ∀ (u k : Nat) (x : Int) (acc : ByteArray), x.natAbs = u → (-9223372036854775808 ≤ x ∧ x ≤ 9223372036854775807) → u < k → acc.size + (D u).length + 1 ≤ 1000000 →
    ∃ s, spec_FormatInt.l0 k x neg acc = some s ∧ s.data.toList = (if neg = true then [45] else []) ++ (D u ++ acc.data.toList) := by
  intro u
  induction u using Nat.strongRecOn with
  | _ u ih =>
    intro k x acc hx hb hk hs
    obtain ⟨k, rfl⟩ : ∃ m, k = m + 1 := ⟨k - 1, by omega⟩
    rw [spec_FormatInt.l0]
    by_cases h0 : x = 0
    · have hu : u = 0 := by omega
      rw [if_pos h0]
      subst hu
      cases neg with
      | true =>
        rw [if_pos rfl, if_pos (by omega)]
        exact ⟨_, rfl, by rw [ba_app]; simp [D]⟩
      | false =>
        rw [if_neg (by decide)]
        exact ⟨_, rfl, by simp [D]⟩
    · have hu : u ≠ 0 := by omega
      have hd := td x
      generalize Int.tdiv x 10 = q at hd ⊢
      generalize Int.tmod x 10 = m at hd ⊢
      have hw : wrap64 q = q := by unfold wrap64; omega
      have hlen : (D u).length = (D (u / 10)).length + 1 := by rw [D_step u hu, List.length_append]; rfl
      have step : ∀ d : Int, d = ((u % 10 : Nat) : Int) → ∃ s, ((spec_l01Figure.f d).bind fun t => ((some (([t] : List Int) : List Int)).bind fun y => (if (strOfNums y).size + acc.size ≤ 9223372036854775807 then (spec_FormatInt.l0 k (wrap64 q) neg ((strOfNums y) ++ acc)) else (none)))) = some s ∧ s.data.toList = (if neg = true then [45] else []) ++ (D u ++ acc.data.toList) := by
        intro d hdd
        have h1 : (strOfNums [48 + d]).size = 1 := by rw [ba_size, one_byte]; rfl
        have h2 : (strOfNums [48 + d] ++ acc).size = 1 + acc.size := by rw [ByteArray.size_append, h1]
        rw [figure d (by omega), Option.bind_some, Option.bind_some, h1, if_pos (by omega), hw]
        obtain ⟨s, e1, e2⟩ := ih (u / 10) (by omega) k q (strOfNums [48 + d] ++ acc) (by omega) (by omega) (by omega) (by omega)
        refine ⟨s, e1, ?_⟩
        rw [e2, ba_app, one_byte, D_step u hu, hdd, show (48 + ((u % 10 : Nat) : Int)).toNat = 48 + u % 10 by omega, List.append_assoc]
      rw [if_neg h0]
      by_cases h1 : m < 0
      · rw [if_pos h1]
        have hw2 : wrap64 (-m) = -m := by unfold wrap64; omega
        rw [hw2]
        exact step _ (by omega)
      · rw [if_neg h1]
        exact step _ (by omega)
/-- The reference writes a number as the library does. -/
theorem spec_format (a : Int) (h : -9223372036854775808 ≤ a ∧ a ≤ 9223372036854775807) (k : Nat) (hk : a.natAbs < k) : spec_FormatInt.f k a = some ⟨(Lib.itoa a).toArray⟩ := by
  have hl := Lib.itoa_length_le a h.1 h.2
  unfold spec_FormatInt.f
  by_cases h0 : a = 0
  · subst h0
    rw [if_pos rfl]
    have : Lib.itoa 0 = [48] := by
      have h := Lib.itoa_nonneg 0
      rw [Lib.decDigits_one (by decide)] at h
      exact h
    rw [this]
  · rw [if_neg h0]
    unfold Lib.itoa at hl ⊢
    by_cases hn : a < 0
    · rw [if_pos hn] at hl ⊢
      rw [decide_eq_true hn]
      have hD : D a.natAbs = Lib.decDigits a.natAbs := by unfold D; rw [if_neg (by omega)]
      rw [List.length_cons, ← hD] at hl
      obtain ⟨s, e1, e2⟩ := fmt_loop true a.natAbs k a ⟨#[]⟩ rfl h hk (by show 0 + _ + 1 ≤ _; omega)
      rw [e1, ba_of s _ e2, hD]
      simp
    · rw [if_neg hn] at hl ⊢
      rw [decide_eq_false hn]
      have hD : D a.natAbs = Lib.decDigits a.toNat := by unfold D; rw [if_neg (by omega), show a.natAbs = a.toNat by omega]
      rw [← hD] at hl
      obtain ⟨s, e1, e2⟩ := fmt_loop false a.natAbs k a ⟨#[]⟩ rfl h hk (by show 0 + _ + 1 ≤ _; omega)
      rw [e1, ba_of s _ e2, hD]
      simp
theorem impl_format (a : Int) (h : -9223372036854775808 ≤ a ∧ a ≤ 9223372036854775807) : impl_FormatInt.f a = some ⟨(Lib.itoa a).toArray⟩ := by
  unfold impl_FormatInt.f strconv_Itoa_39.f
  rw [if_pos h]
  rfl
theorem FnExactFormatInt : laws_FnExactFormatInt.Pure := by
  intro a ha
  have h : -9223372036854775808 ≤ a ∧ a ≤ 9223372036854775807 := by
    have e1 : IntKind.i64.min = -9223372036854775808 := rfl
    have e2 : IntKind.i64.max = 9223372036854775807 := rfl
    simp [Lit.wf, e1, e2] at ha
    omega
  refine ⟨a.natAbs + 1, ?_⟩
  unfold laws_FnExactFormatInt.f
  rw [spec_format a h _ (by omega), Option.bind_some, impl_format a h, Option.bind_some, if_pos rfl]

end Go.Proofs.YtbdbogpglkbafaaDoor.Pure
