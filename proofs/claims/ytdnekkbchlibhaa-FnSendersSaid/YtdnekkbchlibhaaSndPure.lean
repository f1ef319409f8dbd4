/- Plain facts of senders: what a sender in order is, and what the operations of the program and of the reference answer at one. No condition. -/
import Derived.Test.YtdnekkbchlibhaaPFnSendersx0
import Derived.Test.YtdnekkbchlibhaaPFnSendersx1
import Derived.Test.YtdnekkbchlibhaaPFnSendersx2
import Derived.Test.YtdnekkbchlibhaaPFnSendersx3
import Derived.Test.YtdnekkbchlibhaaPFnSendersx4
import Derived.Test.YtdnekkbchlibhaaPFnSendersx5
import Derived.Test.YtdnekkbchlibhaaPFnSendersx6
import Derived.Test.YtdnekkbchlibhaaPFnSendersx7
import Derived.Test.YtdnekkbchlibhaaPFnSendersx8
import Derived.Test.YtdnekkbchlibhaaPFnSendersx10
import Derived.Test.YtdnekkbchlibhaaPFnSendersx14
import Derived.Test.YtdnekkbchlibhaaBits
namespace Go.Proofs.Ytdnekkbchlibhaa.Pure
open Go.RowKit Go.Proofs.Ytdnekkbchlibhaa.PFnSenders Go.Proofs.YtdnekkbchlibhaaW.PrintWords Go.Proofs.YtdnekkbchlibhaaW.PrintLast Go.Proofs.YtdnekkbchlibhaaW.PrintMore Go.Proofs.Ytdnekkbchlibhaa.Num
set_option linter.unusedVariables false
set_option linter.unusedSimpArgs false

theorem within (a b c : Int) : impl_within.f a b c = some (decide (b ≤ a ∧ a ≤ c)) := by
  unfold impl_within.f
  by_cases h : b ≤ a <;> simp [h]
theorem inRange (a b c : Int) : spec_l01In.f a b c = some (decide (b ≤ a ∧ a ≤ c)) := by
  unfold spec_l01In.f
  by_cases h : b ≤ a <;> simp [h]
theorem rd_nat (x : List Int) (i : Nat) (h : i < x.length) : rd x (i : Int) = x[i] := by
  unfold rd
  rw [Int.toNat_natCast, List.getD_eq_getElem?_getD, List.getElem?_eq_getElem h]
  rfl
def okB (l : List Int) : Bool := decide (l.length ≤ 40) && l.all (fun b => decide (0 ≤ b) && decide (b ≤ 255))
theorem okB_iff (l : List Int) : okB l = true ↔ l.length ≤ 40 ∧ ∀ b ∈ l, 0 ≤ b ∧ b ≤ 255 := by
  simp [okB]
theorem spec_bytes_loop (x : List Int) (hx : x.length ≤ 1048576) (d : Nat) : ∀ (k i : Nat), i + d = x.length → d < k →
    spec_AreBytes.l0 k x i = some (decide (x.length ≤ 40) && (x.drop i).all (fun b => decide (0 ≤ b) && decide (b ≤ 255))) := by
  induction d with
  | zero =>
    intro k i hi hk
    obtain ⟨k, rfl⟩ : ∃ m, k = m + 1 := ⟨k - 1, by omega⟩
    simp only [spec_AreBytes.l0]
    rw [if_neg (by omega), List.drop_of_length_le (by omega)]
    simp
    omega
  | succ d ih =>
    intro k i hi hk
    obtain ⟨k, rfl⟩ : ∃ m, k = m + 1 := ⟨k - 1, by omega⟩
    have h1 : i < x.length := by omega
    simp only [spec_AreBytes.l0]
    rw [if_pos (by omega), if_pos (by omega), rd_nat x i h1, inRange, w64 (by omega) (by omega), List.drop_eq_getElem_cons h1, show ((i : Int) + 1) = ((i + 1 : Nat) : Int) by omega, ih k (i + 1) (by omega) (by omega)]
    simp only [Option.bind_some, List.all_cons]
    by_cases e : 0 ≤ x[i] ∧ x[i] ≤ 255
    · simp [e]
    · rw [show (decide (0 ≤ x[i] ∧ x[i] ≤ 255)) = false by simpa using e]
      have : (decide (0 ≤ x[i]) && decide (x[i] ≤ 255)) = false := by rw [← Bool.decide_and]; simpa using e
      rw [this]
      simp
theorem spec_bytes (x : List Int) (hx : x.length ≤ 1048576) (k : Nat) (hk : x.length < k) : spec_AreBytes.f k x = some (okB x) := by
  have := spec_bytes_loop x hx x.length k 0 (by omega) hk
  simpa [spec_AreBytes.f, okB] using this
theorem any_not (l : List Int) : l.any (fun x => !(decide (0 ≤ x) && decide (x ≤ 255))) = !(l.all (fun b => decide (0 ≤ b) && decide (b ≤ 255))) := by
  induction l with
  | nil => rfl
  | cons x t ih => rw [List.any_cons, List.all_cons, ih]; cases (decide (0 ≤ x) && decide (x ≤ 255)) <;> rfl
theorem impl_bytes (x : List Int) : impl_AreBytes.f x = some (okB x) := by
  unfold impl_AreBytes.f slices_ContainsFunc_int_int.f okB
  rw [if_pos (Or.inl rfl)]
  have e : (slices_ContainsFunc_int_int.p 68) = fun x => !(decide (0 ≤ x) && decide (x ≤ 255)) := by
    funext y
    simp [slices_ContainsFunc_int_int.p]
  rw [e, any_not]
  by_cases h : x.length ≤ 40
  · rw [if_pos (by omega)]; simp [h]
  · rw [if_neg (by omega)]; simp [h]
theorem rdT64 (x : List S64) (i : Nat) (h : i < x.length) : rd_T64 x (i : Int) = x[i] := by
  unfold rd_T64
  rw [Int.toNat_natCast, List.getD_eq_getElem?_getD, List.getElem?_eq_getElem h]
  rfl
theorem seqd (a b : Int) : ∃ v, spec_SeqDistance.f a b = some v ∧ impl_SeqDistance.f a b = some v := by
  unfold spec_SeqDistance.f impl_SeqDistance.f spec_IsSeq.f impl_IsSeq.f
  simp only [inRange, within, Option.bind_some]
  by_cases h : 0 ≤ a ∧ a ≤ 15
  · by_cases h1 : 0 ≤ b ∧ b ≤ 15
    · simp [h, h1]
    · simp [h, h1]
  · simp [h]
theorem senderok_loop (a0 : Int) (x : List S64) (a2 n : Int) (hx : x.length ≤ 1048576) (hw : ∀ s ∈ x, s.f1.length ≤ 1048576) (hn : n = (x.length : Int)) (d : Nat) : ∀ (k i : Nat), i + d = x.length → d + 1048580 < k →
    ∃ v, spec_SenderOk.l0 k n i a0 x a2 = some v ∧ impl_SenderOk.l0 k n x n i a0 x a2 = some v := by
  induction d with
  | zero =>
    intro k i hi hk
    obtain ⟨k, rfl⟩ : ∃ m, k = m + 1 := ⟨k - 1, by omega⟩
    rw [spec_SenderOk.l0, impl_SenderOk.l0, if_neg (by omega), if_neg (by omega)]
    exact ⟨true, rfl, rfl⟩
  | succ d ih =>
    intro k i hi hk
    obtain ⟨k, rfl⟩ : ∃ m, k = m + 1 := ⟨k - 1, by omega⟩
    have hlt : i < x.length := by omega
    have hl := hw _ (List.getElem_mem hlt)
    obtain ⟨v, e1, e2⟩ := seqd x[i].f0 a0
    obtain ⟨w, f1, f2⟩ := ih k (i + 1) (by omega) (by omega)
    rw [spec_SenderOk.l0, impl_SenderOk.l0, if_pos (by omega), if_pos (by omega), if_pos (by omega), if_pos (by omega), if_pos (by omega), if_pos (by omega), rdT64 x i hlt, e1, e2, Option.bind_some, Option.bind_some, spec_bytes _ hl k (by omega), impl_bytes, Option.bind_some, Option.bind_some, w64 (n := (i : Int) + 1) (by omega) (by omega), show ((i : Int) + 1) = ((i + 1 : Nat) : Int) by omega, f1, f2]
    by_cases h1 : v = wrap64 (n - (i : Int))
    · rw [if_pos h1]
      by_cases h2 : okB x[i].f1 = true
      · rw [if_pos h2]
        exact ⟨w, rfl, rfl⟩
      · rw [if_neg h2]
        exact ⟨false, rfl, rfl⟩
    · rw [if_neg h1]
      exact ⟨false, rfl, rfl⟩
theorem senderok (a0 : Int) (x : List S64) (a2 : Int) (hx : x.length ≤ 1048576) (hw : ∀ s ∈ x, s.f1.length ≤ 1048576) (k : Nat) (hk : x.length + 1048590 < k) : ∃ v, spec_SenderOk.f k a0 x a2 = some v ∧ impl_SenderOk.f k a0 x a2 = some v := by
  obtain ⟨k, rfl⟩ : ∃ m, k = m + 1 := ⟨k - 1, by omega⟩
  obtain ⟨v, f1, f2⟩ := senderok_loop a0 x a2 (x.length : Int) hx hw rfl x.length k 0 (by omega) (by omega)
  have f1' : spec_SenderOk.l0 k (x.length : Int) 0 a0 x a2 = some v := f1
  have f2' : impl_SenderOk.l0 k (x.length : Int) x (x.length : Int) 0 a0 x a2 = some v := f2
  have bads : spec_SenderOk.j0 (k + 1) (x.length : Int) true a0 x a2 = some false := by rw [spec_SenderOk.j0, if_pos rfl]
  have badi : impl_SenderOk.j0 (k + 1) (x.length : Int) true a0 x a2 = some false := by rw [impl_SenderOk.j0, if_pos rfl]
  unfold spec_SenderOk.f impl_SenderOk.f spec_IsSeq.f impl_IsSeq.f
  simp only [inRange, within, Option.bind_some]
  by_cases h0 : 0 ≤ a0 ∧ a0 ≤ 15
  · have p0 : decide (0 ≤ a0 ∧ a0 ≤ 15) = true := decide_eq_true h0
    simp only [p0, ↓reduceIte]
    by_cases h7 : (x.length : Int) > 7
    · simp only [h7, ↓reduceIte]
      exact ⟨false, bads, badi⟩
    · simp only [h7, ↓reduceIte]
      by_cases h2 : 0 ≤ a2 ∧ a2 ≤ (x.length : Int)
      · have p2 : (!decide (0 ≤ a2 ∧ a2 ≤ (x.length : Int))) = false := by simpa using h2
        rw [p2, spec_SenderOk.j0, impl_SenderOk.j0]
        exact ⟨v, by rw [if_neg (by decide)]; exact f1', by rw [if_neg (by decide)]; exact f2'⟩
      · have p2 : (!decide (0 ≤ a2 ∧ a2 ≤ (x.length : Int))) = true := by rw [decide_eq_false h2]; rfl
        rw [p2]
        exact ⟨false, bads, badi⟩
  · have p0 : decide (0 ≤ a0 ∧ a0 ≤ 15) = false := decide_eq_false h0
    simp only [p0, Bool.false_eq_true, ↓reduceIte]
    exact ⟨false, bads, badi⟩
theorem specCopy_loop (a0 : Int) (x : List S64) (a2 : Int) (hx : x.length ≤ 1048576) (hw : ∀ s ∈ x, s.f1.length ≤ 1048576) (d : Nat) : ∀ (k i : Nat), i + d = x.length → d < k → spec_l08Copy.l0 k i a0 x a2 a0 (x.take i) a2 = some (a0, x, a2) := by
  induction d with
  | zero =>
    intro k i hi hk
    obtain ⟨k, rfl⟩ : ∃ m, k = m + 1 := ⟨k - 1, by omega⟩
    rw [spec_l08Copy.l0, if_neg (by omega), List.take_of_length_le (by omega)]
  | succ d ih =>
    intro k i hi hk
    obtain ⟨k, rfl⟩ : ∃ m, k = m + 1 := ⟨k - 1, by omega⟩
    have hlt : i < x.length := by omega
    have hl := hw _ (List.getElem_mem hlt)
    have hf : spec_l08Frame.f x[i].f0 x[i].f1 = some (x[i].f0, x[i].f1) := by
      unfold spec_l08Frame.f
      rw [Option.bind_some, if_pos (by simp only [List.length_nil]; omega), List.nil_append]
    rw [spec_l08Copy.l0, if_pos (by omega), if_pos (by omega), rdT64 x i hlt, hf, Option.bind_some, if_pos (by rw [List.length_take]; omega), w64 (by omega) (by omega), show ((i : Int) + 1) = ((i + 1 : Nat) : Int) by omega]
    have e : x.take i ++ [(⟨x[i].f0, x[i].f1⟩ : S64)] = x.take (i + 1) := (List.take_succ_eq_append_getElem hlt).symm
    rw [e]
    exact ih k (i + 1) (by omega) (by omega)
theorem specCopy (a0 : Int) (x : List S64) (a2 : Int) (hx : x.length ≤ 1048576) (hw : ∀ s ∈ x, s.f1.length ≤ 1048576) (k : Nat) (hk : x.length < k) : spec_l08Copy.f k a0 x a2 = some (a0, x, a2) :=
  specCopy_loop a0 x a2 hx hw x.length k 0 (by omega) hk
theorem implCopy_loop (a0 : Int) (x : List S64) (a2 n : Int) (hx : x.length ≤ 1048576) (hw : ∀ s ∈ x, s.f1.length ≤ 1048576) (hn : n = (x.length : Int)) (d : Nat) : ∀ (k i : Nat), i + d = x.length → d < k → impl_copySender.l0 k x n i a0 (x.take i) a2 = some (a0, x, a2) := by
  induction d with
  | zero =>
    intro k i hi hk
    obtain ⟨k, rfl⟩ : ∃ m, k = m + 1 := ⟨k - 1, by omega⟩
    rw [impl_copySender.l0, if_neg (by omega), List.take_of_length_le (by omega)]
  | succ d ih =>
    intro k i hi hk
    obtain ⟨k, rfl⟩ : ∃ m, k = m + 1 := ⟨k - 1, by omega⟩
    have hlt : i < x.length := by omega
    have hl := hw _ (List.getElem_mem hlt)
    have hf : impl_copyFrame.f x[i].f0 x[i].f1 = some (x[i].f0, x[i].f1) := by
      unfold impl_copyFrame.f slices_Clone_int_int.f
      rw [if_pos (by omega), Option.bind_some]
    rw [impl_copySender.l0, if_pos (by omega), if_pos (by omega), if_pos (by omega), rdT64 x i hlt, hf, Option.bind_some, if_pos (by rw [List.length_take]; omega), w64 (by omega) (by omega), show ((i : Int) + 1) = ((i + 1 : Nat) : Int) by omega]
    have e : x.take i ++ [(⟨x[i].f0, x[i].f1⟩ : S64)] = x.take (i + 1) := (List.take_succ_eq_append_getElem hlt).symm
    rw [e]
    exact ih k (i + 1) (by omega) (by omega)
theorem implCopy (a0 : Int) (x : List S64) (a2 : Int) (hx : x.length ≤ 1048576) (hw : ∀ s ∈ x, s.f1.length ≤ 1048576) (k : Nat) (hk : x.length < k) : impl_copySender.f k a0 x a2 = some (a0, x, a2) :=
  implCopy_loop a0 x a2 (x.length : Int) hx hw rfl x.length k 0 (by omega) hk
/-- What a sender in order is. -/
def sdist (a b : Int) : Int := if 0 ≤ a ∧ a ≤ 15 ∧ 0 ≤ b ∧ b ≤ 15 then (b - a + 16) % 16 else -1
def okS (n : Int) (x : List S64) (r : Int) : Prop := (0 ≤ n ∧ n ≤ 15) ∧ x.length ≤ 7 ∧ (0 ≤ r ∧ r ≤ (x.length : Int)) ∧ ∀ i, (h : i < x.length) → sdist x[i].f0 n = (x.length : Int) - i ∧ okB x[i].f1 = true
theorem sdist_spec (a b : Int) (ha : -9223372036854775808 ≤ a ∧ a ≤ 9223372036854775807) : spec_SeqDistance.f a b = some (sdist a b) := by
  unfold spec_SeqDistance.f spec_IsSeq.f sdist
  simp only [inRange, Option.bind_some]
  by_cases h : 0 ≤ a ∧ a ≤ 15
  · by_cases h1 : 0 ≤ b ∧ b ≤ 15
    · have p : decide (0 ≤ a ∧ a ≤ 15) = true := decide_eq_true h
      have q : decide (0 ≤ b ∧ b ≤ 15) = true := decide_eq_true h1
      rw [p, q, if_pos rfl, if_pos rfl, if_pos ⟨h.1, h.2, h1.1, h1.2⟩]
      rw [w64 (n := b - a) (by omega) (by omega), w64 (by omega) (by omega), Int.tmod_eq_emod_of_nonneg (by omega)]
    · have p : decide (0 ≤ a ∧ a ≤ 15) = true := decide_eq_true h
      have q : decide (0 ≤ b ∧ b ≤ 15) = false := decide_eq_false h1
      rw [p, q, if_pos rfl, if_neg (by decide), if_neg (by omega)]
  · have p : decide (0 ≤ a ∧ a ≤ 15) = false := decide_eq_false h
    rw [p, if_neg (by decide), if_neg (by omega)]
theorem okS_queue (n : Int) (x : List S64) (r : Int) (l : List Int) (h : okS n x r) (hl : okB l = true) (h7 : x.length < 7) : okS ((n + 1) % 16) (x ++ [⟨n, l⟩]) r := by
  obtain ⟨hn, hx, hr, ho⟩ := h
  refine ⟨by omega, by simp; omega, by simp; omega, fun i hi => ?_⟩
  simp only [List.length_append, List.length_cons, List.length_nil] at hi ⊢
  by_cases hlt : i < x.length
  · rw [List.getElem_append_left hlt]
    obtain ⟨h1, h2⟩ := ho i hlt
    refine ⟨?_, h2⟩
    unfold sdist at h1 ⊢
    by_cases hc : 0 ≤ x[i].f0 ∧ x[i].f0 ≤ 15 ∧ 0 ≤ n ∧ n ≤ 15
    · rw [if_pos hc] at h1
      rw [if_pos (by omega)]
      omega
    · rw [if_neg hc] at h1
      omega
  · have hi' : i = x.length := by omega
    subst hi'
    rw [List.getElem_append_right (by omega)]
    simp only [Nat.sub_self, List.getElem_cons_zero]
    refine ⟨?_, hl⟩
    unfold sdist
    rw [if_pos (by omega)]
    omega
theorem okS_ready (n : Int) (x : List S64) (r : Int) (h : okS n x r) (hr : r < (x.length : Int)) : okS n x (r + 1) := ⟨h.1, h.2.1, by have := h.2.2.1; omega, h.2.2.2⟩
theorem okS_ack (n : Int) (x : List S64) (r r' : Int) (j : Nat) (h : okS n x r) (hj : j < x.length) (hr : 0 ≤ r' ∧ r' ≤ (x.length : Int) - j - 1) : okS n (x.drop (j + 1)) r' := by
  obtain ⟨hn, hx, _, ho⟩ := h
  refine ⟨hn, by rw [List.length_drop]; omega, by rw [List.length_drop]; omega, fun i hi => ?_⟩
  rw [List.length_drop] at hi ⊢
  obtain ⟨h1, h2⟩ := ho (j + 1 + i) (by omega)
  rw [List.getElem_drop]
  refine ⟨?_, h2⟩
  rw [h1]
  omega
/-- The frames' numbers are apart. -/
theorem okS_seq (n : Int) (x : List S64) (r : Int) (h : okS n x r) (i j : Nat) (hi : i < x.length) (hj : j < x.length) (e : x[i].f0 = x[j].f0) : i = j := by
  have h1 := (h.2.2.2 i hi).1
  have h2 := (h.2.2.2 j hj).1
  rw [e, h2] at h1
  omega
theorem okS_len (n : Int) (x : List S64) (r : Int) (h : okS n x r) : x.length ≤ 1048576 ∧ ∀ s ∈ x, s.f1.length ≤ 1048576 := by
  obtain ⟨_, hx, _, ho⟩ := h
  refine ⟨by omega, fun s hs => ?_⟩
  obtain ⟨i, hi, rfl⟩ := List.mem_iff_getElem.mp hs
  have := ((okB_iff _).mp (ho i hi).2).1
  omega
theorem okS_range (n : Int) (x : List S64) (r : Int) (h : okS n x r) (i : Nat) (hi : i < x.length) : 0 ≤ x[i].f0 ∧ x[i].f0 ≤ 15 := by
  have h1 := (h.2.2.2 i hi).1
  unfold sdist at h1
  by_cases hc : 0 ≤ x[i].f0 ∧ x[i].f0 ≤ 15 ∧ 0 ≤ n ∧ n ≤ 15
  · exact ⟨hc.1, hc.2.1⟩
  · rw [if_neg hc] at h1
    omega
theorem spec_ok_loop (n : Int) (x : List S64) (r : Int) (h : okS n x r) (d : Nat) : ∀ (k i : Nat), i + d = x.length → d + 1048580 < k → spec_SenderOk.l0 k (x.length : Int) i n x r = some true := by
  have hx := h.2.1
  induction d with
  | zero =>
    intro k i hi hk
    obtain ⟨k, rfl⟩ : ∃ m, k = m + 1 := ⟨k - 1, by omega⟩
    rw [spec_SenderOk.l0, if_neg (by omega)]
  | succ d ih =>
    intro k i hi hk
    obtain ⟨k, rfl⟩ : ∃ m, k = m + 1 := ⟨k - 1, by omega⟩
    have hlt : i < x.length := by omega
    obtain ⟨h1, h2⟩ := h.2.2.2 i hlt
    have hr := okS_range n x r h i hlt
    have hl := (okS_len n x r h).2 _ (List.getElem_mem hlt)
    have p1 : (i : Int) < (x.length : Int) := by omega
    have p2 : (0 : Int) ≤ (i : Int) := by omega
    have p3 : wrap64 ((i : Int) + 1) = ((i + 1 : Nat) : Int) := by rw [w64 (by omega) (by omega)]; omega
    have p4 : wrap64 ((x.length : Int) - (i : Int)) = (x.length : Int) - (i : Int) := w64 (by omega) (by omega)
    have p5 : spec_SeqDistance.f x[i].f0 n = some (sdist x[i].f0 n) := sdist_spec _ n ⟨by omega, by omega⟩
    rw [spec_SenderOk.l0]
    simp only [if_pos p1, if_pos p2, rdT64 x i hlt, p5, Option.bind_some, p4, if_pos h1, spec_bytes _ hl k (by omega), h2, p3, if_true]
    exact ih k (i + 1) (by omega) (by omega)
theorem spec_ok (n : Int) (x : List S64) (r : Int) (h : okS n x r) (k : Nat) (hk : x.length + 1048590 < k) : spec_SenderOk.f k n x r = some true := by
  obtain ⟨k, rfl⟩ : ∃ m, k = m + 1 := ⟨k - 1, by omega⟩
  have hx := h.2.1
  have hl : spec_SenderOk.l0 k (x.length : Int) 0 n x r = some true := spec_ok_loop n x r h x.length k 0 (by omega) (by omega)
  unfold spec_SenderOk.f spec_IsSeq.f
  have p0 : decide (0 ≤ n ∧ n ≤ 15) = true := decide_eq_true h.1
  have p2 : decide (0 ≤ r ∧ r ≤ (x.length : Int)) = true := decide_eq_true h.2.2.1
  have p7 : ¬ (x.length : Int) > 7 := by omega
  simp only [inRange, Option.bind_some, p0, p2, if_pos, if_neg p7, Bool.not_true]
  rw [spec_SenderOk.j0, if_neg (by decide)]
  exact hl
theorem impl_ok (n : Int) (x : List S64) (r : Int) (h : okS n x r) (k : Nat) (hk : x.length + 1048590 < k) : impl_SenderOk.f k n x r = some true := by
  obtain ⟨v, s1, s2⟩ := senderok n x r (okS_len n x r h).1 (okS_len n x r h).2 k hk
  rw [spec_ok n x r h k hk] at s1
  rw [s2, ← s1]
theorem specFrame (n : Int) (l : List Int) (hl : l.length ≤ 1048576) : spec_l08Frame.f n l = some (n, l) := by
  unfold spec_l08Frame.f
  rw [Option.bind_some, if_pos (by simp only [List.length_nil]; omega), List.nil_append]
theorem implFrame (n : Int) (l : List Int) (hl : l.length ≤ 1048576) : impl_copyFrame.f n l = some (n, l) := by
  unfold impl_copyFrame.f slices_Clone_int_int.f
  rw [if_pos (by omega), Option.bind_some]
theorem mx_comm0 (v : Int) : mx 0 v = mx v 0 := by
  unfold mx
  by_cases h : v < 0
  · rw [if_neg (by omega), if_pos h]
  · by_cases h2 : 0 < v
    · rw [if_pos h2, if_neg h]
    · rw [if_neg h2, if_neg h]; omega
theorem ack_loop (a0 : Int) (x : List S64) (a2 q : Int) (hx : x.length ≤ 1048576) (d : Nat) : ∀ (k i : Nat), i + d = x.length → d < k →
    ∃ r, impl_Frame_90.l0 k x q i = some r ∧ ((r = -1 ∧ spec_TakeAck.l0 k q i a0 x a2 a0 x a2 = some (a0, x, a2, false)) ∨
      (∃ j : Nat, j < x.length ∧ r = (j : Int) ∧ spec_TakeAck.l0 k q i a0 x a2 a0 x a2 = some (a0, x.drop (j + 1), mx 0 (wrap64 (wrap64 (a2 - (j : Int)) - 1)), true))) := by
  induction d with
  | zero =>
    intro k i hi hk
    obtain ⟨k, rfl⟩ : ∃ m, k = m + 1 := ⟨k - 1, by omega⟩
    rw [impl_Frame_90.l0, spec_TakeAck.l0, if_neg (by omega), if_neg (by omega)]
    exact ⟨-1, rfl, .inl ⟨rfl, rfl⟩⟩
  | succ d ih =>
    intro k i hi hk
    obtain ⟨k, rfl⟩ : ∃ m, k = m + 1 := ⟨k - 1, by omega⟩
    have hlt : i < x.length := by omega
    have p1 : (i : Int) < (x.length : Int) := by omega
    have p2 : (0 : Int) ≤ (i : Int) := by omega
    have p3 : wrap64 ((i : Int) + 1) = ((i + 1 : Nat) : Int) := by rw [w64 (by omega) (by omega)]; omega
    have p4 : (0 : Int) ≤ ((i + 1 : Nat) : Int) := by omega
    have p5 : ((i + 1 : Nat) : Int) ≤ (x.length : Int) := by omega
    rw [impl_Frame_90.l0, spec_TakeAck.l0]
    simp only [if_pos p1, if_pos p2, rdT64 x i hlt, p3, if_pos p4, if_pos p5, Int.toNat_natCast]
    by_cases h : x[i].f0 = q
    · simp only [if_pos (beq_iff_eq.mpr h), if_pos h]
      exact ⟨_, rfl, .inr ⟨i, hlt, rfl, rfl⟩⟩
    · simp only [if_neg (show ¬ (x[i].f0 == q) = true by simpa using h), if_neg h]
      exact ih k (i + 1) (by omega) (by omega)
theorem takeack (a0 : Int) (x : List S64) (a2 q : Int) (hx : x.length ≤ 1048576) (hw : ∀ s ∈ x, s.f1.length ≤ 1048576) (k : Nat) (hk : x.length + 1048590 < k) :
    ∃ y m z, spec_TakeAck.f k a0 x a2 q = some (a0, y, m, z) ∧ impl_TakeAck.f k a0 x a2 q = some (a0, y, m, z) ∧ y.length ≤ x.length ∧ (∀ s ∈ y, s.f1.length ≤ 1048576) := by
  obtain ⟨v, s1, s2⟩ := senderok a0 x a2 hx hw k hk
  obtain ⟨r, e1, e2⟩ := ack_loop a0 x a2 q hx x.length k 0 (by omega) (by omega)
  have e1' : impl_Frame_90.f k x q = some r := e1
  unfold spec_TakeAck.f impl_TakeAck.f
  rw [specCopy a0 x a2 hx hw k (by omega), implCopy a0 x a2 hx hw k (by omega), s1, s2, e1']
  simp only [Option.bind_some]
  by_cases h : v = true
  · simp only [if_pos h]
    rcases e2 with ⟨rfl, e3⟩ | ⟨j, hj, rfl, e3⟩
    · rw [if_pos (by decide)]
      exact ⟨_, _, _, e3, rfl, by omega, hw⟩
    · rw [if_neg (by omega), w64 (by omega) (by omega), if_pos (by omega), if_pos (by omega), if_pos (by omega), show ((j : Int) + 1).toNat = j + 1 by omega, ← mx_comm0]
      exact ⟨_, _, _, e3, rfl, by rw [List.length_drop]; omega, fun s hs => hw s (List.mem_of_mem_drop hs)⟩
  · simp only [if_neg h]
    exact ⟨_, _, _, rfl, rfl, by omega, hw⟩
theorem step_ready (n : Int) (x : List S64) (r : Int) (h : okS n x r) (k : Nat) (hk : x.length + 1048590 < k) :
    ∃ r' s b z, spec_TakeReady.f k n x r = some (n, x, r', s, b, z) ∧ okS n x r' := by
  have hx := (okS_len n x r h).1
  have hw := (okS_len n x r h).2
  unfold spec_TakeReady.f
  rw [specCopy n x r hx hw k (by omega), spec_ok n x r h k hk]
  simp only [Option.bind_some, if_true]
  by_cases e : r = (x.length : Int)
  · rw [if_pos e]
    exact ⟨_, _, _, _, rfl, h⟩
  · have hr := h.2.2.1
    obtain ⟨i, rfl⟩ : ∃ i : Nat, r = (i : Int) := ⟨r.toNat, by omega⟩
    have hlt : i < x.length := by omega
    have hl := hw _ (List.getElem_mem hlt)
    have h7 := h.2.1
    rw [if_neg e, if_pos (by omega), if_pos (by omega), rdT64 x i hlt, specFrame _ _ hl, Option.bind_some, w64 (by omega) (by omega)]
    exact ⟨_, _, _, _, rfl, okS_ready n x _ h (by omega)⟩
theorem step_queue (n : Int) (x : List S64) (r : Int) (l : List Int) (hl : l.length ≤ 1048576) (h : okS n x r) (k : Nat) (hk : x.length + 1048590 < k) :
    ∃ n' x' z, spec_QueueFrame.f k n x r l = some (n', x', r, z) ∧ okS n' x' r := by
  have hx := (okS_len n x r h).1
  have hw := (okS_len n x r h).2
  unfold spec_QueueFrame.f
  rw [specCopy n x r hx hw k (by omega), spec_ok n x r h k hk, spec_bytes l hl k (by omega)]
  simp only [Option.bind_some, if_true]
  by_cases hb : okB l = true
  · rw [if_pos hb]
    by_cases e : (x.length : Int) = 7
    · rw [if_pos e]
      exact ⟨_, _, _, rfl, h⟩
    · have h7 := h.2.1
      have hn := h.1
      have hs : spec_NextSeq.f n = some ((n + 1) % 16) := by
        unfold spec_NextSeq.f spec_IsSeq.f
        have p0 : decide (0 ≤ n ∧ n ≤ 15) = true := decide_eq_true h.1
        simp only [inRange, Option.bind_some, p0, if_true]
        rw [w64 (by omega) (by omega), Int.tmod_eq_emod_of_nonneg (by omega)]
      rw [if_neg e, if_pos (by simp only [List.length_nil]; omega), if_pos (by omega), hs, Option.bind_some]
      exact ⟨_, _, _, rfl, okS_queue n x r _ h hb (by omega)⟩
  · rw [if_neg hb]
    exact ⟨_, _, _, rfl, h⟩
theorem step_ack (n : Int) (x : List S64) (r q : Int) (h : okS n x r) (k : Nat) (hk : x.length + 1048590 < k) :
    ∃ x' r' z, spec_TakeAck.f k n x r q = some (n, x', r', z) ∧ okS n x' r' := by
  have hx := (okS_len n x r h).1
  have hw := (okS_len n x r h).2
  obtain ⟨v, e1, e2⟩ := ack_loop n x r q hx x.length k 0 (by omega) (by omega)
  unfold spec_TakeAck.f
  rw [specCopy n x r hx hw k (by omega), spec_ok n x r h k hk]
  simp only [Option.bind_some, if_true]
  have hr := h.2.2.1
  have h7 := h.2.1
  rcases e2 with ⟨rfl, e3⟩ | ⟨j, hj, rfl, e3⟩
  · exact ⟨_, _, _, e3, h⟩
  · refine ⟨_, _, _, e3, okS_ack n x r _ j h hj ?_⟩
    rw [w64 (n := r - (j : Int)) (by omega) (by omega), w64 (by omega) (by omega)]
    unfold mx
    by_cases hc : 0 < r - (j : Int) - 1
    · rw [if_pos hc]; omega
    · rw [if_neg hc]; omega
theorem impl_replay_ok (n : Int) (x : List S64) (r : Int) (h : okS n x r) (k : Nat) (hk : x.length + 1048590 < k) : impl_Replay.f k n x r = some (n, x, 0) := by
  unfold impl_Replay.f
  rw [implCopy n x r (okS_len n x r h).1 (okS_len n x r h).2 k (by omega), impl_ok n x r h k hk]
  rfl
theorem okS_zero (n : Int) (x : List S64) (r : Int) (h : okS n x r) : okS n x 0 := ⟨h.1, h.2.1, by omega, h.2.2.2⟩
theorem impl_ready_none (n : Int) (h : okS n [] 0) (k : Nat) (hk : 1048590 < k) : impl_TakeReady.f k n [] 0 = some (n, [], 0, 0, [], false) := by
  unfold impl_TakeReady.f
  rw [implCopy n [] 0 (by simp) (by simp) k (by simp; omega), impl_ok n [] 0 h k (by simpa using hk)]
  rfl
theorem impl_ready_some (n : Int) (x : List S64) (h : okS n x 0) (h0 : 0 < x.length) (k : Nat) (hk : x.length + 1048590 < k) : impl_TakeReady.f k n x 0 = some (n, x, (1 : Int), x[0].f0, x[0].f1, true) := by
  have hl := (okS_len n x 0 h).2 _ (List.getElem_mem h0)
  have e : rd_T64 x 0 = x[0] := rdT64 x 0 h0
  unfold impl_TakeReady.f
  rw [implCopy n x 0 (okS_len n x 0 h).1 (okS_len n x 0 h).2 k (by omega), impl_ok n x 0 h k hk]
  simp only [Option.bind_some, if_true]
  rw [if_neg (by omega), if_pos (by omega), if_pos (by omega), e, implFrame _ _ hl, Option.bind_some, w64 (by omega) (by omega)]
  rfl
theorem ack_at (n : Int) (x : List S64) (r : Int) (h : okS n x r) (i : Nat) (hi : i < x.length) (d : Nat) : ∀ j k, j + d = i → d < k → impl_Frame_90.l0 k x x[i].f0 j = some (i : Int) := by
  have h7 := h.2.1
  induction d with
  | zero =>
    intro j k hj hk
    obtain ⟨k, rfl⟩ : ∃ m, k = m + 1 := ⟨k - 1, by omega⟩
    obtain rfl : j = i := by omega
    rw [impl_Frame_90.l0, if_pos (by omega), if_pos (by omega), rdT64 x j hi, if_pos (beq_self_eq_true _)]
  | succ d ih =>
    intro j k hj hk
    obtain ⟨k, rfl⟩ : ∃ m, k = m + 1 := ⟨k - 1, by omega⟩
    have hlt : j < x.length := by omega
    have hne : ¬ (x[j].f0 == x[i].f0) = true := by
      intro e
      have := okS_seq n x r h j i hlt hi (beq_iff_eq.mp e)
      omega
    rw [impl_Frame_90.l0, if_pos (by omega), if_pos (by omega), rdT64 x j hlt, if_neg hne, w64 (by omega) (by omega), show ((j : Int) + 1) = ((j + 1 : Nat) : Int) by omega]
    exact ih (j + 1) k (by omega) (by omega)
theorem ack_mx (r m : Int) (i l : Nat) (hr : 0 ≤ r ∧ r ≤ (l : Int)) (hi : i < l) (h7 : l ≤ 7) (hm : m = mx (wrap64 (wrap64 (r - (i : Int)) - 1)) 0) : 0 ≤ m ∧ m ≤ (l : Int) - i - 1 := by
  rw [w64 (n := r - (i : Int)) (by omega) (by omega), w64 (by omega) (by omega)] at hm
  unfold mx at hm
  by_cases hc : r - (i : Int) - 1 < 0
  · rw [if_pos hc] at hm; omega
  · rw [if_neg hc] at hm; omega
theorem ack_val (n : Int) (x : List S64) (r q : Int) (i m : Int) (j : Nat) (k : Nat)
  (h1 : impl_copySender.f k n x r = some (n, x, r)) (hf : impl_Frame_90.f k x q = some i) (h2 : impl_SenderOk.f k n x r = some true)
  (p3 : wrap64 (i + 1) = (j : Int)) (em : m = mx (wrap64 (wrap64 (r - (i : Int)) - 1)) 0) 
  (q1 : ¬ i < 0) (q2 : (0 : Int) ≤ (j : Int)) (q3 : (j : Int) ≤ (x.length : Int)) (q4 : x.length < 4398046511104) :
  impl_TakeAck.f k n x r q = some (n, x.drop j, m, true) := by
  unfold impl_TakeAck.f
  rw [h1, hf, h2]
  simp only [Option.bind_some, if_true, p3]
  rw [if_neg q1, if_pos q2, if_pos q3, if_pos q4, Int.toNat_natCast, em]
theorem ack_f (n : Int) (x : List S64) (r : Int) (h : okS n x r) (i : Nat) (hi : i < x.length) (k : Nat) (hk : x.length + 1048590 < k) : impl_Frame_90.f k x x[i].f0 = some (i : Int) := by
    have e := ack_at n x r h i hi i 0 k (by omega) (by omega)
    unfold impl_Frame_90.f
    exact e
theorem ack_m (n : Int) (x : List S64) (r : Int) (h : okS n x r) (i : Nat) (hi : i < x.length) : ∃ m, m = mx (wrap64 (wrap64 (r - (i : Int)) - 1)) 0 ∧ 0 ≤ m ∧ m ≤ (x.length : Int) - i - 1 := ⟨_, rfl, ack_mx r _ i x.length h.2.2.1 hi h.2.1 rfl⟩
theorem impl_ack_ok (n : Int) (x : List S64) (r : Int) (h : okS n x r) (i : Nat) (hi : i < x.length) (k : Nat) (hk : x.length + 1048590 < k) :
    ∃ r', impl_TakeAck.f k n x r x[i].f0 = some (n, x.drop (i + 1), r', true) ∧ okS n (x.drop (i + 1)) r' := by
  have hx := (okS_len n x r h).1
  have hw := (okS_len n x r h).2
  obtain ⟨m, em, hm⟩ := ack_m n x r h i hi
  have h7 := h.2.1
  refine ⟨m, ack_val n x r x[i].f0 i m (i + 1) k (implCopy n x r hx hw k (by omega)) (ack_f n x r h i hi k hk) (impl_ok n x r h k hk) ?_ em ?_ ?_ ?_ ?_, okS_ack n x r _ i h hi hm⟩
  · clear em hm; rw [w64 (by omega) (by omega)]; omega
  · clear em hm; omega
  · clear em hm; omega
  · clear em hm; omega
  · clear em hm; omega
/-- A cursor of the draws: it stands in its bytes. -/
def Cur (b : List Int) (i : Int) : Prop := b.length ≤ 1048576 ∧ 0 ≤ i ∧ i ≤ b.length ∧ ∀ x ∈ b, 0 ≤ x ∧ x ≤ 255
theorem new_loop (l : List Int) (d : Nat) : ∀ (k i : Nat) (h : Int), i + d = 4000 → d < k → ∃ h', spec_l01New.l0 k l h i = some (l, 0, h') := by
  induction d with
  | zero =>
    intro k i h hi hk
    obtain ⟨k, rfl⟩ : ∃ m, k = m + 1 := ⟨k - 1, by omega⟩
    rw [spec_l01New.l0]
    by_cases e : (i : Int) < (l.length : Int)
    · rw [if_pos e, if_neg (by omega)]; exact ⟨_, rfl⟩
    · rw [if_neg e]; exact ⟨_, rfl⟩
  | succ d ih =>
    intro k i h hi hk
    obtain ⟨k, rfl⟩ : ∃ m, k = m + 1 := ⟨k - 1, by omega⟩
    rw [spec_l01New.l0]
    by_cases e : (i : Int) < (l.length : Int)
    · rw [if_pos e, if_pos (by omega), if_pos (by omega), w64 (n := (i : Int) + 1) (by omega) (by omega), show ((i : Int) + 1) = ((i + 1 : Nat) : Int) by omega]
      exact ih k (i + 1) _ (by omega) (by omega)
    · rw [if_neg e]; exact ⟨_, rfl⟩
theorem new_cur (l : List Int) (hl : l.length ≤ 1048576) (hb : ∀ x ∈ l, (Lit.int .u8 x).wf = true) (k : Nat) (hk : 4000 < k) : ∃ h, spec_l01New.f k l = some (l, 0, h) ∧ Cur l 0 := by
  obtain ⟨h, e⟩ := new_loop l 4000 k 0 (wrap64 (98663 + (l.length : Int))) (by decide) hk
  refine ⟨h, e, hl, by omega, by omega, fun x hx => ?_⟩
  have h3 := hb x hx
  simp [Lit.wf] at h3
  exact h3
theorem byte_cur (b : List Int) (i h : Int) (hc : Cur b i) : ∃ v i' h', spec_l01Byte.f b i h = some (v, i', h') ∧ Cur b i' ∧ 0 ≤ v ∧ v ≤ 255 := by
  obtain ⟨h1, h2, h3, h4⟩ := hc
  unfold spec_l01Byte.f
  by_cases e : i < (b.length : Int)
  · rw [if_pos e, if_pos h2, w64 (n := i + 1) (by omega) (by omega)]
    exact ⟨_, _, _, rfl, ⟨h1, by omega, by omega, h4⟩, and255 _⟩
  · rw [if_neg e]
    exact ⟨_, _, _, rfl, ⟨h1, h2, h3, h4⟩, and255 _⟩
theorem below_cur (b : List Int) (i h n : Int) (hc : Cur b i) : ∃ v i' h', spec_l01Below.f b i h n = some (v, i', h') ∧ Cur b i' ∧ 0 ≤ v ∧ (0 < n → v < n) ∧ (n ≤ 0 → v = 0) := by
  unfold spec_l01Below.f
  by_cases e : n ≤ 0
  · rw [if_pos e]
    exact ⟨0, _, _, rfl, hc, by omega, by omega, fun _ => rfl⟩
  · rw [if_neg e]
    have tm : ∀ x : Int, 0 ≤ x → 0 ≤ Int.tmod x n ∧ Int.tmod x n < n := fun x hx => by
      rw [Int.tmod_eq_emod_of_nonneg hx]
      exact ⟨Int.emod_nonneg _ (by omega), Int.emod_lt_of_pos _ (by omega)⟩
    obtain ⟨v1, i1, h1, e1, c1, r1⟩ := byte_cur b i h hc
    by_cases e2 : n ≤ 256
    · rw [if_pos e2, e1]
      simp only [Option.bind_some]
      rw [if_neg (by omega)]
      exact ⟨_, _, _, rfl, c1, (tm _ r1.1).1, fun _ => (tm _ r1.1).2, fun h => absurd h e⟩
    · obtain ⟨v2, i2, h2, e3, c2, r2⟩ := byte_cur b i1 h1 c1
      obtain ⟨v3, i3, h3, e4, c3, r3⟩ := byte_cur b i2 h2 c2
      obtain ⟨v4, i4, h4, e5, c4, r4⟩ := byte_cur b i3 h3 c3
      rw [if_neg e2, e1]
      simp only [Option.bind_some]
      rw [e3]
      simp only [Option.bind_some]
      rw [e4]
      simp only [Option.bind_some]
      rw [e5]
      simp only [Option.bind_some]
      have hv : wrap64 (wrap64 (wrap64 (wrap64 (v1 * 16777216) + wrap64 (v2 * 65536)) + wrap64 (v3 * 256)) + v4) = v1 * 16777216 + v2 * 65536 + v3 * 256 + v4 := by
        rw [w64 (n := v1 * 16777216) (by omega) (by omega), w64 (n := v2 * 65536) (by omega) (by omega), w64 (n := v3 * 256) (by omega) (by omega), w64 (n := v1 * 16777216 + v2 * 65536) (by omega) (by omega), w64 (n := v1 * 16777216 + v2 * 65536 + v3 * 256) (by omega) (by omega), w64 (by omega) (by omega)]
      rw [if_neg (by omega), hv]
      have hnn : 0 ≤ v1 * 16777216 + v2 * 65536 + v3 * 256 + v4 := by omega
      exact ⟨_, _, _, rfl, c4, (tm _ hnn).1, fun _ => (tm _ hnn).2, fun h => absurd h e⟩
theorem pick_cur (b : List Int) (i h : Int) (l : List Int) (hl : l ≠ []) (hc : Cur b i) : ∃ v i' h', spec_l01PickInt.f b i h l = some (v, i', h') ∧ Cur b i' ∧ v ∈ l := by
  have hn : 0 < l.length := List.length_pos_iff.mpr hl
  obtain ⟨v, i', h', e, c, r1, r2, _⟩ := below_cur b i h (l.length : Int) hc
  have r3 := r2 (by omega)
  unfold spec_l01PickInt.f
  rw [e]
  simp only [Option.bind_some]
  rw [if_pos r1, if_pos r3]
  refine ⟨_, _, _, rfl, c, ?_⟩
  obtain ⟨m, rfl⟩ := Int.eq_ofNat_of_zero_le r1
  rw [rd_nat l m (by omega)]
  exact List.getElem_mem _
theorem data_loop (b : List Int) (n : Int) (h8 : n ≤ 100) (d : Nat) : ∀ (k m : Nat) (out : List Int) (i h : Int), (m : Int) + d = max n m → m ≤ 100 → d < k → out.length = m → Cur b i →
    ∃ v i' h', spec_l04Data.l0 k n out m b i h = some (v, i', h') ∧ Cur b i' ∧ v.length ≤ 100 := by
  induction d with
  | zero =>
    intro k m out i h hn hm hk ho hc
    obtain ⟨k, rfl⟩ : ∃ m, k = m + 1 := ⟨k - 1, by omega⟩
    rw [spec_l04Data.l0, if_neg (by omega)]
    exact ⟨out, _, _, rfl, hc, by omega⟩
  | succ d ih =>
    intro k m out i h hn hm hk ho hc
    obtain ⟨k, rfl⟩ : ∃ m, k = m + 1 := ⟨k - 1, by omega⟩
    obtain ⟨v1, i1, h1, e1, c1, r1, s1, _⟩ := below_cur b i h 256 hc
    obtain ⟨v2, i2, h2, e2, c2, r2, s2, _⟩ := below_cur b i1 h1 65536 c1
    obtain ⟨v3, i3, h3, e3, c3, r3⟩ := pick_cur b i2 h2 [0, 1, 65535, v1, v2] (by simp) c2
    rw [spec_l04Data.l0, if_pos (by omega), e1, Option.bind_some]
    simp only
    rw [e2, Option.bind_some]
    simp only
    rw [e3, Option.bind_some]
    simp only
    rw [if_pos (by omega), w64 (by omega) (by omega), show ((m : Int) + 1) = ((m + 1 : Nat) : Int) by omega]
    exact ih k (m + 1) (out ++ [v3]) i3 h3 (by omega) (by omega) (by omega) (by simp [ho]) c3
theorem data_cur (b : List Int) (i h n : Int) (h8 : n ≤ 100) (hc : Cur b i) (k : Nat) (hk : 200 < k) : ∃ v i' h', spec_l04Data.f k b i h n = some (v, i', h') ∧ Cur b i' ∧ v.length ≤ 100 :=
  data_loop b n h8 n.toNat k 0 [] i h (by omega) (by omega) (by omega) rfl hc
theorem words_loop (l : List Int) (hl : l.length ≤ 1048576) (d : Nat) : ∀ (k i : Nat), i + d = l.length → d < k → ∃ v, spec_l04Words.l0 k l i = some v := by
  induction d with
  | zero =>
    intro k i hi hk
    obtain ⟨k, rfl⟩ : ∃ m, k = m + 1 := ⟨k - 1, by omega⟩
    rw [spec_l04Words.l0, if_neg (by omega)]
    exact ⟨_, rfl⟩
  | succ d ih =>
    intro k i hi hk
    obtain ⟨k, rfl⟩ : ∃ m, k = m + 1 := ⟨k - 1, by omega⟩
    rw [spec_l04Words.l0, if_pos (by omega), if_pos (by omega), inRange, Option.bind_some, w64 (by omega) (by omega), show ((i : Int) + 1) = ((i + 1 : Nat) : Int) by omega]
    obtain ⟨v, e⟩ := ih k (i + 1) (by omega) (by omega)
    split
    · exact ⟨v, e⟩
    · exact ⟨_, rfl⟩
theorem words_some (l : List Int) (hl : l.length ≤ 1048576) (k : Nat) (hk : l.length < k) : ∃ v, spec_l04Words.f k l = some v := words_loop l hl l.length k 0 (by omega) hk
theorem impl_queue_ok (n : Int) (x : List S64) (r : Int) (l : List Int) (hl : okB l = true) (h : okS n x r) (k : Nat) (hk : x.length + 1048590 < k) :
    ∃ n' x' z, impl_QueueFrame.f k n x r l = some (n', x', r, z) ∧ okS n' x' r ∧ z = decide ((x.length : Int) < 7) ∧ (x'.length : Int) = (x.length : Int) + (if z = true then 1 else 0) := by
  have hx := (okS_len n x r h).1
  have hw := (okS_len n x r h).2
  have hll : l.length ≤ 40 := ((okB_iff _).mp hl).1
  obtain ⟨j, rfl⟩ : ∃ j, k = j + 1 := ⟨k - 1, by omega⟩
  unfold impl_QueueFrame.f
  rw [implCopy n x r hx hw _ (by omega), impl_ok n x r h _ hk]
  simp only [Option.bind_some, impl_QueueFrame.j0, impl_bytes l, if_true, hl]
  by_cases e : (x.length : Int) = 7
  · have e1 : ((x.length : Int) == 7) = true := beq_iff_eq.mpr e
    simp only [e1, if_true]
    exact ⟨_, _, _, rfl, h, by rw [decide_eq_false (by omega)], by simp⟩
  · have e1 : ((x.length : Int) == 7) = false := beq_eq_false_iff_ne.mpr e
    have hc : slices_Clone_int_int.f l = some l := by unfold slices_Clone_int_int.f; rw [if_pos (by omega)]
    have h7 := h.2.1
    have hs : impl_NextSeq.f n = some ((n + 1) % 16) := by
      unfold impl_NextSeq.f impl_IsSeq.f
      have p0 : decide (0 ≤ n ∧ n ≤ 15) = true := decide_eq_true h.1
      have hn := h.1
      simp only [within, Option.bind_some, p0, if_true]
      rw [w64 (by omega) (by omega), Int.tmod_eq_emod_of_nonneg (by omega)]
    simp only [e1, hc, Option.bind_some, hs]
    rw [if_neg (by decide), if_pos (by omega)]
    exact ⟨_, _, _, rfl, okS_queue n x r _ h hl (by omega), by rw [decide_eq_true (by omega)], by simp⟩
theorem btoi_ok (z : Bool) : laws_btoi.f z = some (if z = true then 1 else 0) := by
  cases z <;> rfl

end Go.Proofs.Ytdnekkbchlibhaa.Pure
