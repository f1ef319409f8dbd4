/- TakeAck of the program answers as TakeAck of the reference at every sender and every number, the sender stays as it is, and what comes back is of its own. No condition. -/
import Derived.Test.YtdnekkbchlibhaaPFnExactTakeAckx8
import Derived.Test.YtdnekkbchlibhaaBits
import Derived.Test.YtdnekkbchlibhaaFrames
namespace Go.Proofs.Ytdnekkbchlibhaa.Pure
open Go.RowKit Go.Proofs.Ytdnekkbchlibhaa.PFnExactTakeAck Go.Proofs.YtdnekkbchlibhaaW.PrintWords Go.Proofs.YtdnekkbchlibhaaW.PrintLast Go.Proofs.YtdnekkbchlibhaaW.PrintMore Go.Proofs.Ytdnekkbchlibhaa.Num
set_option linter.unusedVariables false
set_option linter.unusedSimpArgs false

theorem within (a b c : Int) : impl_within.f a b c = some (decide (b ≤ a ∧ a ≤ c)) := by
  unfold impl_within.f
  by_cases h : b ≤ a <;> simp [h]
theorem inRange (a b c : Int) : spec_l01In.f a b c = some (decide (b ≤ a ∧ a ≤ c)) := by
  unfold spec_l01In.f
  by_cases h : b ≤ a <;> simp [h]
theorem rd_nat (x : List Int) (i : Nat) (h : i < x.length) : rd x (i : Int) = x[i] := by
  unfold rd
  rw [Int.toNat_natCast, List.getD_eq_getElem?_getD, List.getElem?_eq_getElem h]
  rfl
theorem toIntS_loop (x : List Int) (hx : x.length ≤ 1048576) (d : Nat) : ∀ (k i : Nat) (z : List Int), i + d = x.length → d < k → z.length = d →
    laws_toIntS.l0 k x (x.take i ++ z) i = some x := by
  induction d with
  | zero =>
    intro k i z hi hk hz
    obtain ⟨k, rfl⟩ : ∃ m, k = m + 1 := ⟨k - 1, by omega⟩
    obtain rfl : z = [] := List.eq_nil_of_length_eq_zero hz
    simp only [laws_toIntS.l0]
    rw [if_neg (by omega), List.append_nil, List.take_of_length_le (by omega)]
  | succ d ih =>
    intro k i z hi hk hz
    obtain ⟨k, rfl⟩ : ∃ m, k = m + 1 := ⟨k - 1, by omega⟩
    cases z with
    | nil => simp at hz
    | cons y z =>
      have hlt : i < x.length := by omega
      have hl : (x.take i).length = i := by rw [List.length_take]; omega
      have hz' : z.length = d := by simpa using hz
      simp only [laws_toIntS.l0]
      rw [if_pos (by omega), if_pos (by omega), if_pos (by rw [List.length_append, hl]; simp only [List.length_cons]; omega), rd_nat x i hlt, Int.toNat_natCast, w64 (by omega) (by omega)]
      have e : (x.take i ++ y :: z).set i x[i] = x.take (i + 1) ++ z := by
        rw [List.set_append, hl, if_neg (by omega), Nat.sub_self, List.set_cons_zero, List.take_succ_eq_append_getElem hlt, List.append_assoc]
        rfl
      rw [e]
      exact ih k (i + 1) z (by omega) (by omega) hz'
theorem toIntS (x : List Int) (hx : x.length ≤ 1048576) (k : Nat) (hk : x.length < k) : laws_toIntS.f k x = some x := by
  unfold laws_toIntS.f
  rw [if_pos (by omega), Int.toNat_natCast, if_pos (by omega)]
  exact toIntS_loop x hx x.length k 0 (List.replicate x.length 0) (by omega) hk (by simp)
theorem eqIntS_loop (x y : List Int) (hxy : x.length = y.length) (hx : x.length ≤ 1048576) (d : Nat) : ∀ (k i : Nat), i + d = x.length → d < k →
    laws_eqIntS.l0 k x y i = some (decide (x.drop i = y.drop i)) := by
  induction d with
  | zero =>
    intro k i hi hk
    obtain ⟨k, rfl⟩ : ∃ m, k = m + 1 := ⟨k - 1, by omega⟩
    simp only [laws_eqIntS.l0]
    rw [if_neg (by omega), List.drop_of_length_le (by omega), List.drop_of_length_le (by omega)]
    simp
  | succ d ih =>
    intro k i hi hk
    obtain ⟨k, rfl⟩ : ∃ m, k = m + 1 := ⟨k - 1, by omega⟩
    have h1 : i < x.length := by omega
    have h2 : i < y.length := by omega
    simp only [laws_eqIntS.l0]
    rw [if_pos (by omega), if_pos (by omega), if_pos (by omega), rd_nat x i h1, rd_nat y i h2, w64 (by omega) (by omega)]
    by_cases e : x[i] = y[i]
    · have key : (x.drop i = y.drop i) ↔ (x.drop (i + 1) = y.drop (i + 1)) := by
        rw [List.drop_eq_getElem_cons h1, List.drop_eq_getElem_cons h2, e]
        exact ⟨fun h => (List.cons.inj h).2, fun h => by rw [h]⟩
      rw [if_pos e, show ((i : Int) + 1) = ((i + 1 : Nat) : Int) by omega, ih k (i + 1) (by omega) (by omega)]
      simp only [key]
    · have key : ¬ (x.drop i = y.drop i) := by
        rw [List.drop_eq_getElem_cons h1, List.drop_eq_getElem_cons h2]
        exact fun h => e (List.cons.inj h).1
      rw [if_neg e, decide_eq_false key]
theorem eqIntS (x y : List Int) (hx : x.length ≤ 1048576) (k : Nat) (hk : x.length < k) : laws_eqIntS.f k x y = some (decide (x = y)) := by
  unfold laws_eqIntS.f
  by_cases h : x.length = y.length
  · rw [if_pos (by omega)]
    exact eqIntS_loop x y h hx x.length k 0 (by omega) hk
  · rw [if_neg (by omega)]
    have : x ≠ y := fun e => h (by rw [e])
    simp [this]
theorem eqIntS_self (x : List Int) (hx : x.length ≤ 1048576) (k : Nat) (hk : x.length < k) : laws_eqIntS.f k x x = some true := by
  rw [eqIntS x x hx k hk]; simp
def okB (l : List Int) : Bool := decide (l.length ≤ 40) && l.all (fun b => decide (0 ≤ b) && decide (b ≤ 255))
theorem okB_iff (l : List Int) : okB l = true ↔ l.length ≤ 40 ∧ ∀ b ∈ l, 0 ≤ b ∧ b ≤ 255 := by
  simp [okB]
theorem spec_bytes_loop (x : List Int) (hx : x.length ≤ 1048576) (d : Nat) : ∀ (k i : Nat), i + d = x.length → d < k →
    spec_AreBytes.l0 k x i = some (decide (x.length ≤ 40) && (x.drop i).all (fun b => decide (0 ≤ b) && decide (b ≤ 255))) := by
  induction d with
  | zero =>
    intro k i hi hk
    obtain ⟨k, rfl⟩ : ∃ m, k = m + 1 := ⟨k - 1, by omega⟩
    simp only [spec_AreBytes.l0]
    rw [if_neg (by omega), List.drop_of_length_le (by omega)]
    simp
    omega
  | succ d ih =>
    intro k i hi hk
    obtain ⟨k, rfl⟩ : ∃ m, k = m + 1 := ⟨k - 1, by omega⟩
    have h1 : i < x.length := by omega
    simp only [spec_AreBytes.l0]
    rw [if_pos (by omega), if_pos (by omega), rd_nat x i h1, inRange, w64 (by omega) (by omega), List.drop_eq_getElem_cons h1, show ((i : Int) + 1) = ((i + 1 : Nat) : Int) by omega, ih k (i + 1) (by omega) (by omega)]
    simp only [Option.bind_some, List.all_cons]
    by_cases e : 0 ≤ x[i] ∧ x[i] ≤ 255
    · simp [e]
    · rw [show (decide (0 ≤ x[i] ∧ x[i] ≤ 255)) = false by simpa using e]
      have : (decide (0 ≤ x[i]) && decide (x[i] ≤ 255)) = false := by rw [← Bool.decide_and]; simpa using e
      rw [this]
      simp
theorem spec_bytes (x : List Int) (hx : x.length ≤ 1048576) (k : Nat) (hk : x.length < k) : spec_AreBytes.f k x = some (okB x) := by
  have := spec_bytes_loop x hx x.length k 0 (by omega) hk
  simpa [spec_AreBytes.f, okB] using this
theorem any_not (l : List Int) : l.any (fun x => !(decide (0 ≤ x) && decide (x ≤ 255))) = !(l.all (fun b => decide (0 ≤ b) && decide (b ≤ 255))) := by
  induction l with
  | nil => rfl
  | cons x t ih => rw [List.any_cons, List.all_cons, ih]; cases (decide (0 ≤ x) && decide (x ≤ 255)) <;> rfl
theorem impl_bytes (x : List Int) : impl_AreBytes.f x = some (okB x) := by
  unfold impl_AreBytes.f slices_ContainsFunc_int_int.f okB
  rw [if_pos (Or.inl rfl)]
  have e : (slices_ContainsFunc_int_int.p 68) = fun x => !(decide (0 ≤ x) && decide (x ≤ 255)) := by
    funext y
    simp [slices_ContainsFunc_int_int.p]
  rw [e, any_not]
  by_cases h : x.length ≤ 40
  · rw [if_pos (by omega)]; simp [h]
  · rw [if_neg (by omega)]; simp [h]
/-- A struct of the law's, as the program's. -/
def cv (s : S111) : S64 := ⟨s.f0, s.f1⟩
theorem rdT111 (x : List S111) (i : Nat) (h : i < x.length) : rd_T111 x (i : Int) = x[i] := by
  unfold rd_T111
  rw [Int.toNat_natCast, List.getD_eq_getElem?_getD, List.getElem?_eq_getElem h]
  rfl
theorem rdT64 (x : List S64) (i : Nat) (h : i < x.length) : rd_T64 x (i : Int) = x[i] := by
  unfold rd_T64
  rw [Int.toNat_natCast, List.getD_eq_getElem?_getD, List.getElem?_eq_getElem h]
  rfl
theorem szFrame (n : Int) (l : List Int) (hl : l.length ≤ maxLen) (a : Int) (h0 : 0 ≤ a) (h1 : a ≤ 1048576) : ∃ z, laws_szFrame.f n l a = some z ∧ (0 ≤ z → z ≤ a ∧ l.length ≤ 1048576) := by
  unfold maxLen at hl
  unfold laws_szFrame.f laws_szIntS.f
  rw [w64 (by omega) (by omega)]
  by_cases h : a - (l.length : Int) < 0
  · rw [if_pos h]
    exact ⟨-1, by simp, by omega⟩
  · rw [if_neg h, Option.bind_some, if_neg h]
    exact ⟨_, rfl, by omega⟩
theorem szFrames_loop (x : List S111) (hx : x.length ≤ maxLen) (hw : ∀ s ∈ x, s.f1.length ≤ maxLen) (d : Nat) : ∀ (k i : Nat) (a : Int), i + d = x.length → d < k → 0 ≤ a → a ≤ 1048576 →
    ∃ z, laws_szFrameS.l0 k x a i = some z ∧ (0 ≤ z → z ≤ a ∧ ∀ s ∈ x.drop i, s.f1.length ≤ 1048576) := by
  induction d with
  | zero =>
    intro k i a hi hk h0 h1
    obtain ⟨k, rfl⟩ : ∃ m, k = m + 1 := ⟨k - 1, by omega⟩
    rw [laws_szFrameS.l0, if_neg (by omega), List.drop_of_length_le (by omega)]
    exact ⟨a, rfl, fun _ => ⟨by omega, by simp⟩⟩
  | succ d ih =>
    intro k i a hi hk h0 h1
    obtain ⟨k, rfl⟩ : ∃ m, k = m + 1 := ⟨k - 1, by omega⟩
    have hlt : i < x.length := by omega
    unfold maxLen at hx
    obtain ⟨z, e, hz⟩ := szFrame x[i].f0 x[i].f1 (hw _ (List.getElem_mem hlt)) a h0 h1
    rw [laws_szFrameS.l0, if_pos (by omega), if_pos (by omega), rdT111 x i hlt, e, Option.bind_some]
    by_cases hn : z < 0
    · rw [if_pos hn]
      exact ⟨-1, rfl, by omega⟩
    · obtain ⟨z1, z2⟩ := hz (by omega)
      obtain ⟨y, e2, hy⟩ := ih k (i + 1) z (by omega) (by omega) (by omega) (by omega)
      rw [if_neg hn, w64 (by omega) (by omega), show ((i : Int) + 1) = ((i + 1 : Nat) : Int) by omega, e2]
      refine ⟨y, rfl, fun h => ?_⟩
      obtain ⟨y1, y2⟩ := hy h
      refine ⟨by omega, fun s hs => ?_⟩
      rw [List.drop_eq_getElem_cons hlt] at hs
      rcases List.mem_cons.mp hs with hs | hs
      · rw [hs]; exact z2
      · exact y2 s hs
theorem szSender (a0 : Int) (x : List S111) (a2 : Int) (hx : x.length ≤ maxLen) (hw : ∀ s ∈ x, s.f1.length ≤ maxLen) (m : Int) (h0 : 0 ≤ m) (h1 : m ≤ 1048576) (k : Nat) (hk : x.length < k) :
    ∃ z, laws_szSender.f k a0 x a2 m = some z ∧ (0 ≤ z → z ≤ m ∧ x.length ≤ 1048576 ∧ ∀ s ∈ x, s.f1.length ≤ 1048576) := by
  have hx' := hx
  unfold maxLen at hx'
  unfold laws_szSender.f laws_szFrameS.f
  rw [w64 (by omega) (by omega)]
  by_cases h : m - (x.length : Int) < 0
  · rw [if_pos h]
    exact ⟨-1, by simp, by omega⟩
  · obtain ⟨z, e, hz⟩ := szFrames_loop x hx hw x.length k 0 (m - (x.length : Int)) (by omega) hk (by omega) (by omega)
    have e' : laws_szFrameS.l0 k x (m - (x.length : Int)) 0 = some z := e
    rw [if_neg h, e', Option.bind_some]
    by_cases hn : z < 0
    · rw [if_pos hn]
      exact ⟨-1, rfl, by omega⟩
    · rw [if_neg hn]
      refine ⟨z, rfl, fun h => ?_⟩
      obtain ⟨y1, y2⟩ := hz h
      exact ⟨by omega, by omega, by simpa using y2⟩
theorem toFrames_loop (x : List S111) (hx : x.length ≤ 1048576) (hw : ∀ s ∈ x, s.f1.length ≤ 1048576) (d : Nat) : ∀ (k i : Nat) (z : List S64), i + d = x.length → d + 1048580 < k → z.length = d →
    laws_toFrameS.l0 k x ((x.take i).map cv ++ z) i = some (x.map cv) := by
  induction d with
  | zero =>
    intro k i z hi hk hz
    obtain ⟨k, rfl⟩ : ∃ m, k = m + 1 := ⟨k - 1, by omega⟩
    obtain rfl : z = [] := List.eq_nil_of_length_eq_zero hz
    rw [laws_toFrameS.l0, if_neg (by omega), List.append_nil, List.take_of_length_le (by omega)]
  | succ d ih =>
    intro k i z hi hk hz
    obtain ⟨k, rfl⟩ : ∃ m, k = m + 1 := ⟨k - 1, by omega⟩
    cases z with
    | nil => simp at hz
    | cons y z =>
      have hlt : i < x.length := by omega
      have hl : ((x.take i).map cv).length = i := by rw [List.length_map, List.length_take]; omega
      have hz' : z.length = d := by simpa using hz
      have hf : laws_toFrame.f k x[i].f0 x[i].f1 = some (x[i].f0, x[i].f1) := by
        have := hw _ (List.getElem_mem hlt)
        unfold laws_toFrame.f
        rw [toIntS _ this k (by omega)]
        rfl
      rw [laws_toFrameS.l0, if_pos (by omega), if_pos (by omega), rdT111 x i hlt, hf, Option.bind_some]
      simp only
      rw [if_pos (by rw [List.length_append, hl]; simp only [List.length_cons]; omega), Int.toNat_natCast, w64 (by omega) (by omega)]
      have e : ((x.take i).map cv ++ y :: z).set i (⟨x[i].f0, x[i].f1⟩ : S64) = (x.take (i + 1)).map cv ++ z := by
        rw [List.set_append, hl, if_neg (by omega), Nat.sub_self, List.set_cons_zero, List.take_succ_eq_append_getElem hlt, List.map_append, List.append_assoc]
        rfl
      rw [e]
      exact ih k (i + 1) z (by omega) (by omega) hz'
theorem toSender (a0 : Int) (x : List S111) (a2 : Int) (hx : x.length ≤ 1048576) (hw : ∀ s ∈ x, s.f1.length ≤ 1048576) (k : Nat) (hk : x.length + 1048580 < k) : laws_toSender.f k a0 x a2 = some (a0, x.map cv, a2) := by
  unfold laws_toSender.f laws_toFrameS.f
  rw [if_pos (by omega), Int.toNat_natCast, if_pos (by omega)]
  have := toFrames_loop x hx hw x.length k 0 (List.replicate x.length z64) (by omega) hk (by simp)
  have h : laws_toFrameS.l0 k x (List.replicate x.length z64) 0 = some (x.map cv) := this
  rw [h]
  rfl
theorem eqFrames_loop (x : List S64) (hx : x.length ≤ 1048576) (hw : ∀ s ∈ x, s.f1.length ≤ 1048576) (d : Nat) : ∀ (k i : Nat), i + d = x.length → d + 1048580 < k → laws_eqFrameS.l0 k x x i = some true := by
  induction d with
  | zero =>
    intro k i hi hk
    obtain ⟨k, rfl⟩ : ∃ m, k = m + 1 := ⟨k - 1, by omega⟩
    rw [laws_eqFrameS.l0, if_neg (by omega)]
  | succ d ih =>
    intro k i hi hk
    obtain ⟨k, rfl⟩ : ∃ m, k = m + 1 := ⟨k - 1, by omega⟩
    have hlt : i < x.length := by omega
    have hf : laws_eqFrame.f k x[i].f0 x[i].f1 x[i].f0 x[i].f1 = some true := by
      have := hw _ (List.getElem_mem hlt)
      unfold laws_eqFrame.f
      rw [if_pos rfl, eqIntS_self _ this k (by omega), Option.bind_some, if_pos rfl]
    rw [laws_eqFrameS.l0, if_pos (by omega), if_pos (by omega), if_pos (by omega), rdT64 x i hlt, hf, Option.bind_some, if_pos rfl, w64 (by omega) (by omega), show ((i : Int) + 1) = ((i + 1 : Nat) : Int) by omega]
    exact ih k (i + 1) (by omega) (by omega)
theorem eqSender_self (a0 : Int) (x : List S64) (a2 : Int) (hx : x.length ≤ 1048576) (hw : ∀ s ∈ x, s.f1.length ≤ 1048576) (k : Nat) (hk : x.length + 1048580 < k) : laws_eqSender.f k a0 x a2 a0 x a2 = some true := by
  unfold laws_eqSender.f laws_eqFrameS.f
  have h : laws_eqFrameS.l0 k x x 0 = some true := eqFrames_loop x hx hw x.length k 0 (by omega) hk
  rw [if_pos rfl, if_pos rfl, h, Option.bind_some, if_pos rfl, if_pos rfl]
theorem seqd (a b : Int) : ∃ v, spec_SeqDistance.f a b = some v ∧ impl_SeqDistance.f a b = some v := by
  unfold spec_SeqDistance.f impl_SeqDistance.f spec_IsSeq.f impl_IsSeq.f
  simp only [inRange, within, Option.bind_some]
  by_cases h : 0 ≤ a ∧ a ≤ 15
  · by_cases h1 : 0 ≤ b ∧ b ≤ 15
    · simp [h, h1]
    · simp [h, h1]
  · simp [h]
theorem senderok_loop (a0 : Int) (x : List S64) (a2 n : Int) (hx : x.length ≤ 1048576) (hw : ∀ s ∈ x, s.f1.length ≤ 1048576) (hn : n = (x.length : Int)) (d : Nat) : ∀ (k i : Nat), i + d = x.length → d + 1048580 < k →
    ∃ v, spec_SenderOk.l0 k n i a0 x a2 = some v ∧ impl_SenderOk.l0 k n x n i a0 x a2 = some v := by
  induction d with
  | zero =>
    intro k i hi hk
    obtain ⟨k, rfl⟩ : ∃ m, k = m + 1 := ⟨k - 1, by omega⟩
    rw [spec_SenderOk.l0, impl_SenderOk.l0, if_neg (by omega), if_neg (by omega)]
    exact ⟨true, rfl, rfl⟩
  | succ d ih =>
    intro k i hi hk
    obtain ⟨k, rfl⟩ : ∃ m, k = m + 1 := ⟨k - 1, by omega⟩
    have hlt : i < x.length := by omega
    have hl := hw _ (List.getElem_mem hlt)
    obtain ⟨v, e1, e2⟩ := seqd x[i].f0 a0
    obtain ⟨w, f1, f2⟩ := ih k (i + 1) (by omega) (by omega)
    rw [spec_SenderOk.l0, impl_SenderOk.l0, if_pos (by omega), if_pos (by omega), if_pos (by omega), if_pos (by omega), if_pos (by omega), if_pos (by omega), rdT64 x i hlt, e1, e2, Option.bind_some, Option.bind_some, spec_bytes _ hl k (by omega), impl_bytes, Option.bind_some, Option.bind_some, w64 (n := (i : Int) + 1) (by omega) (by omega), show ((i : Int) + 1) = ((i + 1 : Nat) : Int) by omega, f1, f2]
    by_cases h1 : v = wrap64 (n - (i : Int))
    · rw [if_pos h1]
      by_cases h2 : okB x[i].f1 = true
      · rw [if_pos h2]
        exact ⟨w, rfl, rfl⟩
      · rw [if_neg h2]
        exact ⟨false, rfl, rfl⟩
    · rw [if_neg h1]
      exact ⟨false, rfl, rfl⟩
theorem senderok (a0 : Int) (x : List S64) (a2 : Int) (hx : x.length ≤ 1048576) (hw : ∀ s ∈ x, s.f1.length ≤ 1048576) (k : Nat) (hk : x.length + 1048590 < k) : ∃ v, spec_SenderOk.f k a0 x a2 = some v ∧ impl_SenderOk.f k a0 x a2 = some v := by
  obtain ⟨k, rfl⟩ : ∃ m, k = m + 1 := ⟨k - 1, by omega⟩
  obtain ⟨v, f1, f2⟩ := senderok_loop a0 x a2 (x.length : Int) hx hw rfl x.length k 0 (by omega) (by omega)
  have f1' : spec_SenderOk.l0 k (x.length : Int) 0 a0 x a2 = some v := f1
  have f2' : impl_SenderOk.l0 k (x.length : Int) x (x.length : Int) 0 a0 x a2 = some v := f2
  have bads : spec_SenderOk.j0 (k + 1) (x.length : Int) true a0 x a2 = some false := by rw [spec_SenderOk.j0, if_pos rfl]
  have badi : impl_SenderOk.j0 (k + 1) (x.length : Int) true a0 x a2 = some false := by rw [impl_SenderOk.j0, if_pos rfl]
  unfold spec_SenderOk.f impl_SenderOk.f spec_IsSeq.f impl_IsSeq.f
  simp only [inRange, within, Option.bind_some]
  by_cases h0 : 0 ≤ a0 ∧ a0 ≤ 15
  · have p0 : decide (0 ≤ a0 ∧ a0 ≤ 15) = true := decide_eq_true h0
    simp only [p0, ↓reduceIte]
    by_cases h7 : (x.length : Int) > 7
    · simp only [h7, ↓reduceIte]
      exact ⟨false, bads, badi⟩
    · simp only [h7, ↓reduceIte]
      by_cases h2 : 0 ≤ a2 ∧ a2 ≤ (x.length : Int)
      · have p2 : (!decide (0 ≤ a2 ∧ a2 ≤ (x.length : Int))) = false := by simpa using h2
        rw [p2, spec_SenderOk.j0, impl_SenderOk.j0]
        exact ⟨v, by rw [if_neg (by decide)]; exact f1', by rw [if_neg (by decide)]; exact f2'⟩
      · have p2 : (!decide (0 ≤ a2 ∧ a2 ≤ (x.length : Int))) = true := by rw [decide_eq_false h2]; rfl
        rw [p2]
        exact ⟨false, bads, badi⟩
  · have p0 : decide (0 ≤ a0 ∧ a0 ≤ 15) = false := decide_eq_false h0
    simp only [p0, Bool.false_eq_true, ↓reduceIte]
    exact ⟨false, bads, badi⟩
/-- The numbers a, a + 1, .. -/
def ups : Nat → Int → List Int
  | 0, _ => []
  | n + 1, a => a :: ups n (a + 1)
theorem ups_length (n : Nat) (a : Int) : (ups n a).length = n := by
  induction n generalizing a with
  | zero => rfl
  | succ n ih => simp [ups, ih]
theorem markIntS_loop (d : Nat) : ∀ (k i : Nat) (u z : List Int) (a : Int), z.length = d → u.length = i → i + d ≤ 1048576 → d < k → 0 ≤ a → a + d ≤ 4611686018427387904 →
    laws_markIntS.l0 k (u ++ z) a i = some (a + d, u ++ ups d a) := by
  induction d with
  | zero =>
    intro k i u z a hz hu hi hk h0 h1
    obtain ⟨k, rfl⟩ : ∃ m, k = m + 1 := ⟨k - 1, by omega⟩
    obtain rfl : z = [] := List.eq_nil_of_length_eq_zero hz
    simp only [laws_markIntS.l0]
    rw [if_neg (by rw [List.append_nil]; omega)]
    simp [ups]
  | succ d ih =>
    intro k i u z a hz hu hi hk h0 h1
    obtain ⟨k, rfl⟩ : ∃ m, k = m + 1 := ⟨k - 1, by omega⟩
    cases z with
    | nil => simp at hz
    | cons y z =>
      have hz' : z.length = d := by simpa using hz
      simp only [laws_markIntS.l0]
      rw [if_pos (by rw [List.length_append]; simp only [List.length_cons]; omega), if_pos (by omega), Int.toNat_natCast, w64 (by omega) (by omega), w64 (by omega) (by omega)]
      have e : (u ++ y :: z).set i a = (u ++ [a]) ++ z := by
        rw [List.set_append, hu, if_neg (by omega), Nat.sub_self, List.set_cons_zero]
        simp
      have hh := ih k (i + 1) (u ++ [a]) z (a + 1) hz' (by simp [hu]) (by omega) (by omega) (by omega) (by omega)
      rw [e, show ((i : Int) + 1) = ((i + 1 : Nat) : Int) by omega, hh]
      simp only [ups, List.append_assoc, List.singleton_append, Option.some.injEq, Prod.mk.injEq, and_true]
      omega
theorem markIntS (x : List Int) (hx : x.length ≤ 1048576) (a : Int) (h0 : 0 ≤ a) (h1 : a ≤ 1099511627776) (k : Nat) (hk : x.length < k) : laws_markIntS.f k x a = some (a + x.length, ups x.length a) := by
  have := markIntS_loop x.length k 0 [] x a rfl rfl (by omega) hk h0 (by omega)
  simpa [laws_markIntS.f] using this
theorem heldIntS_loop (d : Nat) : ∀ (k i : Nat) (u : List Int) (a : Int), u.length = i → i + d ≤ 1048576 → d < k → 0 ≤ a → a + d ≤ 4611686018427387904 →
    laws_heldIntS.l0 k (u ++ ups d a) a i = some (a + d) := by
  induction d with
  | zero =>
    intro k i u a hu hi hk h0 h1
    obtain ⟨k, rfl⟩ : ∃ m, k = m + 1 := ⟨k - 1, by omega⟩
    simp only [laws_heldIntS.l0]
    rw [if_neg (by rw [List.length_append, ups_length]; omega)]
    simp
  | succ d ih =>
    intro k i u a hu hi hk h0 h1
    obtain ⟨k, rfl⟩ : ∃ m, k = m + 1 := ⟨k - 1, by omega⟩
    have hlt : i < (u ++ ups (d + 1) a).length := by rw [List.length_append, ups_length]; omega
    have hr : rd (u ++ ups (d + 1) a) (i : Int) = a := by
      rw [rd_nat _ i hlt, List.getElem_append_right (by omega)]
      simp [hu, ups]
    simp only [laws_heldIntS.l0]
    rw [if_pos (by omega), if_pos (by omega), hr, if_pos rfl, w64 (by omega) (by omega), w64 (by omega) (by omega)]
    have hh := ih k (i + 1) (u ++ [a]) (a + 1) (by simp [hu]) (by omega) (by omega) (by omega) (by omega)
    simp only [ups]
    rw [List.append_assoc, List.singleton_append] at hh
    rw [show ((i : Int) + 1) = ((i + 1 : Nat) : Int) by omega, hh]
    simp only [Option.some.injEq]
    omega
theorem heldIntS (n : Nat) (hx : n ≤ 1048576) (a : Int) (h0 : 0 ≤ a) (h1 : a ≤ 1099511627776) (k : Nat) (hk : n < k) : laws_heldIntS.f k (ups n a) a = some (a + n) := by
  have := heldIntS_loop n k 0 [] a rfl (by omega) hk h0 (by omega)
  simpa [laws_heldIntS.f] using this
theorem markIntB (x : List Int) (hx : x.length ≤ 1048576) (a : Int) (h0 : 0 ≤ a) (h1 : a ≤ 4000000000000000000) (k : Nat) (hk : x.length < k) : laws_markIntS.f k x a = some (a + x.length, ups x.length a) := by
  have := markIntS_loop x.length k 0 [] x a rfl rfl (by omega) hk h0 (by omega)
  simpa [laws_markIntS.f] using this
theorem heldIntB (n : Nat) (hx : n ≤ 1048576) (a : Int) (h0 : 0 ≤ a) (h1 : a ≤ 4000000000000000000) (k : Nat) (hk : n < k) : laws_heldIntS.f k (ups n a) a = some (a + n) := by
  have := heldIntS_loop n k 0 [] a rfl (by omega) hk h0 (by omega)
  simpa [laws_heldIntS.f] using this
/-- The frames of a sender, marked from a on; and the number behind them. -/
def mkF : List S64 → Int → List S64
  | [], _ => []
  | s :: x, a => ⟨a, ups s.f1.length (a + 1)⟩ :: mkF x (a + 1 + (s.f1.length : Int))
def behF : List S64 → Int → Int
  | [], a => a
  | s :: x, a => behF x (a + 1 + (s.f1.length : Int))
theorem mkF_length (x : List S64) : ∀ a, (mkF x a).length = x.length := by
  induction x with
  | nil => intro a; rfl
  | cons s x ih => intro a; simp [mkF, ih]
theorem behF_le (x : List S64) (hw : ∀ s ∈ x, s.f1.length ≤ 1048576) : ∀ a, a ≤ behF x a ∧ behF x a ≤ a + 1048577 * (x.length : Int) := by
  induction x with
  | nil => intro a; simp [behF]
  | cons s x ih =>
    intro a
    obtain ⟨h1, h2⟩ := ih (fun s hs => hw s (List.mem_cons_of_mem _ hs)) (a + 1 + (s.f1.length : Int))
    have h3 := hw s (List.mem_cons_self ..)
    simp only [behF, List.length_cons]
    omega
theorem markF_loop (x : List S64) : ∀ (k i : Nat) (u : List S64) (a : Int), u.length = i → i + x.length ≤ 1048576 → (∀ s ∈ x, s.f1.length ≤ 1048576) → x.length + 1048580 < k → 0 ≤ a → a + 1048577 * (x.length : Int) ≤ 3000000000000000000 →
    laws_markFrameS.l0 k (u ++ x) a i = some (behF x a, u ++ mkF x a) := by
  induction x with
  | nil =>
    intro k i u a hu hi hw hk h0 h1
    obtain ⟨k, rfl⟩ : ∃ m, k = m + 1 := ⟨k - 1, by omega⟩
    rw [laws_markFrameS.l0, if_neg (by rw [List.append_nil]; omega)]
    rfl
  | cons s x ih =>
    intro k i u a hu hi hw hk h0 h1
    obtain ⟨k, rfl⟩ : ∃ m, k = m + 1 := ⟨k - 1, by omega⟩
    simp only [List.length_cons] at hi hk h1
    have hs := hw s (List.mem_cons_self ..)
    have hlt : i < (u ++ s :: x).length := by rw [List.length_append, List.length_cons]; omega
    have hr : rd_T64 (u ++ s :: x) (i : Int) = s := by
      rw [rdT64 _ i hlt, List.getElem_append_right (by omega)]
      simp [hu]
    have e : (u ++ s :: x).set i ⟨a, ups s.f1.length (a + 1)⟩ = (u ++ [⟨a, ups s.f1.length (a + 1)⟩]) ++ x := by
      rw [List.set_append, hu, if_neg (by omega), Nat.sub_self, List.set_cons_zero]
      simp
    have hh := ih k (i + 1) (u ++ [⟨a, ups s.f1.length (a + 1)⟩]) (a + 1 + (s.f1.length : Int)) (by simp [hu]) (by omega) (fun s hs => hw s (List.mem_cons_of_mem _ hs)) (by omega) (by omega) (by omega)
    rw [laws_markFrameS.l0, if_pos (by omega), if_pos (by omega), hr, w64 (by omega) (by omega), markIntB _ hs (a + 1) (by omega) (by omega) k (by omega), Option.bind_some]
    simp only
    rw [Int.toNat_natCast, e, w64 (by omega) (by omega), show ((i : Int) + 1) = ((i + 1 : Nat) : Int) by omega, hh]
    simp [mkF, behF]
theorem heldF_loop (x : List S64) : ∀ (k i : Nat) (u : List S64) (a : Int), u.length = i → i + x.length ≤ 1048576 → (∀ s ∈ x, s.f1.length ≤ 1048576) → x.length + 1048580 < k → 0 ≤ a → a + 1048577 * (x.length : Int) ≤ 3000000000000000000 →
    laws_heldFrameS.l0 k (u ++ mkF x a) a i = some (behF x a) := by
  induction x with
  | nil =>
    intro k i u a hu hi hw hk h0 h1
    obtain ⟨k, rfl⟩ : ∃ m, k = m + 1 := ⟨k - 1, by omega⟩
    rw [laws_heldFrameS.l0, if_neg (by simp only [mkF]; rw [List.append_nil]; omega)]
    rfl
  | cons s x ih =>
    intro k i u a hu hi hw hk h0 h1
    obtain ⟨k, rfl⟩ : ∃ m, k = m + 1 := ⟨k - 1, by omega⟩
    simp only [List.length_cons] at hi hk h1
    have hs := hw s (List.mem_cons_self ..)
    obtain ⟨q, hq⟩ : ∃ q : S64, q = ⟨a, ups s.f1.length (a + 1)⟩ := ⟨_, rfl⟩
    obtain ⟨z, hz⟩ : ∃ z, z = mkF x (a + 1 + (s.f1.length : Int)) := ⟨_, rfl⟩
    have hzl : z.length = x.length := by rw [hz, mkF_length]
    have hd : mkF (s :: x) a = q :: z := by rw [hq, hz]; rfl
    rw [hd]
    have hlt : i < (u ++ q :: z).length := by rw [List.length_append, List.length_cons]; omega
    have hr : rd_T64 (u ++ q :: z) (i : Int) = q := by
      rw [rdT64 _ i hlt, List.getElem_append_right (by omega)]
      simp [hu]
    have hh := ih k (i + 1) (u ++ [q]) (a + 1 + (s.f1.length : Int)) (by simp [hu]) (by omega) (fun s hs => hw s (List.mem_cons_of_mem _ hs)) (by omega) (by omega) (by omega)
    have hq0 : q.f0 = a := by rw [hq]
    have hq1 : q.f1 = ups s.f1.length (a + 1) := by rw [hq]
    rw [laws_heldFrameS.l0, if_pos (by omega), if_pos (by omega), hr, hq0, if_pos rfl, hq1, w64 (by omega) (by omega), heldIntB _ hs (a + 1) (by omega) (by omega) k (by omega), Option.bind_some, if_neg (by omega), w64 (by omega) (by omega), show ((i : Int) + 1) = ((i + 1 : Nat) : Int) by omega]
    rw [← hz, List.append_assoc, List.singleton_append] at hh
    rw [hh]
    rfl
theorem markSender (a0 : Int) (x : List S64) (a2 : Int) (hx : x.length ≤ 1048576) (hw : ∀ s ∈ x, s.f1.length ≤ 1048576) (k : Nat) (hk : x.length + 1048580 < k) : laws_markSender.f k a0 x a2 1 = some (behF x 1, mkF x 1) := by
  have h := markF_loop x k 0 [] 1 rfl (by omega) hw hk (by omega) (by omega)
  simpa [laws_markSender.f, laws_markFrameS.f] using h
theorem heldSender (a0 : Int) (x : List S64) (a2 : Int) (hx : x.length ≤ 1048576) (hw : ∀ s ∈ x, s.f1.length ≤ 1048576) (k : Nat) (hk : x.length + 1048580 < k) : laws_heldSender.f k a0 (mkF x 1) a2 1 = some (behF x 1) := by
  have h : laws_heldFrameS.l0 k (mkF x 1) 1 0 = some (behF x 1) := heldF_loop x k 0 [] 1 rfl (by omega) hw hk (by omega) (by omega)
  have h1 := (behF_le x hw 1).1
  unfold laws_heldSender.f laws_heldFrameS.f
  rw [h, Option.bind_some, if_neg (by omega)]
theorem specCopy_loop (a0 : Int) (x : List S64) (a2 : Int) (hx : x.length ≤ 1048576) (hw : ∀ s ∈ x, s.f1.length ≤ 1048576) (d : Nat) : ∀ (k i : Nat), i + d = x.length → d < k → spec_l08Copy.l0 k i a0 x a2 a0 (x.take i) a2 = some (a0, x, a2) := by
  induction d with
  | zero =>
    intro k i hi hk
    obtain ⟨k, rfl⟩ : ∃ m, k = m + 1 := ⟨k - 1, by omega⟩
    rw [spec_l08Copy.l0, if_neg (by omega), List.take_of_length_le (by omega)]
  | succ d ih =>
    intro k i hi hk
    obtain ⟨k, rfl⟩ : ∃ m, k = m + 1 := ⟨k - 1, by omega⟩
    have hlt : i < x.length := by omega
    have hl := hw _ (List.getElem_mem hlt)
    have hf : spec_l08Frame.f x[i].f0 x[i].f1 = some (x[i].f0, x[i].f1) := by
      unfold spec_l08Frame.f
      rw [Option.bind_some, if_pos (by simp only [List.length_nil]; omega), List.nil_append]
    rw [spec_l08Copy.l0, if_pos (by omega), if_pos (by omega), rdT64 x i hlt, hf, Option.bind_some, if_pos (by rw [List.length_take]; omega), w64 (by omega) (by omega), show ((i : Int) + 1) = ((i + 1 : Nat) : Int) by omega]
    have e : x.take i ++ [(⟨x[i].f0, x[i].f1⟩ : S64)] = x.take (i + 1) := (List.take_succ_eq_append_getElem hlt).symm
    rw [e]
    exact ih k (i + 1) (by omega) (by omega)
theorem specCopy (a0 : Int) (x : List S64) (a2 : Int) (hx : x.length ≤ 1048576) (hw : ∀ s ∈ x, s.f1.length ≤ 1048576) (k : Nat) (hk : x.length < k) : spec_l08Copy.f k a0 x a2 = some (a0, x, a2) :=
  specCopy_loop a0 x a2 hx hw x.length k 0 (by omega) hk
theorem implCopy_loop (a0 : Int) (x : List S64) (a2 n : Int) (hx : x.length ≤ 1048576) (hw : ∀ s ∈ x, s.f1.length ≤ 1048576) (hn : n = (x.length : Int)) (d : Nat) : ∀ (k i : Nat), i + d = x.length → d < k → impl_copySender.l0 k x n i a0 (x.take i) a2 = some (a0, x, a2) := by
  induction d with
  | zero =>
    intro k i hi hk
    obtain ⟨k, rfl⟩ : ∃ m, k = m + 1 := ⟨k - 1, by omega⟩
    rw [impl_copySender.l0, if_neg (by omega), List.take_of_length_le (by omega)]
  | succ d ih =>
    intro k i hi hk
    obtain ⟨k, rfl⟩ : ∃ m, k = m + 1 := ⟨k - 1, by omega⟩
    have hlt : i < x.length := by omega
    have hl := hw _ (List.getElem_mem hlt)
    have hf : impl_copyFrame.f x[i].f0 x[i].f1 = some (x[i].f0, x[i].f1) := by
      unfold impl_copyFrame.f slices_Clone_int_int.f
      rw [if_pos (by omega), Option.bind_some]
    rw [impl_copySender.l0, if_pos (by omega), if_pos (by omega), if_pos (by omega), rdT64 x i hlt, hf, Option.bind_some, if_pos (by rw [List.length_take]; omega), w64 (by omega) (by omega), show ((i : Int) + 1) = ((i + 1 : Nat) : Int) by omega]
    have e : x.take i ++ [(⟨x[i].f0, x[i].f1⟩ : S64)] = x.take (i + 1) := (List.take_succ_eq_append_getElem hlt).symm
    rw [e]
    exact ih k (i + 1) (by omega) (by omega)
theorem implCopy (a0 : Int) (x : List S64) (a2 : Int) (hx : x.length ≤ 1048576) (hw : ∀ s ∈ x, s.f1.length ≤ 1048576) (k : Nat) (hk : x.length < k) : impl_copySender.f k a0 x a2 = some (a0, x, a2) :=
  implCopy_loop a0 x a2 (x.length : Int) hx hw rfl x.length k 0 (by omega) hk
theorem mx_comm0 (v : Int) : mx 0 v = mx v 0 := by
  unfold mx
  by_cases h : v < 0
  · rw [if_neg (by omega), if_pos h]
  · by_cases h2 : 0 < v
    · rw [if_pos h2, if_neg h]
    · rw [if_neg h2, if_neg h]; omega
theorem ack_loop (a0 : Int) (x : List S64) (a2 q : Int) (hx : x.length ≤ 1048576) (d : Nat) : ∀ (k i : Nat), i + d = x.length → d < k →
    ∃ r, impl_Frame_90.l0 k x q i = some r ∧ ((r = -1 ∧ spec_TakeAck.l0 k q i a0 x a2 a0 x a2 = some (a0, x, a2, false)) ∨
      (∃ j : Nat, j < x.length ∧ r = (j : Int) ∧ spec_TakeAck.l0 k q i a0 x a2 a0 x a2 = some (a0, x.drop (j + 1), mx 0 (wrap64 (wrap64 (a2 - (j : Int)) - 1)), true))) := by
  induction d with
  | zero =>
    intro k i hi hk
    obtain ⟨k, rfl⟩ : ∃ m, k = m + 1 := ⟨k - 1, by omega⟩
    rw [impl_Frame_90.l0, spec_TakeAck.l0, if_neg (by omega), if_neg (by omega)]
    exact ⟨-1, rfl, .inl ⟨rfl, rfl⟩⟩
  | succ d ih =>
    intro k i hi hk
    obtain ⟨k, rfl⟩ : ∃ m, k = m + 1 := ⟨k - 1, by omega⟩
    have hlt : i < x.length := by omega
    have p1 : (i : Int) < (x.length : Int) := by omega
    have p2 : (0 : Int) ≤ (i : Int) := by omega
    have p3 : wrap64 ((i : Int) + 1) = ((i + 1 : Nat) : Int) := by rw [w64 (by omega) (by omega)]; omega
    have p4 : (0 : Int) ≤ ((i + 1 : Nat) : Int) := by omega
    have p5 : ((i + 1 : Nat) : Int) ≤ (x.length : Int) := by omega
    rw [impl_Frame_90.l0, spec_TakeAck.l0]
    simp only [if_pos p1, if_pos p2, rdT64 x i hlt, p3, if_pos p4, if_pos p5, Int.toNat_natCast]
    by_cases h : x[i].f0 = q
    · simp only [if_pos (beq_iff_eq.mpr h), if_pos h]
      exact ⟨_, rfl, .inr ⟨i, hlt, rfl, rfl⟩⟩
    · simp only [if_neg (show ¬ (x[i].f0 == q) = true by simpa using h), if_neg h]
      exact ih k (i + 1) (by omega) (by omega)
theorem takeack (a0 : Int) (x : List S64) (a2 q : Int) (hx : x.length ≤ 1048576) (hw : ∀ s ∈ x, s.f1.length ≤ 1048576) (k : Nat) (hk : x.length + 1048590 < k) :
    ∃ y m z, spec_TakeAck.f k a0 x a2 q = some (a0, y, m, z) ∧ impl_TakeAck.f k a0 x a2 q = some (a0, y, m, z) ∧ y.length ≤ x.length ∧ (∀ s ∈ y, s.f1.length ≤ 1048576) := by
  obtain ⟨v, s1, s2⟩ := senderok a0 x a2 hx hw k hk
  obtain ⟨r, e1, e2⟩ := ack_loop a0 x a2 q hx x.length k 0 (by omega) (by omega)
  have e1' : impl_Frame_90.f k x q = some r := e1
  unfold spec_TakeAck.f impl_TakeAck.f
  rw [specCopy a0 x a2 hx hw k (by omega), implCopy a0 x a2 hx hw k (by omega), s1, s2, e1']
  simp only [Option.bind_some]
  by_cases h : v = true
  · simp only [if_pos h]
    rcases e2 with ⟨rfl, e3⟩ | ⟨j, hj, rfl, e3⟩
    · rw [if_pos (by decide)]
      exact ⟨_, _, _, e3, rfl, by omega, hw⟩
    · rw [if_neg (by omega), w64 (by omega) (by omega), if_pos (by omega), if_pos (by omega), if_pos (by omega), show ((j : Int) + 1).toNat = j + 1 by omega, ← mx_comm0]
      exact ⟨_, _, _, e3, rfl, by rw [List.length_drop]; omega, fun s hs => hw s (List.mem_of_mem_drop hs)⟩
  · simp only [if_neg h]
    exact ⟨_, _, _, rfl, rfl, by omega, hw⟩
theorem FnExactTakeAck : ∀ (a0_0 : Int) (qs : List (Int × List Int)) (a0_2 : Int) (a1 : Int), (Lit.int .i64 a0_0).wf = true → qs.length ≤ maxLen → (∀ q ∈ qs, Frames.Fit q) → (Lit.int .i64 a0_2).wf = true → (Lit.int .i64 a1).wf = true → ∃ k, laws_FnExactTakeAck.f k a0_0 (qs.map fun q => (⟨q.1, q.2⟩ : S111)) a0_2 a1 = some true := by
  intro a0 qs a2 a1 _ hq hf _ _
  obtain ⟨x, hx⟩ : ∃ x, qs.map (fun q => (⟨q.1, q.2⟩ : S111)) = x := ⟨_, rfl⟩
  have hl : x.length ≤ maxLen := by rw [← hx]; simpa using hq
  have hw : ∀ s ∈ x, s.f1.length ≤ maxLen := by
    intro s hs
    rw [← hx] at hs
    obtain ⟨q, hq1, rfl⟩ := List.mem_map.mp hs
    exact (hf q hq1).2.1
  rw [hx]
  obtain ⟨k, hk⟩ : ∃ k, k = x.length + 1048600 := ⟨_, rfl⟩
  obtain ⟨z, e, hz⟩ := szSender a0 x a2 hl hw 1048576 (by omega) (by omega) k (by omega)
  refine ⟨k, ?_⟩
  unfold laws_FnExactTakeAck.f
  rw [e, Option.bind_some]
  by_cases h : z < 0
  · rw [if_pos h]
  · obtain ⟨_, h1, h2⟩ := hz (by omega)
    obtain ⟨y, hy0⟩ : ∃ y, y = x.map cv := ⟨_, rfl⟩
    have hyl : y.length = x.length := by rw [hy0]; simp
    have hy : y.length ≤ 1048576 := by omega
    have hyw : ∀ s ∈ y, s.f1.length ≤ 1048576 := by
      intro s hs
      rw [hy0] at hs
      obtain ⟨q, hq1, rfl⟩ := List.mem_map.mp hs
      exact h2 q hq1
    have ht := toSender a0 x a2 h1 h2 k (by omega)
    rw [← hy0] at ht
    obtain ⟨z, m, o, s1, s2, hzk, hzw⟩ := takeack a0 y a2 a1 hy hyw k (by omega)
    have hzl : z.length ≤ 1048576 := by omega
    have he := eqSender_self a0 z m hzl hzw k (by omega)
    have he2 := eqSender_self a0 y a2 hy hyw k (by omega)
    have hm := markSender a0 z m hzl hzw k (by omega)
    have hm2 := markSender a0 y a2 hy hyw k (by omega)
    have hh := heldSender a0 z m hzl hzw k (by omega)
    have hb2 := behF_le y hyw 1
    have hb := behF_le z hzw 1
    rw [if_neg h, ht, Option.bind_some]
    simp only [s1, s2, he, he2, hm, hm2, hh, Option.bind_some, if_true]
    repeat rw [if_pos (by omega)]

end Go.Proofs.Ytdnekkbchlibhaa.Pure
