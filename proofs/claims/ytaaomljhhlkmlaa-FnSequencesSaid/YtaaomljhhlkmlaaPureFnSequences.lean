/- The distance counts how often the next number is taken, and of two different numbers at most one is old to the other: at every draw. No condition. -/
import Derived.Test.YtaaomljhhlkmlaaPFnSequencesx1
import Derived.Test.YtaaomljhhlkmlaaBits
namespace Go.Proofs.Ytaaomljhhlkmlaa.Pure
open Go.RowKit Go.Proofs.Ytaaomljhhlkmlaa.PFnSequences Go.Proofs.YtaaomljhhlkmlaaW.PrintWords Go.Proofs.YtaaomljhhlkmlaaW.PrintLast Go.Proofs.YtaaomljhhlkmlaaW.PrintMore Go.Proofs.Ytaaomljhhlkmlaa.Num
set_option linter.unusedVariables false
set_option linter.unusedSimpArgs false

theorem within (a b c : Int) : impl_within.f a b c = some (decide (b ≤ a ∧ a ≤ c)) := by
  unfold impl_within.f
  by_cases h : b ≤ a <;> simp [h]
theorem rd_nat (x : List Int) (i : Nat) (h : i < x.length) : rd x (i : Int) = x[i] := by
  unfold rd
  rw [Int.toNat_natCast, List.getD_eq_getElem?_getD, List.getElem?_eq_getElem h]
  rfl
/-- A cursor of the draws: it stands in its bytes. -/
def Cur (b : List Int) (i : Int) : Prop := b.length ≤ 1048576 ∧ 0 ≤ i ∧ i ≤ b.length ∧ ∀ x ∈ b, 0 ≤ x ∧ x ≤ 255
theorem new_loop (l : List Int) (d : Nat) : ∀ (k i : Nat) (h : Int), i + d = 4000 → d < k → ∃ h', spec_l01New.l0 k l h i = some (l, 0, h') := by
  induction d with
  | zero =>
    intro k i h hi hk
    obtain ⟨k, rfl⟩ : ∃ m, k = m + 1 := ⟨k - 1, by omega⟩
    rw [spec_l01New.l0]
    by_cases e : (i : Int) < (l.length : Int)
    · rw [if_pos e, if_neg (by omega)]; exact ⟨_, rfl⟩
    · rw [if_neg e]; exact ⟨_, rfl⟩
  | succ d ih =>
    intro k i h hi hk
    obtain ⟨k, rfl⟩ : ∃ m, k = m + 1 := ⟨k - 1, by omega⟩
    rw [spec_l01New.l0]
    by_cases e : (i : Int) < (l.length : Int)
    · rw [if_pos e, if_pos (by omega), if_pos (by omega), w64 (n := (i : Int) + 1) (by omega) (by omega), show ((i : Int) + 1) = ((i + 1 : Nat) : Int) by omega]
      exact ih k (i + 1) _ (by omega) (by omega)
    · rw [if_neg e]; exact ⟨_, rfl⟩
theorem new_cur (l : List Int) (hl : l.length ≤ 1048576) (hb : ∀ x ∈ l, (Lit.int .u8 x).wf = true) (k : Nat) (hk : 4000 < k) : ∃ h, spec_l01New.f k l = some (l, 0, h) ∧ Cur l 0 := by
  obtain ⟨h, e⟩ := new_loop l 4000 k 0 (wrap64 (98663 + (l.length : Int))) (by decide) hk
  refine ⟨h, e, hl, by omega, by omega, fun x hx => ?_⟩
  have h3 := hb x hx
  simp [Lit.wf] at h3
  exact h3
theorem byte_cur (b : List Int) (i h : Int) (hc : Cur b i) : ∃ v i' h', spec_l01Byte.f b i h = some (v, i', h') ∧ Cur b i' ∧ 0 ≤ v ∧ v ≤ 255 := by
  obtain ⟨h1, h2, h3, h4⟩ := hc
  unfold spec_l01Byte.f
  by_cases e : i < (b.length : Int)
  · rw [if_pos e, if_pos h2, w64 (n := i + 1) (by omega) (by omega)]
    exact ⟨_, _, _, rfl, ⟨h1, by omega, by omega, h4⟩, and255 _⟩
  · rw [if_neg e]
    exact ⟨_, _, _, rfl, ⟨h1, h2, h3, h4⟩, and255 _⟩
theorem below_cur (b : List Int) (i h n : Int) (hc : Cur b i) : ∃ v i' h', spec_l01Below.f b i h n = some (v, i', h') ∧ Cur b i' ∧ 0 ≤ v ∧ (0 < n → v < n) ∧ (n ≤ 0 → v = 0) := by
  unfold spec_l01Below.f
  by_cases e : n ≤ 0
  · rw [if_pos e]
    exact ⟨0, _, _, rfl, hc, by omega, by omega, fun _ => rfl⟩
  · rw [if_neg e]
    have tm : ∀ x : Int, 0 ≤ x → 0 ≤ Int.tmod x n ∧ Int.tmod x n < n := fun x hx => by
      rw [Int.tmod_eq_emod_of_nonneg hx]
      exact ⟨Int.emod_nonneg _ (by omega), Int.emod_lt_of_pos _ (by omega)⟩
    obtain ⟨v1, i1, h1, e1, c1, r1⟩ := byte_cur b i h hc
    by_cases e2 : n ≤ 256
    · rw [if_pos e2, e1]
      simp only [Option.bind_some]
      rw [if_neg (by omega)]
      exact ⟨_, _, _, rfl, c1, (tm _ r1.1).1, fun _ => (tm _ r1.1).2, fun h => absurd h e⟩
    · obtain ⟨v2, i2, h2, e3, c2, r2⟩ := byte_cur b i1 h1 c1
      obtain ⟨v3, i3, h3, e4, c3, r3⟩ := byte_cur b i2 h2 c2
      obtain ⟨v4, i4, h4, e5, c4, r4⟩ := byte_cur b i3 h3 c3
      rw [if_neg e2, e1]
      simp only [Option.bind_some]
      rw [e3]
      simp only [Option.bind_some]
      rw [e4]
      simp only [Option.bind_some]
      rw [e5]
      simp only [Option.bind_some]
      have hv : wrap64 (wrap64 (wrap64 (wrap64 (v1 * 16777216) + wrap64 (v2 * 65536)) + wrap64 (v3 * 256)) + v4) = v1 * 16777216 + v2 * 65536 + v3 * 256 + v4 := by
        rw [w64 (n := v1 * 16777216) (by omega) (by omega), w64 (n := v2 * 65536) (by omega) (by omega), w64 (n := v3 * 256) (by omega) (by omega), w64 (n := v1 * 16777216 + v2 * 65536) (by omega) (by omega), w64 (n := v1 * 16777216 + v2 * 65536 + v3 * 256) (by omega) (by omega), w64 (by omega) (by omega)]
      rw [if_neg (by omega), hv]
      have hnn : 0 ≤ v1 * 16777216 + v2 * 65536 + v3 * 256 + v4 := by omega
      exact ⟨_, _, _, rfl, c4, (tm _ hnn).1, fun _ => (tm _ hnn).2, fun h => absurd h e⟩
theorem places_loop (b : List Int) (d : Nat) : ∀ (k n : Nat) (out : List Int) (i h : Int), n + d = 12 → d < k → out.length = n → (∀ x ∈ out, 0 ≤ x ∧ x < 10000) → Cur b i →
    ∃ r, spec_DrawPlaces.l0 k out n b i h = some r ∧ r.length = 12 ∧ ∀ x ∈ r, 0 ≤ x ∧ x < 10000 := by
  induction d with
  | zero =>
    intro k n out i h hn hk ho hr hc
    obtain ⟨k, rfl⟩ : ∃ m, k = m + 1 := ⟨k - 1, by omega⟩
    rw [spec_DrawPlaces.l0, if_neg (by omega)]
    exact ⟨out, rfl, by omega, hr⟩
  | succ d ih =>
    intro k n out i h hn hk ho hr hc
    obtain ⟨k, rfl⟩ : ∃ m, k = m + 1 := ⟨k - 1, by omega⟩
    obtain ⟨v, i', h', e, c, r1, r2, _⟩ := below_cur b i h 10000 hc
    rw [spec_DrawPlaces.l0, if_pos (by omega), e]
    simp only [Option.bind_some]
    rw [if_pos (by omega), w64 (n := (n : Int) + 1) (by omega) (by omega), show ((n : Int) + 1) = ((n + 1 : Nat) : Int) by omega]
    refine ih k (n + 1) (out ++ [v]) i' h' (by omega) (by omega) (by simp [ho]) (fun x hx => ?_) c
    rcases List.mem_append.mp hx with hx | hx
    · exact hr x hx
    · rw [List.mem_singleton.mp hx]
      exact ⟨r1, r2 (by decide)⟩
theorem places (l : List Int) (hl : l.length ≤ 1048576) (hb : ∀ x ∈ l, (Lit.int .u8 x).wf = true) (k : Nat) (hk : 4000 < k) : ∃ r, spec_DrawPlaces.f k l = some r ∧ r.length = 12 ∧ ∀ x ∈ r, 0 ≤ x ∧ x < 10000 := by
  obtain ⟨h, e, c⟩ := new_cur l hl hb k hk
  unfold spec_DrawPlaces.f
  rw [e]
  exact places_loop l 12 k 0 [] 0 h (by decide) (by omega) rfl (by simp) c
theorem place_at (r : List Int) (hr : r.length = 12) (hx : ∀ x ∈ r, 0 ≤ x ∧ x < 10000) (n : Nat) (hn : n < 12) : ∃ v : Nat, rd r (n : Int) = v ∧ v < 10000 := by
  rw [rd_nat r n (by omega)]
  obtain ⟨h1, h2⟩ := hx _ (List.getElem_mem (show n < r.length by omega))
  exact ⟨r[n].toNat, by omega, by omega⟩
/-- All pairs of sequence numbers, one by one. -/
theorem pairs : ∀ a b : Fin 16, laws_FnSequences.l0 20 (a.val : Int) (b.val : Int) (a.val : Int) 0 = some true := by decide +kernel
theorem rounds (a b x : Int) (m : Nat) (h : laws_FnSequences.l0 20 a b x 0 = some true) : laws_FnSequences.l0 (20 + m) a b x 0 = some true := by
  induction m with
  | zero => exact h
  | succ m ih => exact laws_FnSequences.mono_l (20 + m) a b x 0 true ih
theorem FnSequences : laws_FnSequences.Pure := by
  intro l0 _ _ hb
  refine ⟨4001, ?_⟩
  unfold laws_FnSequences.f laws_big.f
  simp only [Option.bind_some]
  by_cases h : (l0.length : Int) > 1048576
  · rw [if_pos (by simpa using h)]
  · obtain ⟨r, e, hl, hr⟩ := places l0 (by omega) hb 4001 (by decide)
    obtain ⟨x, ex, hx⟩ := place_at r hl hr 0 (by decide)
    obtain ⟨y, ey, hy⟩ := place_at r hl hr 1 (by decide)
    rw [if_neg (by simpa using h), e]
    simp only [Option.bind_some]
    have ex' : rd r 0 = x := ex
    have ey' : rd r 1 = y := ey
    rw [if_pos (by omega), if_pos (by omega), ex', ey', show Int.tmod (x : Int) 16 = ((x % 16 : Nat) : Int) from rfl, show Int.tmod (y : Int) 16 = ((y % 16 : Nat) : Int) from rfl]
    have hp := pairs ⟨x % 16, Nat.mod_lt _ (by decide)⟩ ⟨y % 16, Nat.mod_lt _ (by decide)⟩
    exact rounds _ _ _ 3981 hp

end Go.Proofs.Ytaaomljhhlkmlaa.Pure
