/- A slice of structs of a whole number and a slice of whole numbers, that came in: as the print's contracts want it. -/
import Derived.Test.YtdnekkbchlibhaaWWords
import Derived.Deep.SlicePairs
import Derived.ChangeSlices
import Derived.ChangeSame
import Derived.WideShapes
set_option linter.unusedVariables false
set_option linter.unusedSimpArgs false
namespace Go.Proofs.Ytdnekkbchlibhaa.Frames
open Go.RowKit Go.ChangeShapes Go.WideShapes Go.Deep Go.Proofs.YtdnekkbchlibhaaW.PrintWords
/-- What is known of one struct. -/
def Fit (q : Int × List Int) : Prop := (Lit.int .i64 q.1).wf = true ∧ q.2.length ≤ maxLen ∧ ∀ x ∈ q.2, (Lit.int .i64 x).wf = true
theorem opened {α H : Type} {enc : TypeId × Value → H} {P : Program} {w : World} {fuel : Nat} {t e te : TypeId} {f0 f1 : Field} {v : Value} {x : DataW H × List MemPlace} {d : Kd α} (mk : Int × List Int → α)
    (hsz : d.sz = 2) (hK : ∀ (q : Int × List Int) (A : Option Addr) (c : Nat), q.2.length ≤ c → (Kd.int .i64).C w A q.2.length q.2 → d.K w (mk q) [.int .i64 q.1, .slice A q.2.length c])
    (ht : P.underlying t = some (.slice e)) (he : P.underlying e = some (.struct #[f0, f1])) (ce : P.cellsOf e = 2) (o0 : f0.offset = 0) (o1 : f1.offset = 1) (c0 : P.cellsOf f0.type = 1) (c1 : P.cellsOf f1.type = 1)
    (u0 : P.underlying f0.type = some (.int .i64)) (u1 : P.underlying f1.type = some (.slice te)) (ut : P.underlying te = some (.int .i64)) (cte : P.cellsOf te = 1)
    (h : DataW.trod enc P w 0 (fun _ => true) true fuel t [v] = some x) :
    ∃ (A : Option Addr) (c : Nat) (qs : List (Int × List Int)), v = .slice A (qs.map mk).length c ∧ d.C w A (qs.map mk).length (qs.map mk) ∧ qs.length ≤ maxLen ∧ (∀ q ∈ qs, Fit q) ∧ (qs.map mk).length ≤ c := by
  rcases open_slice_pairs ht he ce o0 o1 c0 c1 h with ⟨hc, _⟩ | ⟨a, len, cap, m, n, V0, V1, D0, D1, P0, P1, hc, _, hl, hm, hmm, _, hx⟩
  · refine ⟨none, 0, [], (List.cons.inj hc).1, ⟨rfl, by simp, fun h => absurd h (by simp)⟩, by simp, by simp, by simp⟩
  · have hlm : len ≤ m := by rw [hmm]; simpa using hl
    have each : ∀ i, i < len → ∃ q : (Int × List Int) × Option Addr × Nat, V0 i = .int .i64 q.1.1 ∧ V1 i = .slice q.2.1 q.1.2.length q.2.2 ∧ q.1.2.length ≤ q.2.2 ∧ (Kd.int .i64).C w q.2.1 q.1.2.length q.1.2 ∧ Fit q.1 := by
      intro i hi
      obtain ⟨_, _, g0, g1⟩ := hx i (by omega)
      obtain ⟨z, e0, _, wz⟩ := DataW.trod_int u0 g0
      have row : ∃ (A : Option Addr) (len' cap' : Nat) (zs : List Int), V1 i = .slice A len' cap' ∧ ((A = none ∧ len' = 0 ∧ cap' = 0 ∧ zs = []) ∨ ∃ x, A = some x ∧ len' ≤ cap' ∧ cap' ≤ maxLen ∧ zs.length = cap' ∧ (∀ i, i < zs.length → w.cell? (x.add i) = some (.int .i64 (zs.getD i 0))) ∧ ∀ n ∈ zs, (Lit.int .i64 n).wf = true) := by
        rcases open_ints u1 ut cte g1 with ⟨hcs, _⟩ | ⟨b, l, c, zs, hcs, _, hl', hm', hz, _, hcell, hwz⟩
        · exact ⟨none, 0, 0, [], (List.cons.inj hcs).1, .inl ⟨rfl, rfl, rfl, rfl⟩⟩
        · exact ⟨some b, l, c, zs, (List.cons.inj hcs).1, .inr ⟨_, rfl, hl', hm', by simpa using hz, hcell, hwz⟩⟩
      obtain ⟨A, len', cap', zs, ev, hr⟩ := row
      obtain ⟨l, rfl, r1, r2, r3, r4⟩ := ReadsInt.ofRowC hr
      exact ⟨((z, l), A, cap'), (List.cons.inj e0).1, ev, r4, Kd.C_of_reads (d := (0 : Int)) (h1 := fun _ => rfl) r1, wz, r2, r3⟩
    obtain ⟨q, hq⟩ := choose_lt each
    have hv : v = .slice (some a) len cap := (List.cons.inj hc).1
    refine ⟨some a, cap, (List.range len).map (fun i => (q i).1), by simpa using hv, ?_, by simp; omega, ?_, by simpa using hl⟩
    · refine ⟨rfl, by simp; unfold maxLen at hm; omega, fun _ => ⟨a, rfl, fun j p hj => ?_⟩⟩
      have hj' : j < len := by
        have := (List.getElem?_eq_some_iff.1 hj).1
        simpa using this
      have hp : p = mk (q j).1 := by
        rw [List.getElem?_map, List.getElem?_map, List.getElem?_range hj'] at hj
        simpa using hj.symm
      obtain ⟨g0, g1, _, _⟩ := hx j (by omega)
      obtain ⟨s0, s1, s2, s3, _⟩ := hq j hj'
      refine ⟨[.int .i64 (q j).1.1, .slice (q j).2.1 (q j).1.2.length (q j).2.2], by simp [hsz], by rw [hp]; exact hK _ _ _ s2 s3, ?_⟩
      intro i u hu
      match i, hu with
      | 0, hu =>
        obtain rfl := Option.some.inj hu
        rw [hsz, Nat.add_zero, g0, s0]
      | 1, hu =>
        obtain rfl := Option.some.inj hu
        rw [hsz, g1, s1]
    · intro x hx'
      obtain ⟨i, hi, rfl⟩ := List.mem_map.mp hx'
      exact (hq i (List.mem_range.mp hi)).2.2.2.2
end Go.Proofs.Ytdnekkbchlibhaa.Frames
