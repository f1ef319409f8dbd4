/- The reference's l04Packet and l08Bytes answer at a cursor: a packet with a short row, a short row. Conditions: the cursor stands in its bytes. -/
import Derived.Test.YtdnekkbchlibhaaSndDr
namespace Go.Proofs.Ytdnekkbchlibhaa.PFnSenders
open Go.RowKit Go.Proofs.YtdnekkbchlibhaaW.PrintWords Go.Proofs.YtdnekkbchlibhaaW.PrintLast Go.Proofs.YtdnekkbchlibhaaW.PrintMore Go.Proofs.Ytdnekkbchlibhaa.Pure Go.Proofs.Ytdnekkbchlibhaa.Own
attribute [local go_sem] max2_int min2_int max_two min_two max_three min_three max_four min_four   -- for this text's walks alone
set_option linter.unusedVariables false
set_option linter.unusedSimpArgs false


section
variable {w0 W W1 : World} {g gp gr : Nat} {rows : List MRow} {bs : List MBox}
/-- The packet that is being drawn (block gp), the result's box (block gr). -/
def Pk (w0 W : World) (g gp gr : Nat) (rows : List MRow) (bs : List MBox) : Prop :=
  ∃ (a0 a1 a2 a3 a4 a5 a6 : Int) (A : Option Addr) (c : Nat) (l : List Int) (ok : Nat → Prop), l.length ≤ 100 ∧ Dr w0 W g (RRow (Kd.int .i64) 3 w0 ok (.slice A l.length c) l :: rows) (⟨gp, #[.int .i64 a0, .int .i64 a1, .int .i64 a2, .int .i64 a3, .int .i64 a4, .int .i64 a5, .int .i64 a6, .slice A l.length c], 26⟩ :: ⟨gr, #[.int .i64 0, .int .i64 0, .int .i64 0, .int .i64 0, .int .i64 0, .int .i64 0, .int .i64 0, .slice none 0 0], 26⟩ :: bs)
/-- .. with a new row. -/
def PkV (w0 W : World) (g gp gr : Nat) (v : Value) (rows : List MRow) (bs : List MBox) : Prop :=
  ∃ (a0 a1 a2 a3 a4 a5 a6 : Int) (x : Value) (l : List Int) (ok : Nat → Prop), l.length ≤ 100 ∧ Dr w0 W g (RRow (Kd.int .i64) 3 w0 ok v l :: rows) (⟨gp, #[.int .i64 a0, .int .i64 a1, .int .i64 a2, .int .i64 a3, .int .i64 a4, .int .i64 a5, .int .i64 a6, x], 26⟩ :: ⟨gr, #[.int .i64 0, .int .i64 0, .int .i64 0, .int .i64 0, .int .i64 0, .int .i64 0, .int .i64 0, .slice none 0 0], 26⟩ :: bs)
theorem Pk.start (h : Dr w0 W g rows (⟨gp, #[.int .i64 0, .int .i64 0, .int .i64 0, .int .i64 0, .int .i64 0, .int .i64 0, .int .i64 0, .slice none 0 0], 26⟩ :: ⟨gr, #[.int .i64 0, .int .i64 0, .int .i64 0, .int .i64 0, .int .i64 0, .int .i64 0, .int .i64 0, .slice none 0 0], 26⟩ :: bs)) : Pk w0 W g gp gr rows bs :=
  ⟨0, 0, 0, 0, 0, 0, 0, none, 0, [], _, by simp, h.map fun _ h => h.nilR⟩
theorem Pk.call (h : Pk w0 W g gp gr rows bs) (hb : Below W.heap.size W W1) : Pk w0 W1 g gp gr rows bs := by
  obtain ⟨a0, a1, a2, a3, a4, a5, a6, A, c, l, ok, hl, h⟩ := h
  exact ⟨a0, a1, a2, a3, a4, a5, a6, A, c, l, ok, hl, h.call hb⟩
theorem Pk.drew (h : Pk w0 W g gp gr rows bs) : Pk w0 W.drew g gp gr rows bs := h.call (below_drew1 (Below.refl _ _))
theorem Pk.drewN (h : Pk w0 W g gp gr rows bs) (n : Nat) : Pk w0 (W.drewN n) g gp gr rows bs := h.call (pw_below_drewN (Below.refl _ _) n)
theorem Pk.nil (h : Pk w0 W g gp gr rows bs) : Pk w0 (W.setCell ⟨gp, 7, none⟩ (.slice none 0 0)) g gp gr rows bs := by
  obtain ⟨a0, a1, a2, a3, a4, a5, a6, A, c, l, ok, hl, h⟩ := h
  exact ⟨a0, a1, a2, a3, a4, a5, a6, none, 0, [], _, by simp, (h.drop.put 0 rfl 7 _ rfl rfl).map fun _ h => h.nilR⟩
theorem PkV.put (v : Value) (h : PkV w0 W g gp gr v rows bs) : Pk w0 (W.setCell ⟨gp, 7, none⟩ v) g gp gr rows bs := by
  obtain ⟨a0, a1, a2, a3, a4, a5, a6, x, l, ok, hl, h⟩ := h
  obtain ⟨A, c, rfl⟩ := Kd.R_slice (h.has (i := 0) rfl)
  exact ⟨a0, a1, a2, a3, a4, a5, a6, A, c, l, ok, hl, h.put 0 rfl 7 _ rfl rfl⟩
theorem PkV.of (v : Value) (h : PkV w0 W g gp gr v rows bs) (hb : Below W.heap.size W W1) : PkV w0 W1 g gp gr v rows bs := by
  obtain ⟨a0, a1, a2, a3, a4, a5, a6, x, l, ok, hl, h⟩ := h
  exact ⟨a0, a1, a2, a3, a4, a5, a6, x, l, ok, hl, h.call hb⟩
theorem Pk.put0 (h : Pk w0 W g gp gr rows bs) (y : Int) : Pk w0 (W.setCell ⟨gp, 0, none⟩ (.int .i64 y)) g gp gr rows bs := by
  obtain ⟨a0, a1, a2, a3, a4, a5, a6, A, c, l, ok, hl, h⟩ := h
  exact ⟨y, a1, a2, a3, a4, a5, a6, A, c, l, ok, hl, h.put 0 rfl 0 _ rfl rfl⟩
theorem Pk.put1 (h : Pk w0 W g gp gr rows bs) (y : Int) : Pk w0 (W.setCell ⟨gp, 1, none⟩ (.int .i64 y)) g gp gr rows bs := by
  obtain ⟨a0, a1, a2, a3, a4, a5, a6, A, c, l, ok, hl, h⟩ := h
  exact ⟨a0, y, a2, a3, a4, a5, a6, A, c, l, ok, hl, h.put 0 rfl 1 _ rfl rfl⟩
theorem Pk.put2 (h : Pk w0 W g gp gr rows bs) (y : Int) : Pk w0 (W.setCell ⟨gp, 2, none⟩ (.int .i64 y)) g gp gr rows bs := by
  obtain ⟨a0, a1, a2, a3, a4, a5, a6, A, c, l, ok, hl, h⟩ := h
  exact ⟨a0, a1, y, a3, a4, a5, a6, A, c, l, ok, hl, h.put 0 rfl 2 _ rfl rfl⟩
theorem Pk.put3 (h : Pk w0 W g gp gr rows bs) (y : Int) : Pk w0 (W.setCell ⟨gp, 3, none⟩ (.int .i64 y)) g gp gr rows bs := by
  obtain ⟨a0, a1, a2, a3, a4, a5, a6, A, c, l, ok, hl, h⟩ := h
  exact ⟨a0, a1, a2, y, a4, a5, a6, A, c, l, ok, hl, h.put 0 rfl 3 _ rfl rfl⟩
theorem Pk.put4 (h : Pk w0 W g gp gr rows bs) (y : Int) : Pk w0 (W.setCell ⟨gp, 4, none⟩ (.int .i64 y)) g gp gr rows bs := by
  obtain ⟨a0, a1, a2, a3, a4, a5, a6, A, c, l, ok, hl, h⟩ := h
  exact ⟨a0, a1, a2, a3, y, a5, a6, A, c, l, ok, hl, h.put 0 rfl 4 _ rfl rfl⟩
theorem Pk.put5 (h : Pk w0 W g gp gr rows bs) (y : Int) : Pk w0 (W.setCell ⟨gp, 5, none⟩ (.int .i64 y)) g gp gr rows bs := by
  obtain ⟨a0, a1, a2, a3, a4, a5, a6, A, c, l, ok, hl, h⟩ := h
  exact ⟨a0, a1, a2, a3, a4, y, a6, A, c, l, ok, hl, h.put 0 rfl 5 _ rfl rfl⟩
theorem Pk.put6 (h : Pk w0 W g gp gr rows bs) (y : Int) : Pk w0 (W.setCell ⟨gp, 6, none⟩ (.int .i64 y)) g gp gr rows bs := by
  obtain ⟨a0, a1, a2, a3, a4, a5, a6, A, c, l, ok, hl, h⟩ := h
  exact ⟨a0, a1, a2, a3, a4, a5, y, A, c, l, ok, hl, h.put 0 rfl 6 _ rfl rfl⟩
theorem Pk.cells (h : Pk w0 W g gp gr rows bs) : ∃ (a0 a1 a2 a3 a4 a5 a6 : Int) (A : Option Addr) (n c : Nat), (W.cell? ⟨gp, 0, none⟩ = some (.int .i64 a0) ∧ W.cell? ⟨gp, 1, none⟩ = some (.int .i64 a1) ∧ W.cell? ⟨gp, 2, none⟩ = some (.int .i64 a2) ∧ W.cell? ⟨gp, 3, none⟩ = some (.int .i64 a3) ∧ W.cell? ⟨gp, 4, none⟩ = some (.int .i64 a4) ∧ W.cell? ⟨gp, 5, none⟩ = some (.int .i64 a5) ∧ W.cell? ⟨gp, 6, none⟩ = some (.int .i64 a6) ∧ W.cell? ⟨gp, 7, none⟩ = some (.slice A n c)) ∧ W.frozen? ⟨gp, 0, none⟩ = false ∧ W.frozen? ⟨gp, 1, none⟩ = false ∧ W.frozen? ⟨gp, 2, none⟩ = false ∧ W.frozen? ⟨gp, 3, none⟩ = false ∧ W.frozen? ⟨gp, 4, none⟩ = false ∧ W.frozen? ⟨gp, 5, none⟩ = false ∧ W.frozen? ⟨gp, 6, none⟩ = false ∧ W.frozen? ⟨gp, 7, none⟩ = false := by
  obtain ⟨a0, a1, a2, a3, a4, a5, a6, A, c, l, ok, hl, h⟩ := h
  have hb := h.blk (i := 0) rfl
  exact ⟨a0, a1, a2, a3, a4, a5, a6, A, l.length, c, ⟨(blk_cell hb 0).trans rfl, (blk_cell hb 1).trans rfl, (blk_cell hb 2).trans rfl, (blk_cell hb 3).trans rfl, (blk_cell hb 4).trans rfl, (blk_cell hb 5).trans rfl, (blk_cell hb 6).trans rfl, (blk_cell hb 7).trans rfl⟩, blk_frozen hb 0, blk_frozen hb 1, blk_frozen hb 2, blk_frozen hb 3, blk_frozen hb 4, blk_frozen hb 5, blk_frozen hb 6, blk_frozen hb 7⟩
theorem Pk.below_pk (h : Pk w0 W g gp gr rows bs) (n : Int) : Calls Try.prog 70 #[.pointer (some ⟨g, 0, none⟩), .int .i64 n] W fun e W' => ∃ r, e = .returned (.int .i64 r) ∧ (0 ≤ r ∧ (0 < n → r < n) ∧ (n ≤ 0 → r = 0)) ∧ Pk w0 W' g gp gr rows bs := by
  obtain ⟨a0, a1, a2, a3, a4, a5, a6, A, c, l, ok, hl, h⟩ := h
  refine (below_dr h n).mono ?_
  rintro e W' ⟨r, rfl, hr, hd⟩
  exact ⟨r, rfl, hr, a0, a1, a2, a3, a4, a5, a6, A, c, l, ok, hl, hd⟩
/-- A literal row. -/
def Lt (W : World) (g : Nat) (v : Value) : Prop := ∃ A c l, v = .slice A l.length c ∧ Kd.C (Kd.int .i64) W A l.length l ∧ l.length ≤ c ∧ (∀ ad, A = some ad → 0 < l.length → ad.block ≠ g) ∧ l ≠ []
theorem Pk.lit (h : Pk w0 W g gp gr rows bs) {v : Value} {l : List Int} {ok : Nat → Prop} (ho : Kd.R (Kd.int .i64) 3 W1 W.heap.size ok v l) (hl : l ≠ []) : Lt W1 g v := by
  obtain ⟨a0, a1, a2, a3, a4, a5, a6, A, c, l', ok', hl', h⟩ := h
  obtain ⟨f0, f1, f2, hc, ⟨A0, c0, hb, h2, h3⟩, hs⟩ := h.step
  obtain ⟨A1, c1, rfl⟩ := Kd.R_slice ho
  refine ⟨A1, c1, l, rfl, (Kd.R_reads' ho).2.2, (Kd.R_reads' ho).2.1, far_slice (c := c1) ?_, hl⟩
  intro he
  have h5 := Kd.R_base ho g he.symm
  have h6 := blk_lt hb
  omega
theorem Pk.lit2 {v : Value} {l : List Int} {ok : Nat → Prop} (hb : Below W.heap.size W W1) (ho : Kd.R (Kd.int .i64) 3 W1 W.heap.size ok v l) (hl : l ≠ []) (h : Pk w0 W g gp gr rows bs) : Pk w0 W1 g gp gr rows bs ∧ Lt W1 g v := ⟨h.call hb, h.lit ho hl⟩
theorem Pk.pick_pk (h : Pk w0 W g gp gr rows bs) (v : Value) (hl : Lt W g v) : Calls Try.prog 77 #[.pointer (some ⟨g, 0, none⟩), v] W fun e W' => ∃ r, e = .returned (.int .i64 r) ∧ Pk w0 W' g gp gr rows bs := by
  obtain ⟨a0, a1, a2, a3, a4, a5, a6, A, c, l, ok, hll, h⟩ := h
  obtain ⟨A1, c1, l1, rfl, h1, h2, h3, h4⟩ := hl
  refine (pick_dr h A1 c1 l1 h1 h2 h3 h4).mono ?_
  rintro e W' ⟨r, rfl, hd⟩
  exact ⟨r, rfl, a0, a1, a2, a3, a4, a5, a6, A, c, l, ok, hll, hd⟩
theorem Pk.data_pk (h : Pk w0 W g gp gr rows bs) (n : Int) (hn : n ≤ 100) : Calls Try.prog 99 #[.pointer (some ⟨g, 0, none⟩), .int .i64 n] W fun e W' => ∃ A n c, e = .returned (.slice A n c) ∧ Pk w0 W' g gp gr rows bs ∧ PkV w0 W' g gp gr (.slice A n c) rows bs := by
  obtain ⟨a0, a1, a2, a3, a4, a5, a6, A, c, l, ok, hl, h⟩ := h
  refine (data_dr h n hn).mono ?_
  rintro e W' ⟨v, l1, ok1, rfl, hl1, hd⟩
  obtain ⟨A1, c1, rfl⟩ := Kd.R_slice (hd.has (i := 0) rfl)
  exact ⟨A1, l1.length, c1, rfl, ⟨a0, a1, a2, a3, a4, a5, a6, A, c, l, ok, hl, hd.drop⟩, ⟨a0, a1, a2, a3, a4, a5, a6, _, l1, ok1, hl1, hd.drop2⟩⟩
theorem cw_any {P : Program} {c : Code} {Q : Exit → Act → World → Prop} {a : Act} (I : World → Prop) (h : I W) (hn : ∀ W1, I W1 → Code.wp P c Q a W1) : Code.wp P c Q a W := hn W h
/-- The world's name is forgotten: what it holds is enough. -/
theorem wp_any {P : Program} {ops : Array Oper} {ls : List Oper} {Q : Exit → Act → World → Prop} {a : Act} (I : World → Prop) (h : I W) (hn : ∀ W1, I W1 → wpList P ops Q ls a W1) : wpList P ops Q ls a W := hn W h
end
def spec_l04Packet.T25 : Bool × List (List Nat × List Nat) := (true, [([], []), ([], []), ([1], [1]), ([], []), ([3], [3]), ([2, 4], [2, 4]), ([0, 5, 4], [0, 5]), ([0, 1, 2, 3, 4, 5, 6], []), ([7, 6, 6, 0, 1, 2, 3, 4, 5, 6], [6, 7])])
def spec_l04Packet.B25 : List Nat := [0, 0, 2, 0, 8, 30, 63, 127, 255]
theorem spec_l04Packet.tab25 : rtab .any (opsOf Try.f56 25) = spec_l04Packet.T25 := by kernel_rfl
theorem spec_l04Packet.bits25 : waitsOk spec_l04Packet.T25.2 spec_l04Packet.B25 = true := by kernel_rfl

end Go.Proofs.Ytdnekkbchlibhaa.PFnSenders
