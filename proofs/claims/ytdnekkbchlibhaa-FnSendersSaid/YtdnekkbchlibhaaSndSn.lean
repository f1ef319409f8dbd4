/- The reference's three operations on a sender in order, beside a drawing cursor. Conditions: those of the contracts. -/
import Derived.Test.YtdnekkbchlibhaaSndPk
namespace Go.Proofs.Ytdnekkbchlibhaa.PFnSenders
open Go.RowKit Go.Proofs.YtdnekkbchlibhaaW.PrintWords Go.Proofs.YtdnekkbchlibhaaW.PrintLast Go.Proofs.YtdnekkbchlibhaaW.PrintMore Go.Proofs.Ytdnekkbchlibhaa.Pure Go.Proofs.Ytdnekkbchlibhaa.Own
set_option linter.unusedVariables false
section
variable {w0 W W1 : World} {g gs gr : Nat} {rows : List MRow} {bs : List MBox}
theorem ready_dr {ok : Nat → Prop} {t u : Int} {A : Option Addr} {c : Nat} {xs : List S64} (h : Dr w0 W g (CRow k64 64 w0 ok (.slice A xs.length c) xs :: rows) bs) (ho : okS t xs u) :
    Calls Try.prog 44 #[.agg #[.int .i64 t, .slice A xs.length c, .int .i64 u]] W fun e W' => ∃ (t' : Int) (A' : Option Addr) (xs' : List S64) (c' : Nat) (u' : Int) (s : Int) (v : Value) (b : Bool) (ok' : Nat → Prop), e = .returned (.tuple #[.agg #[.int .i64 t', .slice A' xs'.length c', .int .i64 u'], .agg #[.int .i64 s, v], .bool b]) ∧ okS t' xs' u' ∧ Dr w0 W' g (CRow k64 64 w0 ok' (.slice A' xs'.length c') xs' :: rows) bs := by
  obtain ⟨r', s, b, z, e, ho'⟩ := step_ready t xs u ho 2000000 (by have := ho.2.1; omega)
  have hq := Kd.Q_reads' (h.has (i := 0) rfl)
  refine (spec_TakeReady.calls 2000000 t A c xs u t xs r' s b z W hq.2.2 hq.2.1 e).mono ?_
  rintro e W' ⟨v1, v4, rfl, h1, h2, hb⟩
  obtain ⟨A', c', rfl⟩ := Kd.S_slice h1
  obtain ⟨ok', hd⟩ := h.newQ hb (Kd.Q_of_R (Kd.S_R (Kd.S_mono h1 (fun _ _ => trivial))))
  exact ⟨t, A', xs, c', r', s, v4, z, ok', rfl, ho', hd.drop2⟩
theorem queue_dr {ok ok1 : Nat → Prop} {t u : Int} {A A1 : Option Addr} {c c1 : Nat} {xs : List S64} {l : List Int} (h : Dr w0 W g (RRow (Kd.int .i64) 3 w0 ok1 (.slice A1 l.length c1) l :: CRow k64 64 w0 ok (.slice A xs.length c) xs :: rows) bs) (ho : okS t xs u) (hl : l.length ≤ 1000) :
    Calls Try.prog 49 #[.agg #[.int .i64 t, .slice A xs.length c, .int .i64 u], .slice A1 l.length c1] W fun e W' => ∃ (t' : Int) (A' : Option Addr) (xs' : List S64) (c' : Nat) (u' : Int) (b : Bool) (ok' : Nat → Prop), e = .returned (.tuple #[.agg #[.int .i64 t', .slice A' xs'.length c', .int .i64 u'], .bool b]) ∧ okS t' xs' u' ∧ Dr w0 W' g (CRow k64 64 w0 ok' (.slice A' xs'.length c') xs' :: rows) bs := by
  obtain ⟨t', xs', z, e, ho'⟩ := step_queue t xs u l (by omega) ho 2000000 (by have := ho.2.1; omega)
  have hq := Kd.Q_reads' (h.has (i := 1) rfl)
  have hr := Kd.R_reads' (h.has (i := 0) rfl)
  refine (spec_QueueFrame.calls 2000000 t A c xs u A1 c1 l t' xs' u z W hq.2.2 hq.2.1 hr.2.2 hr.2.1 e).mono ?_
  rintro e W' ⟨v1, rfl, h1, hb⟩
  obtain ⟨A', c', rfl⟩ := Kd.S_slice h1
  obtain ⟨ok', hd⟩ := h.newQ hb (Kd.Q_of_R (Kd.S_R h1))
  exact ⟨t', A', xs', c', u, z, ok', rfl, ho', hd.drop2.drop2⟩
theorem ack_dr {ok : Nat → Prop} {t u : Int} {A : Option Addr} {c : Nat} {xs : List S64} (h : Dr w0 W g (CRow k64 64 w0 ok (.slice A xs.length c) xs :: rows) bs) (ho : okS t xs u) (q : Int) :
    Calls Try.prog 42 #[.agg #[.int .i64 t, .slice A xs.length c, .int .i64 u], .int .i64 q] W fun e W' => ∃ (t' : Int) (A' : Option Addr) (xs' : List S64) (c' : Nat) (u' : Int) (b : Bool) (ok' : Nat → Prop), e = .returned (.tuple #[.agg #[.int .i64 t', .slice A' xs'.length c', .int .i64 u'], .bool b]) ∧ okS t' xs' u' ∧ Dr w0 W' g (CRow k64 64 w0 ok' (.slice A' xs'.length c') xs' :: rows) bs := by
  obtain ⟨xs', u', z, e, ho'⟩ := step_ack t xs u q ho 2000000 (by have := ho.2.1; omega)
  have hq := Kd.Q_reads' (h.has (i := 0) rfl)
  refine (spec_TakeAck.calls 2000000 t A c xs u q t xs' u' z W hq.2.2 hq.2.1 e).mono ?_
  rintro e W' ⟨v1, rfl, h1, hb⟩
  obtain ⟨A', c', hs, _⟩ := Kd.Q_slice h1
  subst hs
  obtain ⟨ok', hd⟩ := h.newQ hb h1
  exact ⟨t, A', xs', c', u', z, ok', rfl, ho', hd.drop2⟩
/-- The sender that is being drawn (block gs), the result's box (block gr). -/
def Sn (w0 W : World) (g gs gr : Nat) (rows : List MRow) (bs : List MBox) : Prop :=
  ∃ (t : Int) (A : Option Addr) (xs : List S64) (c : Nat) (u : Int) (ok : Nat → Prop), okS t xs u ∧ Dr w0 W g (CRow k64 64 w0 ok (.slice A xs.length c) xs :: rows) (⟨gs, #[.int .i64 t, .slice A xs.length c, .int .i64 u], 54⟩ :: ⟨gr, #[.int .i64 0, .slice none 0 0, .int .i64 0], 54⟩ :: bs)
/-- .. whose box is written next: what it is to hold. -/
def SnV (w0 W : World) (g gs gr : Nat) (t : Int) (v : Value) (u : Int) (rows : List MRow) (bs : List MBox) : Prop :=
  ∃ (A : Option Addr) (xs : List S64) (c : Nat) (ok : Nat → Prop) (y0 y1 y2 : Value), v = .slice A xs.length c ∧ okS t xs u ∧ Dr w0 W g (CRow k64 64 w0 ok (.slice A xs.length c) xs :: rows) (⟨gs, #[y0, y1, y2], 54⟩ :: ⟨gr, #[.int .i64 0, .slice none 0 0, .int .i64 0], 54⟩ :: bs)
theorem SnV.put {t u : Int} {v : Value} (h : SnV w0 W g gs gr t v u rows bs) : Sn w0 (((W.setCell ⟨gs, 0, none⟩ (.int .i64 t)).setCell ⟨gs, 1, none⟩ v).setCell ⟨gs, 2, none⟩ (.int .i64 u)) g gs gr rows bs := by
  obtain ⟨A, xs, c, ok, y0, y1, y2, rfl, ho, h⟩ := h
  exact ⟨t, A, xs, c, u, ok, ho, ((h.put 0 rfl 0 _ rfl rfl).put 0 rfl 1 _ rfl rfl).put 0 rfl 2 _ rfl rfl⟩
theorem Sn.call (h : Sn w0 W g gs gr rows bs) (hb : Below W.heap.size W W1) : Sn w0 W1 g gs gr rows bs := by
  obtain ⟨t, A, xs, c, u, ok, ho, h⟩ := h
  exact ⟨t, A, xs, c, u, ok, ho, h.call hb⟩
theorem Sn.drew (h : Sn w0 W g gs gr rows bs) : Sn w0 W.drew g gs gr rows bs := h.call (below_drew1 (Below.refl _ _))
theorem Sn.drewN (h : Sn w0 W g gs gr rows bs) (n : Nat) : Sn w0 (W.drewN n) g gs gr rows bs := h.call (pw_below_drewN (Below.refl _ _) n)
theorem okS_nil (t : Int) (ht : 0 ≤ t ∧ t ≤ 15) : okS t [] 0 := ⟨ht, by simp, by simp, fun i hi => by simp at hi⟩
theorem nilQ {rows : List MRow} {b : MBox} (h : Inv w0 W rows (b :: bs)) : Inv w0 W (CRow k64 64 w0 (fun _ => False) (.slice none 0 0) [] :: rows) (b :: bs) where
  below := h.below
  good := by
    intro s hs
    rcases List.mem_cons.mp hs with rfl | hs
    · exact ⟨fun k hk => hk.elim, Kd.Q_of_R (Kd.R_nil _ _ _ _ _), Q_mv⟩
    · exact h.good s hs
  apart := List.pairwise_cons.mpr ⟨fun s hs k hk => hk.elim, h.apart⟩
  box := h.box
  bapart := h.bapart
  cross := by
    intro s hs b hb1
    rcases List.mem_cons.mp hs with rfl | hs
    · exact fun hk => hk.elim
    · exact h.cross s hs b hb1
theorem Sn.start {t : Int} (ht : 0 ≤ t ∧ t ≤ 15) {y0 y1 y2 : Value} (h : Dr w0 W g rows (⟨gs, #[y0, y1, y2], 54⟩ :: ⟨gr, #[.int .i64 0, .slice none 0 0, .int .i64 0], 54⟩ :: bs)) : SnV w0 W g gs gr t (.slice none 0 0) 0 rows bs :=
  ⟨none, [], 0, _, y0, y1, y2, rfl, okS_nil t ht, h.map fun _ h => nilQ h⟩
end
end Go.Proofs.Ytdnekkbchlibhaa.PFnSenders
