/- The program's operations on a sender in order, beside a law's own rows and boxes. Conditions: those of the contracts. -/
import Derived.Test.YtdnekkbchlibhaaSndDraw
namespace Go.Proofs.Ytdnekkbchlibhaa.PFnSenders
open Go.RowKit Go.Proofs.YtdnekkbchlibhaaW.PrintWords Go.Proofs.YtdnekkbchlibhaaW.PrintLast Go.Proofs.YtdnekkbchlibhaaW.PrintMore Go.Proofs.Ytdnekkbchlibhaa.Pure Go.Proofs.Ytdnekkbchlibhaa.Own
set_option linter.unusedVariables false
section
variable {w W W1 : World} {rows : List MRow} {bs : List MBox} {ok : Nat → Prop} {t u : Int} {A : Option Addr} {c : Nat} {xs : List S64}
theorem inv_toQ {α : Type} {d : Kd α} {e : Nat} {ys : List α} {v : Value} (h : Inv w W rows bs) (hb : Below W.heap.size W W1) (ho : Kd.S d e W1 W.heap.size (fun _ => True) v ys) : ∃ (A : Option Addr) (c : Nat) (ok : Nat → Prop), v = .slice A ys.length c ∧ Inv w W1 (CRow d e w ok v ys :: rows) bs := by
  obtain ⟨A, c, rfl⟩ := Kd.S_slice ho
  obtain ⟨ok, h1⟩ := h.newQ hb (Kd.Q_of_R (Kd.S_R ho))
  exact ⟨A, c, ok, rfl, h1⟩
theorem at_fix {n : Nat} {ad : Addr} (h : Kd.C k64 W (some ad) n xs) (i : Int) (h0 : 0 ≤ i) (h1 : i < n) : W.cell? (ad.add (i.toNat * 2)) = some (.int .i64 (rd_T64 xs i).f0) := by
  obtain ⟨ad', _, _, e, hx, _⟩ := at_T64 h i h0 h1
  cases e
  exact hx
theorem ok_iv (h : Inv w W rows bs) (i : Nat) (hr : rows[i]? = some (CRow k64 64 w ok (.slice A xs.length c) xs)) (ho : okS t xs u) :
    Calls Try.prog 36 #[.agg #[.int .i64 t, .slice A xs.length c, .int .i64 u]] W fun e W' => e = .returned (.bool true) ∧ Inv w W' rows bs ∧ Below W.heap.size W W' := by
  have hq := Kd.Q_reads' (h.atQ hr)
  refine (impl_SenderOk.calls 2000000 t A c xs u true W hq.2.2 hq.2.1 (impl_ok t xs u ho 2000000 (by have := ho.2.1; omega))).mono ?_
  rintro e W' ⟨rfl, hb⟩
  exact ⟨rfl, h.call hb, hb⟩
theorem replay_iv (h : Inv w W rows bs) (i : Nat) (hr : rows[i]? = some (CRow k64 64 w ok (.slice A xs.length c) xs)) (ho : okS t xs u) :
    Calls Try.prog 39 #[.agg #[.int .i64 t, .slice A xs.length c, .int .i64 u]] W fun e W' => ∃ (A' : Option Addr) (c' : Nat) (ok' : Nat → Prop), e = .returned (.agg #[.int .i64 t, .slice A' xs.length c', .int .i64 0]) ∧ Inv w W' (CRow k64 64 w ok' (.slice A' xs.length c') xs :: rows) bs := by
  have hq := Kd.Q_reads' (h.atQ hr)
  refine (impl_Replay.calls 2000000 t A c xs u t xs 0 W hq.2.2 hq.2.1 (impl_replay_ok t xs u ho 2000000 (by have := ho.2.1; omega))).mono ?_
  rintro e W' ⟨v, rfl, h1, hb⟩
  obtain ⟨A', c', ok', rfl, h2⟩ := inv_toQ h hb h1
  exact ⟨A', c', ok', rfl, h2⟩
/-- What taking the first frame answers. -/
def Took (t : Int) (xs : List S64) (ru fs : Int) (b : Bool) : Prop := (b = false ∧ xs.length = 0) ∨ (b = true ∧ ru = 1 ∧ fs = (rd_T64 xs 0).f0 ∧ 0 < xs.length ∧ okS t xs 1)
theorem ready_iv (h : Inv w W rows bs) (i : Nat) (hr : rows[i]? = some (CRow k64 64 w ok (.slice A xs.length c) xs)) (ho : okS t xs 0) :
    Calls Try.prog 45 #[.agg #[.int .i64 t, .slice A xs.length c, .int .i64 0]] W fun e W' => ∃ (A' : Option Addr) (c' : Nat) (ok' : Nat → Prop) (ru fs : Int) (A2 : Option Addr) (n2 c2 : Nat) (b : Bool), e = .returned (.tuple #[.agg #[.int .i64 t, .slice A' xs.length c', .int .i64 ru], .agg #[.int .i64 fs, .slice A2 n2 c2], .bool b]) ∧ Took t xs ru fs b ∧ Inv w W' (CRow k64 64 w ok' (.slice A' xs.length c') xs :: rows) bs := by
  have hq := Kd.Q_reads' (h.atQ hr)
  by_cases hx : xs.length = 0
  · obtain rfl := List.length_eq_zero_iff.mp hx
    refine (impl_TakeReady.calls 2000000 t A c [] 0 t [] 0 0 [] false W hq.2.2 hq.2.1 (impl_ready_none t ho 2000000 (by omega))).mono ?_
    rintro e W' ⟨v, v4, rfl, h1, h2, hb⟩
    obtain ⟨A', c', ok', rfl, h3⟩ := inv_toQ h hb (Kd.S_mono h1 (fun _ _ => trivial))
    obtain ⟨A2, c2, rfl⟩ := Kd.R_slice h2
    exact ⟨A', c', ok', 0, 0, A2, _, c2, false, rfl, .inl ⟨rfl, rfl⟩, h3⟩
  · have h0 : 0 < xs.length := by omega
    have e0 : rd_T64 xs 0 = xs[0] := rdT64 xs 0 h0
    refine (impl_TakeReady.calls 2000000 t A c xs 0 t xs 1 xs[0].f0 xs[0].f1 true W hq.2.2 hq.2.1 (impl_ready_some t xs ho h0 2000000 (by have := ho.2.1; omega))).mono ?_
    rintro e W' ⟨v, v4, rfl, h1, h2, hb⟩
    obtain ⟨A', c', ok', rfl, h3⟩ := inv_toQ h hb (Kd.S_mono h1 (fun _ _ => trivial))
    obtain ⟨A2, c2, rfl⟩ := Kd.R_slice h2
    exact ⟨A', c', ok', 1, _, A2, _, c2, true, rfl, .inr ⟨rfl, rfl, by rw [e0], h0, okS_ready t xs 0 ho (by omega)⟩, h3⟩
theorem queue_iv (h : Inv w W rows bs) (i : Nat) (hr : rows[i]? = some (CRow k64 64 w ok (.slice A xs.length c) xs)) (ho : okS t xs u) {A1 : Option Addr} {c1 : Nat} {l : List Int} (h1 : Kd.C (Kd.int .i64) W A1 l.length l) (h2 : l.length ≤ c1) (hl : okB l = true) :
    Calls Try.prog 51 #[.agg #[.int .i64 t, .slice A xs.length c, .int .i64 u], .slice A1 l.length c1] W fun e W' => ∃ (t' : Int) (A' : Option Addr) (ys : List S64) (c' : Nat) (z : Bool) (ok' : Nat → Prop), e = .returned (.tuple #[.agg #[.int .i64 t', .slice A' ys.length c', .int .i64 u], .bool z]) ∧ (okS t' ys u ∧ z = decide ((xs.length : Int) < 7) ∧ (ys.length : Int) = (xs.length : Int) + (if z = true then 1 else 0)) ∧ Inv w W' (CRow k64 64 w ok' (.slice A' ys.length c') ys :: rows) bs := by
  obtain ⟨t', ys, z, e, o, z1, z2⟩ := impl_queue_ok t xs u l hl ho 2000000 (by have := ho.2.1; omega)
  have hq := Kd.Q_reads' (h.atQ hr)
  refine (impl_QueueFrame.calls 2000000 t A c xs u A1 c1 l t' ys u z W hq.2.2 hq.2.1 h1 h2 e).mono ?_
  rintro e W' ⟨v, rfl, h3, hb⟩
  obtain ⟨A', c', ok', rfl, h4⟩ := inv_toQ h hb h3
  exact ⟨t', A', ys, c', z, ok', rfl, ⟨o, z1, z2⟩, h4⟩
theorem ack_iv (h : Inv w W rows bs) (i : Nat) (hr : rows[i]? = some (CRow k64 64 w ok (.slice A xs.length c) xs)) (ho : okS t xs u) (k : Int) (h0 : 0 ≤ k) (hk : k < (xs.length : Int)) :
    Calls Try.prog 43 #[.agg #[.int .i64 t, .slice A xs.length c, .int .i64 u], .int .i64 (rd_T64 xs k).f0] W fun e W' => ∃ (A' : Option Addr) (ys : List S64) (c' : Nat) (u' : Int) (ok' : Nat → Prop), e = .returned (.tuple #[.agg #[.int .i64 t, .slice A' ys.length c', .int .i64 u'], .bool true]) ∧ (okS t ys u' ∧ (ys.length : Int) = wrap64 (wrap64 ((xs.length : Int) - k) - 1)) ∧ Inv w W' (CRow k64 64 w ok' (.slice A' ys.length c') ys :: rows) bs ∧ Below W.heap.size W W' := by
  obtain ⟨j, rfl⟩ := Int.eq_ofNat_of_zero_le h0
  have hj : j < xs.length := by omega
  have h7 := ho.2.1
  obtain ⟨r', e, o⟩ := impl_ack_ok t xs u ho j hj 2000000 (by omega)
  have hq := Kd.Q_reads' (h.atQ hr)
  have e0 : rd_T64 xs (j : Int) = xs[j] := rdT64 xs j hj
  rw [e0]
  refine (impl_TakeAck.calls 2000000 t A c xs u xs[j].f0 t (xs.drop (j + 1)) r' true W hq.2.2 hq.2.1 e).mono ?_
  rintro e W' ⟨v, rfl, h3, hb⟩
  obtain ⟨A', c', ok', rfl, h4⟩ := inv_toQ h hb h3
  exact ⟨A', _, c', r', ok', rfl, ⟨o, by rw [List.length_drop, Num.w64 (n := (xs.length : Int) - (j : Int)) (by omega) (by omega), Num.w64 (by omega) (by omega)]; omega⟩, h4, hb⟩
end
end Go.Proofs.Ytdnekkbchlibhaa.PFnSenders
