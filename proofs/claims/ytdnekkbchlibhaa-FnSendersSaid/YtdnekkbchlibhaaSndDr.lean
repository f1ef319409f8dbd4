/- A drawing cursor beside a law's own rows and boxes, and what the small drawing functions answer there. Conditions: those of the functions' contracts. -/
import Derived.Test.YtdnekkbchlibhaaSndEnc
import Derived.Test.YtdnekkbchlibhaaOwnQ
namespace Go.Proofs.Ytdnekkbchlibhaa.Own
open Go.RowKit Go.Proofs.YtdnekkbchlibhaaW.PrintWords Go.Proofs.YtdnekkbchlibhaaW.PrintLast Go.Proofs.YtdnekkbchlibhaaW.PrintMore
section
variable {α : Type} {w W W1 : World} {rows : List MRow} {bs : List MBox} {d : Kd α} {e : Nat} {xs ys : List α} {v : Value}
/-- The first box turned, all else stayed. -/
theorem Inv.turn {g t t' : Nat} {cs cs' : Array Value} (h : Inv w W rows (⟨g, cs, t⟩ :: bs)) (hb : Below w.heap.size w W1) (hk : KeepBut W W1 g none) (hc : W1.heap[g]? = some (.cells cs' t' (0, 0))) : Inv w W1 rows (⟨g, cs', t'⟩ :: bs) where
  below := hb
  good := fun r hr => ⟨fun k hk2 => ⟨((h.good r hr).bd k hk2).1, Nat.lt_of_lt_of_le ((h.good r hr).bd k hk2).2 hk.1⟩, (h.good r hr).mv _ _ (fun k hk2 => hk.2 k ((h.good r hr).bd k hk2).2 (fun he => h.cross r hr _ List.mem_cons_self (by rw [he] at hk2; exact hk2)) (by simp)) (h.good r hr).is, (h.good r hr).mv⟩
  apart := h.apart
  box := by
    intro b hb1
    rcases List.mem_cons.mp hb1 with rfl | hb1
    · exact ⟨hc, (h.box _ List.mem_cons_self).2⟩
    · have hn := (List.pairwise_cons.mp h.bapart).1 b hb1
      have hx := h.box b (List.mem_cons_of_mem _ hb1)
      exact ⟨(hk.2 _ (blk_lt hx.1) (fun he => hn he.symm) (by simp)).trans hx.1, hx.2⟩
  bapart := List.pairwise_cons.mpr ⟨fun b hb1 => (List.pairwise_cons.mp h.bapart).1 b hb1, (List.pairwise_cons.mp h.bapart).2⟩
  cross := by
    intro r hr b hb1
    rcases List.mem_cons.mp hb1 with rfl | hb1
    · exact h.cross r hr ⟨g, cs, t⟩ List.mem_cons_self
    · exact h.cross r hr b (List.mem_cons_of_mem _ hb1)
/-- A row that stands in blocks which were not there before. -/
theorem Inv.addrow (h : Inv w W rows bs) {bs1 : List MBox} (h1 : Inv w W1 rows bs1) (hbs : ∀ b ∈ bs1, b.g < W.heap.size) (r : MRow) (hg : r.good W W1) (hw : w.heap.size ≤ W.heap.size) : Inv w W1 (r :: rows) bs1 where
  below := h1.below
  good := by
    intro s hs
    rcases List.mem_cons.mp hs with rfl | hs
    · exact ⟨fun k hk => ⟨Nat.le_trans hw (hg.bd k hk).1, (hg.bd k hk).2⟩, hg.is, hg.mv⟩
    · exact h1.good s hs
  apart := List.pairwise_cons.mpr ⟨fun s hs k hk hk2 => Nat.lt_irrefl _ (Nat.lt_of_lt_of_le ((h.good s hs).bd k hk2).2 (hg.bd k hk).1), h1.apart⟩
  box := h1.box
  bapart := h1.bapart
  cross := by
    intro s hs b hb1
    rcases List.mem_cons.mp hs with rfl | hs
    · exact fun hk => Nat.lt_irrefl _ (Nat.lt_of_lt_of_le (hbs b hb1) (hg.bd _ hk).1)
    · exact h1.cross s hs b hb1
theorem Inv.drop {r : MRow} (h : Inv w W (r :: rows) bs) : Inv w W rows bs where
  below := h.below
  good := fun s hs => h.good s (List.mem_cons_of_mem _ hs)
  apart := (List.pairwise_cons.mp h.apart).2
  box := h.box
  bapart := h.bapart
  cross := fun s hs => h.cross s (List.mem_cons_of_mem _ hs)
theorem Inv.drop2 {r s : MRow} (h : Inv w W (r :: s :: rows) bs) : Inv w W (r :: rows) bs where
  below := h.below
  good := fun q hq => h.good q (by rcases List.mem_cons.mp hq with rfl | hq <;> simp_all)
  apart := List.pairwise_cons.mpr ⟨fun q hq => (List.pairwise_cons.mp h.apart).1 q (List.mem_cons_of_mem _ hq), (List.pairwise_cons.mp (List.pairwise_cons.mp h.apart).2).2⟩
  box := h.box
  bapart := h.bapart
  cross := fun q hq => h.cross q (by rcases List.mem_cons.mp hq with rfl | hq <;> simp_all)
theorem Inv.perm {bs' : List MBox} (h : Inv w W rows bs) (hp : bs.Perm bs') : Inv w W rows bs' where
  below := h.below
  good := h.good
  apart := h.apart
  box := fun c hc => h.box c (hp.mem_iff.mpr hc)
  bapart := (hp.pairwise_iff (fun h => Ne.symm h)).mp h.bapart
  cross := fun r hr c hc => h.cross r hr c (hp.mem_iff.mpr hc)
theorem Inv.swap {a b : MBox} (h : Inv w W rows (a :: b :: bs)) : Inv w W rows (b :: a :: bs) := h.perm (List.Perm.swap _ _ _)
theorem Inv.dropbox {b : MBox} (h : Inv w W rows (b :: bs)) : Inv w W rows bs where
  below := h.below
  good := h.good
  apart := h.apart
  box := fun c hc => h.box c (List.mem_cons_of_mem _ hc)
  bapart := (List.pairwise_cons.mp h.bapart).2
  cross := fun r hr c hc => h.cross r hr c (List.mem_cons_of_mem _ hc)
theorem Inv.nilR (h : Inv w W rows bs) : Inv w W (RRow d e w (fun _ => False) (.slice none 0 0) [] :: rows) bs where
  below := h.below
  good := by
    intro s hs
    rcases List.mem_cons.mp hs with rfl | hs
    · exact ⟨fun k hk => hk.elim, Kd.R_nil _ _ _ _ _, R_mv⟩
    · exact h.good s hs
  apart := List.pairwise_cons.mpr ⟨fun s hs k hk => hk.elim, h.apart⟩
  box := h.box
  bapart := h.bapart
  cross := by
    intro s hs b hb1
    rcases List.mem_cons.mp hs with rfl | hs
    · exact fun hk => hk.elim
    · exact h.cross s hs b hb1
theorem newR_good (ho : d.R e W1 W.heap.size (fun _ => True) v xs) (hw : w.heap.size ≤ W.heap.size) : (RRow d e w (fun k => W.heap.size ≤ k ∧ k < W1.heap.size) v xs).good W W1 :=
  ⟨fun _ hk => hk, Kd.R_lower (Kd.R_mono (Kd.R_bound ho) (fun _ hk => ⟨hk.2.1, hk.2.2.1⟩)) hw, R_mv⟩
theorem newQ_good (ho : d.Q e W1 W.heap.size (fun _ => True) v xs) (hw : w.heap.size ≤ W.heap.size) : (CRow d e w (fun k => W.heap.size ≤ k ∧ k < W1.heap.size) v xs).good W W1 :=
  ⟨fun _ hk => hk, Kd.Q_lower (Kd.Q_mono (Kd.Q_bound ho) (fun _ hk => ⟨hk.2.1, hk.2.2.1⟩)) hw, Q_mv⟩
end
end Go.Proofs.Ytdnekkbchlibhaa.Own
namespace Go.Proofs.Ytdnekkbchlibhaa.PFnSenders
open Go.RowKit Go.Proofs.YtdnekkbchlibhaaW.PrintWords Go.Proofs.YtdnekkbchlibhaaW.PrintLast Go.Proofs.YtdnekkbchlibhaaW.PrintMore Go.Proofs.Ytdnekkbchlibhaa.Pure Go.Proofs.Ytdnekkbchlibhaa.Own
section
variable {w0 W W1 : World} {g : Nat} {rows : List MRow} {bs : List MBox}
/-- The cursor's box beside the law's own. -/
def Dr (w0 W : World) (g : Nat) (rows : List MRow) (bs : List MBox) : Prop :=
  ∃ A c f0 f1 f2, Cur f0 f1 ∧ Kd.C (Kd.int .u8) w0 A f0.length f0 ∧ Inv w0 W rows (⟨g, #[.slice A f0.length c, .int .i64 f1, .int .i64 f2], 102⟩ :: bs)
theorem Dr.below (h : Dr w0 W g rows bs) : Below w0.heap.size w0 W := by
  obtain ⟨_, _, _, _, _, _, _, h⟩ := h
  exact h.below
theorem Dr.step (h : Dr w0 W g rows bs) : ∃ f0 f1 f2, Cur f0 f1 ∧ IsS102 w0 W g f0 f1 f2 ∧
    (∀ W1 f1' f2', IsS102 w0 W1 g f0 f1' f2' → Cur f0 f1' → Below w0.heap.size w0 W1 → KeepBut W W1 g none → Dr w0 W1 g rows bs ∧
      ∀ r : MRow, r.good W W1 → Dr w0 W1 g (r :: rows) bs) := by
  obtain ⟨A, c, f0, f1, f2, hc, hr, hI⟩ := h
  have hb := hI.box _ List.mem_cons_self
  refine ⟨f0, f1, f2, hc, ⟨A, c, hb.1, hb.2, hr⟩, ?_⟩
  rintro W1 f1' f2' ⟨A', c', h1, h2, h3⟩ hc' hB hK
  have ht := hI.turn hB hK h1
  refine ⟨⟨A', c', f0, f1', f2', hc', h3, ht⟩, fun r hr2 => ⟨A', c', f0, f1', f2', hc', h3, hI.addrow ht ?_ r hr2 hI.below.size⟩⟩
  intro b hb1
  rcases List.mem_cons.mp hb1 with rfl | hb1
  · exact blk_lt hb.1
  · exact blk_lt (hI.box b (List.mem_cons_of_mem _ hb1)).1
theorem Dr.call (h : Dr w0 W g rows bs) (hb : Below W.heap.size W W1) : Dr w0 W1 g rows bs := by
  obtain ⟨A, c, f0, f1, f2, hc, hr, hI⟩ := h
  exact ⟨A, c, f0, f1, f2, hc, hr, hI.call hb⟩
theorem Dr.drew (h : Dr w0 W g rows bs) : Dr w0 W.drew g rows bs := h.call (below_drew1 (Below.refl _ _))
theorem Dr.drewN (h : Dr w0 W g rows bs) (n : Nat) : Dr w0 (W.drewN n) g rows bs := h.call (pw_below_drewN (Below.refl _ _) n)
theorem Dr.map {rows' : List MRow} {bs' : List MBox} (h : Dr w0 W g rows bs) (f : ∀ b, Inv w0 W rows (b :: bs) → Inv w0 W1 rows' (b :: bs')) : Dr w0 W1 g rows' bs' := by
  obtain ⟨A, c, f0, f1, f2, hc, hr, hI⟩ := h
  exact ⟨A, c, f0, f1, f2, hc, hr, f _ hI⟩
theorem Dr.drop {r : MRow} (h : Dr w0 W g (r :: rows) bs) : Dr w0 W g rows bs := h.map fun _ => Inv.drop
theorem Dr.drop2 {r s : MRow} (h : Dr w0 W g (r :: s :: rows) bs) : Dr w0 W g (r :: rows) bs := h.map fun _ => Inv.drop2
theorem Dr.dropbox {b : MBox} (h : Dr w0 W g rows (b :: bs)) : Dr w0 W g rows bs := h.map fun _ h => h.swap.dropbox
theorem Dr.perm {bs' : List MBox} (h : Dr w0 W g rows bs) (hp : bs.Perm bs') : Dr w0 W g rows bs' := h.map fun _ h => h.perm (List.Perm.cons _ hp)
/-- A box that was made. -/
theorem Dr.newbox (h : Dr w0 W g rows bs) (hb : Below W.heap.size W W1) {g1 : Nat} (hg : g1 = W.heap.size) {cs : Array Value} {t : Nat} (hc : W1.heap[g1]? = some (.cells cs t (0, 0))) : Dr w0 W1 g rows (⟨g1, cs, t⟩ :: bs) := h.map fun _ h => (h.newbox hb hg hc).swap
theorem Dr.put (h : Dr w0 W g rows bs) (i : Nat) {g1 t : Nat} {cs cs' : Array Value} {bs' : List MBox} (hb : bs[i]? = some ⟨g1, cs, t⟩) (j : Nat) (u : Value) (e : cs.setIfInBounds j u = cs') (e2 : bs.set i ⟨g1, cs', t⟩ = bs') : Dr w0 (W.setCell ⟨g1, j, none⟩ u) g rows bs' :=
  h.map fun b h => h.put' (i + 1) (by simpa using hb) j u e (by rw [List.set_cons_succ, e2])
theorem Dr.blk (h : Dr w0 W g rows bs) {i : Nat} {g1 t : Nat} {cs : Array Value} (hb : bs[i]? = some ⟨g1, cs, t⟩) : W.heap[g1]? = some (.cells cs t (0, 0)) := by
  obtain ⟨A, c, f0, f1, f2, hc, hr, hI⟩ := h
  exact hI.blk (i := i + 1) (by simpa using hb)
theorem Dr.has (h : Dr w0 W g rows bs) {i : Nat} {r : MRow} (hr : rows[i]? = some r) : r.P W := by
  obtain ⟨A, c, f0, f1, f2, hc, hr2, hI⟩ := h
  exact hI.has hr
theorem Dr.newR {α : Type} {d : Kd α} {e : Nat} {v : Value} {xs : List α} (h : Dr w0 W g rows bs) (hb : Below W.heap.size W W1) (ho : d.R e W1 W.heap.size (fun _ => True) v xs) : ∃ ok, Dr w0 W1 g (RRow d e w0 ok v xs :: rows) bs := by
  obtain ⟨A, c, f0, f1, f2, hc, hr, hI⟩ := h
  obtain ⟨ok, h⟩ := hI.newR hb ho
  exact ⟨ok, A, c, f0, f1, f2, hc, hr, h⟩
theorem Dr.newQ {α : Type} {d : Kd α} {e : Nat} {v : Value} {xs : List α} (h : Dr w0 W g rows bs) (hb : Below W.heap.size W W1) (ho : d.Q e W1 W.heap.size (fun _ => True) v xs) : ∃ ok, Dr w0 W1 g (CRow d e w0 ok v xs :: rows) bs := by
  obtain ⟨A, c, f0, f1, f2, hc, hr, hI⟩ := h
  obtain ⟨ok, h⟩ := hI.newQ hb ho
  exact ⟨ok, A, c, f0, f1, f2, hc, hr, h⟩
/-- What is drawn below n. -/
theorem below_dr (h : Dr w0 W g rows bs) (n : Int) : Calls Try.prog 70 #[.pointer (some ⟨g, 0, none⟩), .int .i64 n] W fun e W' => ∃ r, e = .returned (.int .i64 r) ∧ (0 ≤ r ∧ (0 < n → r < n) ∧ (n ≤ 0 → r = 0)) ∧ Dr w0 W' g rows bs := by
  obtain ⟨f0, f1, f2, hc, hI, hs⟩ := h.step
  obtain ⟨v, i', h', e, c, r⟩ := below_cur f0 f1 f2 n hc
  refine (spec_l01Below.calls g f0 f1 f2 n v i' h' w0 W hI h.below e).mono ?_
  rintro e W' ⟨rfl, hI', hB', hK⟩
  exact ⟨v, rfl, r, (hs W' i' h' hI' c hB' hK).1⟩
theorem pick_dr (h : Dr w0 W g rows bs) (A : Option Addr) (c : Nat) (l : List Int) (hr : Kd.C (Kd.int .i64) W A l.length l) (hc : l.length ≤ c) (hf : ∀ ad, A = some ad → 0 < l.length → ad.block ≠ g) (hl : l ≠ []) : Calls Try.prog 77 #[.pointer (some ⟨g, 0, none⟩), .slice A l.length c] W fun e W' => ∃ r, e = .returned (.int .i64 r) ∧ Dr w0 W' g rows bs := by
  obtain ⟨f0, f1, f2, hcu, hI, hs⟩ := h.step
  obtain ⟨v, i', h', e, c1, r⟩ := pick_cur f0 f1 f2 l hl hcu
  refine (spec_l01PickInt.calls g f0 f1 f2 A c l v i' h' w0 W hI h.below hr hc hf e).mono ?_
  rintro e W' ⟨rfl, hI', hB', hK⟩
  exact ⟨v, rfl, (hs W' i' h' hI' c1 hB' hK).1⟩
theorem data_dr (h : Dr w0 W g rows bs) (n : Int) (hn : n ≤ 100) : Calls Try.prog 99 #[.pointer (some ⟨g, 0, none⟩), .int .i64 n] W fun e W' => ∃ v l ok, e = .returned v ∧ l.length ≤ 100 ∧ Dr w0 W' g (RRow (Kd.int .i64) 3 w0 ok v l :: rows) bs := by
  obtain ⟨f0, f1, f2, hcu, hI, hs⟩ := h.step
  obtain ⟨l, i', h', e, c1, hl⟩ := data_cur f0 f1 f2 n hn hcu 201 (by omega)
  refine (spec_l04Data.calls 201 g f0 f1 f2 n l i' h' w0 W hI h.below e).mono ?_
  rintro e W' ⟨v, rfl, ho, hI', hB', hK⟩
  exact ⟨v, l, _, rfl, hl, (hs W' i' h' hI' c1 hB' hK).2 _ (newR_good ho h.below.size)⟩
end
end Go.Proofs.Ytdnekkbchlibhaa.PFnSenders
