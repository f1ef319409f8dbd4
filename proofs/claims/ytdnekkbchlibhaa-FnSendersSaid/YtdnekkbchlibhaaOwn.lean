import Derived.Test.YtdnekkbchlibhaaVFnSendersWMore
/-! What a law holds of its own: rows (with the blocks that each may lead to) and boxes, all apart. -/
namespace Go.Proofs.Ytdnekkbchlibhaa.Own
open Go.RowKit Go.Proofs.YtdnekkbchlibhaaW.PrintWords Go.Proofs.YtdnekkbchlibhaaW.PrintLast Go.Proofs.YtdnekkbchlibhaaW.PrintMore
structure MRow where
  ok : Nat → Prop
  P : World → Prop
structure MBox where
  g : Nat
  cs : Array Value
  t : Nat
structure MRow.good (r : MRow) (w W : World) : Prop where
  bd : ∀ k, r.ok k → w.heap.size ≤ k ∧ k < W.heap.size
  is : r.P W
  mv : ∀ W1 W2, (∀ k, r.ok k → W2.heap[k]? = W1.heap[k]?) → r.P W1 → r.P W2
structure Inv (w W : World) (rows : List MRow) (boxes : List MBox) : Prop where
  below : Below w.heap.size w W
  good : ∀ r ∈ rows, r.good w W
  apart : rows.Pairwise (fun r s => ∀ k, r.ok k → ¬ s.ok k)
  box : ∀ b ∈ boxes, W.heap[b.g]? = some (.cells b.cs b.t (0, 0)) ∧ w.heap.size ≤ b.g
  bapart : boxes.Pairwise (fun b c => b.g ≠ c.g)
  cross : ∀ r ∈ rows, ∀ b ∈ boxes, ¬ r.ok b.g
section
variable {α : Type} {w W W1 : World} {rows : List MRow} {bs : List MBox} {d : Kd α} {e : Nat} {xs ys : List α} {v : Value}
theorem Inv.start (w : World) : Inv w w [] [] where
  below := Below.refl _ _
  good := by simp
  apart := .nil
  box := by simp
  bapart := .nil
  cross := by simp
/-- Whatever keeps all blocks that are there. -/
theorem Inv.call (h : Inv w W rows bs) (hb : Below W.heap.size W W1) : Inv w W1 rows bs where
  below := below_step h.below hb
  good := fun r hr => ⟨fun k hk => ⟨((h.good r hr).bd k hk).1, Nat.lt_of_lt_of_le ((h.good r hr).bd k hk).2 hb.size⟩, (h.good r hr).mv _ _ (fun k hk => hb.block k ((h.good r hr).bd k hk).2) (h.good r hr).is, (h.good r hr).mv⟩
  apart := h.apart
  box := fun b hb1 => ⟨blk_below (h.box b hb1).1 hb, (h.box b hb1).2⟩
  bapart := h.bapart
  cross := h.cross
theorem Inv.drew (h : Inv w W rows bs) : Inv w W.drew rows bs := h.call (below_drew (Below.refl _ _))
theorem Inv.drewN (h : Inv w W rows bs) (n : Nat) : Inv w (W.drewN n) rows bs := h.call (pw_below_drewN (Below.refl _ _) n)
/-- A row that was made. -/
theorem Inv.row (h : Inv w W rows bs) (hb : Below W.heap.size W W1) (r : MRow) (hg : r.good W W1) : Inv w W1 (r :: rows) bs where
  below := below_step h.below hb
  good := by
    intro s hs
    rcases List.mem_cons.mp hs with rfl | hs
    · exact ⟨fun k hk => ⟨Nat.le_trans h.below.size (hg.bd k hk).1, (hg.bd k hk).2⟩, hg.is, hg.mv⟩
    · exact (h.call hb).good s hs
  apart := List.pairwise_cons.mpr ⟨fun s hs k hk hk2 => Nat.lt_irrefl _ (Nat.lt_of_lt_of_le ((h.good s hs).bd k hk2).2 (hg.bd k hk).1), h.apart⟩
  box := (h.call hb).box
  bapart := h.bapart
  cross := by
    intro s hs b hb1
    rcases List.mem_cons.mp hs with rfl | hs
    · exact fun hk => Nat.lt_irrefl _ (Nat.lt_of_lt_of_le (blk_lt (h.box b hb1).1) (hg.bd _ hk).1)
    · exact h.cross s hs b hb1
/-- Two rows that one call made. -/
theorem Inv.row2 (h : Inv w W rows bs) (hb : Below W.heap.size W W1) (r s : MRow) (hr : r.good W W1) (hs : s.good W W1) (hrs : ∀ k, r.ok k → ¬ s.ok k) : Inv w W1 (r :: s :: rows) bs where
  below := below_step h.below hb
  good := by
    intro q hq
    rcases List.mem_cons.mp hq with rfl | hq
    · exact ⟨fun k hk => ⟨Nat.le_trans h.below.size (hr.bd k hk).1, (hr.bd k hk).2⟩, hr.is, hr.mv⟩
    · exact (h.row hb s hs).good q hq
  apart := by
    refine List.pairwise_cons.mpr ⟨?_, (h.row hb s hs).apart⟩
    intro q hq k hk hk2
    rcases List.mem_cons.mp hq with rfl | hq
    · exact hrs k hk hk2
    · exact Nat.lt_irrefl _ (Nat.lt_of_lt_of_le ((h.good q hq).bd k hk2).2 (hr.bd k hk).1)
  box := (h.call hb).box
  bapart := h.bapart
  cross := by
    intro q hq b hb1
    rcases List.mem_cons.mp hq with rfl | hq
    · exact fun hk => Nat.lt_irrefl _ (Nat.lt_of_lt_of_le (blk_lt (h.box b hb1).1) (hr.bd _ hk).1)
    · exact (h.row hb s hs).cross q hq b hb1
/-- A box that was made. -/
theorem Inv.newbox (h : Inv w W rows bs) (hb : Below W.heap.size W W1) {g : Nat} (hg : g = W.heap.size) {cs : Array Value} {t : Nat} (hc : W1.heap[g]? = some (.cells cs t (0, 0))) : Inv w W1 rows (⟨g, cs, t⟩ :: bs) where
  below := below_step h.below hb
  good := (h.call hb).good
  apart := h.apart
  box := by
    intro b hb1
    rcases List.mem_cons.mp hb1 with rfl | hb1
    · exact ⟨hc, by rw [hg]; exact h.below.size⟩
    · exact (h.call hb).box b hb1
  bapart := List.pairwise_cons.mpr ⟨fun b hb1 he => by
    have := blk_lt (h.box b hb1).1
    simp only at he
    omega, h.bapart⟩
  cross := by
    intro r hr b hb1
    rcases List.mem_cons.mp hb1 with rfl | hb1
    · intro hk
      have := ((h.good r hr).bd _ hk).2
      simp only at this
      omega
    · exact h.cross r hr b hb1
theorem Inv.ne (h : Inv w W rows bs) {i j : Nat} {b c : MBox} (hb : bs[i]? = some b) (hc : bs[j]? = some c) (hij : i < j) : b.g ≠ c.g := by
  obtain ⟨hi, rfl⟩ := List.getElem?_eq_some_iff.mp hb
  obtain ⟨hj, rfl⟩ := List.getElem?_eq_some_iff.mp hc
  exact List.pairwise_iff_getElem.mp h.bapart i j hi hj hij
theorem Inv.blk (h : Inv w W rows bs) {i : Nat} {g t : Nat} {cs : Array Value} (hb : bs[i]? = some ⟨g, cs, t⟩) : W.heap[g]? = some (.cells cs t (0, 0)) := (h.box _ (List.mem_of_getElem? hb)).1
theorem Inv.has (h : Inv w W rows bs) {i : Nat} {r : MRow} (hr : rows[i]? = some r) : r.P W := (h.good _ (List.mem_of_getElem? hr)).is
/-- A cell of a box is written. -/
theorem Inv.put (h : Inv w W rows bs) (i : Nat) {g t : Nat} {cs : Array Value} (hb : bs[i]? = some ⟨g, cs, t⟩) (j : Nat) (u : Value) : Inv w (W.setCell ⟨g, j, none⟩ u) rows (bs.set i ⟨g, cs.setIfInBounds j u, t⟩) := by
  have hm := List.mem_of_getElem? hb
  have hsz : (W.setCell ⟨g, j, none⟩ u).heap.size = W.heap.size := by simp [World.setCell]
  obtain ⟨hi, hgi⟩ := List.getElem?_eq_some_iff.mp hb
  refine ⟨below_set h.below (h.box _ hm).2, ?_, h.apart, ?_, ?_, ?_⟩
  · intro r hr
    refine ⟨fun k hk => by rw [hsz]; exact (h.good r hr).bd k hk, (h.good r hr).mv _ _ (fun k hk => Below.heap_setCell W _ u k (fun he => h.cross r hr _ hm (by rw [he] at hk; exact hk))) (h.good r hr).is, (h.good r hr).mv⟩
  · intro b hb1
    obtain ⟨m, hm1, hm2⟩ := List.mem_iff_getElem.mp hb1
    rw [List.getElem_set] at hm2
    split at hm2
    · subst hm2
      exact ⟨blk_set (h.box _ hm).1 j u, (h.box _ hm).2⟩
    · rename_i hne
      have hm1' : m < bs.length := by simpa using hm1
      have hb2 : b ∈ bs := by rw [← hm2]; exact List.getElem_mem hm1'
      refine ⟨blk_far (h.box b hb2).1 (p := ⟨g, j, none⟩) ?_ u, (h.box b hb2).2⟩
      have e1 : bs[i]? = some ⟨g, cs, t⟩ := hb
      have e2 : bs[m]? = some b := by rw [← hm2]; exact List.getElem?_eq_getElem hm1'
      rcases Nat.lt_or_gt_of_ne hne with hlt | hlt
      · exact (h.ne e1 e2 hlt).symm
      · exact h.ne e2 e1 hlt
  · refine List.pairwise_iff_getElem.mpr (fun p q hp hq hpq => ?_)
    have hp' : p < bs.length := by simpa using hp
    have hq' : q < bs.length := by simpa using hq
    have key := List.pairwise_iff_getElem.mp h.bapart p q hp' hq' hpq
    have same : ∀ m (hm' : m < (bs.set i ⟨g, cs.setIfInBounds j u, t⟩).length) (hm'' : m < bs.length), ((bs.set i ⟨g, cs.setIfInBounds j u, t⟩)[m]'hm').g = (bs[m]'hm'').g := by
      intro m hm' hm''
      rw [List.getElem_set]
      split
      · rename_i he
        subst he
        rw [hgi]
      · rfl
    rw [same p hp hp', same q hq hq']
    exact key
  · intro r hr b hb1
    obtain ⟨m, hm1, hm2⟩ := List.mem_iff_getElem.mp hb1
    rw [List.getElem_set] at hm2
    split at hm2
    · subst hm2
      have h1 := h.cross r hr _ hm
      exact h1
    · have hm1' : m < bs.length := by simpa using hm1
      exact h.cross r hr b (by rw [← hm2]; exact List.getElem_mem hm1')
theorem Inv.put' {bs' : List MBox} (h : Inv w W rows bs) (i : Nat) {g t : Nat} {cs cs' : Array Value} (hb : bs[i]? = some ⟨g, cs, t⟩) (j : Nat) (u : Value) (e : cs.setIfInBounds j u = cs') (e2 : bs.set i ⟨g, cs', t⟩ = bs') : Inv w (W.setCell ⟨g, j, none⟩ u) rows bs' := by
  subst e
  subst e2
  exact h.put i hb j u
/-- A row is written by a call. -/
theorem Inv.mark (h : Inv w W rows bs) (i : Nat) {ok : Nat → Prop} {P P' : World → Prop} (hi : rows[i]? = some ⟨ok, P⟩) (hb : Below w.heap.size w W1) (hk : Kept W W1 ok) (hP : P' W1)
    (hmv : ∀ W1 W2, (∀ k, ok k → W2.heap[k]? = W1.heap[k]?) → P' W1 → P' W2) : Inv w W1 (rows.set i ⟨ok, P'⟩) bs := by
  have hm := List.mem_of_getElem? hi
  obtain ⟨hil, hii⟩ := List.getElem?_eq_some_iff.mp hi
  have same : ∀ m (hm' : m < (rows.set i ⟨ok, P'⟩).length) (hm'' : m < rows.length), ((rows.set i ⟨ok, P'⟩)[m]'hm').ok = (rows[m]'hm'').ok := by
    intro m hm' hm''
    rw [List.getElem_set]
    split
    · rename_i he
      subst he
      rw [hii]
    · rfl
  refine ⟨hb, ?_, ?_, ?_, h.bapart, ?_⟩
  · intro r hr
    obtain ⟨m, hm1, hm2⟩ := List.mem_iff_getElem.mp hr
    rw [List.getElem_set] at hm2
    split at hm2
    · subst hm2
      exact ⟨fun k hk2 => ⟨((h.good _ hm).bd k hk2).1, Nat.lt_of_lt_of_le ((h.good _ hm).bd k hk2).2 hk.1⟩, hP, hmv⟩
    · rename_i hne
      have hm1' : m < rows.length := by simpa using hm1
      have hr2 : r ∈ rows := by rw [← hm2]; exact List.getElem_mem hm1'
      have hap : ∀ k, r.ok k → ¬ ok k := by
        intro k hk1 hk2
        rcases Nat.lt_or_gt_of_ne hne with hlt | hlt
        · have := List.pairwise_iff_getElem.mp h.apart i m hil hm1' hlt k (by rw [hii]; exact hk2)
          rw [hm2] at this
          exact this hk1
        · have := List.pairwise_iff_getElem.mp h.apart m i hm1' hil hlt k (by rw [hm2]; exact hk1)
          rw [hii] at this
          exact this hk2
      exact ⟨fun k hk2 => ⟨((h.good r hr2).bd k hk2).1, Nat.lt_of_lt_of_le ((h.good r hr2).bd k hk2).2 hk.1⟩, (h.good r hr2).mv _ _ (fun k hk2 => hk.2 k ((h.good r hr2).bd k hk2).2 (hap k hk2)) (h.good r hr2).is, (h.good r hr2).mv⟩
  · refine List.pairwise_iff_getElem.mpr (fun p q hp hq hpq => ?_)
    have hp' : p < rows.length := by simpa using hp
    have hq' : q < rows.length := by simpa using hq
    rw [same p hp hp', same q hq hq']
    exact List.pairwise_iff_getElem.mp h.apart p q hp' hq' hpq
  · intro b hb1
    exact ⟨blk_kept (h.box b hb1).1 hk (h.cross _ hm b hb1), (h.box b hb1).2⟩
  · intro r hr b hb1
    obtain ⟨m, hm1, hm2⟩ := List.mem_iff_getElem.mp hr
    have hm1' : m < rows.length := by simpa using hm1
    have := h.cross (rows[m]'hm1') (List.getElem_mem hm1') b hb1
    rw [← same m hm1 hm1', hm2] at this
    exact this
/-- A row of structs with rows of their own. -/
def SRow (d : Kd α) (e : Nat) (w : World) (ok : Nat → Prop) (v : Value) (xs : List α) : MRow := ⟨ok, fun W => Kd.S d e W w.heap.size ok v xs⟩
def RRow (d : Kd α) (e : Nat) (w : World) (ok : Nat → Prop) (v : Value) (xs : List α) : MRow := ⟨ok, fun W => d.R e W w.heap.size ok v xs⟩
theorem S_mv {ok : Nat → Prop} {base : Nat} : ∀ W1 W2 : World, (∀ k, ok k → W2.heap[k]? = W1.heap[k]?) → Kd.S d e W1 base ok v xs → Kd.S d e W2 base ok v xs := fun _ _ hm h => Kd.S_move h hm
theorem R_mv {ok : Nat → Prop} {base : Nat} : ∀ W1 W2 : World, (∀ k, ok k → W2.heap[k]? = W1.heap[k]?) → d.R e W1 base ok v xs → d.R e W2 base ok v xs := fun _ _ hm h => Kd.R_move h hm
theorem Inv.newS (h : Inv w W rows bs) (hb : Below W.heap.size W W1) (ho : Kd.S d e W1 W.heap.size (fun _ => True) v xs) : ∃ ok, Inv w W1 (SRow d e w ok v xs :: rows) bs :=
  ⟨_, h.row hb (SRow d e w (fun k => W.heap.size ≤ k ∧ k < W1.heap.size) v xs) ⟨fun _ hk => hk, Kd.S_lower (Kd.S_mono (Kd.S_bound ho) (fun _ hk => ⟨hk.2.1, hk.2.2.1⟩)) h.below.size, S_mv⟩⟩
theorem Inv.newR (h : Inv w W rows bs) (hb : Below W.heap.size W W1) (ho : d.R e W1 W.heap.size (fun _ => True) v xs) : ∃ ok, Inv w W1 (RRow d e w ok v xs :: rows) bs :=
  ⟨_, h.row hb (RRow d e w (fun k => W.heap.size ≤ k ∧ k < W1.heap.size) v xs) ⟨fun _ hk => hk, Kd.R_lower (Kd.R_mono (Kd.R_bound ho) (fun _ hk => ⟨hk.2.1, hk.2.2.1⟩)) h.below.size, R_mv⟩⟩
/-- A row of structs and a row whose elements lead to nothing, that one call made. -/
theorem Inv.newSR {β : Type} {d2 : Kd β} {e2 : Nat} {u : Value} {zs : List β} (hE : d2.E = []) (h : Inv w W rows bs) (hb : Below W.heap.size W W1) (ho : Kd.S d e W1 W.heap.size (fun k => some k ≠ u.ownBlock) v xs) (ho2 : d2.R e2 W1 W.heap.size (fun _ => True) u zs) :
    ∃ ok ok2, Inv w W1 (SRow d e w ok v xs :: RRow d2 e2 w ok2 u zs :: rows) bs :=
  ⟨_, _, h.row2 hb (SRow d e w (fun k => some k ≠ u.ownBlock ∧ W.heap.size ≤ k ∧ k < W1.heap.size) v xs) (RRow d2 e2 w (fun k => some k = u.ownBlock ∧ W.heap.size ≤ k ∧ k < W1.heap.size) u zs)
    ⟨fun _ hk => hk.2, Kd.S_lower (Kd.S_mono (Kd.S_bound ho) (fun _ hk => ⟨hk.1, hk.2.1, hk.2.2.1⟩)) h.below.size, S_mv⟩
    ⟨fun _ hk => hk.2, Kd.R_lower (Kd.R_mono (Kd.R_bound (Kd.R_tight hE ho2)) (fun _ hk => ⟨hk.1, hk.2.1, hk.2.2.1⟩)) h.below.size, R_mv⟩
    (fun _ h1 h2 => h1.1 h2.1)⟩
theorem Inv.atS (h : Inv w W rows bs) {i : Nat} {ok : Nat → Prop} (hr : rows[i]? = some (SRow d e w ok v xs)) : Kd.S d e W w.heap.size ok v xs := h.has hr
theorem Inv.atR (h : Inv w W rows bs) {i : Nat} {ok : Nat → Prop} (hr : rows[i]? = some (RRow d e w ok v xs)) : d.R e W w.heap.size ok v xs := h.has hr
theorem Inv.markS (h : Inv w W rows bs) (i : Nat) {ok : Nat → Prop} (hi : rows[i]? = some (SRow d e w ok v xs)) (hb : Below w.heap.size w W1) (hk : Kept W W1 ok) (hP : Kd.S d e W1 w.heap.size ok v ys) : Inv w W1 (rows.set i (SRow d e w ok v ys)) bs :=
  h.mark i hi hb hk hP S_mv
/-- A row whose elements lead to nothing: the call told of new blocks too, but it leads to its own block alone. -/
theorem Inv.markR (hE : d.E = []) (h : Inv w W rows bs) (i : Nat) {ok : Nat → Prop} (hi : rows[i]? = some (RRow d e w ok v xs)) (hb : Below w.heap.size w W1) (hk : Kept W W1 ok) (hP : d.R e W1 w.heap.size (fun k => ok k ∨ W.heap.size ≤ k) v ys) : Inv w W1 (rows.set i (RRow d e w ok v ys)) bs :=
  h.mark i hi hb hk (Kd.R_mono (Kd.R_tight hE hP) (fun k hk2 => by
    have h1 := h.atR hi
    exact h1.1 k hk2.symm)) R_mv
end
end Go.Proofs.Ytdnekkbchlibhaa.Own
