import Derived.Test.YtdnekkbchlibhaaOwn
/-! A row of the law's own that begins behind its block's head. -/
namespace Go.Proofs.Ytdnekkbchlibhaa.Own
open Go.RowKit Go.Proofs.YtdnekkbchlibhaaW.PrintWords Go.Proofs.YtdnekkbchlibhaaW.PrintLast Go.Proofs.YtdnekkbchlibhaaW.PrintMore
section
variable {α : Type} {w W W1 : World} {rows : List MRow} {bs : List MBox} {d : Kd α} {e : Nat} {xs : List α} {v : Value}
def CRow (d : Kd α) (e : Nat) (w : World) (ok : Nat → Prop) (v : Value) (xs : List α) : MRow := ⟨ok, fun W => d.Q e W w.heap.size ok v xs⟩
theorem Q_mv {ok : Nat → Prop} {base : Nat} : ∀ W1 W2 : World, (∀ k, ok k → W2.heap[k]? = W1.heap[k]?) → d.Q e W1 base ok v xs → d.Q e W2 base ok v xs := fun _ _ hm h => Kd.Q_move h hm
theorem Inv.newQ (h : Inv w W rows bs) (hb : Below W.heap.size W W1) (ho : d.Q e W1 W.heap.size (fun _ => True) v xs) : ∃ ok, Inv w W1 (CRow d e w ok v xs :: rows) bs :=
  ⟨_, h.row hb (CRow d e w (fun k => W.heap.size ≤ k ∧ k < W1.heap.size) v xs) ⟨fun _ hk => hk, Kd.Q_lower (Kd.Q_mono (Kd.Q_bound ho) (fun _ hk => ⟨hk.2.1, hk.2.2.1⟩)) h.below.size, Q_mv⟩⟩
theorem Inv.atQ (h : Inv w W rows bs) {i : Nat} {ok : Nat → Prop} (hr : rows[i]? = some (CRow d e w ok v xs)) : d.Q e W w.heap.size ok v xs := h.has hr
end
end Go.Proofs.Ytdnekkbchlibhaa.Own
