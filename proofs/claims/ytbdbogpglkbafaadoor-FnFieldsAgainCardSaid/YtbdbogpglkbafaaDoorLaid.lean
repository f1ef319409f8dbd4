/- What a row's listed variables give to the walks: a condition on the world that every later world keeps, as long as only new memory is made. -/
import Derived.Test.YtbdbogpglkbafaaDoorShelf
import Derived.Lib.SmallJoins
import Derived.Lib.AppendIntMem
import Derived.Lib.AtoiErrMem
import Derived.LaidMore
import Derived.Stop.LaidErr
import Derived.Stop.Joined
namespace Go.Proofs.YtbdbogpglkbafaaDoor.Laid
open Go.RowKit
/-- The parts that a law may need: the powers of ten; the two errors of strconv; the table of spaces. -/
structure Cond (p e s : Bool) (w : World) : Prop where
  pow : p = true → Lib.TabIs Tryd.prog w "internal/strconv.uint64pow10" .u64 Lib.pow10Tab
  err : e = true → (∃ te pe, w.cell? ⟨3, 0, none⟩ = some (.iface te pe)) ∧ ∃ te pe, w.cell? ⟨4, 0, none⟩ = some (.iface te pe)
  sp : s = true → Lib.TabIs Tryd.prog w "strings.asciiSpace" .u8 Lib.asciiSpaceTab
structure Lw (p e s : Bool) (w : World) : Prop where mk :: (out : ∀ w', Below w.heap.size w w' → Cond p e s w')
theorem Lw.here {p e s : Bool} {w : World} (h : Lw p e s w) : Cond p e s w := h.out w (Below.refl _ _)
theorem Lw.step {p e s : Bool} {w w1 : World} (h : Lw p e s w) (hb : Below w.heap.size w w1) : Lw p e s w1 :=
  ⟨fun w2 h2 => h.out w2 ⟨h2.os.trans hb.os, h2.tape.trans hb.tape, h2.output.trans hb.output, Nat.le_trans hb.size h2.size, fun i hi => (h2.block i (Nat.lt_of_lt_of_le hi hb.size)).trans (hb.block i hi)⟩⟩
end Go.Proofs.YtbdbogpglkbafaaDoor.Laid
