/-
  DERIVED. GIVEN WITH THE SEED: THE CARDS: each row of YtnfkifcbemppjaaDoorRows.lean that lists a variable, with what it lists TIED to the program's text (the seventh form; the later family's looks); each row that meets fmt, with fmt's text TOLD by the authors' own Lean function (tested against real Go, not proved from fmt's source: count such statements apart). THE CARD IS WHAT COUNTS. Prove the row's statement (the work); the ties are given (YtnfkifcbemppjaaDoorTie.lean); close each card by the builder's one call (the guide's Derived/Test/ToyasCard.lean, 'card_holds'). Laid BY PROGRAM, IN A SANDBOX (cutbox-door.mjs). By AI agents, Wed Nov 11 2026. No macro, syntax, notation, axiom, sorry.
-/
import Derived.Test.YtnfkifcbemppjaaDoorRows
import GoSem.ClaimSeven
namespace Go.Proofs.YtnfkifcbemppjaaDoor
namespace Rows

/-- THE TIED CARD OF 'laws.FnExactParseUint'. -/
def fnExactParseUintCard : Claim7 := { stood := { row := fnExactParseUintRow, standIns := [], harness := (true, "119b38633a812f477951fb420906442273b41d3d86fe04ab335c1d2efe6e8a1d"), looks := true }, kinds := [], alts := [], laidByText := true, laidKinds := [.data, .data, .data, .sentinel, .sentinel], laidTests := true, laidLooks := .later }
def FnExactParseUintCardSaid : Prop := Claim7.holds Tryd.pinned (.plain (OpenSpec.ofChange fnExactParseUintSpec)) fnExactParseUintCard

/-- THE SECOND FORM's CARD OF 'laws.FnExactParseUint'. -/
def fnExactParseUintUptoCard : Claim7 := { stood := { row := fnExactParseUintUptoRow, standIns := [], harness := (true, "119b38633a812f477951fb420906442273b41d3d86fe04ab335c1d2efe6e8a1d"), looks := true }, kinds := [], alts := [], laidByText := true, laidKinds := [.data, .data, .data, .sentinel, .sentinel], laidTests := true, laidLooks := .later }
def FnExactParseUintUptoCardSaid : Prop := Claim7.holds Tryd.pinned (.plain (OpenSpec.upto fnExactParseUintSpec)) fnExactParseUintUptoCard
end Rows
end Go.Proofs.YtnfkifcbemppjaaDoor
