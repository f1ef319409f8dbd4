/-
  DERIVED. GIVEN WITH THE SEED: THE CARDS: each row of YtbdbogpglkbafaaDoorRows.lean that lists a variable, with what it lists TIED to the program's text (the seventh form; the later family's looks); each row that meets fmt, with fmt's text TOLD by the authors' own Lean function (tested against real Go, not proved from fmt's source: count such statements apart). THE CARD IS WHAT COUNTS. Prove the row's statement (the work); the ties are given (YtbdbogpglkbafaaDoorTie.lean); close each card by the builder's one call (the guide's Derived/Test/ToyasCard.lean, 'card_holds'). Laid BY PROGRAM, IN A SANDBOX (cutbox-door.mjs). By AI agents, Wed Nov 11 2026. No macro, syntax, notation, axiom, sorry.
-/
import Derived.Test.YtbdbogpglkbafaaDoorRows
import GoSem.ClaimSeven
namespace Go.Proofs.YtbdbogpglkbafaaDoor
namespace Rows

/-- THE TIED CARD OF 'laws.FnIds'. -/
def fnIdsCard : Claim7 := { stood := { row := fnIdsRow, standIns := [], harness := (true, "43341c7497f0ced8b29e3b6747ed5e886614fc8f18b831c169c5b7a57b8ad20c"), looks := true }, kinds := [], alts := [], laidByText := true, laidKinds := [.data, .data, .data, .sentinel, .sentinel], laidTests := true, laidLooks := .later }
def FnIdsCardSaid : Prop := Claim7.holds Tryd.pinned (.plain (OpenSpec.ofChange fnIdsSpec)) fnIdsCard

/-- THE TIED CARD OF 'laws.FnExactParseId'. -/
def fnExactParseIdCard : Claim7 := { stood := { row := fnExactParseIdRow, standIns := [], harness := (true, "43341c7497f0ced8b29e3b6747ed5e886614fc8f18b831c169c5b7a57b8ad20c"), looks := true }, kinds := [], alts := [], laidByText := true, laidKinds := [.data, .data, .data, .sentinel, .sentinel], laidTests := true, laidLooks := .later }
def FnExactParseIdCardSaid : Prop := Claim7.holds Tryd.pinned (.plain (OpenSpec.ofChange fnExactParseIdSpec)) fnExactParseIdCard

/-- THE TIED CARD OF 'laws.FnExactFormatInt'. -/
def fnExactFormatIntCard : Claim7 := { stood := { row := fnExactFormatIntRow, standIns := [], harness := (true, "43341c7497f0ced8b29e3b6747ed5e886614fc8f18b831c169c5b7a57b8ad20c"), looks := true }, kinds := [], alts := [], laidByText := true, laidKinds := [.data, .data, .data], laidTests := true, laidLooks := .later }
def FnExactFormatIntCardSaid : Prop := Claim7.holds Tryd.pinned (.plain (OpenSpec.ofChange fnExactFormatIntSpec)) fnExactFormatIntCard

/-- THE TIED CARD OF 'laws.FnExactFormatId'. -/
def fnExactFormatIdCard : Claim7 := { stood := { row := fnExactFormatIdRow, standIns := [], harness := (true, "43341c7497f0ced8b29e3b6747ed5e886614fc8f18b831c169c5b7a57b8ad20c"), looks := true }, kinds := [], alts := [], laidByText := true, laidKinds := [.data, .data, .data], laidTests := true, laidLooks := .later }
def FnExactFormatIdCardSaid : Prop := Claim7.holds Tryd.pinned (.plain (OpenSpec.ofChange fnExactFormatIdSpec)) fnExactFormatIdCard

/-- THE TIED CARD OF 'laws.FnExactSplitFields'. -/
def fnExactSplitFieldsCard : Claim7 := { stood := { row := fnExactSplitFieldsRow, standIns := [], harness := (true, "43341c7497f0ced8b29e3b6747ed5e886614fc8f18b831c169c5b7a57b8ad20c"), looks := true }, kinds := [], alts := [], laidByText := true, laidKinds := [.listed, .data], laidTests := true, laidLooks := .later }
def FnExactSplitFieldsCardSaid : Prop := Claim7.holds Tryd.pinned (.plain (OpenSpec.ofChange fnExactSplitFieldsSpec)) fnExactSplitFieldsCard

/-- THE TIED CARD OF 'laws.FnHexText'. -/
def fnHexTextCard : Claim7 := { stood := { row := fnHexTextRow, standIns := [], harness := (true, "43341c7497f0ced8b29e3b6747ed5e886614fc8f18b831c169c5b7a57b8ad20c"), looks := true }, kinds := [], alts := [], laidByText := true, laidKinds := [.data, .data, .data], laidTests := true, laidLooks := .later }
def FnHexTextCardSaid : Prop := Claim7.holds Tryd.pinned (.plain (OpenSpec.ofChange fnHexTextSpec)) fnHexTextCard

/-- THE TIED CARD OF 'laws.FnFieldsAgain'. -/
def fnFieldsAgainCard : Claim7 := { stood := { row := fnFieldsAgainRow, standIns := [], harness := (true, "43341c7497f0ced8b29e3b6747ed5e886614fc8f18b831c169c5b7a57b8ad20c"), looks := true }, kinds := [], alts := [], laidByText := true, laidKinds := [.data, .data, .data, .listed, .data], laidTests := true, laidLooks := .later }
def FnFieldsAgainCardSaid : Prop := Claim7.holds Tryd.pinned (.plain (OpenSpec.ofChange fnFieldsAgainSpec)) fnFieldsAgainCard

/-- THE SECOND FORM's CARD OF 'laws.FnIds'. -/
def fnIdsUptoCard : Claim7 := { stood := { row := fnIdsUptoRow, standIns := [], harness := (true, "43341c7497f0ced8b29e3b6747ed5e886614fc8f18b831c169c5b7a57b8ad20c"), looks := true }, kinds := [], alts := [], laidByText := true, laidKinds := [.data, .data, .data, .sentinel, .sentinel], laidTests := true, laidLooks := .later }
def FnIdsUptoCardSaid : Prop := Claim7.holds Tryd.pinned (.plain (OpenSpec.upto fnIdsSpec)) fnIdsUptoCard

/-- THE SECOND FORM's CARD OF 'laws.FnExactParseId'. -/
def fnExactParseIdUptoCard : Claim7 := { stood := { row := fnExactParseIdUptoRow, standIns := [], harness := (true, "43341c7497f0ced8b29e3b6747ed5e886614fc8f18b831c169c5b7a57b8ad20c"), looks := true }, kinds := [], alts := [], laidByText := true, laidKinds := [.data, .data, .data, .sentinel, .sentinel], laidTests := true, laidLooks := .later }
def FnExactParseIdUptoCardSaid : Prop := Claim7.holds Tryd.pinned (.plain (OpenSpec.upto fnExactParseIdSpec)) fnExactParseIdUptoCard

/-- THE SECOND FORM's CARD OF 'laws.FnExactFormatInt'. -/
def fnExactFormatIntUptoCard : Claim7 := { stood := { row := fnExactFormatIntUptoRow, standIns := [], harness := (true, "43341c7497f0ced8b29e3b6747ed5e886614fc8f18b831c169c5b7a57b8ad20c"), looks := true }, kinds := [], alts := [], laidByText := true, laidKinds := [.data, .data, .data], laidTests := true, laidLooks := .later }
def FnExactFormatIntUptoCardSaid : Prop := Claim7.holds Tryd.pinned (.plain (OpenSpec.upto fnExactFormatIntSpec)) fnExactFormatIntUptoCard

/-- THE SECOND FORM's CARD OF 'laws.FnExactFormatId'. -/
def fnExactFormatIdUptoCard : Claim7 := { stood := { row := fnExactFormatIdUptoRow, standIns := [], harness := (true, "43341c7497f0ced8b29e3b6747ed5e886614fc8f18b831c169c5b7a57b8ad20c"), looks := true }, kinds := [], alts := [], laidByText := true, laidKinds := [.data, .data, .data], laidTests := true, laidLooks := .later }
def FnExactFormatIdUptoCardSaid : Prop := Claim7.holds Tryd.pinned (.plain (OpenSpec.upto fnExactFormatIdSpec)) fnExactFormatIdUptoCard

/-- THE SECOND FORM's CARD OF 'laws.FnExactSplitFields'. -/
def fnExactSplitFieldsUptoCard : Claim7 := { stood := { row := fnExactSplitFieldsUptoRow, standIns := [], harness := (true, "43341c7497f0ced8b29e3b6747ed5e886614fc8f18b831c169c5b7a57b8ad20c"), looks := true }, kinds := [], alts := [], laidByText := true, laidKinds := [.listed, .data], laidTests := true, laidLooks := .later }
def FnExactSplitFieldsUptoCardSaid : Prop := Claim7.holds Tryd.pinned (.plain (OpenSpec.upto fnExactSplitFieldsSpec)) fnExactSplitFieldsUptoCard

/-- THE SECOND FORM's CARD OF 'laws.FnHexText'. -/
def fnHexTextUptoCard : Claim7 := { stood := { row := fnHexTextUptoRow, standIns := [], harness := (true, "43341c7497f0ced8b29e3b6747ed5e886614fc8f18b831c169c5b7a57b8ad20c"), looks := true }, kinds := [], alts := [], laidByText := true, laidKinds := [.data, .data, .data], laidTests := true, laidLooks := .later }
def FnHexTextUptoCardSaid : Prop := Claim7.holds Tryd.pinned (.plain (OpenSpec.upto fnHexTextSpec)) fnHexTextUptoCard

/-- THE SECOND FORM's CARD OF 'laws.FnFieldsAgain'. -/
def fnFieldsAgainUptoCard : Claim7 := { stood := { row := fnFieldsAgainUptoRow, standIns := [], harness := (true, "43341c7497f0ced8b29e3b6747ed5e886614fc8f18b831c169c5b7a57b8ad20c"), looks := true }, kinds := [], alts := [], laidByText := true, laidKinds := [.data, .data, .data, .listed, .data], laidTests := true, laidLooks := .later }
def FnFieldsAgainUptoCardSaid : Prop := Claim7.holds Tryd.pinned (.plain (OpenSpec.upto fnFieldsAgainSpec)) fnFieldsAgainUptoCard
end Rows
end Go.Proofs.YtbdbogpglkbafaaDoor
