/-
  DERIVED. GIVEN WITH THE SEED: THE CARDS: each row of YtcmcolgbkfadfaaDoorRows.lean that lists a variable, with what it lists TIED to the program's text (the seventh form; the later family's looks); each row that meets fmt, with fmt's text TOLD by the authors' own Lean function (tested against real Go, not proved from fmt's source: count such statements apart). THE CARD IS WHAT COUNTS. Prove the row's statement (the work); the ties are given (YtcmcolgbkfadfaaDoorTie.lean); close each card by the builder's one call (the guide's Derived/Test/ToyasCard.lean, 'card_holds'). Laid BY PROGRAM, IN A SANDBOX (cutbox-door.mjs). By AI agents, Wed Nov 11 2026. No macro, syntax, notation, axiom, sorry.
-/
import Derived.Test.YtcmcolgbkfadfaaDoorRows
import GoSem.ClaimSeven
namespace Go.Proofs.YtcmcolgbkfadfaaDoor
namespace Rows

/-- THE TIED CARD OF 'laws.FnExactHeapText'. -/
def fnExactHeapTextCard : Claim7 := { stood := { row := fnExactHeapTextRow, standIns := [], harness := (true, "f4d8bd18d29a7955f9402c9b65c6336db1cbe0a4a5fb2473729c056e2c2755f5"), looks := false }, kinds := [], alts := [], laidByText := true, laidKinds := [.data, .data, .data], laidTests := true, laidLooks := .later }
def FnExactHeapTextCardSaid : Prop := Claim7.holds Tryd.pinned (.plain (OpenSpec.ofChange fnExactHeapTextSpec)) fnExactHeapTextCard

/-- THE TIED CARD OF 'laws.FnExactReadHeap'. -/
def fnExactReadHeapCard : Claim7 := { stood := { row := fnExactReadHeapRow, standIns := [], harness := (true, "f4d8bd18d29a7955f9402c9b65c6336db1cbe0a4a5fb2473729c056e2c2755f5"), looks := false }, kinds := [], alts := [], laidByText := true, laidKinds := [.data, .data, .data, .data, .pinned], laidTests := true, laidLooks := .later }
def FnExactReadHeapCardSaid : Prop := Claim7.holds Tryd.pinned (.plain (OpenSpec.ofChange fnExactReadHeapSpec)) fnExactReadHeapCard

/-- THE TIED CARD OF 'laws.FnHeaps'. -/
def fnHeapsCard : Claim7 := { stood := { row := fnHeapsRow, standIns := [], harness := (true, "f4d8bd18d29a7955f9402c9b65c6336db1cbe0a4a5fb2473729c056e2c2755f5"), looks := false }, kinds := [], alts := [], laidByText := true, laidKinds := [.data, .data, .data, .data, .pinned], laidTests := true, laidLooks := .later }
def FnHeapsCardSaid : Prop := Claim7.holds Tryd.pinned (.plain (OpenSpec.ofChange fnHeapsSpec)) fnHeapsCard

/-- THE SECOND FORM's CARD OF 'laws.FnExactHeapText'. -/
def fnExactHeapTextUptoCard : Claim7 := { stood := { row := fnExactHeapTextUptoRow, standIns := [], harness := (true, "f4d8bd18d29a7955f9402c9b65c6336db1cbe0a4a5fb2473729c056e2c2755f5"), looks := false }, kinds := [], alts := [], laidByText := true, laidKinds := [.data, .data, .data], laidTests := true, laidLooks := .later }
def FnExactHeapTextUptoCardSaid : Prop := Claim7.holds Tryd.pinned (.plain (OpenSpec.upto fnExactHeapTextSpec)) fnExactHeapTextUptoCard

/-- THE SECOND FORM's CARD OF 'laws.FnExactReadHeap'. -/
def fnExactReadHeapUptoCard : Claim7 := { stood := { row := fnExactReadHeapUptoRow, standIns := [], harness := (true, "f4d8bd18d29a7955f9402c9b65c6336db1cbe0a4a5fb2473729c056e2c2755f5"), looks := false }, kinds := [], alts := [], laidByText := true, laidKinds := [.data, .data, .data, .data, .pinned], laidTests := true, laidLooks := .later }
def FnExactReadHeapUptoCardSaid : Prop := Claim7.holds Tryd.pinned (.plain (OpenSpec.upto fnExactReadHeapSpec)) fnExactReadHeapUptoCard

/-- THE SECOND FORM's CARD OF 'laws.FnHeaps'. -/
def fnHeapsUptoCard : Claim7 := { stood := { row := fnHeapsUptoRow, standIns := [], harness := (true, "f4d8bd18d29a7955f9402c9b65c6336db1cbe0a4a5fb2473729c056e2c2755f5"), looks := false }, kinds := [], alts := [], laidByText := true, laidKinds := [.data, .data, .data, .data, .pinned], laidTests := true, laidLooks := .later }
def FnHeapsUptoCardSaid : Prop := Claim7.holds Tryd.pinned (.plain (OpenSpec.upto fnHeapsSpec)) fnHeapsUptoCard
end Rows
end Go.Proofs.YtcmcolgbkfadfaaDoor
