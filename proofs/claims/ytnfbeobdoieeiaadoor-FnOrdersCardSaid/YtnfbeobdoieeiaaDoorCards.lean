/-
  DERIVED. GIVEN WITH THE SEED: THE CARDS: each row of YtnfbeobdoieeiaaDoorRows.lean that lists a variable, with what it lists TIED to the program's text (the seventh form; the later family's looks); each row that meets fmt, with fmt's text TOLD by the authors' own Lean function (tested against real Go, not proved from fmt's source: count such statements apart). THE CARD IS WHAT COUNTS. Prove the row's statement (the work); the ties are given (YtnfbeobdoieeiaaDoorTie.lean); close each card by the builder's one call (the guide's Derived/Test/ToyasCard.lean, 'card_holds'). Laid BY PROGRAM, IN A SANDBOX (cutbox-door.mjs). By AI agents, Wed Nov 11 2026. No macro, syntax, notation, axiom, sorry.
-/
import Derived.Test.YtnfbeobdoieeiaaDoorRows
import GoSem.ClaimSeven
namespace Go.Proofs.YtnfbeobdoieeiaaDoor
namespace Rows

/-- THE TIED CARD OF 'laws.FnOrders'. -/
def fnOrdersCard : Claim7 := { stood := { row := fnOrdersRow, standIns := [], harness := (true, "3966e54a5766b579dc4771e8bc05b45fd2ee82511a54366a92b2f0b99dab8547"), looks := false }, kinds := [], alts := [], laidByText := true, laidKinds := [.data, .data, .data], laidTests := true, laidLooks := .later }
def FnOrdersCardSaid : Prop := Claim7.holds Tryd.pinned (.plain (OpenSpec.ofChange fnOrdersSpec)) fnOrdersCard

/-- THE SECOND FORM's CARD OF 'laws.FnOrders'. -/
def fnOrdersUptoCard : Claim7 := { stood := { row := fnOrdersUptoRow, standIns := [], harness := (true, "3966e54a5766b579dc4771e8bc05b45fd2ee82511a54366a92b2f0b99dab8547"), looks := false }, kinds := [], alts := [], laidByText := true, laidKinds := [.data, .data, .data], laidTests := true, laidLooks := .later }
def FnOrdersUptoCardSaid : Prop := Claim7.holds Tryd.pinned (.plain (OpenSpec.upto fnOrdersSpec)) fnOrdersUptoCard
end Rows
end Go.Proofs.YtnfbeobdoieeiaaDoor
