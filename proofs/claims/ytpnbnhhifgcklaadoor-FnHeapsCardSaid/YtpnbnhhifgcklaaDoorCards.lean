/-
  DERIVED. GIVEN WITH THE SEED: THE CARDS: each row of YtpnbnhhifgcklaaDoorRows.lean that lists a variable, with what it lists TIED to the program's text (the seventh form; the later family's looks); each row that meets fmt, with fmt's text TOLD by the authors' own Lean function (tested against real Go, not proved from fmt's source: count such statements apart). THE CARD IS WHAT COUNTS. Prove the row's statement (the work); the ties are given (YtpnbnhhifgcklaaDoorTie.lean); close each card by the builder's one call (the guide's Derived/Test/ToyasCard.lean, 'card_holds'). Laid BY PROGRAM, IN A SANDBOX (cutbox-door.mjs). By AI agents, Wed Nov 11 2026. No macro, syntax, notation, axiom, sorry.
-/
import Derived.Test.YtpnbnhhifgcklaaDoorRows
import GoSem.ClaimSeven
namespace Go.Proofs.YtpnbnhhifgcklaaDoor
namespace Rows

/-- THE TIED CARD OF 'laws.FnHeaps'. -/
def fnHeapsCard : Claim7 := { stood := { row := fnHeapsRow, standIns := [], harness := (true, "be92dab3cf7b91f167eb688a7c42d203cadb2c2e2e54328d1ac2f7e65c1095b4"), looks := false }, kinds := [], alts := [], laidByText := true, laidKinds := [.data, .data, .data, .data, .pinned], laidTests := true, laidLooks := .later }
def FnHeapsCardSaid : Prop := Claim7.holds Tryd.pinned (.plain (OpenSpec.ofChange fnHeapsSpec)) fnHeapsCard

/-- THE SECOND FORM's CARD OF 'laws.FnHeaps'. -/
def fnHeapsUptoCard : Claim7 := { stood := { row := fnHeapsUptoRow, standIns := [], harness := (true, "be92dab3cf7b91f167eb688a7c42d203cadb2c2e2e54328d1ac2f7e65c1095b4"), looks := false }, kinds := [], alts := [], laidByText := true, laidKinds := [.data, .data, .data, .data, .pinned], laidTests := true, laidLooks := .later }
def FnHeapsUptoCardSaid : Prop := Claim7.holds Tryd.pinned (.plain (OpenSpec.upto fnHeapsSpec)) fnHeapsUptoCard
end Rows
end Go.Proofs.YtpnbnhhifgcklaaDoor
