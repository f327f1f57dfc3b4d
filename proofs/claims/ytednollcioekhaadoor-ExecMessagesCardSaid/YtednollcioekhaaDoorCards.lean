/-
  DERIVED. GIVEN WITH THE SEED: THE CARDS: each row of YtednollcioekhaaDoorRows.lean that lists a variable, with what it lists TIED to the program's text (the seventh form; the later family's looks); each row that meets fmt, with fmt's text TOLD by the authors' own Lean function (tested against real Go, not proved from fmt's source: count such statements apart). THE CARD IS WHAT COUNTS. Prove the row's statement (the work); the ties are given (YtednollcioekhaaDoorTie.lean); close each card by the builder's one call (the guide's Derived/Test/ToyasCard.lean, 'card_holds'). Laid BY PROGRAM, IN A SANDBOX (cutbox-door.mjs). By AI agents, Wed Nov 11 2026. No macro, syntax, notation, axiom, sorry.
-/
import Derived.Test.YtednollcioekhaaDoorRows
import GoSem.ClaimSeven
namespace Go.Proofs.YtednollcioekhaaDoor
namespace Rows

/-- THE TIED CARD OF 'mullionlaw13.ExecMessages'. -/
def execMessagesCard : Claim7 := { stood := { row := execMessagesRow, standIns := [], harness := (true, "b0e0cf8e02528bb7d315d94a89f686a076bcf717b6d282ed9acd1b89ab28c440"), looks := false }, kinds := [], alts := [], laidByText := true, laidKinds := [.data, .data, .data], laidTests := true, laidLooks := .later }
def ExecMessagesCardSaid : Prop := Claim7.holds Tryd.pinned (.plain (OpenSpec.ofChange execMessagesSpec)) execMessagesCard

/-- THE SECOND FORM's CARD OF 'mullionlaw13.ExecMessages'. -/
def execMessagesUptoCard : Claim7 := { stood := { row := execMessagesUptoRow, standIns := [], harness := (true, "b0e0cf8e02528bb7d315d94a89f686a076bcf717b6d282ed9acd1b89ab28c440"), looks := false }, kinds := [], alts := [], laidByText := true, laidKinds := [.data, .data, .data], laidTests := true, laidLooks := .later }
def ExecMessagesUptoCardSaid : Prop := Claim7.holds Tryd.pinned (.plain (OpenSpec.upto execMessagesSpec)) execMessagesUptoCard
end Rows
end Go.Proofs.YtednollcioekhaaDoor
