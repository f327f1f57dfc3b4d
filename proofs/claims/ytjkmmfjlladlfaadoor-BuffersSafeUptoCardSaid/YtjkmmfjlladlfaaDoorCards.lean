/-
  DERIVED. GIVEN WITH THE SEED: THE CARDS: each row of YtjkmmfjlladlfaaDoorRows.lean that lists a variable, with what it lists TIED to the program's text (the seventh form; the later family's looks); each row that meets fmt, with fmt's text TOLD by the authors' own Lean function (tested against real Go, not proved from fmt's source: count such statements apart). THE CARD IS WHAT COUNTS. Prove the row's statement (the work); the ties are given (YtjkmmfjlladlfaaDoorTie.lean); close each card by the builder's one call (the guide's Derived/Test/ToyasCard.lean, 'card_holds'). Laid BY PROGRAM, IN A SANDBOX (cutbox-door.mjs). By AI agents, Wed Nov 11 2026. No macro, syntax, notation, axiom, sorry.
-/
import Derived.Test.YtjkmmfjlladlfaaDoorRows
import GoSem.ClaimSeven
namespace Go.Proofs.YtjkmmfjlladlfaaDoor
namespace Rows

/-- THE TIED CARD OF 'mullionlaw24.BuffersSets'. -/
def buffersSetsCard : Claim7 := { stood := { row := buffersSetsRow, standIns := [], harness := (true, "62a6289a93b24b1c51d6b1ff1af2f434582fcd9dfbf41aceabcc4c4e9ac13c21"), looks := false }, kinds := [], alts := [], laidByText := true, laidKinds := [.data, .data, .data], laidTests := true, laidLooks := .later }
def BuffersSetsCardSaid : Prop := Claim7.holds Tryd.pinned (.plain (OpenSpec.ofChange buffersSetsSpec)) buffersSetsCard

/-- THE TIED CARD OF 'mullionlaw24.BuffersAll'. -/
def buffersAllCard : Claim7 := { stood := { row := buffersAllRow, standIns := [], harness := (true, "62a6289a93b24b1c51d6b1ff1af2f434582fcd9dfbf41aceabcc4c4e9ac13c21"), looks := false }, kinds := [], alts := [], laidByText := true, laidKinds := [.data, .data, .data], laidTests := true, laidLooks := .later }
def BuffersAllCardSaid : Prop := Claim7.holds Tryd.pinned (.plain (OpenSpec.ofChange buffersAllSpec)) buffersAllCard

/-- THE TIED CARD OF 'mullionlaw24.BuffersKeeps'. -/
def buffersKeepsCard : Claim7 := { stood := { row := buffersKeepsRow, standIns := [], harness := (true, "62a6289a93b24b1c51d6b1ff1af2f434582fcd9dfbf41aceabcc4c4e9ac13c21"), looks := false }, kinds := [], alts := [], laidByText := true, laidKinds := [.data, .data, .data], laidTests := true, laidLooks := .later }
def BuffersKeepsCardSaid : Prop := Claim7.holds Tryd.pinned (.plain (OpenSpec.ofChange buffersKeepsSpec)) buffersKeepsCard

/-- THE TIED CARD OF 'mullionlaw24.BuffersPastes'. -/
def buffersPastesCard : Claim7 := { stood := { row := buffersPastesRow, standIns := [], harness := (true, "62a6289a93b24b1c51d6b1ff1af2f434582fcd9dfbf41aceabcc4c4e9ac13c21"), looks := false }, kinds := [], alts := [], laidByText := true, laidKinds := [.data, .data, .data, .data, .pinned], laidTests := true, laidLooks := .later }
def BuffersPastesCardSaid : Prop := Claim7.holds Tryd.pinned (.plain (OpenSpec.ofChange buffersPastesSpec)) buffersPastesCard

/-- THE TIED CARD OF 'mullionlaw24.BuffersSafe'. -/
def buffersSafeCard : Claim7 := { stood := { row := buffersSafeRow, standIns := [], harness := (true, "62a6289a93b24b1c51d6b1ff1af2f434582fcd9dfbf41aceabcc4c4e9ac13c21"), looks := false }, kinds := [], alts := [], laidByText := true, laidKinds := [.data, .data, .data, .data, .pinned], laidTests := true, laidLooks := .later }
def BuffersSafeCardSaid : Prop := Claim7.holds Tryd.pinned (.plain (OpenSpec.ofChange buffersSafeSpec)) buffersSafeCard

/-- THE SECOND FORM's CARD OF 'mullionlaw24.BuffersSets'. -/
def buffersSetsUptoCard : Claim7 := { stood := { row := buffersSetsUptoRow, standIns := [], harness := (true, "62a6289a93b24b1c51d6b1ff1af2f434582fcd9dfbf41aceabcc4c4e9ac13c21"), looks := false }, kinds := [], alts := [], laidByText := true, laidKinds := [.data, .data, .data], laidTests := true, laidLooks := .later }
def BuffersSetsUptoCardSaid : Prop := Claim7.holds Tryd.pinned (.plain (OpenSpec.upto buffersSetsSpec)) buffersSetsUptoCard

/-- THE SECOND FORM's CARD OF 'mullionlaw24.BuffersAll'. -/
def buffersAllUptoCard : Claim7 := { stood := { row := buffersAllUptoRow, standIns := [], harness := (true, "62a6289a93b24b1c51d6b1ff1af2f434582fcd9dfbf41aceabcc4c4e9ac13c21"), looks := false }, kinds := [], alts := [], laidByText := true, laidKinds := [.data, .data, .data], laidTests := true, laidLooks := .later }
def BuffersAllUptoCardSaid : Prop := Claim7.holds Tryd.pinned (.plain (OpenSpec.upto buffersAllSpec)) buffersAllUptoCard

/-- THE SECOND FORM's CARD OF 'mullionlaw24.BuffersKeeps'. -/
def buffersKeepsUptoCard : Claim7 := { stood := { row := buffersKeepsUptoRow, standIns := [], harness := (true, "62a6289a93b24b1c51d6b1ff1af2f434582fcd9dfbf41aceabcc4c4e9ac13c21"), looks := false }, kinds := [], alts := [], laidByText := true, laidKinds := [.data, .data, .data], laidTests := true, laidLooks := .later }
def BuffersKeepsUptoCardSaid : Prop := Claim7.holds Tryd.pinned (.plain (OpenSpec.upto buffersKeepsSpec)) buffersKeepsUptoCard

/-- THE SECOND FORM's CARD OF 'mullionlaw24.BuffersPastes'. -/
def buffersPastesUptoCard : Claim7 := { stood := { row := buffersPastesUptoRow, standIns := [], harness := (true, "62a6289a93b24b1c51d6b1ff1af2f434582fcd9dfbf41aceabcc4c4e9ac13c21"), looks := false }, kinds := [], alts := [], laidByText := true, laidKinds := [.data, .data, .data, .data, .pinned], laidTests := true, laidLooks := .later }
def BuffersPastesUptoCardSaid : Prop := Claim7.holds Tryd.pinned (.plain (OpenSpec.upto buffersPastesSpec)) buffersPastesUptoCard

/-- THE SECOND FORM's CARD OF 'mullionlaw24.BuffersSafe'. -/
def buffersSafeUptoCard : Claim7 := { stood := { row := buffersSafeUptoRow, standIns := [], harness := (true, "62a6289a93b24b1c51d6b1ff1af2f434582fcd9dfbf41aceabcc4c4e9ac13c21"), looks := false }, kinds := [], alts := [], laidByText := true, laidKinds := [.data, .data, .data, .data, .pinned], laidTests := true, laidLooks := .later }
def BuffersSafeUptoCardSaid : Prop := Claim7.holds Tryd.pinned (.plain (OpenSpec.upto buffersSafeSpec)) buffersSafeUptoCard
end Rows
end Go.Proofs.YtjkmmfjlladlfaaDoor
