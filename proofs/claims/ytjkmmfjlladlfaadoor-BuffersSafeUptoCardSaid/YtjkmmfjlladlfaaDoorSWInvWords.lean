-- Printed by a program of the kit, cut by a program of this session (prune.py). Lean checks it.
import Derived.Test.YtjkmmfjlladlfaaDoorSWInv
import Derived.Test.YtjkmmfjlladlfaaDoorSWFootNe
namespace Go.Proofs.YtjkmmfjlladlfaaDoorW.PrintWords
open Go.RowKit
end Go.Proofs.YtjkmmfjlladlfaaDoorW.PrintWords
namespace Go.Proofs.YtjkmmfjlladlfaaDoorW.PrintLast
section
variable {ops : Array Oper} {a : Act} {o og : Oper} {g : Nat} {t : Tmp} {u : Bool}
end
end Go.Proofs.YtjkmmfjlladlfaaDoorW.PrintLast
