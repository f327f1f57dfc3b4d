-- Printed by a program of the kit, cut by a program of this session (prune.py). Lean checks it.
import Derived.Test.YtjkmmfjlladlfaaDoorSWWords
/-! ### 58. A guarded operation whose guard is known to want it: the same goal without the guard -/
namespace Go.Proofs.YtjkmmfjlladlfaaDoorW.PrintWords
open Go.RowKit
section
variable {P : Program} {ops : Array Oper} {rest : List Oper} {o : Oper} {a : Act} {Q : Exit → Act → World → Prop} {W : World}
end
end Go.Proofs.YtjkmmfjlladlfaaDoorW.PrintWords
