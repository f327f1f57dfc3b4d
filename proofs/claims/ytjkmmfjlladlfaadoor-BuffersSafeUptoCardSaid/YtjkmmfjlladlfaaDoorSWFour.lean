-- Printed by a program of the kit, cut by a program of this session (prune.py). Lean checks it.
import Derived.Test.YtjkmmfjlladlfaaDoorSWTab
/-! ### 56. Four, five, six operations that may come up next, in any order -/
namespace Go.Proofs.YtjkmmfjlladlfaaDoorW.PrintLast
section
variable {P : Program} {ops : Array Oper} {Q : Exit → Act → World → Prop} {md : Region.Mode} {S : World → Prop} {ds : List Nat} {T : Bool × List (List Nat × List Nat)}
end
end Go.Proofs.YtjkmmfjlladlfaaDoorW.PrintLast
