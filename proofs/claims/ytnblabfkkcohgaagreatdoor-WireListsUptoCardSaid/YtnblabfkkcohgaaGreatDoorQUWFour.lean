/- Texts of this claim, put together by a program of this session (prune.py): WFour. -/
import Derived.Test.YtnblabfkkcohgaaGreatDoorQUWTab
section
-- Printed by a program of the kit, cut by a program of this session (prune.py). Lean checks it.
/-! ### 56. Four, five, six operations that may come up next, in any order -/
namespace Go.Proofs.YtnblabfkkcohgaaGreatDoorW.PrintLast
section
variable {P : Program} {ops : Array Oper} {Q : Exit → Act → World → Prop} {md : Region.Mode} {S : World → Prop} {ds : List Nat} {T : Bool × List (List Nat × List Nat)}
end
end Go.Proofs.YtnblabfkkcohgaaGreatDoorW.PrintLast
end
