/- Texts of this claim, put together by a program of this session (prune.py): WInv. -/
import Derived.Test.YtnblabfkkcohgaaGreatDoorQUWTab
section
-- Printed by a program of the kit, cut by a program of this session (prune.py). Lean checks it.
/-! ### 57. A region of open order by ONE relation over what is listed so far: each operation is shown once, whatever came up before it -/
namespace Go.Proofs.YtnblabfkkcohgaaGreatDoorW.PrintLast
section
variable {P : Program} {ops : Array Oper} {Q : Exit → Act → World → Prop} {md : Region.Mode} {T : Bool × List (List Nat × List Nat)} {B : List Nat} {O : List Nat} {b : Nat → Bool} {i j n : Nat}
/-! The frame: what is listed has its destination filled. -/
end
end Go.Proofs.YtnblabfkkcohgaaGreatDoorW.PrintLast
end
