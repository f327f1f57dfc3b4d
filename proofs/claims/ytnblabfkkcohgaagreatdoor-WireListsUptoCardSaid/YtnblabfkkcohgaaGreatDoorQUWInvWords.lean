/- Texts of this claim, put together by a program of this session (prune.py): WInvWords. -/
import Derived.Test.YtnblabfkkcohgaaGreatDoorQUWInv
import Derived.Test.YtnblabfkkcohgaaGreatDoorQUWFootNe
section
-- Printed by a program of the kit, cut by a program of this session (prune.py). Lean checks it.
namespace Go.Proofs.YtnblabfkkcohgaaGreatDoorW.PrintWords
open Go.RowKit
end Go.Proofs.YtnblabfkkcohgaaGreatDoorW.PrintWords
namespace Go.Proofs.YtnblabfkkcohgaaGreatDoorW.PrintLast
section
variable {ops : Array Oper} {a : Act} {o og : Oper} {g : Nat} {t : Tmp} {u : Bool}
end
end Go.Proofs.YtnblabfkkcohgaaGreatDoorW.PrintLast
end
