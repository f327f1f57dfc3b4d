/- Texts of this claim, put together by a program of this session (prune.py): WFootNe. -/
import Derived.Test.YtnblabfkkcohgaaGreatDoorQUWN
section
-- Printed by a program of the kit, cut by a program of this session (prune.py). Lean checks it.
/-! ### 52. A row that stays read whatever happens to a block (a set of blocks) doesn't lie there -/
namespace Go.Proofs.YtnblabfkkcohgaaGreatDoorW.PrintWords
open Go.RowKit
namespace Kd
section
variable {α : Type} {d : Kd α} {W : World} {g n : Nat} {S ok : Nat → Prop} {A : Option Addr} {ad : Addr} {xs : List α}
end
end Kd
end Go.Proofs.YtnblabfkkcohgaaGreatDoorW.PrintWords
end
