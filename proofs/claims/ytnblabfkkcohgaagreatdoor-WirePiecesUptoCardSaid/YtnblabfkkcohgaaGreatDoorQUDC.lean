/- Texts of this claim, put together by a program of this session (prune.py): PLwCx0. -/
import Derived.Test.YtnblabfkkcohgaaGreatDoorProg
import Derived.Below
import Derived.Deep.Draws
import Derived.Deep.AppendLies
import Derived.Maps.AppendAt
import Derived.OwnWalk
import Derived.Laws.BytesArg
import Derived.Laws.MakeOwn
import Derived.Laws.OwnMore
import Derived.Deep.OwnRows
import Derived.Tactics
import Derived.Lib.ConvBytes
import Derived.Laws.Slices
import Derived.WalkKit
import Derived.KernelRfl
import Derived.RowKit3
import Derived.Deep.LoopGhost
import Derived.Deep.QuietTactic
import Derived.BigQuiet
import Derived.WideLaws
import Derived.Deep.DeepCutAuto
import Derived.Deep.CutBlock
import Derived.Deep.RegionHeld3
import Derived.Laws.Rows
import Derived.Lib.AppendStr
import Derived.ArgAppend
import Derived.Laws.IdiomCopy
import Derived.OrdersHeld
import Derived.Laws.BitsLemmas
import Derived.RowKit
import Derived.Test.YtnblabfkkcohgaaGreatDoorQUDB
import Derived.Test.YtnblabfkkcohgaaGreatDoorQUWWords
import Derived.Test.YtnblabfkkcohgaaGreatDoorQUWLast
import Derived.Test.YtnblabfkkcohgaaGreatDoorQUWTab
import Derived.Test.YtnblabfkkcohgaaGreatDoorQUWFour
import Derived.Test.YtnblabfkkcohgaaGreatDoorQUWQPut
import Derived.Test.YtnblabfkkcohgaaGreatDoorQUWApart
import Derived.Test.YtnblabfkkcohgaaGreatDoorQUWArr
import Derived.Test.YtnblabfkkcohgaaGreatDoorQUWZeros
import Derived.Test.YtnblabfkkcohgaaGreatDoorQUWFoot
import Derived.Test.YtnblabfkkcohgaaGreatDoorQUWKept
import Derived.Test.YtnblabfkkcohgaaGreatDoorQUWShare
import Derived.Test.YtnblabfkkcohgaaGreatDoorQUWN
import Derived.Test.YtnblabfkkcohgaaGreatDoorQUWFootNe
import Derived.Test.YtnblabfkkcohgaaGreatDoorQUWAt
import Derived.Test.YtnblabfkkcohgaaGreatDoorQUWEqStruct
import Derived.Test.YtnblabfkkcohgaaGreatDoorQUWRepsOne
import Derived.Test.YtnblabfkkcohgaaGreatDoorQUWInv
import Derived.Test.YtnblabfkkcohgaaGreatDoorQUWInvWords
import Derived.Test.YtnblabfkkcohgaaGreatDoorQUWGuard
import Derived.Test.YtnblabfkkcohgaaGreatDoorQUWNEv
import Derived.Test.YtnblabfkkcohgaaGreatDoorQUWMore
section
-- Printed by a program of this session (wip/fork) out of the translation. Lean checks it.
namespace Go.Proofs.YtnblabfkkcohgaaGreatDoor.PLwC
open Go.Proofs.YtnblabfkkcohgaaGreatDoor.LawG Go.Proofs.YtnblabfkkcohgaaGreatDoor.CutG Go.Proofs.YtnblabfkkcohgaaGreatDoor.Given Go.Proofs.YtnblabfkkcohgaaGreatDoor.TxtG
open Go.RowKit Go.Proofs.YtnblabfkkcohgaaGreatDoorW.PrintWords Go.Proofs.YtnblabfkkcohgaaGreatDoorW.PrintLast Go.Proofs.YtnblabfkkcohgaaGreatDoorW.PrintMore
attribute [local go_sem] max2_int min2_int max_two min_two max_three min_three max_four min_four   -- for this text's walks alone
open Go.Proofs.YtnblabfkkcohgaaGreatDoor.PWireOne (S28 z28 k28 k28_open k28_mk k28_mkM rd_T28 at_T28)
set_option linter.unusedVariables false
set_option linter.unusedSimpArgs false
attribute [local go_sem high] field28

def errW : Option Int → Value
  | none => .nilIface
  | some c => .iface 0 (.int .i64 c)
theorem errW_none : errW none = .nilIface := rfl
theorem errW_some (c : Int) : errW (some c) = .iface 0 (.int .i64 c) := rfl

theorem info28 : (Tryz.prog.info? 28).map (fun i => (i.zero, i.size, i.bytes)) = some (some (.agg #[(.int .i64 0), (.int .i64 0), (.int .i64 0), (.int .i64 0), (.int .i64 0), (.int .i64 0), (.int .i64 0), (.int .i64 0), (.int .i64 0), (.string ⟨#[]⟩), (.string ⟨#[]⟩), (.string ⟨#[]⟩), (.string ⟨#[]⟩), (.bool false)]), 14, 144) := by kernel_rfl
-- the values' own types

end Go.Proofs.YtnblabfkkcohgaaGreatDoor.PLwC
end
