-- PRINTED BY print.sh 35421559b90ae4d0a3588c463048766b98c2df88dd9212a6774a882060cdf62d: not written by this session
import Derived.Test.YtnblabfkkcohgaaProg
import Derived.Below
import Derived.Deep.Draws
import Derived.Deep.AppendLies
import Derived.Maps.AppendAt
import Derived.OwnWalk
import Derived.Laws.BytesArg
import Derived.Laws.MakeOwn
import Derived.Laws.OwnMore
import Derived.Deep.OwnRows
import Derived.Tactics
import Derived.Lib.ConvBytes
import Derived.Laws.Slices
import Derived.WalkKit
import Derived.KernelRfl
import Derived.RowKit3
import Derived.Deep.LoopGhost
import Derived.Deep.QuietTactic
import Derived.BigQuiet
import Derived.WideLaws
import Derived.Deep.DeepCutAuto
import Derived.Deep.CutBlock
import Derived.Deep.RegionHeld3
import Derived.Laws.Rows
import Derived.Lib.AppendStr
import Derived.ArgAppend
import Derived.Laws.IdiomCopy
import Derived.OrdersHeld
import Derived.Laws.BitsLemmas
import Derived.RowKit
import Derived.Test.YtnblabfkkcohgaaWWords
import Derived.Test.YtnblabfkkcohgaaWLast
import Derived.Test.YtnblabfkkcohgaaWTab
import Derived.Test.YtnblabfkkcohgaaWFour
import Derived.Test.YtnblabfkkcohgaaWQPut
import Derived.Test.YtnblabfkkcohgaaWApart
import Derived.Test.YtnblabfkkcohgaaWArr
import Derived.Test.YtnblabfkkcohgaaWZeros
import Derived.Test.YtnblabfkkcohgaaWFoot
import Derived.Test.YtnblabfkkcohgaaWKept
import Derived.Test.YtnblabfkkcohgaaWShare
import Derived.Test.YtnblabfkkcohgaaWN
import Derived.Test.YtnblabfkkcohgaaWFootNe
import Derived.Test.YtnblabfkkcohgaaWAt
import Derived.Test.YtnblabfkkcohgaaWEqStruct
import Derived.Test.YtnblabfkkcohgaaWRepsOne
import Derived.Test.YtnblabfkkcohgaaWInv
import Derived.Test.YtnblabfkkcohgaaWInvWords
import Derived.Test.YtnblabfkkcohgaaWGuard
import Derived.Test.YtnblabfkkcohgaaWNEv
import Derived.Test.YtnblabfkkcohgaaWMore
namespace Go.Proofs.Ytnblabfkkcohgaa.PWireConsts
open Go.RowKit Go.Proofs.YtnblabfkkcohgaaW.PrintWords Go.Proofs.YtnblabfkkcohgaaW.PrintLast Go.Proofs.YtnblabfkkcohgaaW.PrintMore
attribute [local go_sem] max2_int min2_int max_two min_two max_three min_three max_four min_four   -- for this text's walks alone
set_option linter.unusedVariables false
set_option linter.unusedSimpArgs false



def errW : Option Int → Value
  | none => .nilIface
  | some c => .iface 0 (.int .i64 c)
theorem errW_none : errW none = .nilIface := rfl
theorem errW_some (c : Int) : errW (some c) = .iface 0 (.int .i64 c) := rfl

theorem info3 : (Try.prog.info? 3).map (fun i => (i.zero, i.size, i.bytes)) = some (some (.int .i64 0), 1, 8) := by kernel_rfl
-- the values' own types

end Go.Proofs.Ytnblabfkkcohgaa.PWireConsts
