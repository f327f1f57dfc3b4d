-- Printed by a program of this session (wip/fork) out of the translation. Lean checks it.
import Derived.Test.YtednollcioekhaaDoorProg
import Derived.Below
import Derived.Deep.Draws
import Derived.Deep.AppendLies
import Derived.Maps.AppendAt
import Derived.OwnWalk
import Derived.Laws.BytesArg
import Derived.Laws.MakeOwn
import Derived.Laws.OwnMore
import Derived.Deep.OwnRows
import Derived.Tactics
import Derived.Lib.ConvBytes
import Derived.Laws.Slices
import Derived.WalkKit
import Derived.KernelRfl
import Derived.RowKit3
import Derived.Deep.LoopGhost
import Derived.Deep.QuietTactic
import Derived.BigQuiet
import Derived.WideLaws
import Derived.Deep.DeepCutAuto
import Derived.Deep.CutBlock
import Derived.Deep.RegionHeld3
import Derived.Laws.Rows
import Derived.Lib.AppendStr
import Derived.ArgAppend
import Derived.Laws.IdiomCopy
import Derived.OrdersHeld
import Derived.Laws.BitsLemmas
import Derived.RowKit
import Derived.Test.YtednollcioekhaaDoorGiven
import Derived.Test.YtednollcioekhaaDoorWWords
import Derived.Test.YtednollcioekhaaDoorWLast
import Derived.Test.YtednollcioekhaaDoorWTab
import Derived.Test.YtednollcioekhaaDoorWFour
import Derived.Test.YtednollcioekhaaDoorWQPut
import Derived.Test.YtednollcioekhaaDoorWApart
import Derived.Test.YtednollcioekhaaDoorWArr
import Derived.Test.YtednollcioekhaaDoorWZeros
import Derived.Test.YtednollcioekhaaDoorWFoot
import Derived.Test.YtednollcioekhaaDoorWKept
import Derived.Test.YtednollcioekhaaDoorWShare
import Derived.Test.YtednollcioekhaaDoorWN
import Derived.Test.YtednollcioekhaaDoorWFootNe
import Derived.Test.YtednollcioekhaaDoorWAt
import Derived.Test.YtednollcioekhaaDoorWEqStruct
import Derived.Test.YtednollcioekhaaDoorWRepsOne
import Derived.Test.YtednollcioekhaaDoorWInv
import Derived.Test.YtednollcioekhaaDoorWInvWords
import Derived.Test.YtednollcioekhaaDoorWGuard
import Derived.Test.YtednollcioekhaaDoorWNEv
import Derived.Test.YtednollcioekhaaDoorWMore
namespace Go.Proofs.YtednollcioekhaaDoor.PExec
open Go.Proofs.YtednollcioekhaaDoor.Given
open Go.RowKit Go.Proofs.YtednollcioekhaaDoorW.PrintWords Go.Proofs.YtednollcioekhaaDoorW.PrintLast Go.Proofs.YtednollcioekhaaDoorW.PrintMore
attribute [local go_sem] max2_int min2_int max_two min_two max_three min_three max_four min_four   -- for this text's walks alone
set_option linter.unusedVariables false
set_option linter.unusedSimpArgs false



def errW : Option Int → Value
  | none => .nilIface
  | some c => .iface 0 (.int .i64 c)
theorem errW_none : errW none = .nilIface := rfl
theorem errW_some (c : Int) : errW (some c) = .iface 0 (.int .i64 c) := rfl

theorem info3 : (Tryd.prog.info? 3).map (fun i => (i.zero, i.size, i.bytes)) = some (some (.int .i64 0), 1, 8) := by kernel_rfl
theorem info5 : (Tryd.prog.info? 5).map (fun i => (i.zero, i.size, i.bytes)) = some (some (.int .u8 0), 1, 1) := by kernel_rfl
theorem info9 : (Tryd.prog.info? 9).map (fun i => (i.zero, i.size, i.bytes)) = some (some (.string ⟨#[]⟩), 1, 16) := by kernel_rfl
-- the values' own types

end Go.Proofs.YtednollcioekhaaDoor.PExec
