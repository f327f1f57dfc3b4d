/- The closed sentence ExecConsts: the nine kinds of acts, the eight errors and the two limits that layer 13 names have the numbers that the document says. No condition. -/
import Derived.Test.YtednollcioekhaaPExecConstsx1
namespace Go.Proofs.Ytednollcioekhaa.Pure
open Go.RowKit Go.Proofs.Ytednollcioekhaa.PExecConsts Go.Proofs.YtednollcioekhaaW.PrintWords Go.Proofs.YtednollcioekhaaW.PrintLast

/-- YOURS: ∃ k, mullionlaw13_ExecConsts.f k  = some true
What it reaches (each with k first where it has rounds; `.mono`: more rounds tell the same; `.l0`, ..: its loops, with `.mono_l`): mullionlaw13_num.f, mullionlaw13_ExecConsts.f -/
theorem ExecConsts : mullionlaw13_ExecConsts.Pure := by
  refine ⟨100, ?_⟩
  decide +kernel

end Go.Proofs.Ytednollcioekhaa.Pure
