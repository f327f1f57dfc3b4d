/- The closed sentence WireConsts: the kinds of events, the classes of lines, the limits and the error that layer 3 names have the numbers that the document says. No condition. -/
import Derived.Test.YtnblabfkkcohgaaPWireConstsx1
namespace Go.Proofs.Ytnblabfkkcohgaa.Pure
open Go.RowKit Go.Proofs.Ytnblabfkkcohgaa.PWireConsts Go.Proofs.YtnblabfkkcohgaaW.PrintWords Go.Proofs.YtnblabfkkcohgaaW.PrintLast

/-- YOURS: ∃ k, mullionlaw03_WireConsts.f k  = some true
What it reaches (each with k first where it has rounds; `.mono`: more rounds tell the same; `.l0`, ..: its loops, with `.mono_l`): mullionlaw03_WireConsts.f -/
theorem WireConsts : mullionlaw03_WireConsts.Pure := by
  refine ⟨100, ?_⟩
  decide +kernel

end Go.Proofs.Ytnblabfkkcohgaa.Pure
