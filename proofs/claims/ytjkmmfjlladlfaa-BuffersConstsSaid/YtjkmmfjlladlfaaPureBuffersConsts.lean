/- The closed sentence BuffersConsts: the six errors and two limits that layer 24 names have the numbers that the document says. No condition. -/
import Derived.Test.YtjkmmfjlladlfaaPBuffersConstsx1
namespace Go.Proofs.Ytjkmmfjlladlfaa.Pure
open Go.RowKit Go.Proofs.Ytjkmmfjlladlfaa.PBuffersConsts Go.Proofs.YtjkmmfjlladlfaaW.PrintWords Go.Proofs.YtjkmmfjlladlfaaW.PrintLast

/-- YOURS: mullionlaw24_BuffersConsts.f  = some true
What it reaches (each with k first where it has rounds; `.mono`: more rounds tell the same; `.l0`, ..: its loops, with `.mono_l`): mullionlaw24_num.f, mullionlaw24_BuffersConsts.f -/
theorem BuffersConsts : mullionlaw24_BuffersConsts.Pure := by
  unfold mullionlaw24_BuffersConsts.Pure; decide +kernel

end Go.Proofs.Ytjkmmfjlladlfaa.Pure
