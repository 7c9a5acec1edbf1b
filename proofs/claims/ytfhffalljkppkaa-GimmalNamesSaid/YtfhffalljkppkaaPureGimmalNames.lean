/- Over numbers and lists alone: every error, limit and kind of package api is the document's number; at every input, no condition. -/
import Derived.Test.YtfhffalljkppkaaPGimmalNamesx1
namespace Go.Proofs.Ytfhffalljkppkaa.Pure
open Go.RowKit Go.Proofs.Ytfhffalljkppkaa.PGimmalNames Go.Proofs.YtfhffalljkppkaaW.PrintWords Go.Proofs.YtfhffalljkppkaaW.PrintLast

theorem GimmalNames : gimmallaw0_GimmalNames.Pure := by
  unfold gimmallaw0_GimmalNames.Pure
  rfl

end Go.Proofs.Ytfhffalljkppkaa.Pure
