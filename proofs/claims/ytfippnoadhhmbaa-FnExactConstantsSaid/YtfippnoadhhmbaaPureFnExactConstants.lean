/- The constants of the program are those that the law names. No condition but the statement's own. -/
import Derived.Test.YtfippnoadhhmbaaPFnExactConstantsx1
import Derived.Test.YtfippnoadhhmbaaCB
namespace Go.Proofs.Ytfippnoadhhmbaa.Pure
open Go.RowKit Go.Proofs.Ytfippnoadhhmbaa.PFnExactConstants Go.Proofs.YtfippnoadhhmbaaW.PrintWords Go.Proofs.YtfippnoadhhmbaaW.PrintLast Go.Proofs.Ytfippnoadhhmbaa.CB
theorem FnExactConstants : laws_FnExactConstants.Pure := by
  rfl
end Go.Proofs.Ytfippnoadhhmbaa.Pure
