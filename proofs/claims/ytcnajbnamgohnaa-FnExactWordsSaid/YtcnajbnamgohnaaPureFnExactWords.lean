/- The program's Words and the reference's tell the same thirteen words, and what is written into them stays there. No condition. -/
import Derived.Test.YtcnajbnamgohnaaPFnExactWordsx1
import Derived.Test.YtcnajbnamgohnaaCB
namespace Go.Proofs.Ytcnajbnamgohnaa.Pure
open Go.RowKit Go.Proofs.Ytcnajbnamgohnaa.PFnExactWords Go.Proofs.YtcnajbnamgohnaaW.PrintWords Go.Proofs.YtcnajbnamgohnaaW.PrintLast Go.Proofs.Ytcnajbnamgohnaa.CB
theorem FnExactWords : laws_FnExactWords.Pure := by
  refine ⟨40, ?_⟩
  decide +kernel
end Go.Proofs.Ytcnajbnamgohnaa.Pure
