-- by this session's own program mp.py over the kit's printer
import Derived.Test.YtidhjpdcbmbicaaMFnRestsx0
namespace Go.Proofs.Ytidhjpdcbmbicaa.MFnRests
open Go.RowKit Go.Proofs.YtidhjpdcbmbicaaW.PrintWords Go.Proofs.YtidhjpdcbmbicaaW.PrintLast Go.Proofs.YtidhjpdcbmbicaaW.PrintMore
attribute [local go_sem] max2_int min2_int max_two min_two max_three min_three max_four min_four   -- for this text's walks alone
set_option linter.unusedVariables false
set_option linter.unusedSimpArgs false

/-! ### impl_Rem: function 20 -/
def impl_Rem.f (a0 : Int) (a1 : Int) : Option (Int) := Go.Proofs.Ytidhjpdcbmbicaa.G.impl_Rem a0 a1
theorem impl_Rem.calls (a0 : Int) (a1 : Int) (r : Int) (w : World) (h : impl_Rem.f a0 a1 = some r) :
    Calls Try.prog 20 #[.int .u64 a0, .int .u64 a1] w fun e w' => e = .returned (.int .u64 r) ∧ Drawn0 w w' := Go.Proofs.Ytidhjpdcbmbicaa.G.impl_Rem_calls a0 a1 r w h

end Go.Proofs.Ytidhjpdcbmbicaa.MFnRests
