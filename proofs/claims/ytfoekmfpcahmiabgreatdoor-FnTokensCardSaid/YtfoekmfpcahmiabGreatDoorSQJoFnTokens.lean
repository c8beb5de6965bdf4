-- Facts of the row of FnTokens, closed: this session's own text.
import Derived.Test.YtfoekmfpcahmiabGreatDoorRows
import Derived.ProofKit
import Derived.WalkKit
namespace Go.Proofs.YtfoekmfpcahmiabGreatDoor.fnTokens
open Go.ChangeShapes Go.WideShapes Go.ChangeAt Go.RowKit
theorem ZjM : joinedFacts Tryz.prog 3 Tryz.f3 Rows.fnTokensSpec Rows.fnTokensRow = true:=by kernel_rfl
end Go.Proofs.YtfoekmfpcahmiabGreatDoor.fnTokens
