/- One of the row's facts, by the kernel. Condition: none. -/
import Derived.Test.YtcmjijpofkoogaaGreatRows
import Derived.ProofKit
import Derived.JoinedOf
namespace Go.Proofs.YtcmjijpofkoogaaGreat.undoNil
open Go.RowKit
theorem c4 : (Rows.undoNilRow.named == Tryz.prog.varsNamed 4) = true := by kernel_rfl
end Go.Proofs.YtcmjijpofkoogaaGreat.undoNil
