/- All of the row's facts. Condition: none. -/
import Derived.Test.YtcmjijpofkoogaaGreatG24
import Derived.Test.YtcmjijpofkoogaaGreatG25
import Derived.Test.YtcmjijpofkoogaaGreatG26
import Derived.Test.YtcmjijpofkoogaaGreatG27
namespace Go.Proofs.YtcmjijpofkoogaaGreat.undoNil
open Go.RowKit
theorem shutAll : joinedFacts Tryz.pinned.checked.prog 4 Tryz.f4 Rows.undoNilSpec Rows.undoNilRow = true := by
  unfold joinedFacts
  have e1 : (Rows.undoNilRow.inPlace == Tryz.pinned.checked.prog.inPlace 4) = true := c1
  have e2 : (Rows.undoNilRow.unfollowed == Tryz.pinned.checked.prog.unfollowed 4) = true := c2
  have e3 : (Rows.undoNilRow.recurses == Tryz.pinned.checked.prog.recurses 4) = true := c3
  have e4 : (Rows.undoNilRow.named == Tryz.pinned.checked.prog.varsNamed 4) = true := c4
  rw [e1, e2, e3, e4]
  show (_ : Bool) = true
  kernel_rfl
end Go.Proofs.YtcmjijpofkoogaaGreat.undoNil
