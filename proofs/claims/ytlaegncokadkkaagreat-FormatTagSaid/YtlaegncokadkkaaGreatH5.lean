/- All of the row's facts. Condition: none. -/
import Derived.Test.YtlaegncokadkkaaGreatH1
import Derived.Test.YtlaegncokadkkaaGreatH2
import Derived.Test.YtlaegncokadkkaaGreatH3
import Derived.Test.YtlaegncokadkkaaGreatH4
namespace Go.Proofs.YtlaegncokadkkaaGreat.formatTag
open Go.RowKit
theorem shutAll : joinedFacts Tryz.pinned.checked.prog 3 Tryz.f3 Rows.formatTagSpec Rows.formatTagRow = true := by
  unfold joinedFacts
  have e1 : (Rows.formatTagRow.inPlace == Tryz.pinned.checked.prog.inPlace 3) = true := c1
  have e2 : (Rows.formatTagRow.unfollowed == Tryz.pinned.checked.prog.unfollowed 3) = true := c2
  have e3 : (Rows.formatTagRow.recurses == Tryz.pinned.checked.prog.recurses 3) = true := c3
  have e4 : (Rows.formatTagRow.named == Tryz.pinned.checked.prog.varsNamed 3) = true := c4
  rw [e1, e2, e3, e4]
  show (_ : Bool) = true
  kernel_rfl
end Go.Proofs.YtlaegncokadkkaaGreat.formatTag
