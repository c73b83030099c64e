/- One of the row's facts, by the kernel. Condition: none. -/
import Derived.Test.YtlaegncokadkkaaGreatRows
import Derived.ProofKit
import Derived.JoinedOf
namespace Go.Proofs.YtlaegncokadkkaaGreat.formatTag
open Go.RowKit
theorem c3 : (Rows.formatTagRow.recurses == Tryz.prog.recurses 3) = true := by kernel_rfl
end Go.Proofs.YtlaegncokadkkaaGreat.formatTag
