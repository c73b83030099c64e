/- One of the row's facts, by the kernel. Condition: none. -/
import Derived.Test.YtlaegncokadkkaaGreatRows
import Derived.ProofKit
import Derived.JoinedOf
namespace Go.Proofs.YtlaegncokadkkaaGreat.formatTag
open Go.RowKit
theorem c1 : (Rows.formatTagRow.inPlace == Tryz.prog.inPlace 3) = true := by kernel_rfl
end Go.Proofs.YtlaegncokadkkaaGreat.formatTag
