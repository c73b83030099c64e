/- Lemmas, conditions told -/
import Derived.Test.YtibemhahkicbpaaGreatL17
set_option maxRecDepth 99999
set_option maxHeartbeats 0
set_option linter.unusedSimpArgs false
set_option linter.unusedVariables false
namespace Go.Proofs.YtibemhahkicbpaaGreat
open Go.RowKit Go.Lib
