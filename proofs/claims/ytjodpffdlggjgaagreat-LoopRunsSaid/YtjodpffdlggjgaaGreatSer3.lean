/- Package series: Last. (fast region) -/
import Derived.Test.YtjodpffdlggjgaaGreatSer2
namespace Go.Proofs.YtjodpffdlggjgaaGreat
open Go.RowKit
set_option linter.unusedSimpArgs false
set_option linter.unusedVariables false
set_option maxHeartbeats 4000000
set_option maxRecDepth 100000
end Go.Proofs.YtjodpffdlggjgaaGreat
