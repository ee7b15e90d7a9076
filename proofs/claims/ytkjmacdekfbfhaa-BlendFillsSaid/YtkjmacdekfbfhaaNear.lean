/- The reference of package control: Load, Want, Bound, Near, Open. -/
import Derived.Test.YtkjmacdekfbfhaaControl2
import Derived.Test.YtkjmacdekfbfhaaNum6
namespace Go.Proofs.Ytkjmacdekfbfhaa
open Go.RowKit
set_option linter.unusedSimpArgs false
set_option linter.unusedVariables false
set_option maxHeartbeats 4000000
set_option maxRecDepth 100000
abbrev Pol.row (p : Pol) : Array Value := #[.int .i64 p.min, .int .i64 p.max, .int .i64 p.target, .int .i64 p.tol, .int .i64 p.window, .int .i64 p.hold]
end Go.Proofs.Ytkjmacdekfbfhaa
