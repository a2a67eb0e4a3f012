/- Nothing of the statement is proved here: this text lays generic laws: FY; no conditions. -/
import Derived.Test.YtomjfjncfodmhaaFQ
import Derived.Test.YtomjfjncfodmhaaPR
set_option linter.all false
set_option autoImplicit false
set_option maxRecDepth 8000
set_option maxHeartbeats 4000000
set_option exponentiation.threshold 5000
namespace Go.SE
open Go
variable {P : Program} {R : AEnd → Prop}
end Go.SE
