/- Nothing of the statement is proved here: this text lays generic laws: FK; no conditions. -/
import Derived.Test.YtdpcehjiicfpdaaFI
import Derived.Test.YtdpcehjiicfpdaaPS
set_option linter.all false
set_option autoImplicit false
set_option maxRecDepth 8000
set_option maxHeartbeats 2000000
set_option exponentiation.threshold 5000
namespace Go.SE
open Go
variable {P : Program} {R : AEnd → Prop}
section
variable {m a b : Nat}
end
section
variable {m a : Nat}
end
end Go.SE
