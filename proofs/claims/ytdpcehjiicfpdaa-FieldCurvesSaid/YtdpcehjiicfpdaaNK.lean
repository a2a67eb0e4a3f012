/- Nothing of the statement is proved here: this text lays generic laws: NK; no conditions. -/
import Derived.Test.YtdpcehjiicfpdaaSe6
set_option linter.all false
set_option autoImplicit false
namespace Go.SE
section guess
variable {b v1 v2 vr T u0 u1 u2 wr v w h g r : Nat}
end guess
end Go.SE
