/- Nothing of the statement is proved here: this text lays generic laws: PS; no conditions. -/
import Derived.Test.YtdpcehjiicfpdaaPR
set_option linter.all false
set_option autoImplicit false
set_option maxRecDepth 100000
set_option exponentiation.threshold 5000
namespace Go.PR
end Go.PR
