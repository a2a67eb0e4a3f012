/- Nothing of the statement is proved here: this text lays generic laws: NH; no conditions. -/
import Derived.Test.YtdpcehjiicfpdaaNG
set_option linter.all false
set_option autoImplicit false
set_option exponentiation.threshold 5000
namespace Go.SE
open Go
variable {P : Program} {R : AEnd → Prop} {L A B X Y : List Nat} {b : Nat}
end Go.SE
