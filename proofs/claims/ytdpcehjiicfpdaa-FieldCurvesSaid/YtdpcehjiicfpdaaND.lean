/- Nothing of the statement is proved here: this text lays generic laws: ND; no conditions. -/
import Derived.Test.YtdpcehjiicfpdaaNC
set_option linter.all false
set_option autoImplicit false
set_option exponentiation.threshold 5000
namespace Go.SE
open Go
variable {P : Program} {R : AEnd → Prop} {L A B C : List Nat}
theorem OkN.take (h : OkN A) (n : Nat) : OkN (A.take n) := ⟨h.1.take n, by have := h.2; simp; omega⟩
end Go.SE
