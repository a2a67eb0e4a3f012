/- Nothing of the statement is proved here: this text lays generic laws: NB; no conditions. -/
import Derived.Test.YtdpcehjiicfpdaaNA
set_option linter.all false
set_option autoImplicit false
set_option exponentiation.threshold 5000
namespace Go.SE
open Go
variable {P : Program} {R : AEnd → Prop} {L A B : List Nat}
def long (n : Nat) : Bool := decide (1024 < (digs B32 n).length)
def told (n : Nat) : List Nat × Int := if long n then ([], 2) else (digs B32 n, 0)
def res (p : List Nat × Int) : AV := .tup [W p.1, .int .i64 p.2]
def OkN (L : List Nat) : Prop := LtAll B32 L ∧ L.length ≤ 35184372088832
end Go.SE
