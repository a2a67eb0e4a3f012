/- Nothing of the statement is proved here: this text lays generic laws: NL; no conditions. -/
import Derived.Test.YtdpcehjiicfpdaaNJ
set_option linter.all false
set_option autoImplicit false
set_option exponentiation.threshold 5000
namespace Go.SE
open Go
variable {P : Program} {R : AEnd → Prop} {L A B X Y : List Nat} {b : Nat}
theorem ev_mkslTake {k : IntKind} {L : List Nat} {a b : Int} {n : Nat} (ha : a = 0) (hb : b = (n : Int)) (h : n ≤ L.length) : evalO (.mksl 1) [.lst (CN k L), .int .i64 a, .int .i64 b] = some (SN k (L.take n)) := by
  rw [ev_mksl (o := 0) (n := n) (by simpa using ha) hb (by simpa using h)]
  have : (L.take n).length = n := by simp; omega
  simp [SN, CN, List.map_take]
  omega
end Go.SE
