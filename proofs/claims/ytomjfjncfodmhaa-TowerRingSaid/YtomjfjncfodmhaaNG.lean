/- Nothing of the statement is proved here: this text lays generic laws: NG; no conditions. -/
import Derived.Test.YtomjfjncfodmhaaNA
import Derived.Test.YtomjfjncfodmhaaSe6
set_option linter.all false
set_option autoImplicit false
set_option exponentiation.threshold 5000
namespace Go.SE
open Go
variable {P : Program} {R : AEnd → Prop} {L A B X Y : List Nat} {b : Nat}
end Go.SE
set_option autoImplicit false
set_option exponentiation.threshold 5000
namespace Go.SE
open Go
variable {P : Program} {R : AEnd → Prop} {L A B X Y : List Nat} {b : Nat}
end Go.SE
set_option autoImplicit false
set_option exponentiation.threshold 5000
namespace Go.SE
open Go
variable {P : Program} {R : AEnd → Prop} {L A B X Y : List Nat} {b : Nat}
end Go.SE
set_option autoImplicit false
namespace Go.SE
section guess
variable {b v1 v2 vr T u0 u1 u2 wr v w h g r : Nat}
end guess
end Go.SE
set_option autoImplicit false
set_option exponentiation.threshold 5000
namespace Go.SE
open Go
variable {P : Program} {R : AEnd → Prop} {L A B X Y : List Nat} {b : Nat}
structure DivI (a v la m J : Nat) (U Q : List Nat) : Prop where
  le : J ≤ m
  ul : U.length = la + 1
  ut : LtAll B32 U
  ql : Q.length = m
  qt : LtAll B32 Q
  eq : a = val B32 U + v * val B32 Q
  top : val B32 (U.drop J) < v
  zero : ∀ i, i < J → Q.getD i 0 = 0
structure DivS (a v la m k j : Nat) (U Q Pre M Suf : List Nat) : Prop where
  cut : U = Pre ++ M ++ Suf
  pl : Pre.length = j
  ml : M.length = k + 1
  mt : LtAll B32 M
  sum : Pre.length + M.length + Suf.length = la + 1
  lt : val B32 M < B32 * v
  next : ∀ qd R, R < v → val B32 M = R + qd * v → qd < B32 → DivI a v la m j (Pre ++ fdigs B32 (k + 1) R ++ Suf) (Q.set j qd)
end Go.SE
set_option autoImplicit false
set_option exponentiation.threshold 5000
namespace Go.SE
open Go
variable {P : Program} {R : AEnd → Prop} {L A B X Y : List Nat} {b : Nat}
end Go.SE
set_option autoImplicit false
set_option exponentiation.threshold 5000
namespace Go.SE
open Go
variable {P : Program} {R : AEnd → Prop} {L A B X Y : List Nat}
end Go.SE
