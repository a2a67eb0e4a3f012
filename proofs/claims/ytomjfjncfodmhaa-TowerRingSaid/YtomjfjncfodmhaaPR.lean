/- Nothing of the statement is proved here: this text lays generic laws: PR; no conditions. -/
import Derived.Test.YtomjfjncfodmhaaFG
set_option linter.all false
set_option autoImplicit false
namespace Go.PR
def Prime (p : Nat) : Prop := 2 ≤ p ∧ ∀ d, d ∣ p → d = 1 ∨ d = p
def pw (m : Nat) : Nat → Nat → Nat → Nat
  | 0, _, _ => 1 % m
  | k + 1, a, e => if e = 0 then 1 % m else if e % 2 = 1 then a * pw m k (a * a % m) (e / 2) % m else pw m k (a * a % m) (e / 2)
def apart : List (Nat × Nat) → Bool
  | [] => true
  | x :: l => l.all (fun y => decide (x.1 ≠ y.1)) && apart l
end Go.PR
set_option autoImplicit false
set_option maxRecDepth 100000
set_option exponentiation.threshold 5000
namespace Go.PR
end Go.PR
set_option autoImplicit false
set_option maxRecDepth 8000
set_option maxHeartbeats 2000000
set_option exponentiation.threshold 5000
namespace Go.SE
open Go
variable {P : Program} {R : AEnd → Prop}
abbrev pBase : Nat := 21888242871839275222246405745257275088696311157297823662689037894645226208583
def fBase : AV := FP pBase 9786893198990664585 (W256 * W256 % pBase)
theorem ok_base : Fok pBase 9786893198990664585 (W256 * W256 % pBase) := ⟨by decide, by decide, by decide, by decide, rfl⟩
section
variable {m a b : Nat}
end
section
variable {m a : Nat}
end
end Go.SE
