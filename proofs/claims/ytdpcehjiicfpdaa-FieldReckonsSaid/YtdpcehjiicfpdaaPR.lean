/- Nothing of the statement is proved here: this text lays generic laws: PR; no conditions. -/

set_option linter.all false
set_option autoImplicit false
namespace Go.PR
def Prime (p : Nat) : Prop := 2 ≤ p ∧ ∀ d, d ∣ p → d = 1 ∨ d = p
theorem Prime.pos {p : Nat} (h : Prime p) : 0 < p := by have := h.1; omega
def prod (f : Nat → Nat) : Nat → Nat
  | 0 => 1
  | n + 1 => prod f n * f (n + 1)
def pw (m : Nat) : Nat → Nat → Nat → Nat
  | 0, _, _ => 1 % m
  | k + 1, a, e => if e = 0 then 1 % m else if e % 2 = 1 then a * pw m k (a * a % m) (e / 2) % m else pw m k (a * a % m) (e / 2)
end Go.PR
