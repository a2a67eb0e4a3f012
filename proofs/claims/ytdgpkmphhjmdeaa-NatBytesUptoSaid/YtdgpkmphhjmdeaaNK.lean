/- Nothing of the statement is proved here: this text lays generic laws: NK; no conditions. -/
import Derived.Test.YtdgpkmphhjmdeaaSe5

set_option linter.all false
set_option autoImplicit false
namespace Go.SE

/-! ### Guessing a quotient's digit (plain numbers) -/

section guess
variable {b v1 v2 vr T u0 u1 u2 wr v w h g r : Nat}

/-- a guess that is tested too great is too great -/
theorem guess_high (hv : v = (v1 * b + v2) * T + vr) (hh : g * v1 + r = h) (hw : w = (h * b + u2) * T + wr) (hwr : wr < T) (ht : r * b + u2 < g * v2) : w < g * v := by
  have h1 : g * v = g * (v1 * b + v2) * T + g * vr := by rw [hv, Nat.mul_add, Nat.mul_assoc]
  have h2 : g * (v1 * b + v2) = g * v1 * b + g * v2 := by rw [Nat.mul_add, Nat.mul_assoc]
  have h3 : h * b = g * v1 * b + r * b := by rw [← hh, Nat.add_mul]
  have h4 : h * b + u2 + 1 ≤ g * (v1 * b + v2) := by rw [h2, h3]; omega
  have h5 := Nat.mul_le_mul_right T h4
  rw [Nat.add_mul, Nat.one_mul] at h5
  rw [h1, hw]
  omega

/-- a guess that is tested not too great is at most one too great -/
theorem guess_low (hv : v = (v1 * b + v2) * T + vr) (hvr : vr < T) (hh : g * v1 + r = h) (hw : w = (h * b + u2) * T + wr) (hg : g ≤ v1 * b + v2 + 1) (ht : g * v2 ≤ r * b + u2) : g * v ≤ w + v := by
  cases g with
  | zero => simp
  | succ g =>
    have h2 : (g + 1) * (v1 * b + v2) = (g + 1) * v1 * b + (g + 1) * v2 := by rw [Nat.mul_add, Nat.mul_assoc]
    have h3 : h * b = (g + 1) * v1 * b + r * b := by rw [← hh, Nat.add_mul]
    have h4 : (g + 1) * (v1 * b + v2) ≤ h * b + u2 := by rw [h2, h3]; omega
    have h5 : g * (v1 * b + v2) + g ≤ h * b + u2 := by
      have : (g + 1) * (v1 * b + v2) = g * (v1 * b + v2) + (v1 * b + v2) := Nat.succ_mul _ _
      omega
    have h6 : g * v = g * (v1 * b + v2) * T + g * vr := by rw [hv, Nat.mul_add, Nat.mul_assoc]
    have h7 : g * vr ≤ g * T := Nat.mul_le_mul_left _ (by omega)
    have h8 := Nat.mul_le_mul_right T h5
    rw [Nat.add_mul] at h8
    have h9 : (g + 1) * v = g * v + v := Nat.succ_mul _ _
    rw [h9, h6, hw]
    omega

/-- the first guess is not too small -/
theorem guess_first (hv : v = (v1 * b + v2) * T + vr) (hv1 : 0 < v1) (hw : w = (h * b + u2) * T + wr) (hwr : wr < T) (hu2 : u2 < b) : w < (h / v1 + 1) * v := by
  have h1 : h < (h / v1 + 1) * v1 := by
    have := Nat.div_add_mod h v1
    have h2 := Nat.mod_lt h hv1
    rw [Nat.add_mul, Nat.one_mul, Nat.mul_comm]
    omega
  have h2 : (h / v1 + 1) * v = (h / v1 + 1) * (v1 * b + v2) * T + (h / v1 + 1) * vr := by rw [hv, Nat.mul_add, Nat.mul_assoc]
  have h3 : (h / v1 + 1) * (v1 * b + v2) = (h / v1 + 1) * v1 * b + (h / v1 + 1) * v2 := by rw [Nat.mul_add, Nat.mul_assoc]
  have h4 := Nat.mul_le_mul_right b h1
  rw [Nat.succ_mul] at h4
  have h5 : h * b + u2 + 1 ≤ (h / v1 + 1) * (v1 * b + v2) := by rw [h3]; omega
  have h6 := Nat.mul_le_mul_right T h5
  rw [Nat.add_mul, Nat.one_mul] at h6
  rw [h2, hw]
  omega

/-- the highest part is not above the divisor's -/
theorem top_le (hv : v = (v1 * b + v2) * T + vr) (hvr : vr < T) (hv2 : v2 < b) (hw : w = ((u0 * b + u1) * b + u2) * T + wr) (hlt : w < b * v) : u0 ≤ v1 := by
  rcases Nat.lt_or_ge v1 u0 with h | h
  · exfalso
    have h1 : v < (v1 * b + v2 + 1) * T := by rw [hv, Nat.add_mul _ 1, Nat.one_mul]; omega
    have h2 : (v1 * b + v2 + 1) * T ≤ (v1 + 1) * b * T := Nat.mul_le_mul_right _ (by rw [Nat.succ_mul]; omega)
    have h3 : b * v ≤ b * ((v1 + 1) * b * T) := Nat.mul_le_mul_left _ (by omega)
    have h4 : (v1 + 1) * b * b * T ≤ u0 * b * b * T := Nat.mul_le_mul_right _ (Nat.mul_le_mul_right _ (Nat.mul_le_mul_right _ h))
    have h5 : u0 * b * b * T ≤ w := by
      rw [hw]
      have : u0 * b * b ≤ (u0 * b + u1) * b + u2 := by rw [Nat.add_mul]; omega
      have := Nat.mul_le_mul_right T this
      omega
    have h6 : b * ((v1 + 1) * b * T) = (v1 + 1) * b * b * T := by ac_rfl
    omega
  · exact h
end guess

end Go.SE
