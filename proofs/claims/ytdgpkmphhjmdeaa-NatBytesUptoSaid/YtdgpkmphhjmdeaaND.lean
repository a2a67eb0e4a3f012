/- Nothing of the statement is proved here: this text lays generic laws: ND; no conditions. -/
import Derived.Test.YtdgpkmphhjmdeaaNC

set_option linter.all false
set_option autoImplicit false
set_option exponentiation.threshold 5000
namespace Go.SE
open Go

variable {P : Program} {R : AEnd → Prop} {L A B C : List Nat}

theorem long_of {n : Nat} (h : n < B32 ^ 1024) : long n = false := by
  have := (digs_length_le (b := B32) (k := 1024) (by decide)).2 h
  simp [long, this]
theorem pow_le {k m : Nat} (h : k ≤ m) : B32 ^ k ≤ B32 ^ m := Nat.pow_le_pow_right (by decide) h
theorem told_of {n : Nat} (h : n < B32 ^ 1024) : told n = (digs B32 n, 0) := by unfold told; rw [long_of h]; rfl
theorem addS_of {a b : Nat} (ha : a < B32 ^ 1023) (hb : b < B32 ^ 1023) : addS a b = (digs B32 (a + b), 0) := by
  have h1 : B32 ^ 1024 = B32 ^ 1023 * B32 := Nat.pow_succ ..
  have h2 : B32 ^ 1023 * 2 ≤ B32 ^ 1023 * B32 := Nat.mul_le_mul_left _ (by decide)
  unfold addS
  rw [long_of (by omega), long_of (by omega), Bool.or_false, if_neg (by simp), told_of (by omega)]
theorem mul_lt_pow {a b i j : Nat} (ha : a < B32 ^ i) (hb : b < B32 ^ j) : a * b < B32 ^ (i + j) := by
  rw [Nat.pow_add]; exact Nat.mul_lt_mul'' ha hb
theorem mulS_of {a b i j : Nat} (ha : a < B32 ^ i) (hb : b < B32 ^ j) (h : i + j ≤ 1024) : mulS a b = (digs B32 (a * b), 0) := by
  unfold mulS
  rw [long_of (Nat.lt_of_lt_of_le ha (pow_le (by omega))), long_of (Nat.lt_of_lt_of_le hb (pow_le (by omega))), Bool.or_false, if_neg (by simp), told_of (Nat.lt_of_lt_of_le (mul_lt_pow ha hb) (pow_le h))]
theorem OkN.digs_of {n k : Nat} (h : n < B32 ^ k) (hk : k ≤ 35184372088832) : OkN (digs B32 n) := ⟨digs_lt (by decide) _, Nat.le_trans ((digs_length_le (by decide)).2 h) hk⟩
theorem OkN.take (h : OkN A) (n : Nat) : OkN (A.take n) := ⟨h.1.take n, by have := h.2; simp; omega⟩
theorem val_take_lt (h : OkN A) (n : Nat) : val B32 (A.take n) < B32 ^ n :=
  Nat.lt_of_lt_of_le (val_lt (by decide) (h.1.take n)) (pow_le (by simp; omega))


end Go.SE
