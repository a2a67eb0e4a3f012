/- Nothing of the statement is proved here: this text lays generic laws: TM; no conditions. -/
import Derived.Test.YtomjfjncfodmhaaTK
set_option linter.all false
set_option autoImplicit false
set_option maxRecDepth 20000
set_option maxHeartbeats 8000000
set_option exponentiation.threshold 500
namespace Go.SE
open Go
variable {P : Program} {R : AEnd → Prop}
namespace Tri
def sub (a b : Tri) : Tri := ⟨a.d0 - b.d0, a.d1 - b.d1, a.d2 - b.d2⟩
theorem mul_scale (a b : Tri) (i : Cx pBase) : mul a (scale b i) = scale (mul a b) i := by
  ext1 <;> simp only [mul, scale, Cx.add_mul] <;> ac_rfl
theorem sub_mul (a b c : Tri) : sub (mul a c) (mul b c) = mul (sub a b) c := by
  ext1 <;> ext1 <;> simp only [sub, mul, Cx.mul_re, Cx.mul_im, Cx.sub_re, Cx.sub_im, Cx.add_re, Cx.add_im, xi_re, xi_im] <;> grind
theorem sub_self (a : Tri) : sub a a = zero := by
  ext1 <;> ext1 <;> simp only [sub, zero, Cx.sub_re, Cx.sub_im, Cx.zero_re, Cx.zero_im] <;> grind
theorem nr_sub (x y : Tri) : nr x y = sub (mul x x) (up (mul y y)) := rfl
end Tri
theorem six_wh (p q x y : Tri) : Six.mul xi (wh p (Tri.neg q)) (wh x y) = wh (Tri.sub (Tri.mul p x) (Tri.up (Tri.mul q y))) (Tri.sub (Tri.mul p y) (Tri.mul q x)) := by
  ext1 <;> ext1 <;> simp only [Six.mul, wh, Tri.neg, Tri.sub, Tri.mul, Tri.up, Cx.mul_re, Cx.mul_im, Cx.sub_re, Cx.sub_im, Cx.add_re, Cx.add_im, Cx.zero_re, Cx.zero_im, Tri.xi_re, Tri.xi_im] <;> grind
theorem wh_parts (s : Six pBase) : wh (evn s) (odd s) = s := rfl
def inv12 (s : Six pBase) : Tri := Tri.scale (Tri.adj (Tri.nr (evn s) (odd s))) (ci (Tri.nrm (Tri.nr (evn s) (odd s))))
def is12 (s : Six pBase) : Bool := cb (Tri.nrm (Tri.nr (evn s) (odd s)))
def one12 : Six pBase := ⟨.one, .zero, .zero, .zero, .zero, .zero⟩
theorem inv12_mul {s : Six pBase} (h : is12 s = true) : Six.mul xi (wh (Tri.mul (evn s) (inv12 s)) (Tri.neg (Tri.mul (odd s) (inv12 s)))) s = one12 := by
  have h0 : norm (Tri.nrm (Tri.nr (evn s) (odd s))) ≠ 0 := of_decide_eq_true h
  have hN : Tri.mul (Tri.nr (evn s) (odd s)) (inv12 s) = ⟨.one, .zero, .zero⟩ := by
    unfold inv12
    rw [Tri.mul_scale, Tri.mul_adj]
    have e : ci (Tri.nrm (Tri.nr (evn s) (odd s))) = cinv (Tri.nrm (Tri.nr (evn s) (odd s))) := by unfold ci; rw [if_neg h0]
    rw [e]
    have := cinv_mul h0
    generalize cinv (Tri.nrm (Tri.nr (evn s) (odd s))) = i at *
    generalize Tri.nrm (Tri.nr (evn s) (odd s)) = n at *
    unfold Tri.scale
    rw [Cx.mul_comm n i, this, Cx.zero_mul]
  generalize inv12 s = I at *
  conv => lhs; rw [← wh_parts s]
  have e1 : evn (wh (evn s) (odd s)) = evn s := rfl
  have e2 : odd (wh (evn s) (odd s)) = odd s := rfl
  rw [e1, e2]
  generalize evn s = x at *
  generalize odd s = y at *
  rw [six_wh]
  have a1 : Tri.mul (Tri.mul x I) x = Tri.mul (Tri.mul x x) I := by ac_rfl
  have a2 : Tri.up (Tri.mul (Tri.mul y I) y) = Tri.mul (Tri.up (Tri.mul y y)) I := by
    rw [Tri.mul_comm (Tri.up _), Tri.mul_up]; congr 1; ac_rfl
  have a3 : Tri.mul (Tri.mul x I) y = Tri.mul (Tri.mul y I) x := by ac_rfl
  rw [a1, a2, a3, Tri.sub_self, Tri.sub_mul, ← Tri.nr_sub, hN]
  rfl
def z12 : List Nat := [0, 0, 0, 0, 0, 0, 0, 0, 0, 0, 0, 0]
theorem z12_lt : ∀ x ∈ z12, x < W256 := by decide
theorem is12_iff (s : Six pBase) : is12 s = decide (gl (gv (u6 s)) ≠ z12) := by
  unfold is12 cb
  rw [decide_eq_decide, Ne, Ne, not_congr]
  rw [norm_zero]
  constructor
  · intro h
    have h1 := Tri.nr_zero (Tri.nrm_zero h)
    have e : s = wh (evn s) (odd s) := rfl
    rw [e, h1.1, h1.2]
    rfl
  · intro h
    simp only [gl, gv, z12, u6, List.cons.injEq, and_true] at h
    obtain ⟨a0, a1, a2, a3, a4, a5, a6, a7, a8, a9, a10, a11⟩ := h
    have e : s = ⟨.zero, .zero, .zero, .zero, .zero, .zero⟩ := by
      ext1 <;> exact Cx.ext (Fin.ext (by assumption)) (Fin.ext (by assumption))
    rw [e]
    decide +kernel
section
variable {g h : Nat → Nat × Nat}
def inv12R (s : Six pBase) : AV := if is12 s = true then .tup [w6 (wh (Tri.mul (evn s) (inv12 s)) (Tri.neg (Tri.mul (odd s) (inv12 s)))), .bool true] else .tup [WS z12, .bool false]
def t_Inv12 (tof tof12 halves mul6 tup tsub inv6 neg6 whole : FuncId) : T :=
 .node (.op (.cell 48 0) [.v 0]) <|
 .node (.op (.cell 48 1) [.v 0]) <|
 .node (.op (.cell 48 2) [.v 0]) <|
 .node (.op (.cell 48 3) [.v 0]) <|
 .node (.op (.cell 48 4) [.v 0]) <|
 .node (.op (.cell 48 5) [.v 0]) <|
 .node (.op (.cell 48 6) [.v 0]) <|
 .node (.op (.cell 48 7) [.v 0]) <|
 .node (.op (.cell 48 8) [.v 0]) <|
 .node (.op (.cell 48 9) [.v 0]) <|
 .node (.op (.cell 48 10) [.v 0]) <|
 .node (.op (.cell 48 11) [.v 0]) <|
 .node (.op (.cell 48 12) [.v 0]) <|
 .node (.op (.cell 48 13) [.v 0]) <|
 .node (.op (.cell 48 14) [.v 0]) <|
 .node (.op (.cell 48 15) [.v 0]) <|
 .node (.op (.cell 48 16) [.v 0]) <|
 .node (.op (.cell 48 17) [.v 0]) <|
 .node (.op (.cell 48 18) [.v 0]) <|
 .node (.op (.cell 48 19) [.v 0]) <|
 .node (.op (.cell 48 20) [.v 0]) <|
 .node (.op (.cell 48 21) [.v 0]) <|
 .node (.op (.cell 48 22) [.v 0]) <|
 .node (.op (.cell 48 23) [.v 0]) <|
 .node (.op (.cell 48 24) [.v 0]) <|
 .node (.op (.cell 48 25) [.v 0]) <|
 .node (.op (.cell 48 26) [.v 0]) <|
 .node (.op (.cell 48 27) [.v 0]) <|
 .node (.op (.cell 48 28) [.v 0]) <|
 .node (.op (.cell 48 29) [.v 0]) <|
 .node (.op (.cell 48 30) [.v 0]) <|
 .node (.op (.cell 48 31) [.v 0]) <|
 .node (.op (.cell 48 32) [.v 0]) <|
 .node (.op (.cell 48 33) [.v 0]) <|
 .node (.op (.cell 48 34) [.v 0]) <|
 .node (.op (.cell 48 35) [.v 0]) <|
 .node (.op (.cell 48 36) [.v 0]) <|
 .node (.op (.cell 48 37) [.v 0]) <|
 .node (.op (.cell 48 38) [.v 0]) <|
 .node (.op (.cell 48 39) [.v 0]) <|
 .node (.op (.cell 48 40) [.v 0]) <|
 .node (.op (.cell 48 41) [.v 0]) <|
 .node (.op (.cell 48 42) [.v 0]) <|
 .node (.op (.cell 48 43) [.v 0]) <|
 .node (.op (.cell 48 44) [.v 0]) <|
 .node (.op (.cell 48 45) [.v 0]) <|
 .node (.op (.cell 48 46) [.v 0]) <|
 .node (.op (.cell 48 47) [.v 0]) <|
 .node (.call tof [] false) <|
 .node (.op (.cell 1 0) [.v 49]) <|
 .node (.op .mkagg [.v 50]) <|
 .node (.op .mkagg [.v 1, .v 2, .v 3, .v 4, .v 5, .v 6, .v 7, .v 8, .v 9, .v 10, .v 11, .v 12, .v 13, .v 14, .v 15, .v 16, .v 17, .v 18, .v 19, .v 20, .v 21, .v 22, .v 23, .v 24, .v 25, .v 26, .v 27, .v 28, .v 29, .v 30, .v 31, .v 32, .v 33, .v 34, .v 35, .v 36, .v 37, .v 38, .v 39, .v 40, .v 41, .v 42, .v 43, .v 44, .v 45, .v 46, .v 47, .v 48]) <|
 .node (.call tof12 [.v 51, .v 52] false) <|
 .node (.call halves [.v 53] false) <|
 .node (.op (.ext 0 false) [.v 54]) <|
 .node (.op (.ext 1 false) [.v 54]) <|
 .node (.op (.cell 24 0) [.v 55]) <|
 .node (.op (.cell 24 1) [.v 55]) <|
 .node (.op (.cell 24 2) [.v 55]) <|
 .node (.op (.cell 24 3) [.v 55]) <|
 .node (.op (.cell 24 4) [.v 55]) <|
 .node (.op (.cell 24 5) [.v 55]) <|
 .node (.op (.cell 24 6) [.v 55]) <|
 .node (.op (.cell 24 7) [.v 55]) <|
 .node (.op (.cell 24 8) [.v 55]) <|
 .node (.op (.cell 24 9) [.v 55]) <|
 .node (.op (.cell 24 10) [.v 55]) <|
 .node (.op (.cell 24 11) [.v 55]) <|
 .node (.op (.cell 24 12) [.v 55]) <|
 .node (.op (.cell 24 13) [.v 55]) <|
 .node (.op (.cell 24 14) [.v 55]) <|
 .node (.op (.cell 24 15) [.v 55]) <|
 .node (.op (.cell 24 16) [.v 55]) <|
 .node (.op (.cell 24 17) [.v 55]) <|
 .node (.op (.cell 24 18) [.v 55]) <|
 .node (.op (.cell 24 19) [.v 55]) <|
 .node (.op (.cell 24 20) [.v 55]) <|
 .node (.op (.cell 24 21) [.v 55]) <|
 .node (.op (.cell 24 22) [.v 55]) <|
 .node (.op (.cell 24 23) [.v 55]) <|
 .node (.op (.cell 24 0) [.v 56]) <|
 .node (.op (.cell 24 1) [.v 56]) <|
 .node (.op (.cell 24 2) [.v 56]) <|
 .node (.op (.cell 24 3) [.v 56]) <|
 .node (.op (.cell 24 4) [.v 56]) <|
 .node (.op (.cell 24 5) [.v 56]) <|
 .node (.op (.cell 24 6) [.v 56]) <|
 .node (.op (.cell 24 7) [.v 56]) <|
 .node (.op (.cell 24 8) [.v 56]) <|
 .node (.op (.cell 24 9) [.v 56]) <|
 .node (.op (.cell 24 10) [.v 56]) <|
 .node (.op (.cell 24 11) [.v 56]) <|
 .node (.op (.cell 24 12) [.v 56]) <|
 .node (.op (.cell 24 13) [.v 56]) <|
 .node (.op (.cell 24 14) [.v 56]) <|
 .node (.op (.cell 24 15) [.v 56]) <|
 .node (.op (.cell 24 16) [.v 56]) <|
 .node (.op (.cell 24 17) [.v 56]) <|
 .node (.op (.cell 24 18) [.v 56]) <|
 .node (.op (.cell 24 19) [.v 56]) <|
 .node (.op (.cell 24 20) [.v 56]) <|
 .node (.op (.cell 24 21) [.v 56]) <|
 .node (.op (.cell 24 22) [.v 56]) <|
 .node (.op (.cell 24 23) [.v 56]) <|
 .node (.op .mkagg [.v 50]) <|
 .node (.op .mkagg [.v 57, .v 58, .v 59, .v 60, .v 61, .v 62, .v 63, .v 64, .v 65, .v 66, .v 67, .v 68, .v 69, .v 70, .v 71, .v 72, .v 73, .v 74, .v 75, .v 76, .v 77, .v 78, .v 79, .v 80]) <|
 .node (.op .mkagg [.v 57, .v 58, .v 59, .v 60, .v 61, .v 62, .v 63, .v 64, .v 65, .v 66, .v 67, .v 68, .v 69, .v 70, .v 71, .v 72, .v 73, .v 74, .v 75, .v 76, .v 77, .v 78, .v 79, .v 80]) <|
 .node (.call mul6 [.v 105, .v 106, .v 107] false) <|
 .node (.op .mkagg [.v 50]) <|
 .node (.op .mkagg [.v 81, .v 82, .v 83, .v 84, .v 85, .v 86, .v 87, .v 88, .v 89, .v 90, .v 91, .v 92, .v 93, .v 94, .v 95, .v 96, .v 97, .v 98, .v 99, .v 100, .v 101, .v 102, .v 103, .v 104]) <|
 .node (.op .mkagg [.v 81, .v 82, .v 83, .v 84, .v 85, .v 86, .v 87, .v 88, .v 89, .v 90, .v 91, .v 92, .v 93, .v 94, .v 95, .v 96, .v 97, .v 98, .v 99, .v 100, .v 101, .v 102, .v 103, .v 104]) <|
 .node (.call mul6 [.v 109, .v 110, .v 111] false) <|
 .node (.op (.cell 24 0) [.v 108]) <|
 .node (.op (.cell 24 1) [.v 108]) <|
 .node (.op (.cell 24 2) [.v 108]) <|
 .node (.op (.cell 24 3) [.v 108]) <|
 .node (.op (.cell 24 4) [.v 108]) <|
 .node (.op (.cell 24 5) [.v 108]) <|
 .node (.op (.cell 24 6) [.v 108]) <|
 .node (.op (.cell 24 7) [.v 108]) <|
 .node (.op (.cell 24 8) [.v 108]) <|
 .node (.op (.cell 24 9) [.v 108]) <|
 .node (.op (.cell 24 10) [.v 108]) <|
 .node (.op (.cell 24 11) [.v 108]) <|
 .node (.op (.cell 24 12) [.v 108]) <|
 .node (.op (.cell 24 13) [.v 108]) <|
 .node (.op (.cell 24 14) [.v 108]) <|
 .node (.op (.cell 24 15) [.v 108]) <|
 .node (.op (.cell 24 16) [.v 108]) <|
 .node (.op (.cell 24 17) [.v 108]) <|
 .node (.op (.cell 24 18) [.v 108]) <|
 .node (.op (.cell 24 19) [.v 108]) <|
 .node (.op (.cell 24 20) [.v 108]) <|
 .node (.op (.cell 24 21) [.v 108]) <|
 .node (.op (.cell 24 22) [.v 108]) <|
 .node (.op (.cell 24 23) [.v 108]) <|
 .node (.op (.cell 24 0) [.v 112]) <|
 .node (.op (.cell 24 1) [.v 112]) <|
 .node (.op (.cell 24 2) [.v 112]) <|
 .node (.op (.cell 24 3) [.v 112]) <|
 .node (.op (.cell 24 4) [.v 112]) <|
 .node (.op (.cell 24 5) [.v 112]) <|
 .node (.op (.cell 24 6) [.v 112]) <|
 .node (.op (.cell 24 7) [.v 112]) <|
 .node (.op (.cell 24 8) [.v 112]) <|
 .node (.op (.cell 24 9) [.v 112]) <|
 .node (.op (.cell 24 10) [.v 112]) <|
 .node (.op (.cell 24 11) [.v 112]) <|
 .node (.op (.cell 24 12) [.v 112]) <|
 .node (.op (.cell 24 13) [.v 112]) <|
 .node (.op (.cell 24 14) [.v 112]) <|
 .node (.op (.cell 24 15) [.v 112]) <|
 .node (.op (.cell 24 16) [.v 112]) <|
 .node (.op (.cell 24 17) [.v 112]) <|
 .node (.op (.cell 24 18) [.v 112]) <|
 .node (.op (.cell 24 19) [.v 112]) <|
 .node (.op (.cell 24 20) [.v 112]) <|
 .node (.op (.cell 24 21) [.v 112]) <|
 .node (.op (.cell 24 22) [.v 112]) <|
 .node (.op (.cell 24 23) [.v 112]) <|
 .node (.op .mkagg [.v 50]) <|
 .node (.op .mkagg [.v 153, .v 154, .v 155, .v 156, .v 157, .v 158, .v 159, .v 160]) <|
 .node (.call tup [.v 161, .v 162] false) <|
 .node (.op .mkagg [.v 50]) <|
 .node (.op .mkagg [.v 113, .v 114, .v 115, .v 116, .v 117, .v 118, .v 119, .v 120]) <|
 .node (.call tsub [.v 164, .v 165, .v 163] false) <|
 .node (.op .mkagg [.v 50]) <|
 .node (.op .mkagg [.v 121, .v 122, .v 123, .v 124, .v 125, .v 126, .v 127, .v 128]) <|
 .node (.op .mkagg [.v 137, .v 138, .v 139, .v 140, .v 141, .v 142, .v 143, .v 144]) <|
 .node (.call tsub [.v 167, .v 168, .v 169] false) <|
 .node (.op .mkagg [.v 50]) <|
 .node (.op .mkagg [.v 129, .v 130, .v 131, .v 132, .v 133, .v 134, .v 135, .v 136]) <|
 .node (.op .mkagg [.v 145, .v 146, .v 147, .v 148, .v 149, .v 150, .v 151, .v 152]) <|
 .node (.call tsub [.v 171, .v 172, .v 173] false) <|
 .node (.op (.build [.int .u64 0, .int .u64 0, .int .u64 0, .int .u64 0, .int .u64 0, .int .u64 0, .int .u64 0, .int .u64 0, .int .u64 0, .int .u64 0, .int .u64 0, .int .u64 0, .int .u64 0, .int .u64 0, .int .u64 0, .int .u64 0, .int .u64 0, .int .u64 0, .int .u64 0, .int .u64 0, .int .u64 0, .int .u64 0, .int .u64 0, .int .u64 0] [(0, 8), (8, 8), (16, 8)]) [.v 166, .v 170, .v 174]) <|
 .node (.op .mkagg [.v 50]) <|
 .node (.call inv6 [.v 176, .v 175] false) <|
 .node (.op (.ext 0 false) [.v 177]) <|
 .node (.op (.ext 1 true) [.v 177]) <|
 .node (.op (.cell 24 0) [.v 178]) <|
 .node (.op (.cell 24 1) [.v 178]) <|
 .node (.op (.cell 24 2) [.v 178]) <|
 .node (.op (.cell 24 3) [.v 178]) <|
 .node (.op (.cell 24 4) [.v 178]) <|
 .node (.op (.cell 24 5) [.v 178]) <|
 .node (.op (.cell 24 6) [.v 178]) <|
 .node (.op (.cell 24 7) [.v 178]) <|
 .node (.op (.cell 24 8) [.v 178]) <|
 .node (.op (.cell 24 9) [.v 178]) <|
 .node (.op (.cell 24 10) [.v 178]) <|
 .node (.op (.cell 24 11) [.v 178]) <|
 .node (.op (.cell 24 12) [.v 178]) <|
 .node (.op (.cell 24 13) [.v 178]) <|
 .node (.op (.cell 24 14) [.v 178]) <|
 .node (.op (.cell 24 15) [.v 178]) <|
 .node (.op (.cell 24 16) [.v 178]) <|
 .node (.op (.cell 24 17) [.v 178]) <|
 .node (.op (.cell 24 18) [.v 178]) <|
 .node (.op (.cell 24 19) [.v 178]) <|
 .node (.op (.cell 24 20) [.v 178]) <|
 .node (.op (.cell 24 21) [.v 178]) <|
 .node (.op (.cell 24 22) [.v 178]) <|
 .node (.op (.cell 24 23) [.v 178]) <|
 .node (.op (.un .not) [.v 179]) <|
 .br (.v 204) (
 .ret (.c (.tup [.agg [.int .u64 0, .int .u64 0, .int .u64 0, .int .u64 0, .int .u64 0, .int .u64 0, .int .u64 0, .int .u64 0, .int .u64 0, .int .u64 0, .int .u64 0, .int .u64 0, .int .u64 0, .int .u64 0, .int .u64 0, .int .u64 0, .int .u64 0, .int .u64 0, .int .u64 0, .int .u64 0, .int .u64 0, .int .u64 0, .int .u64 0, .int .u64 0, .int .u64 0, .int .u64 0, .int .u64 0, .int .u64 0, .int .u64 0, .int .u64 0, .int .u64 0, .int .u64 0, .int .u64 0, .int .u64 0, .int .u64 0, .int .u64 0, .int .u64 0, .int .u64 0, .int .u64 0, .int .u64 0, .int .u64 0, .int .u64 0, .int .u64 0, .int .u64 0, .int .u64 0, .int .u64 0, .int .u64 0, .int .u64 0], .bool false]))) (
 .node (.op .mkagg [.v 50]) <|
 .node (.op .mkagg [.v 57, .v 58, .v 59, .v 60, .v 61, .v 62, .v 63, .v 64, .v 65, .v 66, .v 67, .v 68, .v 69, .v 70, .v 71, .v 72, .v 73, .v 74, .v 75, .v 76, .v 77, .v 78, .v 79, .v 80]) <|
 .node (.op .mkagg [.v 180, .v 181, .v 182, .v 183, .v 184, .v 185, .v 186, .v 187, .v 188, .v 189, .v 190, .v 191, .v 192, .v 193, .v 194, .v 195, .v 196, .v 197, .v 198, .v 199, .v 200, .v 201, .v 202, .v 203]) <|
 .node (.call mul6 [.v 205, .v 206, .v 207] false) <|
 .node (.op .mkagg [.v 50]) <|
 .node (.op .mkagg [.v 81, .v 82, .v 83, .v 84, .v 85, .v 86, .v 87, .v 88, .v 89, .v 90, .v 91, .v 92, .v 93, .v 94, .v 95, .v 96, .v 97, .v 98, .v 99, .v 100, .v 101, .v 102, .v 103, .v 104]) <|
 .node (.op .mkagg [.v 180, .v 181, .v 182, .v 183, .v 184, .v 185, .v 186, .v 187, .v 188, .v 189, .v 190, .v 191, .v 192, .v 193, .v 194, .v 195, .v 196, .v 197, .v 198, .v 199, .v 200, .v 201, .v 202, .v 203]) <|
 .node (.call mul6 [.v 209, .v 210, .v 211] false) <|
 .node (.op .mkagg [.v 50]) <|
 .node (.call neg6 [.v 213, .v 212] false) <|
 .node (.call whole [.v 208, .v 214] false) <|
 .node (.op (.cell 48 0) [.v 215]) <|
 .node (.op (.cell 48 1) [.v 215]) <|
 .node (.op (.cell 48 2) [.v 215]) <|
 .node (.op (.cell 48 3) [.v 215]) <|
 .node (.op (.cell 48 4) [.v 215]) <|
 .node (.op (.cell 48 5) [.v 215]) <|
 .node (.op (.cell 48 6) [.v 215]) <|
 .node (.op (.cell 48 7) [.v 215]) <|
 .node (.op (.cell 48 8) [.v 215]) <|
 .node (.op (.cell 48 9) [.v 215]) <|
 .node (.op (.cell 48 10) [.v 215]) <|
 .node (.op (.cell 48 11) [.v 215]) <|
 .node (.op (.cell 48 12) [.v 215]) <|
 .node (.op (.cell 48 13) [.v 215]) <|
 .node (.op (.cell 48 14) [.v 215]) <|
 .node (.op (.cell 48 15) [.v 215]) <|
 .node (.op (.cell 48 16) [.v 215]) <|
 .node (.op (.cell 48 17) [.v 215]) <|
 .node (.op (.cell 48 18) [.v 215]) <|
 .node (.op (.cell 48 19) [.v 215]) <|
 .node (.op (.cell 48 20) [.v 215]) <|
 .node (.op (.cell 48 21) [.v 215]) <|
 .node (.op (.cell 48 22) [.v 215]) <|
 .node (.op (.cell 48 23) [.v 215]) <|
 .node (.op (.cell 48 24) [.v 215]) <|
 .node (.op (.cell 48 25) [.v 215]) <|
 .node (.op (.cell 48 26) [.v 215]) <|
 .node (.op (.cell 48 27) [.v 215]) <|
 .node (.op (.cell 48 28) [.v 215]) <|
 .node (.op (.cell 48 29) [.v 215]) <|
 .node (.op (.cell 48 30) [.v 215]) <|
 .node (.op (.cell 48 31) [.v 215]) <|
 .node (.op (.cell 48 32) [.v 215]) <|
 .node (.op (.cell 48 33) [.v 215]) <|
 .node (.op (.cell 48 34) [.v 215]) <|
 .node (.op (.cell 48 35) [.v 215]) <|
 .node (.op (.cell 48 36) [.v 215]) <|
 .node (.op (.cell 48 37) [.v 215]) <|
 .node (.op (.cell 48 38) [.v 215]) <|
 .node (.op (.cell 48 39) [.v 215]) <|
 .node (.op (.cell 48 40) [.v 215]) <|
 .node (.op (.cell 48 41) [.v 215]) <|
 .node (.op (.cell 48 42) [.v 215]) <|
 .node (.op (.cell 48 43) [.v 215]) <|
 .node (.op (.cell 48 44) [.v 215]) <|
 .node (.op (.cell 48 45) [.v 215]) <|
 .node (.op (.cell 48 46) [.v 215]) <|
 .node (.op (.cell 48 47) [.v 215]) <|
 .node (.op .mkagg [.v 216, .v 217, .v 218, .v 219, .v 220, .v 221, .v 222, .v 223, .v 224, .v 225, .v 226, .v 227, .v 228, .v 229, .v 230, .v 231, .v 232, .v 233, .v 234, .v 235, .v 236, .v 237, .v 238, .v 239, .v 240, .v 241, .v 242, .v 243, .v 244, .v 245, .v 246, .v 247, .v 248, .v 249, .v 250, .v 251, .v 252, .v 253, .v 254, .v 255, .v 256, .v 257, .v 258, .v 259, .v 260, .v 261, .v 262, .v 263]) <|
 .node (.op .mktup [.v 264, .c (.bool true)]) <|
 .ret (.v 265))
theorem Inv12_den {tof tof12 halves mul6 tup tsub inv6 neg6 whole : FuncId} (ht : Ct P tof [] (fun e => e = .ret TT)) (ho : O12C P tof12 TT) (hh : ∀ s : Six pBase, Ct P halves [w6 s] (fun e => e = .ret (.tup [w3 (evn s), w3 (odd s)]))) (hm : M6C P mul6)
    (hu : T1C P tup (· * xi)) (hs : T2C P tsub (· - ·)) (hi : I6C P inv6) (hn : N6C P neg6) (hw : ∀ a b : Tri, Ct P whole [w3 a, w3 b] (fun e => e = .ret (w6 (wh a b)))) (hg : Wok g) :
    D P (fun e => e = .ret (inv12R (r6 g))) [] 1 [W6 g] (t_Inv12 tof tof12 halves mul6 tup tsub inv6 neg6 whole) := by
  have u : ∀ p : Cx pBase, Ct P tup [TT, w2 p] (fun e => e = .ret (w2 (p * xi))) := fun p => t1w hu p
  have s : ∀ p q : Cx pBase, Ct P tsub [TT, w2 p, w2 q] (fun e => e = .ret (w2 (p - q))) := fun p q => t2w hs p q
  have k1 := ho g hg
  have k2 := hh (r6 g)
  have k3 := hm (evn (r6 g)) (evn (r6 g))
  have k4 := hm (odd (r6 g)) (odd (r6 g))
  have k5 := hi (Tri.nr (evn (r6 g)) (odd (r6 g)))
  have k6 := hm (evn (r6 g)) (inv12 (r6 g))
  have k7 := hm (odd (r6 g)) (inv12 (r6 g))
  have k8 := hn (Tri.mul (odd (r6 g)) (inv12 (r6 g)))
  have k9 := hw (Tri.mul (evn (r6 g)) (inv12 (r6 g))) (Tri.neg (Tri.mul (odd (r6 g)) (inv12 (r6 g))))
  have eI : Tri.scale (Tri.adj (Tri.nr (evn (r6 g)) (odd (r6 g)))) (ci (Tri.nrm (Tri.nr (evn (r6 g)) (odd (r6 g))))) = inv12 (r6 g) := rfl
  have eC : cb (Tri.nrm (Tri.nr (evn (r6 g)) (odd (r6 g)))) = is12 (r6 g) := rfl
  rw [eI, eC] at k5
  have eN : Tri.nr (evn (r6 g)) (odd (r6 g)) = ⟨(Tri.mul (evn (r6 g)) (evn (r6 g))).d0 - (Tri.mul (odd (r6 g)) (odd (r6 g))).d2 * xi, (Tri.mul (evn (r6 g)) (evn (r6 g))).d1 - (Tri.mul (odd (r6 g)) (odd (r6 g))).d0, (Tri.mul (evn (r6 g)) (evn (r6 g))).d2 - (Tri.mul (odd (r6 g)) (odd (r6 g))).d1⟩ := rfl
  rw [eN] at k5
  unfold inv12R
  generalize inv12 (r6 g) = I at *
  generalize is12 (r6 g) = c at *
  generalize r6 g = S at *
  generalize evn S = x at *
  generalize odd S = y at *
  generalize Tri.mul x x = xx at *
  generalize Tri.mul y y = yy at *
  clear eI eC eN
  refine d_expl (N := 48) (i := 0) rfl rfl rfl rfl (d_call ht (fun h => by cases h) (d_op (v := fBase) rfl (d_op (v := TT) rfl ?_)))
  refine d_refold 1 48 (v := W6 g) rfl rfl rfl rfl rfl rfl (d_call k1 (fun h => by cases h) (d_call k2 (fun h => by cases h) (d_op (v := w3 x) (ev_ext rfl (fun h => by cases h)) (d_op (v := w3 y) (ev_ext rfl (fun h => by cases h)) ?_))))
  refine d_expl (N := 24) (i := 55) rfl rfl rfl rfl (d_expl (N := 24) (i := 56) rfl rfl rfl rfl ?_)
  refine d_op (v := TT) rfl (d_refold 57 24 (v := w3 x) rfl rfl rfl rfl rfl rfl (d_refold 57 24 (v := w3 x) rfl rfl rfl rfl rfl rfl (d_call k3 (fun h => by cases h) ?_)))
  refine d_op (v := TT) rfl (d_refold 81 24 (v := w3 y) rfl rfl rfl rfl rfl rfl (d_refold 81 24 (v := w3 y) rfl rfl rfl rfl rfl rfl (d_call k4 (fun h => by cases h) ?_)))
  refine d_expl (N := 24) (i := 108) rfl rfl rfl rfl (d_expl (N := 24) (i := 112) rfl rfl rfl rfl ?_)
  refine d_op (v := TT) rfl (d_op (v := w2 yy.d2) rfl (d_call (u yy.d2) (fun h => by cases h) (d_op (v := TT) rfl (d_op (v := w2 xx.d0) rfl (d_call (s xx.d0 (yy.d2 * xi)) (fun h => by cases h) ?_)))))
  refine d_op (v := TT) rfl (d_op (v := w2 xx.d1) rfl (d_op (v := w2 yy.d0) rfl (d_call (s xx.d1 yy.d0) (fun h => by cases h) ?_)))
  refine d_op (v := TT) rfl (d_op (v := w2 xx.d2) rfl (d_op (v := w2 yy.d1) rfl (d_call (s xx.d2 yy.d1) (fun h => by cases h) ?_)))
  refine d_op (v := w3 ⟨xx.d0 - yy.d2 * xi, xx.d1 - yy.d0, xx.d2 - yy.d1⟩) rfl (d_op (v := TT) rfl (d_call k5 (fun h => by cases h) ?_))
  refine d_op (v := w3 I) (ev_ext rfl (fun h => by cases h)) (d_op (ev_ext rfl (fun _ => rfl)) (d_expl (N := 24) (i := 178) rfl rfl rfl rfl ?_))
  cases c with
  | false =>
    rw [if_neg (by decide)]
    refine d_op (v := .bool true) rfl (d_br true rfl (fun _ => ?_) (fun h => by cases h))
    exact d_ret rfl
  | true =>
    rw [if_pos rfl]
    refine d_op (v := .bool false) rfl (d_br false rfl (fun h => by cases h) (fun _ => ?_))
    refine d_op (v := TT) rfl (d_refold 57 24 (v := w3 x) rfl rfl rfl rfl rfl rfl (d_refold 180 24 (v := w3 I) rfl rfl rfl rfl rfl rfl (d_call k6 (fun h => by cases h) ?_)))
    refine d_op (v := TT) rfl (d_refold 81 24 (v := w3 y) rfl rfl rfl rfl rfl rfl (d_refold 180 24 (v := w3 I) rfl rfl rfl rfl rfl rfl (d_call k7 (fun h => by cases h) ?_)))
    refine d_op (v := TT) rfl (d_call k8 (fun h => by cases h) (d_call k9 (fun h => by cases h) (d_expl (N := 48) (i := 215) rfl rfl rfl rfl ?_)))
    exact d_refold 216 48 (v := w6 (wh (Tri.mul x I) (Tri.neg (Tri.mul y I)))) rfl rfl rfl rfl rfl rfl (d_op ev_mktup (d_ret rfl))
def t_Conj12 (tof tof12 halves neg6 whole : FuncId) : T :=
 .node (.op (.cell 48 0) [.v 0]) <|
 .node (.op (.cell 48 1) [.v 0]) <|
 .node (.op (.cell 48 2) [.v 0]) <|
 .node (.op (.cell 48 3) [.v 0]) <|
 .node (.op (.cell 48 4) [.v 0]) <|
 .node (.op (.cell 48 5) [.v 0]) <|
 .node (.op (.cell 48 6) [.v 0]) <|
 .node (.op (.cell 48 7) [.v 0]) <|
 .node (.op (.cell 48 8) [.v 0]) <|
 .node (.op (.cell 48 9) [.v 0]) <|
 .node (.op (.cell 48 10) [.v 0]) <|
 .node (.op (.cell 48 11) [.v 0]) <|
 .node (.op (.cell 48 12) [.v 0]) <|
 .node (.op (.cell 48 13) [.v 0]) <|
 .node (.op (.cell 48 14) [.v 0]) <|
 .node (.op (.cell 48 15) [.v 0]) <|
 .node (.op (.cell 48 16) [.v 0]) <|
 .node (.op (.cell 48 17) [.v 0]) <|
 .node (.op (.cell 48 18) [.v 0]) <|
 .node (.op (.cell 48 19) [.v 0]) <|
 .node (.op (.cell 48 20) [.v 0]) <|
 .node (.op (.cell 48 21) [.v 0]) <|
 .node (.op (.cell 48 22) [.v 0]) <|
 .node (.op (.cell 48 23) [.v 0]) <|
 .node (.op (.cell 48 24) [.v 0]) <|
 .node (.op (.cell 48 25) [.v 0]) <|
 .node (.op (.cell 48 26) [.v 0]) <|
 .node (.op (.cell 48 27) [.v 0]) <|
 .node (.op (.cell 48 28) [.v 0]) <|
 .node (.op (.cell 48 29) [.v 0]) <|
 .node (.op (.cell 48 30) [.v 0]) <|
 .node (.op (.cell 48 31) [.v 0]) <|
 .node (.op (.cell 48 32) [.v 0]) <|
 .node (.op (.cell 48 33) [.v 0]) <|
 .node (.op (.cell 48 34) [.v 0]) <|
 .node (.op (.cell 48 35) [.v 0]) <|
 .node (.op (.cell 48 36) [.v 0]) <|
 .node (.op (.cell 48 37) [.v 0]) <|
 .node (.op (.cell 48 38) [.v 0]) <|
 .node (.op (.cell 48 39) [.v 0]) <|
 .node (.op (.cell 48 40) [.v 0]) <|
 .node (.op (.cell 48 41) [.v 0]) <|
 .node (.op (.cell 48 42) [.v 0]) <|
 .node (.op (.cell 48 43) [.v 0]) <|
 .node (.op (.cell 48 44) [.v 0]) <|
 .node (.op (.cell 48 45) [.v 0]) <|
 .node (.op (.cell 48 46) [.v 0]) <|
 .node (.op (.cell 48 47) [.v 0]) <|
 .node (.call tof [] false) <|
 .node (.op (.cell 1 0) [.v 49]) <|
 .node (.op .mkagg [.v 50]) <|
 .node (.op .mkagg [.v 1, .v 2, .v 3, .v 4, .v 5, .v 6, .v 7, .v 8, .v 9, .v 10, .v 11, .v 12, .v 13, .v 14, .v 15, .v 16, .v 17, .v 18, .v 19, .v 20, .v 21, .v 22, .v 23, .v 24, .v 25, .v 26, .v 27, .v 28, .v 29, .v 30, .v 31, .v 32, .v 33, .v 34, .v 35, .v 36, .v 37, .v 38, .v 39, .v 40, .v 41, .v 42, .v 43, .v 44, .v 45, .v 46, .v 47, .v 48]) <|
 .node (.call tof12 [.v 51, .v 52] false) <|
 .node (.call halves [.v 53] false) <|
 .node (.op (.ext 0 false) [.v 54]) <|
 .node (.op (.ext 1 false) [.v 54]) <|
 .node (.op (.cell 24 0) [.v 55]) <|
 .node (.op (.cell 24 1) [.v 55]) <|
 .node (.op (.cell 24 2) [.v 55]) <|
 .node (.op (.cell 24 3) [.v 55]) <|
 .node (.op (.cell 24 4) [.v 55]) <|
 .node (.op (.cell 24 5) [.v 55]) <|
 .node (.op (.cell 24 6) [.v 55]) <|
 .node (.op (.cell 24 7) [.v 55]) <|
 .node (.op (.cell 24 8) [.v 55]) <|
 .node (.op (.cell 24 9) [.v 55]) <|
 .node (.op (.cell 24 10) [.v 55]) <|
 .node (.op (.cell 24 11) [.v 55]) <|
 .node (.op (.cell 24 12) [.v 55]) <|
 .node (.op (.cell 24 13) [.v 55]) <|
 .node (.op (.cell 24 14) [.v 55]) <|
 .node (.op (.cell 24 15) [.v 55]) <|
 .node (.op (.cell 24 16) [.v 55]) <|
 .node (.op (.cell 24 17) [.v 55]) <|
 .node (.op (.cell 24 18) [.v 55]) <|
 .node (.op (.cell 24 19) [.v 55]) <|
 .node (.op (.cell 24 20) [.v 55]) <|
 .node (.op (.cell 24 21) [.v 55]) <|
 .node (.op (.cell 24 22) [.v 55]) <|
 .node (.op (.cell 24 23) [.v 55]) <|
 .node (.op (.cell 24 0) [.v 56]) <|
 .node (.op (.cell 24 1) [.v 56]) <|
 .node (.op (.cell 24 2) [.v 56]) <|
 .node (.op (.cell 24 3) [.v 56]) <|
 .node (.op (.cell 24 4) [.v 56]) <|
 .node (.op (.cell 24 5) [.v 56]) <|
 .node (.op (.cell 24 6) [.v 56]) <|
 .node (.op (.cell 24 7) [.v 56]) <|
 .node (.op (.cell 24 8) [.v 56]) <|
 .node (.op (.cell 24 9) [.v 56]) <|
 .node (.op (.cell 24 10) [.v 56]) <|
 .node (.op (.cell 24 11) [.v 56]) <|
 .node (.op (.cell 24 12) [.v 56]) <|
 .node (.op (.cell 24 13) [.v 56]) <|
 .node (.op (.cell 24 14) [.v 56]) <|
 .node (.op (.cell 24 15) [.v 56]) <|
 .node (.op (.cell 24 16) [.v 56]) <|
 .node (.op (.cell 24 17) [.v 56]) <|
 .node (.op (.cell 24 18) [.v 56]) <|
 .node (.op (.cell 24 19) [.v 56]) <|
 .node (.op (.cell 24 20) [.v 56]) <|
 .node (.op (.cell 24 21) [.v 56]) <|
 .node (.op (.cell 24 22) [.v 56]) <|
 .node (.op (.cell 24 23) [.v 56]) <|
 .node (.op .mkagg [.v 50]) <|
 .node (.op .mkagg [.v 81, .v 82, .v 83, .v 84, .v 85, .v 86, .v 87, .v 88, .v 89, .v 90, .v 91, .v 92, .v 93, .v 94, .v 95, .v 96, .v 97, .v 98, .v 99, .v 100, .v 101, .v 102, .v 103, .v 104]) <|
 .node (.call neg6 [.v 105, .v 106] false) <|
 .node (.op .mkagg [.v 57, .v 58, .v 59, .v 60, .v 61, .v 62, .v 63, .v 64, .v 65, .v 66, .v 67, .v 68, .v 69, .v 70, .v 71, .v 72, .v 73, .v 74, .v 75, .v 76, .v 77, .v 78, .v 79, .v 80]) <|
 .node (.call whole [.v 108, .v 107] false) <|
 .node (.op (.cell 48 0) [.v 109]) <|
 .node (.op (.cell 48 1) [.v 109]) <|
 .node (.op (.cell 48 2) [.v 109]) <|
 .node (.op (.cell 48 3) [.v 109]) <|
 .node (.op (.cell 48 4) [.v 109]) <|
 .node (.op (.cell 48 5) [.v 109]) <|
 .node (.op (.cell 48 6) [.v 109]) <|
 .node (.op (.cell 48 7) [.v 109]) <|
 .node (.op (.cell 48 8) [.v 109]) <|
 .node (.op (.cell 48 9) [.v 109]) <|
 .node (.op (.cell 48 10) [.v 109]) <|
 .node (.op (.cell 48 11) [.v 109]) <|
 .node (.op (.cell 48 12) [.v 109]) <|
 .node (.op (.cell 48 13) [.v 109]) <|
 .node (.op (.cell 48 14) [.v 109]) <|
 .node (.op (.cell 48 15) [.v 109]) <|
 .node (.op (.cell 48 16) [.v 109]) <|
 .node (.op (.cell 48 17) [.v 109]) <|
 .node (.op (.cell 48 18) [.v 109]) <|
 .node (.op (.cell 48 19) [.v 109]) <|
 .node (.op (.cell 48 20) [.v 109]) <|
 .node (.op (.cell 48 21) [.v 109]) <|
 .node (.op (.cell 48 22) [.v 109]) <|
 .node (.op (.cell 48 23) [.v 109]) <|
 .node (.op (.cell 48 24) [.v 109]) <|
 .node (.op (.cell 48 25) [.v 109]) <|
 .node (.op (.cell 48 26) [.v 109]) <|
 .node (.op (.cell 48 27) [.v 109]) <|
 .node (.op (.cell 48 28) [.v 109]) <|
 .node (.op (.cell 48 29) [.v 109]) <|
 .node (.op (.cell 48 30) [.v 109]) <|
 .node (.op (.cell 48 31) [.v 109]) <|
 .node (.op (.cell 48 32) [.v 109]) <|
 .node (.op (.cell 48 33) [.v 109]) <|
 .node (.op (.cell 48 34) [.v 109]) <|
 .node (.op (.cell 48 35) [.v 109]) <|
 .node (.op (.cell 48 36) [.v 109]) <|
 .node (.op (.cell 48 37) [.v 109]) <|
 .node (.op (.cell 48 38) [.v 109]) <|
 .node (.op (.cell 48 39) [.v 109]) <|
 .node (.op (.cell 48 40) [.v 109]) <|
 .node (.op (.cell 48 41) [.v 109]) <|
 .node (.op (.cell 48 42) [.v 109]) <|
 .node (.op (.cell 48 43) [.v 109]) <|
 .node (.op (.cell 48 44) [.v 109]) <|
 .node (.op (.cell 48 45) [.v 109]) <|
 .node (.op (.cell 48 46) [.v 109]) <|
 .node (.op (.cell 48 47) [.v 109]) <|
 .node (.op .mkagg [.v 110, .v 111, .v 112, .v 113, .v 114, .v 115, .v 116, .v 117, .v 118, .v 119, .v 120, .v 121, .v 122, .v 123, .v 124, .v 125, .v 126, .v 127, .v 128, .v 129, .v 130, .v 131, .v 132, .v 133, .v 134, .v 135, .v 136, .v 137, .v 138, .v 139, .v 140, .v 141, .v 142, .v 143, .v 144, .v 145, .v 146, .v 147, .v 148, .v 149, .v 150, .v 151, .v 152, .v 153, .v 154, .v 155, .v 156, .v 157]) <|
 .ret (.v 158)
theorem Conj12_den {tof tof12 halves neg6 whole : FuncId} (ht : Ct P tof [] (fun e => e = .ret TT)) (ho : O12C P tof12 TT) (hh : ∀ s : Six pBase, Ct P halves [w6 s] (fun e => e = .ret (.tup [w3 (evn s), w3 (odd s)])))
    (hn : N6C P neg6) (hw : ∀ a b : Tri, Ct P whole [w3 a, w3 b] (fun e => e = .ret (w6 (wh a b)))) (hg : Wok g) :
    D P (fun e => e = .ret (w6 (wh (evn (r6 g)) (Tri.neg (odd (r6 g)))))) [] 1 [W6 g] (t_Conj12 tof tof12 halves neg6 whole) := by
  have k1 := ho g hg
  have k2 := hh (r6 g)
  have k8 := hn (odd (r6 g))
  have k9 := hw (evn (r6 g)) (Tri.neg (odd (r6 g)))
  generalize r6 g = S at *
  generalize evn S = x at *
  generalize odd S = y at *
  refine d_expl (N := 48) (i := 0) rfl rfl rfl rfl (d_call ht (fun h => by cases h) (d_op (v := fBase) rfl (d_op (v := TT) rfl ?_)))
  refine d_refold 1 48 (v := W6 g) rfl rfl rfl rfl rfl rfl (d_call k1 (fun h => by cases h) (d_call k2 (fun h => by cases h) (d_op (v := w3 x) (ev_ext rfl (fun h => by cases h)) (d_op (v := w3 y) (ev_ext rfl (fun h => by cases h)) ?_))))
  refine d_expl (N := 24) (i := 55) rfl rfl rfl rfl (d_expl (N := 24) (i := 56) rfl rfl rfl rfl ?_)
  refine d_op (v := TT) rfl (d_refold 81 24 (v := w3 y) rfl rfl rfl rfl rfl rfl (d_call k8 (fun h => by cases h) ?_))
  refine d_refold 57 24 (v := w3 x) rfl rfl rfl rfl rfl rfl (d_call k9 (fun h => by cases h) (d_expl (N := 48) (i := 109) rfl rfl rfl rfl ?_))
  exact d_refold 110 48 (v := w6 (wh x (Tri.neg y))) rfl rfl rfl rfl rfl rfl (d_ret rfl)
end
end Go.SE
