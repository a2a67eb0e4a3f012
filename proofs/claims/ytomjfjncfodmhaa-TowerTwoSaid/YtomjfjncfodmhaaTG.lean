/- Nothing of the statement is proved here: this text lays generic laws: TG; no conditions. -/
import Derived.Test.YtomjfjncfodmhaaTF
import Derived.Test.YtomjfjncfodmhaaFV
set_option linter.all false
set_option autoImplicit false
set_option maxRecDepth 20000
set_option maxHeartbeats 8000000
set_option exponentiation.threshold 5000
namespace Go.SE
open Go
variable {P : Program} {R : AEnd → Prop}
theorem sumsq {m u v : Nat} (hp : PR.Prime m) (h4 : m % 4 = 3) (hu : u < m) (hv : v < m) (h : (u * u + v * v) % m = 0) : u = 0 ∧ v = 0 := by
  have h3 : 3 ≤ m := by omega
  obtain ⟨k, hk⟩ : ∃ k, (2 * k + 1) + (2 * k + 1) = m - 1 := ⟨m / 4, by omega⟩
  have h1 := odd_pow h k
  have sq : ∀ x : Nat, (x * x) ^ (2 * k + 1) = x ^ (m - 1) := fun x => by rw [Nat.mul_pow, ← Nat.pow_add, hk]
  rw [sq, sq] at h1
  have nd : ∀ x, x < m → x ≠ 0 → ¬ m ∣ x := fun x hx h0 hd => by have := Nat.le_of_dvd (by omega) hd; omega
  have one : ∀ x, x < m → x ≠ 0 → x ^ (m - 1) % m = 1 := fun x hx h0 => PR.fermat hp (nd x hx h0)
  have zero : (0 : Nat) ^ (m - 1) % m = 0 := by rw [Nat.zero_pow (by omega), Nat.zero_mod]
  rw [Nat.add_mod] at h1
  by_cases h5 : u = 0
  · by_cases h6 : v = 0
    · exact ⟨h5, h6⟩
    · rw [h5, zero, one v hv h6, Nat.mod_eq_of_lt (show 0 + 1 < m by omega)] at h1; omega
  · by_cases h6 : v = 0
    · rw [h6, zero, one u hu h5, Nat.mod_eq_of_lt (show 1 + 0 < m by omega)] at h1; omega
    · rw [one u hu h5, one v hv h6, Nat.mod_eq_of_lt (show 1 + 1 < m by omega)] at h1; omega
theorem norm_zero {a : Cx pBase} : norm a = 0 ↔ a = Cx.zero := by
  constructor
  · intro h
    have h1 := congrArg Fin.val h
    have h2 : (a.re.val * a.re.val % pBase + a.im.val * a.im.val % pBase) % pBase = 0 := h1
    rw [← Nat.add_mod] at h2
    have h3 := sumsq PR.prime_base (by decide) a.re.isLt a.im.isLt h2
    exact Cx.ext (Fin.ext h3.1) (Fin.ext h3.2)
  · intro h; rw [h]; decide
theorem cinv_mul {a : Cx pBase} (h : norm a ≠ 0) : cinv a * a = Cx.one := by
  have h1 := finv_mul h
  have h2 : (a.re * a.re + a.im * a.im) * finv (norm a) = 1 := h1
  apply Cx.ext
  · show a.re * finv (norm a) * a.re - -(a.im * finv (norm a)) * a.im = 1
    generalize finv (norm a) = n at *
    generalize a.re = p at *
    generalize a.im = q at *
    grind
  · show a.re * finv (norm a) * a.im + -(a.im * finv (norm a)) * a.re = 0
    generalize finv (norm a) = n at *
    generalize a.re = p at *
    generalize a.im = q at *
    grind
theorem ev_bbeq {a b : Bool} : evalO (.bb false) [.bool a, .bool b] = some (.bool (decide (a = b))) := by cases a <;> cases b <;> rfl
def l2 (a : Cx pBase) : List Nat := [a.re.val, a.im.val]
theorem l2_lt (a : Cx pBase) : ∀ x ∈ l2 a, x < W256 := by
  intro x hx
  simp only [l2, List.mem_cons, List.not_mem_nil, or_false] at hx
  rcases hx with rfl | rfl <;> exact zval_lt _
theorem z2_lt : ∀ x ∈ [0, 0], x < W256 := by decide
theorem o2_lt : ∀ x ∈ [1, 0], x < W256 := by decide
theorem l2_zero (a : Cx pBase) : (l2 a ≠ [0, 0]) ↔ norm a ≠ 0 := by
  rw [Ne, Ne, not_congr]
  rw [norm_zero]
  constructor
  · intro h
    simp only [l2, List.cons.injEq, and_true] at h
    exact Cx.ext (Fin.ext h.1) (Fin.ext h.2)
  · intro h; rw [h]; rfl
def t_rtnew (rbase rnew : FuncId) : T :=
 .node (.call rbase [] false) <|
 .node (.call rnew [.v 0] true) <|
 .node (.op (.build [.nilp] [(0, 1)]) [.v 1]) <|
 .node (.op (.cell 1 0) [.v 2]) <|
 .node (.op .mkagg [.v 3]) <|
 .ret (.v 4)
theorem rtnew_den {rbase rnew : FuncId} (hb : Ct P rbase [] (fun e => e = .ret (WV pBase))) (hn : RNewC P rnew) : D P (fun e => e = .ret RT) [] 0 [] (t_rtnew rbase rnew) := by
  have c : Ct P rnew [WV pBase] (fun e => e = .ret rB) := hn pBase (by decide) (by decide) (by decide)
  exact d_call hb (fun h => by cases h) (d_call c (fun _ => rfl) (d_op (v := RT) rfl (d_op (v := rB) rfl (d_op (v := RT) rfl (d_ret rfl)))))
def t_towerTwo (new rof2 inv2 rinv add2 radd sub2 rsub mul2 rmul conj2 rconj lives : FuncId) : T :=
 .node (.op (.cell 8 0) [.v 0]) <|
 .node (.op (.cell 8 1) [.v 0]) <|
 .node (.op (.cell 8 2) [.v 0]) <|
 .node (.op (.cell 8 3) [.v 0]) <|
 .node (.op (.cell 8 4) [.v 0]) <|
 .node (.op (.cell 8 5) [.v 0]) <|
 .node (.op (.cell 8 6) [.v 0]) <|
 .node (.op (.cell 8 7) [.v 0]) <|
 .node (.op (.cell 8 0) [.v 1]) <|
 .node (.op (.cell 8 1) [.v 1]) <|
 .node (.op (.cell 8 2) [.v 1]) <|
 .node (.op (.cell 8 3) [.v 1]) <|
 .node (.op (.cell 8 4) [.v 1]) <|
 .node (.op (.cell 8 5) [.v 1]) <|
 .node (.op (.cell 8 6) [.v 1]) <|
 .node (.op (.cell 8 7) [.v 1]) <|
 .node (.call new [] false) <|
 .node (.op (.cell 1 0) [.v 18]) <|
 .node (.op .mkagg [.v 19]) <|
 .node (.op .mkagg [.v 2, .v 3, .v 4, .v 5, .v 6, .v 7, .v 8, .v 9]) <|
 .node (.call rof2 [.v 20, .v 21] false) <|
 .node (.op .mkagg [.v 19]) <|
 .node (.op .mkagg [.v 10, .v 11, .v 12, .v 13, .v 14, .v 15, .v 16, .v 17]) <|
 .node (.call rof2 [.v 23, .v 24] false) <|
 .node (.op (.cell 8 0) [.v 22]) <|
 .node (.op (.cell 8 1) [.v 22]) <|
 .node (.op (.cell 8 2) [.v 22]) <|
 .node (.op (.cell 8 3) [.v 22]) <|
 .node (.op (.cell 8 4) [.v 22]) <|
 .node (.op (.cell 8 5) [.v 22]) <|
 .node (.op (.cell 8 6) [.v 22]) <|
 .node (.op (.cell 8 7) [.v 22]) <|
 .node (.op (.cell 8 0) [.v 25]) <|
 .node (.op (.cell 8 1) [.v 25]) <|
 .node (.op (.cell 8 2) [.v 25]) <|
 .node (.op (.cell 8 3) [.v 25]) <|
 .node (.op (.cell 8 4) [.v 25]) <|
 .node (.op (.cell 8 5) [.v 25]) <|
 .node (.op (.cell 8 6) [.v 25]) <|
 .node (.op (.cell 8 7) [.v 25]) <|
 .node (.op .mkagg [.v 2, .v 3, .v 4, .v 5, .v 6, .v 7, .v 8, .v 9]) <|
 .node (.call inv2 [.v 42] false) <|
 .node (.op (.ext 0 false) [.v 43]) <|
 .node (.op (.ext 1 true) [.v 43]) <|
 .node (.op (.cell 8 0) [.v 44]) <|
 .node (.op (.cell 8 1) [.v 44]) <|
 .node (.op (.cell 8 2) [.v 44]) <|
 .node (.op (.cell 8 3) [.v 44]) <|
 .node (.op (.cell 8 4) [.v 44]) <|
 .node (.op (.cell 8 5) [.v 44]) <|
 .node (.op (.cell 8 6) [.v 44]) <|
 .node (.op (.cell 8 7) [.v 44]) <|
 .node (.op .mkagg [.v 19]) <|
 .node (.op .mkagg [.v 26, .v 27, .v 28, .v 29, .v 30, .v 31, .v 32, .v 33]) <|
 .node (.call rinv [.v 54, .v 55] false) <|
 .node (.op (.ext 0 false) [.v 56]) <|
 .node (.op (.ext 1 true) [.v 56]) <|
 .node (.op (.cell 8 0) [.v 57]) <|
 .node (.op (.cell 8 1) [.v 57]) <|
 .node (.op (.cell 8 2) [.v 57]) <|
 .node (.op (.cell 8 3) [.v 57]) <|
 .node (.op (.cell 8 4) [.v 57]) <|
 .node (.op (.cell 8 5) [.v 57]) <|
 .node (.op (.cell 8 6) [.v 57]) <|
 .node (.op (.cell 8 7) [.v 57]) <|
 .node (.op .mkagg [.v 2, .v 3, .v 4, .v 5, .v 6, .v 7, .v 8, .v 9]) <|
 .node (.op .mkagg [.v 10, .v 11, .v 12, .v 13, .v 14, .v 15, .v 16, .v 17]) <|
 .node (.call add2 [.v 67, .v 68] false) <|
 .node (.op .mkagg [.v 19]) <|
 .node (.op .mkagg [.v 26, .v 27, .v 28, .v 29, .v 30, .v 31, .v 32, .v 33]) <|
 .node (.op .mkagg [.v 34, .v 35, .v 36, .v 37, .v 38, .v 39, .v 40, .v 41]) <|
 .node (.call radd [.v 70, .v 71, .v 72] false) <|
 .node (.op (.eqv true [.int .u64, .int .u64, .int .u64, .int .u64, .int .u64, .int .u64, .int .u64, .int .u64]) [.v 69, .v 73]) <|
 .br (.v 74) (
 .ret (.c (.bool false))) (
 .node (.op .mkagg [.v 2, .v 3, .v 4, .v 5, .v 6, .v 7, .v 8, .v 9]) <|
 .node (.op .mkagg [.v 10, .v 11, .v 12, .v 13, .v 14, .v 15, .v 16, .v 17]) <|
 .node (.call sub2 [.v 75, .v 76] false) <|
 .node (.op .mkagg [.v 19]) <|
 .node (.op .mkagg [.v 26, .v 27, .v 28, .v 29, .v 30, .v 31, .v 32, .v 33]) <|
 .node (.op .mkagg [.v 34, .v 35, .v 36, .v 37, .v 38, .v 39, .v 40, .v 41]) <|
 .node (.call rsub [.v 78, .v 79, .v 80] false) <|
 .node (.op (.eqv true [.int .u64, .int .u64, .int .u64, .int .u64, .int .u64, .int .u64, .int .u64, .int .u64]) [.v 77, .v 81]) <|
 .br (.v 82) (
 .ret (.c (.bool false))) (
 .node (.op .mkagg [.v 2, .v 3, .v 4, .v 5, .v 6, .v 7, .v 8, .v 9]) <|
 .node (.op .mkagg [.v 10, .v 11, .v 12, .v 13, .v 14, .v 15, .v 16, .v 17]) <|
 .node (.call mul2 [.v 83, .v 84] false) <|
 .node (.op .mkagg [.v 19]) <|
 .node (.op .mkagg [.v 26, .v 27, .v 28, .v 29, .v 30, .v 31, .v 32, .v 33]) <|
 .node (.op .mkagg [.v 34, .v 35, .v 36, .v 37, .v 38, .v 39, .v 40, .v 41]) <|
 .node (.call rmul [.v 86, .v 87, .v 88] false) <|
 .node (.op (.eqv true [.int .u64, .int .u64, .int .u64, .int .u64, .int .u64, .int .u64, .int .u64, .int .u64]) [.v 85, .v 89]) <|
 .br (.v 90) (
 .ret (.c (.bool false))) (
 .node (.op .mkagg [.v 2, .v 3, .v 4, .v 5, .v 6, .v 7, .v 8, .v 9]) <|
 .node (.call conj2 [.v 91] false) <|
 .node (.op .mkagg [.v 19]) <|
 .node (.op .mkagg [.v 26, .v 27, .v 28, .v 29, .v 30, .v 31, .v 32, .v 33]) <|
 .node (.call rconj [.v 93, .v 94] false) <|
 .node (.op (.eqv true [.int .u64, .int .u64, .int .u64, .int .u64, .int .u64, .int .u64, .int .u64, .int .u64]) [.v 92, .v 95]) <|
 .br (.v 96) (
 .ret (.c (.bool false))) (
 .node (.op .mkagg [.v 46, .v 47, .v 48, .v 49, .v 50, .v 51, .v 52, .v 53]) <|
 .node (.op .mkagg [.v 59, .v 60, .v 61, .v 62, .v 63, .v 64, .v 65, .v 66]) <|
 .node (.op (.eqv true [.int .u64, .int .u64, .int .u64, .int .u64, .int .u64, .int .u64, .int .u64, .int .u64]) [.v 97, .v 98]) <|
 .br (.v 99) (
 .ret (.c (.bool false))) (
 .node (.op (.bb true) [.v 45, .v 58]) <|
 .br (.v 100) (
 .ret (.c (.bool false))) (
 .node (.op .mkagg [.v 26, .v 27, .v 28, .v 29, .v 30, .v 31, .v 32, .v 33]) <|
 .node (.op (.eqv true [.int .u64, .int .u64, .int .u64, .int .u64, .int .u64, .int .u64, .int .u64, .int .u64]) [.v 101, .c (.agg [.int .u64 0, .int .u64 0, .int .u64 0, .int .u64 0, .int .u64 0, .int .u64 0, .int .u64 0, .int .u64 0])]) <|
 .node (.op (.bb false) [.v 45, .v 102]) <|
 .br (.v 103) (
 .node (.op (.un .not) [.v 45]) <|
 .br (.v 104) (
 .node (.call lives [] true) <|
 .ret (.v 105)) (
 .node (.op .mkagg [.v 46, .v 47, .v 48, .v 49, .v 50, .v 51, .v 52, .v 53]) <|
 .node (.op .mkagg [.v 2, .v 3, .v 4, .v 5, .v 6, .v 7, .v 8, .v 9]) <|
 .node (.call mul2 [.v 105, .v 106] false) <|
 .node (.op (.eqv false [.int .u64, .int .u64, .int .u64, .int .u64, .int .u64, .int .u64, .int .u64, .int .u64]) [.v 107, .c (.agg [.int .u64 1, .int .u64 0, .int .u64 0, .int .u64 0, .int .u64 0, .int .u64 0, .int .u64 0, .int .u64 0])]) <|
 .br (.v 108) (
 .node (.call lives [] true) <|
 .ret (.v 109)) (
 .ret (.c (.bool false))))) (
 .ret (.c (.bool false)))))))))
theorem towerTwo_den {new rof2 inv2 rinv add2 radd sub2 rsub mul2 rmul conj2 rconj lives : FuncId} (hn : Ct P new [] (fun e => e = .ret RT)) (hof : ∀ x y, x < W256 → y < W256 → Ct P rof2 [RT, WW x y] (fun e => e = .ret (w2 (c2 x y))))
    (hi : ∀ x y, x < W256 → y < W256 → Ct P inv2 [WW x y] (fun e => e = .ret (cinvR (c2 x y)))) (hri : ∀ a : Cx pBase, Ct P rinv [RT, w2 a] (fun e => e = .ret (cinvR a)))
    (ha : E2C P add2 (· + ·)) (hra : RT2 P radd (· + ·)) (hs : E2C P sub2 (· - ·)) (hrs : RT2 P rsub (· - ·)) (hm : E2C P mul2 (· * ·)) (hrm : RT2 P rmul (· * ·))
    (hc : ∀ x y, x < W256 → y < W256 → Ct P conj2 [WW x y] (fun e => e = .ret (w2 (cconj (c2 x y))))) (hrc : ∀ a : Cx pBase, Ct P rconj [RT, w2 a] (fun e => e = .ret (w2 (cconj a))))
    (hv : Ct P lives [] (fun e => e = .ret (.bool true))) {x y z w : Nat} (hx : x < W256) (hy : y < W256) (hz : z < W256) (hw : w < W256) :
    D P (fun e => e = .ret (.bool true)) [] 2 [WW z w, WW x y] (t_towerTwo new rof2 inv2 rinv add2 radd sub2 rsub mul2 rmul conj2 rconj lives) := by
  obtain ⟨X, eX⟩ : ∃ X, X = c2 x y := ⟨_, rfl⟩
  obtain ⟨Y, eY⟩ : ∃ Y, Y = c2 z w := ⟨_, rfl⟩
  have k1 := hof x y hx hy
  have k2 := hof z w hz hw
  have k3 := hi x y hx hy
  have k4 := hri X
  have k5 := ha x y z w hx hy hz hw
  have k6 := hra X Y
  have k7 := hs x y z w hx hy hz hw
  have k8 := hrs X Y
  have k9 := hm x y z w hx hy hz hw
  have k10 := hrm X Y
  have k11 := hc x y hx hy
  have k12 := hrc X
  have k13 : norm X ≠ 0 → Ct P mul2 [w2 (cinv X), WW x y] (fun e => e = .ret (w2 Cx.one)) := fun h => by
    have := hm (cinv X).re.val (cinv X).im.val x y (zval_lt _) (zval_lt _) hx hy
    dsimp only at this
    rw [c2_val, ← eX, cinv_mul h] at this
    exact this
  rw [← eX] at k1 k3 k5 k7 k9 k11
  rw [← eY] at k2 k5 k7 k9
  dsimp only at k5 k6 k7 k8 k9 k10
  clear eX eY
  refine d_expl (N := 8) (i := 0) rfl rfl rfl rfl (d_expl (N := 8) (i := 1) rfl rfl rfl rfl (d_call hn (fun h => by cases h) (d_op (v := rB) rfl ?_)))
  refine d_op (v := RT) rfl (d_refold 2 8 (v := WW x y) rfl rfl rfl rfl rfl rfl (d_call k1 (fun h => by cases h) ?_))
  refine d_op (v := RT) rfl (d_refold 10 8 (v := WW z w) rfl rfl rfl rfl rfl rfl (d_call k2 (fun h => by cases h) ?_))
  refine d_expl (N := 8) (i := 22) rfl rfl rfl rfl (d_expl (N := 8) (i := 25) rfl rfl rfl rfl ?_)
  refine d_refold 2 8 (v := WW x y) rfl rfl rfl rfl rfl rfl ?_
  by_cases h0 : norm X = 0
  · have eI : cinvR X = .tup [WW 0 0, .bool false] := by unfold cinvR; rw [if_pos h0]
    rw [eI] at k3 k4
    refine d_call k3 (fun h => by cases h) (d_op (v := WW 0 0) (ev_ext rfl (fun h => by cases h)) (d_op (ev_ext rfl (fun _ => rfl)) (d_expl (N := 8) (i := 44) rfl rfl rfl rfl ?_)))
    refine d_op (v := RT) rfl (d_refold 26 8 (v := w2 X) rfl rfl rfl rfl rfl rfl (d_call k4 (fun h => by cases h) (d_op (v := WW 0 0) (ev_ext rfl (fun h => by cases h)) (d_op (ev_ext rfl (fun _ => rfl)) (d_expl (N := 8) (i := 57) rfl rfl rfl rfl ?_)))))
    refine d_refold 2 8 (v := WW x y) rfl rfl rfl rfl rfl rfl (d_refold 10 8 (v := WW z w) rfl rfl rfl rfl rfl rfl (d_call k5 (fun h => by cases h) ?_))
    refine d_op (v := RT) rfl (d_refold 26 8 (v := w2 X) rfl rfl rfl rfl rfl rfl (d_refold 34 8 (v := w2 Y) rfl rfl rfl rfl rfl rfl (d_call k6 (fun h => by cases h) ?_)))
    refine d_op (ev_new (l := l2 (X + Y)) (m := l2 (X + Y)) (l2_lt _) (l2_lt _) rfl rfl) (f_no (fun h => h rfl) rfl ?_)
    refine d_refold 2 8 (v := WW x y) rfl rfl rfl rfl rfl rfl (d_refold 10 8 (v := WW z w) rfl rfl rfl rfl rfl rfl (d_call k7 (fun h => by cases h) ?_))
    refine d_op (v := RT) rfl (d_refold 26 8 (v := w2 X) rfl rfl rfl rfl rfl rfl (d_refold 34 8 (v := w2 Y) rfl rfl rfl rfl rfl rfl (d_call k8 (fun h => by cases h) ?_)))
    refine d_op (ev_new (l := l2 (X - Y)) (m := l2 (X - Y)) (l2_lt _) (l2_lt _) rfl rfl) (f_no (fun h => h rfl) rfl ?_)
    refine d_refold 2 8 (v := WW x y) rfl rfl rfl rfl rfl rfl (d_refold 10 8 (v := WW z w) rfl rfl rfl rfl rfl rfl (d_call k9 (fun h => by cases h) ?_))
    refine d_op (v := RT) rfl (d_refold 26 8 (v := w2 X) rfl rfl rfl rfl rfl rfl (d_refold 34 8 (v := w2 Y) rfl rfl rfl rfl rfl rfl (d_call k10 (fun h => by cases h) ?_)))
    refine d_op (ev_new (l := l2 (X * Y)) (m := l2 (X * Y)) (l2_lt _) (l2_lt _) rfl rfl) (f_no (fun h => h rfl) rfl ?_)
    refine d_refold 2 8 (v := WW x y) rfl rfl rfl rfl rfl rfl (d_call k11 (fun h => by cases h) (d_op (v := RT) rfl (d_refold 26 8 (v := w2 X) rfl rfl rfl rfl rfl rfl (d_call k12 (fun h => by cases h) ?_))))
    refine d_op (ev_new (l := l2 (cconj X)) (m := l2 (cconj X)) (l2_lt _) (l2_lt _) rfl rfl) (f_no (fun h => h rfl) rfl ?_)
    refine d_refold 46 8 (v := WW 0 0) rfl rfl rfl rfl rfl rfl (d_refold 59 8 (v := WW 0 0) rfl rfl rfl rfl rfl rfl ?_)
    refine d_op (ev_new (l := [0, 0]) (m := [0, 0]) z2_lt z2_lt rfl rfl) (f_no (fun h => h rfl) rfl ?_)
    refine d_op ev_bbne (f_no (fun h => h rfl) rfl ?_)
    refine d_refold 26 8 (v := w2 X) rfl rfl rfl rfl rfl rfl (d_op (ev_new (l := l2 X) (m := [0, 0]) (l2_lt _) z2_lt rfl rfl) ?_)
    refine d_op ev_bbeq (f_yes (by rw [eq_comm, decide_eq_false_iff_not, l2_zero]; exact fun h => h h0) rfl ?_)
    exact d_op (v := .bool true) rfl (d_br true rfl (fun _ => d_call hv (fun _ => rfl) (d_ret rfl)) (fun h => by cases h))
  · have eI : cinvR X = .tup [w2 (cinv X), .bool true] := by unfold cinvR; rw [if_neg h0]
    rw [eI] at k3 k4
    refine d_call k3 (fun h => by cases h) (d_op (v := w2 (cinv X)) (ev_ext rfl (fun h => by cases h)) (d_op (ev_ext rfl (fun _ => rfl)) (d_expl (N := 8) (i := 44) rfl rfl rfl rfl ?_)))
    refine d_op (v := RT) rfl (d_refold 26 8 (v := w2 X) rfl rfl rfl rfl rfl rfl (d_call k4 (fun h => by cases h) (d_op (v := w2 (cinv X)) (ev_ext rfl (fun h => by cases h)) (d_op (ev_ext rfl (fun _ => rfl)) (d_expl (N := 8) (i := 57) rfl rfl rfl rfl ?_)))))
    refine d_refold 2 8 (v := WW x y) rfl rfl rfl rfl rfl rfl (d_refold 10 8 (v := WW z w) rfl rfl rfl rfl rfl rfl (d_call k5 (fun h => by cases h) ?_))
    refine d_op (v := RT) rfl (d_refold 26 8 (v := w2 X) rfl rfl rfl rfl rfl rfl (d_refold 34 8 (v := w2 Y) rfl rfl rfl rfl rfl rfl (d_call k6 (fun h => by cases h) ?_)))
    refine d_op (ev_new (l := l2 (X + Y)) (m := l2 (X + Y)) (l2_lt _) (l2_lt _) rfl rfl) (f_no (fun h => h rfl) rfl ?_)
    refine d_refold 2 8 (v := WW x y) rfl rfl rfl rfl rfl rfl (d_refold 10 8 (v := WW z w) rfl rfl rfl rfl rfl rfl (d_call k7 (fun h => by cases h) ?_))
    refine d_op (v := RT) rfl (d_refold 26 8 (v := w2 X) rfl rfl rfl rfl rfl rfl (d_refold 34 8 (v := w2 Y) rfl rfl rfl rfl rfl rfl (d_call k8 (fun h => by cases h) ?_)))
    refine d_op (ev_new (l := l2 (X - Y)) (m := l2 (X - Y)) (l2_lt _) (l2_lt _) rfl rfl) (f_no (fun h => h rfl) rfl ?_)
    refine d_refold 2 8 (v := WW x y) rfl rfl rfl rfl rfl rfl (d_refold 10 8 (v := WW z w) rfl rfl rfl rfl rfl rfl (d_call k9 (fun h => by cases h) ?_))
    refine d_op (v := RT) rfl (d_refold 26 8 (v := w2 X) rfl rfl rfl rfl rfl rfl (d_refold 34 8 (v := w2 Y) rfl rfl rfl rfl rfl rfl (d_call k10 (fun h => by cases h) ?_)))
    refine d_op (ev_new (l := l2 (X * Y)) (m := l2 (X * Y)) (l2_lt _) (l2_lt _) rfl rfl) (f_no (fun h => h rfl) rfl ?_)
    refine d_refold 2 8 (v := WW x y) rfl rfl rfl rfl rfl rfl (d_call k11 (fun h => by cases h) (d_op (v := RT) rfl (d_refold 26 8 (v := w2 X) rfl rfl rfl rfl rfl rfl (d_call k12 (fun h => by cases h) ?_))))
    refine d_op (ev_new (l := l2 (cconj X)) (m := l2 (cconj X)) (l2_lt _) (l2_lt _) rfl rfl) (f_no (fun h => h rfl) rfl ?_)
    refine d_refold 46 8 (v := w2 (cinv X)) rfl rfl rfl rfl rfl rfl (d_refold 59 8 (v := w2 (cinv X)) rfl rfl rfl rfl rfl rfl ?_)
    refine d_op (ev_new (l := l2 (cinv X)) (m := l2 (cinv X)) (l2_lt _) (l2_lt _) rfl rfl) (f_no (fun h => h rfl) rfl ?_)
    refine d_op ev_bbne (f_no (fun h => h rfl) rfl ?_)
    refine d_refold 26 8 (v := w2 X) rfl rfl rfl rfl rfl rfl (d_op (ev_new (l := l2 X) (m := [0, 0]) (l2_lt _) z2_lt rfl rfl) ?_)
    refine d_op ev_bbeq (f_yes (by rw [eq_comm, decide_eq_true_iff, l2_zero]; exact h0) rfl ?_)
    refine d_op (v := .bool false) rfl (d_br false rfl (fun h => by cases h) (fun _ => ?_))
    refine d_refold 46 8 (v := w2 (cinv X)) rfl rfl rfl rfl rfl rfl (d_refold 2 8 (v := WW x y) rfl rfl rfl rfl rfl rfl (d_call (k13 h0) (fun h => by cases h) ?_))
    exact d_op (ev_eqw (l := l2 Cx.one) (m := [1, 0]) (l2_lt _) o2_lt rfl rfl) (f_yes (by decide) rfl (d_call hv (fun _ => rfl) (d_ret rfl)))
end Go.SE
