/- Nothing of the statement is proved here: this text lays generic laws: TH; no conditions. -/
import Derived.Test.YtomjfjncfodmhaaTG
set_option linter.all false
set_option autoImplicit false
set_option maxRecDepth 8000
set_option maxHeartbeats 8000000
set_option exponentiation.threshold 500
namespace Go.SE
open Go
theorem no_power {m k c A B : Nat} (hp : PR.Prime m) (h3 : 3 ≤ m) (n : Nat) (hk : n * k = m - 1) (hk0 : 0 < k) (hc : c ^ k % m ≠ 1) (hc0 : ¬ m ∣ c) (hB : B < m) (h : A ^ n % m = c * B ^ n % m) : B = 0 := by
  refine Classical.byContradiction fun h0 => hc ?_
  have hBd : ¬ m ∣ B := fun hd => by have := Nat.le_of_dvd (by omega) hd; omega
  have hn0 : 0 < n := Nat.pos_of_ne_zero fun e => by rw [e, Nat.zero_mul] at hk; omega
  have hpw : ∀ x : Nat, ¬ m ∣ x → ∀ j, ¬ m ∣ x ^ j := fun x hx j => by
    induction j with
    | zero => intro hd; rw [Nat.pow_zero] at hd; have := Nat.le_of_dvd (by omega) hd; omega
    | succ j ih => intro hd; rw [Nat.pow_succ] at hd; rcases hp.dvd_mul hd with h | h; exact ih h; exact hx h
  have hAd : ¬ m ∣ A := fun hd => by
    have h1 : A ^ n % m = 0 := Nat.mod_eq_zero_of_dvd (Nat.dvd_trans hd ⟨A ^ (n - 1), by rw [← Nat.pow_succ', Nat.succ_eq_add_one, Nat.sub_add_cancel hn0]⟩)
    rw [h1] at h
    rcases hp.dvd_mul (Nat.dvd_of_mod_eq_zero h.symm) with h | h
    · exact hc0 h
    · exact hpw B hBd n h
  have e1 : (A ^ n) ^ k % m = 1 := by rw [← Nat.pow_mul, hk]; exact PR.fermat hp hAd
  have e2 : (B ^ n) ^ k % m = 1 := by rw [← Nat.pow_mul, hk]; exact PR.fermat hp hBd
  rw [Nat.pow_mod, h, ← Nat.pow_mod, Nat.mul_pow, Nat.mul_mod, e2, Nat.mul_one, Nat.mod_mod] at e1
  exact e1
theorem no_square {A B : Fin pBase} (h : A * A = 82 * (B * B)) : B = 0 := by
  have h1 := congrArg Fin.val h
  have h2 : A.val * A.val % pBase = 82 * (B.val * B.val % pBase) % pBase := h1
  have h3 : A.val ^ 2 % pBase = 82 * B.val ^ 2 % pBase := by
    rw [Nat.pow_two, Nat.pow_two, h2, Nat.mul_mod, Nat.mod_mod, ← Nat.mul_mod]
  refine Fin.ext (no_power PR.prime_base (by decide) 2 (k := (pBase - 1) / 2) (by decide) (by decide) ?_ (by decide) B.isLt h3)
  rw [← PR.pw_eq (k := 254) (by decide)]
  decide +kernel
theorem no_cube {A B : Fin pBase} (h : A * (A * A) = 82 * (B * (B * B))) : B = 0 := by
  have h1 := congrArg Fin.val h
  have h2 : A.val * (A.val * A.val % pBase) % pBase = 82 * (B.val * (B.val * B.val % pBase) % pBase) % pBase := h1
  have h3 : A.val ^ 3 % pBase = 82 * B.val ^ 3 % pBase := by
    have e : ∀ x : Nat, x ^ 3 = x * (x * x) := fun x => by rw [Nat.pow_succ, Nat.pow_two, Nat.mul_comm]
    have e' : ∀ x y : Nat, x * (y % pBase) % pBase = x * y % pBase := fun x y => by rw [Nat.mul_mod, Nat.mod_mod, ← Nat.mul_mod]
    rw [e', e', ← Nat.mul_assoc 82, e', Nat.mul_assoc 82] at h2
    rw [e, e, h2]
  refine Fin.ext (no_power PR.prime_base (by decide) 3 (k := (pBase - 1) / 3) (by decide) (by decide) ?_ (by decide) B.isLt h3)
  rw [← PR.pw_eq (k := 254) (by decide)]
  decide +kernel
theorem norm_mul (a b : Cx pBase) : norm (a * b) = norm a * norm b := by
  simp only [norm, Cx.mul_re, Cx.mul_im]; grind
theorem norm_xi : norm xi = 82 := by decide +kernel
theorem cx_zero_of_mul {a b : Cx pBase} (h : a * b = .zero) (ha : a ≠ .zero) : b = .zero := by
  have hn : norm a ≠ 0 := fun e => ha (norm_zero.1 e)
  have := cinv_mul hn
  rw [← Cx.one_mul b, ← this, Cx.mul_assoc, h, Cx.mul_zero]
theorem cx_sq {a : Cx pBase} (h : a * a = .zero) : a = .zero := Classical.byContradiction fun h0 => h0 (cx_zero_of_mul h h0)
theorem xi_square {u t : Cx pBase} (h : u * u = xi * (t * t)) : t = .zero := by
  have h1 := congrArg norm h
  rw [norm_mul, norm_mul, norm_mul, norm_xi] at h1
  exact norm_zero.1 (no_square h1)
theorem xi_cube {u t : Cx pBase} (h : u * (u * u) = xi * (t * (t * t))) : t = .zero := by
  have h1 := congrArg norm h
  rw [norm_mul, norm_mul, norm_mul, norm_mul, norm_mul, norm_xi] at h1
  exact norm_zero.1 (no_cube h1)
theorem half_nat {m q : Nat} (hm : m % 2 = 1) (hq : q < m) (h : (q + q) % m = 0) : q = 0 := by
  obtain ⟨c, hc⟩ := Nat.dvd_of_mod_eq_zero h
  match c, hc with
  | 0, hc => omega
  | 1, hc => omega
  | c + 2, hc =>
    have h1 : m * 2 ≤ m * (c + 2) := Nat.mul_le_mul_left _ (by omega)
    omega
@[ext] structure Tri where
  d0 : Cx pBase
  d1 : Cx pBase
  d2 : Cx pBase
deriving DecidableEq
namespace Tri
def mul (a b : Tri) : Tri :=
  ⟨a.d0 * b.d0 + (a.d1 * b.d2 + a.d2 * b.d1) * xi, (a.d0 * b.d1 + a.d1 * b.d0) + a.d2 * b.d2 * xi, (a.d0 * b.d2 + a.d2 * b.d0) + a.d1 * b.d1⟩
def zero : Tri := ⟨.zero, .zero, .zero⟩
def adj (a : Tri) : Tri := ⟨a.d0 * a.d0 - a.d1 * a.d2 * xi, a.d2 * a.d2 * xi - a.d0 * a.d1, a.d1 * a.d1 - a.d0 * a.d2⟩
def nrm (a : Tri) : Cx pBase := a.d0 * (adj a).d0 + (a.d2 * (adj a).d1 + a.d1 * (adj a).d2) * xi
def scale (a : Tri) (i : Cx pBase) : Tri := ⟨a.d0 * i, a.d1 * i, a.d2 * i⟩
def neg (a : Tri) : Tri := ⟨(Cx.zero : Cx pBase) - a.d0, (Cx.zero : Cx pBase) - a.d1, (Cx.zero : Cx pBase) - a.d2⟩
def nr (x y : Tri) : Tri := ⟨(mul x x).d0 - (mul y y).d2 * xi, (mul x x).d1 - (mul y y).d0, (mul x x).d2 - (mul y y).d1⟩
theorem xi_re : xi.re = 9 := rfl
theorem xi_im : xi.im = 1 := rfl
theorem mul_comm (a b : Tri) : mul a b = mul b a := by ext1 <;> simp only [mul] <;> ac_rfl
theorem mul_assoc (a b c : Tri) : mul (mul a b) c = mul a (mul b c) := by
  ext1 <;> simp only [mul, Cx.add_mul, Cx.mul_add] <;> ac_rfl
instance : Std.Associative (α := Tri) mul := ⟨mul_assoc⟩
instance : Std.Commutative (α := Tri) mul := ⟨mul_comm⟩
theorem mul_adj (a : Tri) : mul a (adj a) = ⟨nrm a, .zero, .zero⟩ := by
  ext1 <;> ext1 <;> simp only [mul, adj, nrm, Cx.mul_re, Cx.mul_im, Cx.sub_re, Cx.sub_im, Cx.add_re, Cx.add_im, Cx.zero_re, Cx.zero_im, xi_re, xi_im] <;> grind
theorem nrm_zero {a : Tri} (h : nrm a = .zero) : a = zero := by
  obtain ⟨a0, a1, a2⟩ := a
  have k1 : (a2 * a2 * xi - a0 * a1) * (a2 * a2 * xi - a0 * a1) = (a0 * a0 - a1 * a2 * xi) * (a1 * a1 - a0 * a2) + a2 * nrm ⟨a0, a1, a2⟩ := by
    ext1 <;> simp only [nrm, adj, Cx.mul_re, Cx.mul_im, Cx.sub_re, Cx.sub_im, Cx.add_re, Cx.add_im, xi_re, xi_im] <;> grind
  have k2 : (a0 * a0 - a1 * a2 * xi) * (a2 * a2 * xi - a0 * a1) + a1 * nrm ⟨a0, a1, a2⟩ = xi * ((a1 * a1 - a0 * a2) * (a1 * a1 - a0 * a2)) := by
    ext1 <;> simp only [nrm, adj, Cx.mul_re, Cx.mul_im, Cx.sub_re, Cx.sub_im, Cx.add_re, Cx.add_im, xi_re, xi_im] <;> grind
  rw [h, Cx.mul_zero, Cx.add_zero] at k1 k2
  have hZ : a1 * a1 - a0 * a2 = .zero := by
    refine xi_cube (u := a2 * a2 * xi - a0 * a1) ?_
    rw [k1]
    calc (a2 * a2 * xi - a0 * a1) * ((a0 * a0 - a1 * a2 * xi) * (a1 * a1 - a0 * a2)) = ((a0 * a0 - a1 * a2 * xi) * (a2 * a2 * xi - a0 * a1)) * (a1 * a1 - a0 * a2) := by ac_rfl
      _ = xi * ((a1 * a1 - a0 * a2) * (a1 * a1 - a0 * a2)) * (a1 * a1 - a0 * a2) := by rw [k2]
      _ = xi * ((a1 * a1 - a0 * a2) * ((a1 * a1 - a0 * a2) * (a1 * a1 - a0 * a2))) := by ac_rfl
  have hY : a2 * a2 * xi - a0 * a1 = .zero := by
    rw [hZ, Cx.mul_zero] at k1
    exact cx_sq k1
  have sub_eq : ∀ {x y : Cx pBase}, x - y = .zero → x = y := fun {x y} e => by
    have e1 := congrArg Cx.re e
    have e2 := congrArg Cx.im e
    simp only [Cx.sub_re, Cx.sub_im, Cx.zero_re, Cx.zero_im] at e1 e2
    ext1 <;> grind
  have g1 : a1 * a1 = a0 * a2 := sub_eq hZ
  have g2 : a2 * a2 * xi = a0 * a1 := sub_eq hY
  have h2 : a2 = .zero := by
    refine xi_cube (u := a1) ?_
    calc a1 * (a1 * a1) = a0 * a1 * a2 := by rw [g1]; ac_rfl
      _ = a2 * a2 * xi * a2 := by rw [g2]
      _ = xi * (a2 * (a2 * a2)) := by ac_rfl
  subst h2
  have h1 : a1 = .zero := by rw [Cx.mul_zero] at g1; exact cx_sq g1
  subst h1
  have h0 : a0 = .zero := by
    have e : nrm ⟨a0, .zero, .zero⟩ = a0 * (a0 * a0) := by
      ext1 <;> simp only [nrm, adj, Cx.mul_re, Cx.mul_im, Cx.sub_re, Cx.sub_im, Cx.add_re, Cx.add_im, xi_re, xi_im, Cx.zero_re, Cx.zero_im] <;> grind
    rw [e] at h
    refine Classical.byContradiction fun hn => hn (cx_sq (cx_zero_of_mul h hn))
  rw [h0]; rfl
def up (a : Tri) : Tri := ⟨a.d2 * xi, a.d0, a.d1⟩
theorem mul_up (a b : Tri) : mul a (up b) = up (mul a b) := by
  ext1 <;> simp only [mul, up, Cx.add_mul] <;> ac_rfl
theorem scale_sq (m : Cx pBase) : mul ⟨m, .zero, .zero⟩ ⟨m, .zero, .zero⟩ = ⟨m * m, .zero, .zero⟩ := by
  ext1 <;> ext1 <;> simp only [mul, Cx.mul_re, Cx.mul_im, Cx.add_re, Cx.add_im, xi_re, xi_im, Cx.zero_re, Cx.zero_im] <;> grind
theorem cube_id (z0 z1 z2 : Cx pBase) : z1 * (z1 * (z1 * z1)) + xi * ((z2 + z2) * ((z2 + z2) * (z2 + z2))) * z1 = ((z0 * z2 + z2 * z0) + z1 * z1) * (z1 * z1 - (z0 + z0) * z2) + (z0 * z0 + (z1 * z2 + z2 * z1) * xi) * ((z2 + z2) * (z2 + z2)) := by
  ext1 <;> simp only [Cx.mul_re, Cx.mul_im, Cx.sub_re, Cx.sub_im, Cx.add_re, Cx.add_im, xi_re, xi_im] <;> grind
theorem neg_cube (w z : Cx pBase) : xi * (((Cx.zero : Cx pBase) - w) * (((Cx.zero : Cx pBase) - w) * ((Cx.zero : Cx pBase) - w))) * z = (Cx.zero : Cx pBase) - xi * (w * (w * w)) * z := by
  ext1 <;> simp only [Cx.mul_re, Cx.mul_im, Cx.sub_re, Cx.sub_im, xi_re, xi_im, Cx.zero_re, Cx.zero_im] <;> grind
theorem cx_lin {a b : Cx pBase} (h : a + b = .zero) : a = (Cx.zero : Cx pBase) - b := by
  have g1 := congrArg Cx.re h
  have g2 := congrArg Cx.im h
  simp only [Cx.add_re, Cx.add_im, Cx.zero_re, Cx.zero_im] at g1 g2
  ext1 <;> simp only [Cx.sub_re, Cx.sub_im, Cx.zero_re, Cx.zero_im]
  · generalize a.re = p at *
    generalize b.re = q at *
    clear g2 h
    grind
  · generalize a.im = p at *
    generalize b.im = q at *
    clear g1 h
    grind
theorem no_root {z : Tri} {m : Cx pBase} (h : mul z z = up ⟨m * m, .zero, .zero⟩) : m = .zero := by
  obtain ⟨z0, z1, z2⟩ := z
  have e0 : z0 * z0 + (z1 * z2 + z2 * z1) * xi = .zero * xi := congrArg Tri.d0 h
  have e1 : (z0 * z1 + z1 * z0) + z2 * z2 * xi = m * m := congrArg Tri.d1 h
  have e2 : (z0 * z2 + z2 * z0) + z1 * z1 = .zero := congrArg Tri.d2 h
  rw [Cx.zero_mul] at e0
  by_cases h1 : z1 = .zero
  · subst h1
    rw [Cx.zero_mul, Cx.mul_zero, Cx.add_zero, Cx.zero_mul, Cx.add_zero] at e0
    have h0 := cx_sq e0
    subst h0
    rw [Cx.zero_mul, Cx.add_zero, Cx.zero_add] at e1
    have h2 : z2 = .zero := xi_square (u := m) (by rw [← e1, Cx.mul_comm])
    rw [h2, Cx.zero_mul, Cx.zero_mul] at e1
    exact cx_sq e1.symm
  · -- z1^3 = xi (-2 z2)^3
    have two : ∀ x : Cx pBase, x + x = .zero → x = .zero := fun x hx => by
      have g1 := congrArg Cx.re hx
      have g2 := congrArg Cx.im hx
      simp only [Cx.add_re, Cx.add_im, Cx.zero_re, Cx.zero_im] at g1 g2
      have half : ∀ q : Fin pBase, q + q = 0 → q = 0 := fun q hq => by
        have := congrArg Fin.val hq
        exact Fin.ext (half_nat (by decide) q.isLt this)
      exact Cx.ext (half _ g1) (half _ g2)
    have key : z1 * (z1 * (z1 * z1)) = xi * (((Cx.zero : Cx pBase) - (z2 + z2)) * (((Cx.zero : Cx pBase) - (z2 + z2)) * ((Cx.zero : Cx pBase) - (z2 + z2)))) * z1 := by
      have c := cube_id z0 z1 z2
      rw [e0, e2, Cx.zero_mul, Cx.zero_mul, Cx.add_zero] at c
      rw [neg_cube]
      exact cx_lin c
    have cancel : ∀ {x y : Cx pBase}, x * z1 = y * z1 → x = y := fun {x y} e => by
      have hn : norm z1 ≠ 0 := fun e => h1 (norm_zero.1 e)
      have hi := cinv_mul hn
      rw [← Cx.mul_one x, ← Cx.mul_one y, ← hi, Cx.mul_comm (cinv z1), ← Cx.mul_assoc, ← Cx.mul_assoc, e]
    have h3 := xi_cube (cancel (x := z1 * (z1 * z1)) (by rw [← key]; ac_rfl))
    have h4 : z2 + z2 = .zero := by
      have g1 := congrArg Cx.re h3
      have g2 := congrArg Cx.im h3
      simp only [Cx.sub_re, Cx.sub_im, Cx.zero_re, Cx.zero_im] at g1 g2
      exact Cx.ext (by show (z2 + z2).re = 0; grind) (by show (z2 + z2).im = 0; grind)
    have h2 := two _ h4
    rw [h2, Cx.mul_zero, Cx.zero_mul, Cx.add_zero, Cx.zero_add] at e2
    exact absurd (cx_sq e2) h1
theorem nr_zero {x y : Tri} (h : nr x y = zero) : x = zero ∧ y = zero := by
  have sub_eq : ∀ {x y : Cx pBase}, x - y = .zero → x = y := fun {x y} e => by
    have e1 := congrArg Cx.re e
    have e2 := congrArg Cx.im e
    simp only [Cx.sub_re, Cx.sub_im, Cx.zero_re, Cx.zero_im] at e1 e2
    ext1 <;> grind
  have e : mul x x = up (mul y y) := by
    ext1
    · exact sub_eq (congrArg Tri.d0 h)
    · exact sub_eq (congrArg Tri.d1 h)
    · exact sub_eq (congrArg Tri.d2 h)
  have hz : mul (mul x (adj y)) (mul x (adj y)) = up ⟨nrm y * nrm y, .zero, .zero⟩ := by
    have e1 : mul (mul x (adj y)) (mul x (adj y)) = mul (mul x x) (mul (adj y) (adj y)) := by ac_rfl
    rw [e1, e, mul_comm, mul_up]
    congr 1
    have e2 : mul (mul (adj y) (adj y)) (mul y y) = mul (mul y (adj y)) (mul y (adj y)) := by ac_rfl
    rw [e2, mul_adj, scale_sq]
  have hy := nrm_zero (no_root hz)
  subst hy
  refine ⟨?_, rfl⟩
  have e3 : mul x x = zero := by
    rw [e]
    decide +kernel
  have e4 : mul (mul x (adj x)) (mul x (adj x)) = zero := by
    have e1 : mul (mul x (adj x)) (mul x (adj x)) = mul (mul x x) (mul (adj x) (adj x)) := by ac_rfl
    rw [e1, e3]
    ext1 <;> simp only [mul, zero, Cx.zero_mul, Cx.add_zero]
  rw [mul_adj, scale_sq] at e4
  exact nrm_zero (cx_sq (congrArg Tri.d0 e4))
end Tri
end Go.SE
