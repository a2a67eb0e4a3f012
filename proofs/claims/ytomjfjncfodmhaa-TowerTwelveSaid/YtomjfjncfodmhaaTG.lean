/- Nothing of the statement is proved here: this text lays generic laws: TG; no conditions. -/
import Derived.Test.YtomjfjncfodmhaaTF
import Derived.Test.YtomjfjncfodmhaaFV
set_option linter.all false
set_option autoImplicit false
set_option maxRecDepth 20000
set_option maxHeartbeats 8000000
set_option exponentiation.threshold 5000
namespace Go.SE
open Go
variable {P : Program} {R : AEnd → Prop}
theorem sumsq {m u v : Nat} (hp : PR.Prime m) (h4 : m % 4 = 3) (hu : u < m) (hv : v < m) (h : (u * u + v * v) % m = 0) : u = 0 ∧ v = 0 := by
  have h3 : 3 ≤ m := by omega
  obtain ⟨k, hk⟩ : ∃ k, (2 * k + 1) + (2 * k + 1) = m - 1 := ⟨m / 4, by omega⟩
  have h1 := odd_pow h k
  have sq : ∀ x : Nat, (x * x) ^ (2 * k + 1) = x ^ (m - 1) := fun x => by rw [Nat.mul_pow, ← Nat.pow_add, hk]
  rw [sq, sq] at h1
  have nd : ∀ x, x < m → x ≠ 0 → ¬ m ∣ x := fun x hx h0 hd => by have := Nat.le_of_dvd (by omega) hd; omega
  have one : ∀ x, x < m → x ≠ 0 → x ^ (m - 1) % m = 1 := fun x hx h0 => PR.fermat hp (nd x hx h0)
  have zero : (0 : Nat) ^ (m - 1) % m = 0 := by rw [Nat.zero_pow (by omega), Nat.zero_mod]
  rw [Nat.add_mod] at h1
  by_cases h5 : u = 0
  · by_cases h6 : v = 0
    · exact ⟨h5, h6⟩
    · rw [h5, zero, one v hv h6, Nat.mod_eq_of_lt (show 0 + 1 < m by omega)] at h1; omega
  · by_cases h6 : v = 0
    · rw [h6, zero, one u hu h5, Nat.mod_eq_of_lt (show 1 + 0 < m by omega)] at h1; omega
    · rw [one u hu h5, one v hv h6, Nat.mod_eq_of_lt (show 1 + 1 < m by omega)] at h1; omega
theorem norm_zero {a : Cx pBase} : norm a = 0 ↔ a = Cx.zero := by
  constructor
  · intro h
    have h1 := congrArg Fin.val h
    have h2 : (a.re.val * a.re.val % pBase + a.im.val * a.im.val % pBase) % pBase = 0 := h1
    rw [← Nat.add_mod] at h2
    have h3 := sumsq PR.prime_base (by decide) a.re.isLt a.im.isLt h2
    exact Cx.ext (Fin.ext h3.1) (Fin.ext h3.2)
  · intro h; rw [h]; decide
theorem cinv_mul {a : Cx pBase} (h : norm a ≠ 0) : cinv a * a = Cx.one := by
  have h1 := finv_mul h
  have h2 : (a.re * a.re + a.im * a.im) * finv (norm a) = 1 := h1
  apply Cx.ext
  · show a.re * finv (norm a) * a.re - -(a.im * finv (norm a)) * a.im = 1
    generalize finv (norm a) = n at *
    generalize a.re = p at *
    generalize a.im = q at *
    grind
  · show a.re * finv (norm a) * a.im + -(a.im * finv (norm a)) * a.re = 0
    generalize finv (norm a) = n at *
    generalize a.re = p at *
    generalize a.im = q at *
    grind
def l2 (a : Cx pBase) : List Nat := [a.re.val, a.im.val]
theorem l2_lt (a : Cx pBase) : ∀ x ∈ l2 a, x < W256 := by
  intro x hx
  simp only [l2, List.mem_cons, List.not_mem_nil, or_false] at hx
  rcases hx with rfl | rfl <;> exact zval_lt _
theorem z2_lt : ∀ x ∈ [0, 0], x < W256 := by decide
def t_rtnew (rbase rnew : FuncId) : T :=
 .node (.call rbase [] false) <|
 .node (.call rnew [.v 0] true) <|
 .node (.op (.build [.nilp] [(0, 1)]) [.v 1]) <|
 .node (.op (.cell 1 0) [.v 2]) <|
 .node (.op .mkagg [.v 3]) <|
 .ret (.v 4)
theorem rtnew_den {rbase rnew : FuncId} (hb : Ct P rbase [] (fun e => e = .ret (WV pBase))) (hn : RNewC P rnew) : D P (fun e => e = .ret RT) [] 0 [] (t_rtnew rbase rnew) := by
  have c : Ct P rnew [WV pBase] (fun e => e = .ret rB) := hn pBase (by decide) (by decide) (by decide)
  exact d_call hb (fun h => by cases h) (d_call c (fun _ => rfl) (d_op (v := RT) rfl (d_op (v := rB) rfl (d_op (v := RT) rfl (d_ret rfl)))))
end Go.SE
