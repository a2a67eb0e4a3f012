/- Nothing of the statement is proved here: this text lays generic laws: FK; no conditions. -/
import Derived.Test.YtdpcehjiicfpdaaFI
import Derived.Test.YtdpcehjiicfpdaaPS
set_option linter.all false
set_option autoImplicit false
set_option maxRecDepth 8000
set_option maxHeartbeats 2000000
set_option exponentiation.threshold 5000
namespace Go.SE
open Go
variable {P : Program} {R : AEnd → Prop}
abbrev pCurve : Nat := 115792089237316195423570985008687907853269984665640564039457584007908834671663
abbrev pOrder : Nat := 115792089237316195423570985008687907852837564279074904382605163141518161494337
abbrev pBase : Nat := 21888242871839275222246405745257275088696311157297823662689037894645226208583
def fCurve : AV := FP pCurve 15580212934572586289 (W256 * W256 % pCurve)
def fOrder : AV := FP pOrder 5408259542528602431 (W256 * W256 % pOrder)
def fBase : AV := FP pBase 9786893198990664585 (W256 * W256 % pBase)
theorem ok_curve : Fok pCurve 15580212934572586289 (W256 * W256 % pCurve) := ⟨by decide, by decide, by decide, by decide, rfl⟩
theorem ok_order : Fok pOrder 5408259542528602431 (W256 * W256 % pOrder) := ⟨by decide, by decide, by decide, by decide, rfl⟩
theorem ok_base : Fok pBase 9786893198990664585 (W256 * W256 % pBase) := ⟨by decide, by decide, by decide, by decide, rfl⟩
def t_fCurve : T :=
 .ret (.c (.rp [.int .u64 18446744069414583343, .int .u64 18446744073709551615, .int .u64 18446744073709551615, .int .u64 18446744073709551615, .int .u64 15580212934572586289, .int .u64 8392367050913, .int .u64 1, .int .u64 0, .int .u64 0]))
def t_fOrder : T :=
 .ret (.c (.rp [.int .u64 13822214165235122497, .int .u64 13451932020343611451, .int .u64 18446744073709551614, .int .u64 18446744073709551615, .int .u64 5408259542528602431, .int .u64 9902555850136342848, .int .u64 8364476168144746616, .int .u64 16616019711348246470, .int .u64 11342065889886772165]))
def t_fBase : T :=
 .ret (.c (.rp [.int .u64 4332616871279656263, .int .u64 10917124144477883021, .int .u64 13281191951274694749, .int .u64 3486998266802970665, .int .u64 9786893198990664585, .int .u64 17522657719365597833, .int .u64 13107472804851548667, .int .u64 5164255478447964150, .int .u64 493319470278259999]))
theorem fCurve_den : D P (fun e => e = .ret fCurve) [] 0 [] t_fCurve := d_ret rfl
theorem fOrder_den : D P (fun e => e = .ret fOrder) [] 0 [] t_fOrder := d_ret rfl
theorem fBase_den : D P (fun e => e = .ret fBase) [] 0 [] t_fBase := d_ret rfl
def Fields (P : Program) (f : FuncId) : Prop := Ct P f [] (fun e => e = .ret (.sl 3 [fCurve, fOrder, fBase]))
def t_fields (c o b : FuncId) : T :=
 .node (.call c [] true) <|
 .node (.call o [] true) <|
 .node (.call b [] true) <|
 .node (.op (.isnil .pt false) [.v 0]) <|
 .br (.v 3) (
 .ret (.c .nils)) (
 .node (.op (.isnil .pt false) [.v 1]) <|
 .br (.v 4) (
 .ret (.c .nils)) (
 .node (.op (.isnil .pt false) [.v 2]) <|
 .br (.v 5) (
 .ret (.c .nils)) (
 .node (.op .mklst [.v 0, .v 1, .v 2]) <|
 .node (.op (.mksl 1) [.v 6, .c (.int .i64 0), .c (.int .i64 3)]) <|
 .ret (.v 7))))
theorem fields_den {c o b : FuncId} (hc : Ct P c [] (fun e => e = .ret fCurve)) (ho : Ct P o [] (fun e => e = .ret fOrder)) (hb : Ct P b [] (fun e => e = .ret fBase)) : D P (fun e => e = .ret (.sl 3 [fCurve, fOrder, fBase])) [] 0 [] (t_fields c o b) := by
  refine d_call hc (fun _ => rfl) (d_call ho (fun _ => rfl) (d_call hb (fun _ => rfl) ?_))
  refine d_op (v := .bool false) rfl (d_br false rfl (fun h => by cases h) (fun _ => ?_))
  refine d_op (v := .bool false) rfl (d_br false rfl (fun h => by cases h) (fun _ => ?_))
  refine d_op (v := .bool false) rfl (d_br false rfl (fun h => by cases h) (fun _ => ?_))
  exact d_op (ev_mklst rfl) (d_op (ev_mksl1 rfl rfl) (d_ret rfl))
section
variable {m a b : Nat}
theorem not_dvd_mod (h : a % m ≠ 0) : ¬ m ∣ a % m := fun hd => h (by rw [← Nat.mod_eq_zero_of_dvd hd, Nat.mod_mod])
theorem inv_ok (hp : PR.Prime m) (h3 : 3 ≤ m) (h : a % m ≠ 0) : a % m * invM m a % m = 1 := by
  have := PR.fermat hp (not_dvd_mod h)
  unfold invM
  rw [Nat.mul_mod, Nat.mod_mod, Nat.mod_mod, Nat.mul_mod_mod, ← Nat.pow_succ', show (m - 2).succ = m - 1 by omega]
  exact this
theorem aInv_ne (hp : PR.Prime m) (h3 : 3 ≤ m) (h : a % m ≠ 0) : aInv m a = (invM m a, true) := by unfold aInv; rw [if_pos (inv_ok hp h3 h)]
theorem aInv_zero (h : a % m = 0) : aInv m a = (0, false) := by
  unfold aInv
  rw [if_neg]
  rw [h, Nat.zero_mul, Nat.zero_mod]; decide
theorem aInv_iff (hp : PR.Prime m) (h3 : 3 ≤ m) : (aInv m a).2 = decide (a % m ≠ 0) := by
  by_cases h : a % m = 0
  · rw [aInv_zero h]; simp [h]
  · rw [aInv_ne hp h3 h]; simp [h]
end
section
variable {m a : Nat}
end
end Go.SE
