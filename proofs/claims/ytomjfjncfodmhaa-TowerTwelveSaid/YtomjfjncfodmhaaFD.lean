/- Nothing of the statement is proved here: this text lays generic laws: FD; no conditions. -/
import Derived.Test.YtomjfjncfodmhaaFA
set_option linter.all false
set_option autoImplicit false
set_option maxRecDepth 4000
set_option maxHeartbeats 2000000
set_option exponentiation.threshold 5000
namespace Go.SE
open Go
variable {P : Program} {R : AEnd → Prop}
def Len64C (P : Program) (f : FuncId) : Prop := ∀ x : Nat, x < B64 → Ct P f [.int .u64 (x : Int)] (fun e => e = .ret (.int .i64 (blen x : Nat)))
def t_len64 : T :=
 .node (.op (.bin .geq) [.v 0, .c (.int .u64 4294967296)]) <|
 .br (.v 1) (
 .node (.op (.bin .shr) [.v 0, .c (.int .u64 32)]) <|
 .node (.op (.bin .geq) [.v 2, .c (.int .u64 65536)]) <|
 .br (.v 3) (
 .node (.op (.bin .shr) [.v 2, .c (.int .u64 16)]) <|
 .node (.op (.bin .geq) [.v 4, .c (.int .u64 256)]) <|
 .br (.v 5) (
 .node (.op (.bin .shr) [.v 4, .c (.int .u64 8)]) <|
 .node (.op (.cvt .u8) [.v 6]) <|
 .node (.op .sidx [.c (.str lenTab), .v 7]) <|
 .node (.op (.cvt .i64) [.v 8]) <|
 .node (.op (.bin .add) [.c (.int .i64 56), .v 9]) <|
 .ret (.v 10)) (
 .node (.op (.cvt .u8) [.v 4]) <|
 .node (.op .sidx [.c (.str lenTab), .v 6]) <|
 .node (.op (.cvt .i64) [.v 7]) <|
 .node (.op (.bin .add) [.c (.int .i64 48), .v 8]) <|
 .ret (.v 9))) (
 .node (.op (.bin .geq) [.v 2, .c (.int .u64 256)]) <|
 .br (.v 4) (
 .node (.op (.bin .shr) [.v 2, .c (.int .u64 8)]) <|
 .node (.op (.cvt .u8) [.v 5]) <|
 .node (.op .sidx [.c (.str lenTab), .v 6]) <|
 .node (.op (.cvt .i64) [.v 7]) <|
 .node (.op (.bin .add) [.c (.int .i64 40), .v 8]) <|
 .ret (.v 9)) (
 .node (.op (.cvt .u8) [.v 2]) <|
 .node (.op .sidx [.c (.str lenTab), .v 5]) <|
 .node (.op (.cvt .i64) [.v 6]) <|
 .node (.op (.bin .add) [.c (.int .i64 32), .v 7]) <|
 .ret (.v 8)))) (
 .node (.op (.bin .geq) [.v 0, .c (.int .u64 65536)]) <|
 .br (.v 2) (
 .node (.op (.bin .shr) [.v 0, .c (.int .u64 16)]) <|
 .node (.op (.bin .geq) [.v 3, .c (.int .u64 256)]) <|
 .br (.v 4) (
 .node (.op (.bin .shr) [.v 3, .c (.int .u64 8)]) <|
 .node (.op (.cvt .u8) [.v 5]) <|
 .node (.op .sidx [.c (.str lenTab), .v 6]) <|
 .node (.op (.cvt .i64) [.v 7]) <|
 .node (.op (.bin .add) [.c (.int .i64 24), .v 8]) <|
 .ret (.v 9)) (
 .node (.op (.cvt .u8) [.v 3]) <|
 .node (.op .sidx [.c (.str lenTab), .v 5]) <|
 .node (.op (.cvt .i64) [.v 6]) <|
 .node (.op (.bin .add) [.c (.int .i64 16), .v 7]) <|
 .ret (.v 8))) (
 .node (.op (.bin .geq) [.v 0, .c (.int .u64 256)]) <|
 .br (.v 3) (
 .node (.op (.bin .shr) [.v 0, .c (.int .u64 8)]) <|
 .node (.op (.cvt .u8) [.v 4]) <|
 .node (.op .sidx [.c (.str lenTab), .v 5]) <|
 .node (.op (.cvt .i64) [.v 6]) <|
 .node (.op (.bin .add) [.c (.int .i64 8), .v 7]) <|
 .ret (.v 8)) (
 .node (.op (.cvt .u8) [.v 0]) <|
 .node (.op .sidx [.c (.str lenTab), .v 4]) <|
 .node (.op (.cvt .i64) [.v 5]) <|
 .node (.op (.bin .add) [.c (.int .i64 0), .v 6]) <|
 .ret (.v 7))))
theorem len64_den {x : Nat} (hx : x < B64) : D P (fun e => e = .ret (.int .i64 (blen x : Nat))) [] 1 [.int .u64 (x : Int)] t_len64 := by
  have hx : x < 18446744073709551616 := hx
  refine d_op ev_geq (d_if rfl (fun h => ?_) (fun h => ?_))
  · have e0 : blen x = 32 + blen (x / 4294967296) := blen_div (s := 32) (by omega)
    refine d_op (ev_shr (y := 32) rfl (by decide) rfl) ?_
    show D P _ _ _ (AV.int .u64 ((x / 4294967296 : Nat) : Int) :: _) _
    have hz : x / 4294967296 < 4294967296 := by omega
    generalize x / 4294967296 = z at *
    refine d_op ev_geq (d_if rfl (fun h1 => ?_) (fun h1 => ?_))
    · have e1 : blen z = 16 + blen (z / 65536) := blen_div (s := 16) (by omega)
      refine d_op (ev_shr (y := 16) rfl (by decide) rfl) (d_op ev_geq (d_if rfl (fun h2 => ?_) (fun h2 => ?_)))
      · have e2 : blen (z / 65536) = 8 + blen (z / 65536 / 256) := blen_div (s := 8) (by omega)
        have h8 : blen (z / 65536 / 256) ≤ 8 := blen_le.2 (by omega)
        refine d_op (ev_shr (y := 8) rfl (by decide) rfl) (d_op (ev_cvt (by constructor <;> omega)) (d_op (ev_lenTab (y := z / 65536 / 256) rfl (by omega) rfl) (d_op (ev_cvt (by constructor <;> omega)) (d_op (ev_add (by constructor <;> omega)) (d_ret ?_)))))
        show AEnd.ret (.int .i64 _) = _
        congr 2; omega
      · have h8 : blen (z / 65536) ≤ 8 := blen_le.2 (by omega)
        refine d_op (ev_cvt (by constructor <;> omega)) (d_op (ev_lenTab (y := z / 65536) rfl (by omega) rfl) (d_op (ev_cvt (by constructor <;> omega)) (d_op (ev_add (by constructor <;> omega)) (d_ret ?_))))
        show AEnd.ret (.int .i64 _) = _
        congr 2; omega
    · refine d_op ev_geq (d_if rfl (fun h2 => ?_) (fun h2 => ?_))
      · have e2 : blen z = 8 + blen (z / 256) := blen_div (s := 8) (by omega)
        have h8 : blen (z / 256) ≤ 8 := blen_le.2 (by omega)
        refine d_op (ev_shr (y := 8) rfl (by decide) rfl) (d_op (ev_cvt (by constructor <;> omega)) (d_op (ev_lenTab (y := z / 256) rfl (by omega) rfl) (d_op (ev_cvt (by constructor <;> omega)) (d_op (ev_add (by constructor <;> omega)) (d_ret ?_)))))
        show AEnd.ret (.int .i64 _) = _
        congr 2; omega
      · have h8 : blen z ≤ 8 := blen_le.2 (by omega)
        refine d_op (ev_cvt (by constructor <;> omega)) (d_op (ev_lenTab (y := z) rfl (by omega) rfl) (d_op (ev_cvt (by constructor <;> omega)) (d_op (ev_add (by constructor <;> omega)) (d_ret ?_))))
        show AEnd.ret (.int .i64 _) = _
        congr 2; omega
  · have hx4 : x < 4294967296 := by omega
    refine d_op ev_geq (d_if rfl (fun h1 => ?_) (fun h1 => ?_))
    · have e1 : blen x = 16 + blen (x / 65536) := blen_div (s := 16) (by omega)
      refine d_op (ev_shr (y := 16) rfl (by decide) rfl) (d_op ev_geq (d_if rfl (fun h2 => ?_) (fun h2 => ?_)))
      · have e2 : blen (x / 65536) = 8 + blen (x / 65536 / 256) := blen_div (s := 8) (by omega)
        have h8 : blen (x / 65536 / 256) ≤ 8 := blen_le.2 (by omega)
        refine d_op (ev_shr (y := 8) rfl (by decide) rfl) (d_op (ev_cvt (by constructor <;> omega)) (d_op (ev_lenTab (y := x / 65536 / 256) rfl (by omega) rfl) (d_op (ev_cvt (by constructor <;> omega)) (d_op (ev_add (by constructor <;> omega)) (d_ret ?_)))))
        show AEnd.ret (.int .i64 _) = _
        congr 2; omega
      · have h8 : blen (x / 65536) ≤ 8 := blen_le.2 (by omega)
        refine d_op (ev_cvt (by constructor <;> omega)) (d_op (ev_lenTab (y := x / 65536) rfl (by omega) rfl) (d_op (ev_cvt (by constructor <;> omega)) (d_op (ev_add (by constructor <;> omega)) (d_ret ?_))))
        show AEnd.ret (.int .i64 _) = _
        congr 2; omega
    · refine d_op ev_geq (d_if rfl (fun h2 => ?_) (fun h2 => ?_))
      · have e2 : blen x = 8 + blen (x / 256) := blen_div (s := 8) (by omega)
        have h8 : blen (x / 256) ≤ 8 := blen_le.2 (by omega)
        refine d_op (ev_shr (y := 8) rfl (by decide) rfl) (d_op (ev_cvt (by constructor <;> omega)) (d_op (ev_lenTab (y := x / 256) rfl (by omega) rfl) (d_op (ev_cvt (by constructor <;> omega)) (d_op (ev_add (by constructor <;> omega)) (d_ret ?_)))))
        show AEnd.ret (.int .i64 _) = _
        congr 2; omega
      · have h8 : blen x ≤ 8 := blen_le.2 (by omega)
        refine d_op (ev_cvt (by constructor <;> omega)) (d_op (ev_lenTab (y := x) rfl (by omega) rfl) (d_op (ev_cvt (by constructor <;> omega)) (d_op (ev_add (by constructor <;> omega)) (d_ret ?_))))
        show AEnd.ret (.int .i64 _) = _
        congr 2; omega
def Lz64C (P : Program) (f : FuncId) : Prop := ∀ x : Nat, x < B64 → Ct P f [.int .u64 (x : Int)] (fun e => e = .ret (.int .i64 ((64 - blen x : Nat) : Int)))
def t_lz64 (len : FuncId) : T :=
 .node (.call len [.v 0] true) <|
 .node (.op (.bin .sub) [.c (.int .i64 64), .v 1]) <|
 .ret (.v 2)
theorem lz64_den {len : FuncId} {x : Nat} (hl : Len64C P len) (hx : x < B64) : D P (fun e => e = .ret (.int .i64 ((64 - blen x : Nat) : Int))) [] 1 [.int .u64 (x : Int)] (t_lz64 len) := by
  have h := blen_le.2 (show x < 2 ^ 64 from hx)
  refine d_call (hl x hx) (fun _ => rfl) (d_op (ev_sub (by constructor <;> omega)) (d_ret ?_))
  have : (64 : Int) - ((blen x : Nat) : Int) = ((64 - blen x : Nat) : Int) := by omega
  show AEnd.ret (.int .i64 _) = _
  rw [this]
theorem kn_exit {u d v1 v0 q r : Nat} (h : q * v1 + r = u) (ht : q * v0 ≤ 4294967296 * r + d) (hY : 0 < v1 * 4294967296 + v0) : q ≤ (u * 4294967296 + d) / (v1 * 4294967296 + v0) := by
  rw [Nat.le_div_iff_mul_le hY, ← h]
  have : q * (v1 * 4294967296 + v0) = q * v1 * 4294967296 + q * v0 := by rw [Nat.mul_add, Nat.mul_assoc]
  rw [this]; omega
theorem kn_down {u d v1 v0 q r : Nat} (h : q * v1 + r = u) (ht : 4294967296 * r + d < q * v0) (hY : 0 < v1 * 4294967296 + v0) : (u * 4294967296 + d) / (v1 * 4294967296 + v0) < q := by
  rw [Nat.div_lt_iff_lt_mul hY, ← h]
  have : q * (v1 * 4294967296 + v0) = q * v1 * 4294967296 + q * v0 := by rw [Nat.mul_add, Nat.mul_assoc]
  rw [this]; omega
theorem kn_small {u d v1 v0 : Nat} (hu : u < v1 * 4294967296 + v0) (hd : d < 4294967296) : (u * 4294967296 + d) / (v1 * 4294967296 + v0) < 4294967296 := by
  rw [Nat.div_lt_iff_lt_mul (by omega)]
  have : (u + 1) * 4294967296 ≤ (v1 * 4294967296 + v0) * 4294967296 := Nat.mul_le_mul_right _ hu
  omega
theorem kn_break {u v1 v0 q r : Nat} (h : q * v1 + r = u) (hu : u < v1 * 4294967296 + v0) (hv0 : v0 < 4294967296) (hr : 4294967296 ≤ r) : q < 4294967296 := by
  refine Nat.lt_of_not_le fun hq => ?_
  have : 4294967296 * v1 ≤ q * v1 := Nat.mul_le_mul_right _ hq
  omega
theorem kn_ok {v0 q r d : Nat} (hq : q < 4294967296) (hv0 : v0 < 4294967296) (hr : 4294967296 ≤ r) : q * v0 ≤ 4294967296 * r + d := by
  have : q * v0 ≤ 4294967296 * 4294967296 := Nat.mul_le_mul (Nat.le_of_lt hq) (Nat.le_of_lt hv0)
  omega
theorem or_at64 {o x r : Nat} (ho : o < 2 ^ r) : x * 2 ^ r ||| o = x * 2 ^ r + o := by
  have h := Nat.two_pow_add_eq_or_of_lt (i := r) (b := o) ho x
  rw [Nat.mul_comm x, ← h]
def Div64C (P : Program) (f : FuncId) : Prop := ∀ hi lo y, y < B64 → hi < y → lo < B64 →
  Ct P f [.int .u64 (hi : Int), .int .u64 (lo : Int), .int .u64 (y : Int)] (fun e => e = .ret (.tup [.int .u64 (((hi * 18446744073709551616 + lo) / y : Nat) : Int), .int .u64 (((hi * 18446744073709551616 + lo) % y : Nat) : Int)]))
theorem div64_end {N y s q1 q0 R1 R0 u d1 d0 Y : Nat} (hy : 0 < y) (hY : Y = y * 2 ^ s) (hN : N * 2 ^ s = u * 18446744073709551616 + d1 * 4294967296 + d0) (h1 : u * 4294967296 + d1 = q1 * Y + R1) (h0 : R1 * 4294967296 + d0 = q0 * Y + R0) (hR : R0 < Y) :
    q1 * 4294967296 + q0 = N / y ∧ R0 / 2 ^ s = N % y := by
  have key : u * 18446744073709551616 + d1 * 4294967296 + d0 = q1 * Y * 4294967296 + q0 * Y + R0 := by
    clear hN hY hR hy
    generalize q1 * Y = a at *
    generalize q0 * Y = b at *
    have e1 : u * 18446744073709551616 + d1 * 4294967296 = a * 4294967296 + R1 * 4294967296 := by rw [← Nat.add_mul, ← h1, Nat.add_mul, Nat.mul_assoc]
    rw [e1, Nat.add_assoc, h0, Nat.add_assoc]
  have hp : 0 < 2 ^ s := Nat.two_pow_pos s
  have e : N * 2 ^ s = (q1 * 4294967296 + q0) * y * 2 ^ s + R0 := by
    rw [hN]
    have : (q1 * 4294967296 + q0) * y * 2 ^ s = q1 * Y * 4294967296 + q0 * Y := by rw [hY]; generalize 2 ^ s = p; grind
    rw [this, key]
  have hdv : R0 = R0 / 2 ^ s * 2 ^ s := by
    have : 2 ^ s ∣ R0 := by
      have h2 : 2 ^ s ∣ (q1 * 4294967296 + q0) * y * 2 ^ s + R0 := ⟨N, by rw [← e, Nat.mul_comm]⟩
      exact (Nat.dvd_add_right (Nat.dvd_mul_left _ _)).1 h2
    exact (Nat.div_mul_cancel this).symm
  have e2 : N = (q1 * 4294967296 + q0) * y + R0 / 2 ^ s := by
    refine Nat.eq_of_mul_eq_mul_right hp ?_
    rw [Nat.add_mul, ← hdv]; exact e
  have hlt : R0 / 2 ^ s < y := by rw [Nat.div_lt_iff_lt_mul hp, ← hY]; exact hR
  constructor
  · rw [e2, Nat.mul_comm _ y, Nat.mul_add_div hy, Nat.div_eq_of_lt hlt, Nat.add_zero]
  · rw [e2, Nat.mul_comm _ y, Nat.mul_add_mod, Nat.mod_eq_of_lt hlt]
theorem wrap_rest {u d q Y R : Nat} (h : u * 4294967296 + d = q * Y + R) (hR : R < 18446744073709551616) :
    IntKind.u64.wrap (IntKind.u64.wrap (IntKind.u64.wrap ((u : Int) * 4294967296) + (d : Int)) - IntKind.u64.wrap ((q : Int) * (Y : Int))) = (R : Int) := by
  have e : (q : Int) * (Y : Int) = ((q * Y : Nat) : Int) := by simp
  rw [e, wrap_u rfl, wrap_u rfl, wrap_u rfl, wrap_u rfl]
  show ((((u : Int) * 4294967296) % 18446744073709551616 + (d : Int)) % 18446744073709551616 - ((q * Y : Nat) : Int) % 18446744073709551616) % 18446744073709551616 = _
  omega
def t_div64 (lz : FuncId) : T :=
 .node (.op (.bin .eql) [.v 2, .c (.int .u64 0)]) <|
 .br (.v 3) (
 .fail) (
 .node (.op (.bin .leq) [.v 2, .v 0]) <|
 .br (.v 4) (
 .fail) (
 .node (.op (.bin .eql) [.v 0, .c (.int .u64 0)]) <|
 .br (.v 5) (
 .node (.op (.bin .quo) [.v 1, .v 2]) <|
 .node (.op (.bin .rem) [.v 1, .v 2]) <|
 .node (.op .mktup [.v 6, .v 7]) <|
 .ret (.v 8)) (
 .node (.call lz [.v 2] true) <|
 .node (.op (.cvt .u64) [.v 6]) <|
 .node (.op (.bin .shl) [.v 2, .v 7]) <|
 .node (.op (.bin .shr) [.v 8, .c (.int .u64 32)]) <|
 .node (.op (.bin .and) [.v 8, .c (.int .u64 4294967295)]) <|
 .node (.op (.bin .shl) [.v 0, .v 7]) <|
 .node (.op (.bin .sub) [.c (.int .u64 64), .v 7]) <|
 .node (.op (.bin .shr) [.v 1, .v 12]) <|
 .node (.op (.bin .or) [.v 11, .v 13]) <|
 .node (.op (.bin .shl) [.v 1, .v 7]) <|
 .node (.op (.bin .shr) [.v 15, .c (.int .u64 32)]) <|
 .node (.op (.bin .and) [.v 15, .c (.int .u64 4294967295)]) <|
 .node (.op (.bin .quo) [.v 14, .v 9]) <|
 .node (.op (.bin .mul) [.v 18, .v 9]) <|
 .node (.op (.bin .sub) [.v 14, .v 19]) <|
 .loop [.v 18, .v 20] [true, true] <|
 .node (.op (.bin .geq) [.v 21, .c (.int .u64 4294967296)]) <|
 .br (.v 23) (
 .node (.op (.bin .sub) [.v 21, .c (.int .u64 1)]) <|
 .node (.op (.bin .add) [.v 22, .v 9]) <|
 .node (.op (.bin .geq) [.v 25, .c (.int .u64 4294967296)]) <|
 .br (.v 26) (
 .node (.op (.bin .mul) [.v 14, .c (.int .u64 4294967296)]) <|
 .node (.op (.bin .add) [.v 27, .v 16]) <|
 .node (.op (.bin .mul) [.v 24, .v 8]) <|
 .node (.op (.bin .sub) [.v 28, .v 29]) <|
 .node (.op (.bin .quo) [.v 30, .v 9]) <|
 .node (.op (.bin .mul) [.v 31, .v 9]) <|
 .node (.op (.bin .sub) [.v 30, .v 32]) <|
 .loop [.v 31, .v 33] [true, true] <|
 .node (.op (.bin .geq) [.v 34, .c (.int .u64 4294967296)]) <|
 .br (.v 36) (
 .node (.op (.bin .sub) [.v 34, .c (.int .u64 1)]) <|
 .node (.op (.bin .add) [.v 35, .v 9]) <|
 .node (.op (.bin .geq) [.v 38, .c (.int .u64 4294967296)]) <|
 .br (.v 39) (
 .node (.op (.bin .mul) [.v 24, .c (.int .u64 4294967296)]) <|
 .node (.op (.bin .add) [.v 40, .v 37]) <|
 .node (.op (.bin .mul) [.v 30, .c (.int .u64 4294967296)]) <|
 .node (.op (.bin .add) [.v 42, .v 17]) <|
 .node (.op (.bin .mul) [.v 37, .v 8]) <|
 .node (.op (.bin .sub) [.v 43, .v 44]) <|
 .node (.op (.bin .shr) [.v 45, .v 7]) <|
 .node (.op .mktup [.v 41, .v 46]) <|
 .ret (.v 47)) (
 .back 0 [.v 37, .v 38])) (
 .node (.op (.bin .mul) [.v 34, .v 10]) <|
 .node (.op (.bin .mul) [.c (.int .u64 4294967296), .v 35]) <|
 .node (.op (.bin .add) [.v 38, .v 17]) <|
 .node (.op (.bin .gtr) [.v 37, .v 39]) <|
 .br (.v 40) (
 .node (.op (.bin .sub) [.v 34, .c (.int .u64 1)]) <|
 .node (.op (.bin .add) [.v 35, .v 9]) <|
 .node (.op (.bin .geq) [.v 42, .c (.int .u64 4294967296)]) <|
 .br (.v 43) (
 .node (.op (.bin .mul) [.v 24, .c (.int .u64 4294967296)]) <|
 .node (.op (.bin .add) [.v 44, .v 41]) <|
 .node (.op (.bin .mul) [.v 30, .c (.int .u64 4294967296)]) <|
 .node (.op (.bin .add) [.v 46, .v 17]) <|
 .node (.op (.bin .mul) [.v 41, .v 8]) <|
 .node (.op (.bin .sub) [.v 47, .v 48]) <|
 .node (.op (.bin .shr) [.v 49, .v 7]) <|
 .node (.op .mktup [.v 45, .v 50]) <|
 .ret (.v 51)) (
 .back 0 [.v 41, .v 42])) (
 .node (.op (.bin .mul) [.v 24, .c (.int .u64 4294967296)]) <|
 .node (.op (.bin .add) [.v 41, .v 34]) <|
 .node (.op (.bin .mul) [.v 30, .c (.int .u64 4294967296)]) <|
 .node (.op (.bin .add) [.v 43, .v 17]) <|
 .node (.op (.bin .mul) [.v 34, .v 8]) <|
 .node (.op (.bin .sub) [.v 44, .v 45]) <|
 .node (.op (.bin .shr) [.v 46, .v 7]) <|
 .node (.op .mktup [.v 42, .v 47]) <|
 .ret (.v 48)))) (
 .back 0 [.v 24, .v 25])) (
 .node (.op (.bin .mul) [.v 21, .v 10]) <|
 .node (.op (.bin .mul) [.c (.int .u64 4294967296), .v 22]) <|
 .node (.op (.bin .add) [.v 25, .v 16]) <|
 .node (.op (.bin .gtr) [.v 24, .v 26]) <|
 .br (.v 27) (
 .node (.op (.bin .sub) [.v 21, .c (.int .u64 1)]) <|
 .node (.op (.bin .add) [.v 22, .v 9]) <|
 .node (.op (.bin .geq) [.v 29, .c (.int .u64 4294967296)]) <|
 .br (.v 30) (
 .node (.op (.bin .mul) [.v 14, .c (.int .u64 4294967296)]) <|
 .node (.op (.bin .add) [.v 31, .v 16]) <|
 .node (.op (.bin .mul) [.v 28, .v 8]) <|
 .node (.op (.bin .sub) [.v 32, .v 33]) <|
 .node (.op (.bin .quo) [.v 34, .v 9]) <|
 .node (.op (.bin .mul) [.v 35, .v 9]) <|
 .node (.op (.bin .sub) [.v 34, .v 36]) <|
 .loop [.v 35, .v 37] [true, true] <|
 .node (.op (.bin .geq) [.v 38, .c (.int .u64 4294967296)]) <|
 .br (.v 40) (
 .node (.op (.bin .sub) [.v 38, .c (.int .u64 1)]) <|
 .node (.op (.bin .add) [.v 39, .v 9]) <|
 .node (.op (.bin .geq) [.v 42, .c (.int .u64 4294967296)]) <|
 .br (.v 43) (
 .node (.op (.bin .mul) [.v 28, .c (.int .u64 4294967296)]) <|
 .node (.op (.bin .add) [.v 44, .v 41]) <|
 .node (.op (.bin .mul) [.v 34, .c (.int .u64 4294967296)]) <|
 .node (.op (.bin .add) [.v 46, .v 17]) <|
 .node (.op (.bin .mul) [.v 41, .v 8]) <|
 .node (.op (.bin .sub) [.v 47, .v 48]) <|
 .node (.op (.bin .shr) [.v 49, .v 7]) <|
 .node (.op .mktup [.v 45, .v 50]) <|
 .ret (.v 51)) (
 .back 0 [.v 41, .v 42])) (
 .node (.op (.bin .mul) [.v 38, .v 10]) <|
 .node (.op (.bin .mul) [.c (.int .u64 4294967296), .v 39]) <|
 .node (.op (.bin .add) [.v 42, .v 17]) <|
 .node (.op (.bin .gtr) [.v 41, .v 43]) <|
 .br (.v 44) (
 .node (.op (.bin .sub) [.v 38, .c (.int .u64 1)]) <|
 .node (.op (.bin .add) [.v 39, .v 9]) <|
 .node (.op (.bin .geq) [.v 46, .c (.int .u64 4294967296)]) <|
 .br (.v 47) (
 .node (.op (.bin .mul) [.v 28, .c (.int .u64 4294967296)]) <|
 .node (.op (.bin .add) [.v 48, .v 45]) <|
 .node (.op (.bin .mul) [.v 34, .c (.int .u64 4294967296)]) <|
 .node (.op (.bin .add) [.v 50, .v 17]) <|
 .node (.op (.bin .mul) [.v 45, .v 8]) <|
 .node (.op (.bin .sub) [.v 51, .v 52]) <|
 .node (.op (.bin .shr) [.v 53, .v 7]) <|
 .node (.op .mktup [.v 49, .v 54]) <|
 .ret (.v 55)) (
 .back 0 [.v 45, .v 46])) (
 .node (.op (.bin .mul) [.v 28, .c (.int .u64 4294967296)]) <|
 .node (.op (.bin .add) [.v 45, .v 38]) <|
 .node (.op (.bin .mul) [.v 34, .c (.int .u64 4294967296)]) <|
 .node (.op (.bin .add) [.v 47, .v 17]) <|
 .node (.op (.bin .mul) [.v 38, .v 8]) <|
 .node (.op (.bin .sub) [.v 48, .v 49]) <|
 .node (.op (.bin .shr) [.v 50, .v 7]) <|
 .node (.op .mktup [.v 46, .v 51]) <|
 .ret (.v 52)))) (
 .back 0 [.v 28, .v 29])) (
 .node (.op (.bin .mul) [.v 14, .c (.int .u64 4294967296)]) <|
 .node (.op (.bin .add) [.v 28, .v 16]) <|
 .node (.op (.bin .mul) [.v 21, .v 8]) <|
 .node (.op (.bin .sub) [.v 29, .v 30]) <|
 .node (.op (.bin .quo) [.v 31, .v 9]) <|
 .node (.op (.bin .mul) [.v 32, .v 9]) <|
 .node (.op (.bin .sub) [.v 31, .v 33]) <|
 .loop [.v 32, .v 34] [true, true] <|
 .node (.op (.bin .geq) [.v 35, .c (.int .u64 4294967296)]) <|
 .br (.v 37) (
 .node (.op (.bin .sub) [.v 35, .c (.int .u64 1)]) <|
 .node (.op (.bin .add) [.v 36, .v 9]) <|
 .node (.op (.bin .geq) [.v 39, .c (.int .u64 4294967296)]) <|
 .br (.v 40) (
 .node (.op (.bin .mul) [.v 21, .c (.int .u64 4294967296)]) <|
 .node (.op (.bin .add) [.v 41, .v 38]) <|
 .node (.op (.bin .mul) [.v 31, .c (.int .u64 4294967296)]) <|
 .node (.op (.bin .add) [.v 43, .v 17]) <|
 .node (.op (.bin .mul) [.v 38, .v 8]) <|
 .node (.op (.bin .sub) [.v 44, .v 45]) <|
 .node (.op (.bin .shr) [.v 46, .v 7]) <|
 .node (.op .mktup [.v 42, .v 47]) <|
 .ret (.v 48)) (
 .back 0 [.v 38, .v 39])) (
 .node (.op (.bin .mul) [.v 35, .v 10]) <|
 .node (.op (.bin .mul) [.c (.int .u64 4294967296), .v 36]) <|
 .node (.op (.bin .add) [.v 39, .v 17]) <|
 .node (.op (.bin .gtr) [.v 38, .v 40]) <|
 .br (.v 41) (
 .node (.op (.bin .sub) [.v 35, .c (.int .u64 1)]) <|
 .node (.op (.bin .add) [.v 36, .v 9]) <|
 .node (.op (.bin .geq) [.v 43, .c (.int .u64 4294967296)]) <|
 .br (.v 44) (
 .node (.op (.bin .mul) [.v 21, .c (.int .u64 4294967296)]) <|
 .node (.op (.bin .add) [.v 45, .v 42]) <|
 .node (.op (.bin .mul) [.v 31, .c (.int .u64 4294967296)]) <|
 .node (.op (.bin .add) [.v 47, .v 17]) <|
 .node (.op (.bin .mul) [.v 42, .v 8]) <|
 .node (.op (.bin .sub) [.v 48, .v 49]) <|
 .node (.op (.bin .shr) [.v 50, .v 7]) <|
 .node (.op .mktup [.v 46, .v 51]) <|
 .ret (.v 52)) (
 .back 0 [.v 42, .v 43])) (
 .node (.op (.bin .mul) [.v 21, .c (.int .u64 4294967296)]) <|
 .node (.op (.bin .add) [.v 42, .v 35]) <|
 .node (.op (.bin .mul) [.v 31, .c (.int .u64 4294967296)]) <|
 .node (.op (.bin .add) [.v 44, .v 17]) <|
 .node (.op (.bin .mul) [.v 35, .v 8]) <|
 .node (.op (.bin .sub) [.v 45, .v 46]) <|
 .node (.op (.bin .shr) [.v 47, .v 7]) <|
 .node (.op .mktup [.v 43, .v 48]) <|
 .ret (.v 49))))))))
theorem div64_den {lz : FuncId} {hi lo y : Nat} (hz : Lz64C P lz) (hy : y < B64) (hh : hi < y) (hl : lo < B64) :
    D P (fun e => e = .ret (.tup [.int .u64 (((hi * 18446744073709551616 + lo) / y : Nat) : Int), .int .u64 (((hi * 18446744073709551616 + lo) % y : Nat) : Int)])) [] 3 [.int .u64 (y : Int), .int .u64 (lo : Int), .int .u64 (hi : Int)] (t_div64 lz) := by
  have hy' : y < 18446744073709551616 := hy
  have hl' : lo < 18446744073709551616 := hl
  refine d_op ev_eql (d_if rfl (fun h => absurd h (by omega)) (fun _ => d_op ev_leq (d_if rfl (fun h => absurd h (by omega)) (fun _ => d_op ev_eql (d_if rfl (fun h => ?_) (fun h => ?_))))))
  · have h0 : hi = 0 := by omega
    subst h0
    rw [Nat.zero_mul, Nat.zero_add]
    refine d_op (ev_quo (by omega) (by omega) (by constructor <;> omega)) (d_op (ev_rem (by omega) (by omega)) (d_op ev_mktup (d_ret ?_)))
    show AEnd.ret (.tup [.int .u64 ((lo : Int) / (y : Int)), .int .u64 ((lo : Int) % (y : Int))]) = _
    simp
  · obtain ⟨b1, b2, b3⟩ := blen_spec (x := y) (by omega)
    have b4 := blen_le.2 (show y < 2 ^ 64 from hy)
    refine d_call (hz y hy) (fun _ => rfl) ?_
    obtain ⟨s, es⟩ : ∃ s, s = 64 - blen y := ⟨_, rfl⟩
    rw [← es]
    have hs : s < 64 := by omega
    have p64 : 2 ^ 64 = 2 ^ (64 - s) * 2 ^ s := by rw [← Nat.pow_add]; congr 1; omega
    have hYlt : y * 2 ^ s < 18446744073709551616 := by
      have h1 : y * 2 ^ s < 2 ^ blen y * 2 ^ s := Nat.mul_lt_mul_of_pos_right b2 (Nat.two_pow_pos s)
      rw [← Nat.pow_add, show blen y + s = 64 by omega] at h1; exact h1
    have hYge : 9223372036854775808 ≤ y * 2 ^ s := by
      have h1 : 2 ^ (blen y - 1) * 2 ^ s ≤ y * 2 ^ s := Nat.mul_le_mul_right _ b1
      rw [← Nat.pow_add, show blen y - 1 + s = 63 by omega] at h1; exact h1
    have hhs : hi * 2 ^ s < y * 2 ^ s := Nat.mul_lt_mul_of_pos_right hh (Nat.two_pow_pos s)
    have hps : 2 ^ s < 18446744073709551616 := Nat.pow_lt_pow_right (by decide) hs
    have hlo1 : lo / 2 ^ (64 - s) < 2 ^ s := by
      rw [Nat.div_lt_iff_lt_mul (Nat.two_pow_pos _), Nat.mul_comm, ← p64]; exact hl
    have hwy : IntKind.u64.wrap ((y * 2 ^ s : Nat) : Int) = ((y * 2 ^ s : Nat) : Int) := wrap_in (by constructor <;> omega)
    have hwh : IntKind.u64.wrap ((hi * 2 ^ s : Nat) : Int) = ((hi * 2 ^ s : Nat) : Int) := wrap_in (by constructor <;> omega)
    have hwl : IntKind.u64.wrap ((lo * 2 ^ s : Nat) : Int) = ((lo * 2 ^ s % 18446744073709551616 : Nat) : Int) := by rw [wrap_u rfl]; rfl
    have hlo2 : lo * 2 ^ s / 18446744073709551616 = lo / 2 ^ (64 - s) := by
      have : (18446744073709551616 : Nat) = 2 ^ (64 - s) * 2 ^ s := p64
      rw [this, Nat.mul_div_mul_right _ _ (Nat.two_pow_pos s)]
    have hmul : hi * 2 ^ s + lo / 2 ^ (64 - s) < y * 2 ^ s := by
      have : (hi + 1) * 2 ^ s ≤ y * 2 ^ s := Nat.mul_le_mul_right _ hh
      rw [Nat.add_mul, Nat.one_mul] at this
      omega
    obtain ⟨Y, eY⟩ : ∃ Y, Y = y * 2 ^ s := ⟨_, rfl⟩
    obtain ⟨u, eu⟩ : ∃ u, u = hi * 2 ^ s + lo / 2 ^ (64 - s) := ⟨_, rfl⟩
    obtain ⟨w, ew⟩ : ∃ w, w = lo * 2 ^ s % 18446744073709551616 := ⟨_, rfl⟩
    have hw : w < 18446744073709551616 := by omega
    have hN : (hi * 18446744073709551616 + lo) * 2 ^ s = u * 18446744073709551616 + w := by
      have h1 := Nat.div_add_mod (lo * 2 ^ s) 18446744073709551616
      rw [hlo2, ← ew] at h1
      have h2 : hi * 18446744073709551616 * 2 ^ s = hi * 2 ^ s * 18446744073709551616 := by grind
      rw [Nat.add_mul, h2, eu]; omega
    refine d_op (ev_cvt (by constructor <;> omega)) (d_op (ev_shl (y := s) rfl (by show s ≤ 64; omega) rfl) ?_)
    rw [hwy, ← eY]
    rw [← eY] at hYlt hYge hmul
    rw [← eu] at hmul
    obtain ⟨v1, ev1⟩ : ∃ v1, v1 = Y / 4294967296 := ⟨_, rfl⟩
    obtain ⟨v0, ev0⟩ : ∃ v0, v0 = Y % 4294967296 := ⟨_, rfl⟩
    obtain ⟨d1, ed1⟩ : ∃ d1, d1 = w / 4294967296 := ⟨_, rfl⟩
    obtain ⟨d0, ed0⟩ : ∃ d0, d0 = w % 4294967296 := ⟨_, rfl⟩
    refine d_op (ev_shr (y := 32) rfl (by decide) ev1.symm) (d_op (ev_and (by constructor <;> omega) (y := 4294967295) (by decide)) ?_)
    rw [Nat.and_two_pow_sub_one_eq_mod Y 32, show Y % 2 ^ 32 = v0 from ev0.symm]
    refine d_op (ev_shl (y := s) rfl (by show s ≤ 64; omega) rfl) ?_
    rw [hwh]
    refine d_op (ev_sub (by constructor <;> omega)) (d_op (ev_shr (y := 64 - s) (by omega) (by show 64 - s ≤ 64; omega) rfl) (d_op (ev_or (by constructor <;> omega) (by constructor <;> omega)) ?_))
    rw [or_at64 hlo1, ← eu]
    refine d_op (ev_shl (y := s) rfl (by show s ≤ 64; omega) rfl) ?_
    rw [hwl, ← ew]
    refine d_op (ev_shr (y := 32) rfl (by decide) ed1.symm) (d_op (ev_and (by constructor <;> omega) (y := 4294967295) (by decide)) ?_)
    rw [Nat.and_two_pow_sub_one_eq_mod w 32, show w % 2 ^ 32 = d0 from ed0.symm]
    have hv1 : v1 < 4294967296 := by omega
    have hv1' : 2147483648 ≤ v1 := by omega
    have hv0 : v0 < 4294967296 := by omega
    have hd1 : d1 < 4294967296 := by omega
    have hd0 : d0 < 4294967296 := by omega
    have hYv : Y = v1 * 4294967296 + v0 := by omega
    have hw2 : u * 18446744073709551616 + w = u * 18446744073709551616 + d1 * 4294967296 + d0 := by omega
    rw [hw2] at hN
    obtain ⟨Q1, eQ1⟩ : ∃ Q1, Q1 = (u * 4294967296 + d1) / (v1 * 4294967296 + v0) := ⟨_, rfl⟩
    obtain ⟨R1, eR1⟩ : ∃ R1, R1 = (u * 4294967296 + d1) % (v1 * 4294967296 + v0) := ⟨_, rfl⟩
    have hQ1 : Q1 < 4294967296 := by rw [eQ1]; exact kn_small (by omega) hd1
    have hR1 : R1 < Y := by rw [eR1, hYv]; exact Nat.mod_lt _ (by omega)
    have hdm1 : u * 4294967296 + d1 = Q1 * Y + R1 := by rw [eQ1, eR1, hYv, Nat.div_add_mod']
    obtain ⟨Q0, eQ0⟩ : ∃ Q0, Q0 = (R1 * 4294967296 + d0) / (v1 * 4294967296 + v0) := ⟨_, rfl⟩
    obtain ⟨R0, eR0⟩ : ∃ R0, R0 = (R1 * 4294967296 + d0) % (v1 * 4294967296 + v0) := ⟨_, rfl⟩
    have hQ0 : Q0 < 4294967296 := by rw [eQ0]; exact kn_small (by omega) hd0
    have hR0 : R0 < Y := by rw [eR0, hYv]; exact Nat.mod_lt _ (by omega)
    have hdm0 : R1 * 4294967296 + d0 = Q0 * Y + R0 := by rw [eQ0, eR0, hYv, Nat.div_add_mod']
    obtain ⟨fq, fr⟩ := div64_end (by omega) eY hN hdm1 hdm0 hR0
    rw [← fq, ← fr]
    have hun1 := wrap_rest hdm1 (by omega)
    have hun0 := wrap_rest hdm0 (by omega)
    have c : ∀ a b : Nat, (a : Int) * (b : Int) = ((a * b : Nat) : Int) := fun a b => by simp
    have cd : ∀ a b : Nat, (a : Int) / (b : Int) = ((a / b : Nat) : Int) := fun a b => by simp
    have hqv : u / v1 * v1 ≤ u := Nat.div_mul_le_self _ _
    have hqv1 : R1 / v1 * v1 ≤ R1 := Nat.div_mul_le_self _ _
    have hqq : u / v1 ≤ u := Nat.div_le_self _ _
    have hqq1 : R1 / v1 ≤ R1 := Nat.div_le_self _ _
    refine d_op (ev_quo (by omega) (by omega) (by constructor <;> omega)) ?_
    rw [cd]
    refine d_op (ev_mul (by rw [c]; constructor <;> omega)) ?_
    rw [c]
    refine d_op (ev_sub (by constructor <;> omega)) ?_
    have es1 : (u : Int) - ((u / v1 * v1 : Nat) : Int) = ((u % v1 : Nat) : Int) := by have := Nat.div_add_mod' u v1; omega
    rw [es1]
    have hrm : u % v1 < v1 := Nat.mod_lt _ (by omega)
    have hup : ∀ {u' d' q' : Nat}, (u' * 4294967296 + d') / (v1 * 4294967296 + v0) ≤ u' / v1 ∨ True := fun {_ _ _} => .inr trivial
    have hini : Q1 ≤ u / v1 := by
      rw [Nat.le_div_iff_mul_le (by omega)]
      have h1 : Q1 * Y ≤ u * 4294967296 + d1 := by omega
      have h2 : Q1 * (v1 * 4294967296) ≤ Q1 * Y := Nat.mul_le_mul_left _ (by omega)
      rw [← Nat.mul_assoc] at h2
      omega
    have hini0 : Q0 ≤ R1 / v1 := by
      rw [Nat.le_div_iff_mul_le (by omega)]
      have h1 : Q0 * Y ≤ R1 * 4294967296 + d0 := by omega
      have h2 : Q0 * (v1 * 4294967296) ≤ Q0 * Y := Nat.mul_le_mul_left _ (by omega)
      rw [← Nat.mul_assoc] at h2
      omega
    refine d_while (fun s : Nat × Nat => [.int .u64 (s.1 : Int), .int .u64 (s.2 : Int)]) (fun s => s.1 * v1 + s.2 = u ∧ Q1 ≤ s.1 ∧ s.2 < 4294967296) (fun s => s.1) (u / v1, u % v1) ⟨Nat.div_add_mod' u v1, hini, by show u % v1 < 4294967296; omega⟩ rfl ?_
    rintro ⟨q, r⟩ ⟨i1, i2, i3⟩
    dsimp only at i1 i2 i3 ⊢
    have hqu : q ≤ u := by
      have : q * 1 ≤ q * v1 := Nat.mul_le_mul_left _ (by omega)
      omega
    refine d_op ev_geq (d_if rfl (fun h1 => ?_) (fun h1 => ?_))
    · obtain ⟨q', rfl⟩ : ∃ q', q = q' + 1 := ⟨q - 1, by omega⟩
      rw [Nat.succ_mul] at i1
      refine d_op (ev_sub (by constructor <;> omega)) (d_op (ev_add (by constructor <;> omega)) ?_)
      have e1 : ((q' + 1 : Nat) : Int) - 1 = (q' : Int) := by omega
      have e2 : (r : Int) + (v1 : Int) = ((r + v1 : Nat) : Int) := by omega
      rw [e1, e2]
      refine d_op ev_geq (d_if rfl (fun h2 => ?_) (fun h2 => ?_))
      · have hb := kn_break (q := q') (r := r + v1) (v1 := v1) (v0 := v0) (u := u) (by omega) (by omega) hv0 (by omega)
        have hk := kn_ok (d := d1) (r := r + v1) hb hv0 (by omega)
        have hx := kn_exit (u := u) (d := d1) (v1 := v1) (v0 := v0) (q := q') (r := r + v1) (by omega) hk (by omega)
        rw [← eQ1] at hx
        obtain rfl : q' = Q1 := by omega
        refine d_op ev_mulw (d_op ev_addw (d_op ev_mulw (d_op ev_subw ?_)))
        rw [hun1]
        refine d_op (ev_quo (by omega) (by omega) (by constructor <;> omega)) ?_
        rw [cd]
        refine d_op (ev_mul (by rw [c]; constructor <;> omega)) ?_
        rw [c (R1 / v1)]
        refine d_op (ev_sub (by constructor <;> omega)) ?_
        have es2 : (R1 : Int) - ((R1 / v1 * v1 : Nat) : Int) = ((R1 % v1 : Nat) : Int) := by have := Nat.div_add_mod' R1 v1; omega
        rw [es2]
        have hrm2 : R1 % v1 < v1 := Nat.mod_lt _ (by omega)
        refine d_while (fun s : Nat × Nat => [.int .u64 (s.1 : Int), .int .u64 (s.2 : Int)]) (fun s => s.1 * v1 + s.2 = R1 ∧ Q0 ≤ s.1 ∧ s.2 < 4294967296) (fun s => s.1) (R1 / v1, R1 % v1) ⟨Nat.div_add_mod' R1 v1, hini0, by show R1 % v1 < 4294967296; omega⟩ rfl ?_
        rintro ⟨p, t⟩ ⟨j1, j2, j3⟩
        dsimp only at j1 j2 j3 ⊢
        have hpu : p ≤ R1 := by
          have : p * 1 ≤ p * v1 := Nat.mul_le_mul_left _ (by omega)
          omega
        refine d_op ev_geq (d_if rfl (fun g1 => ?_) (fun g1 => ?_))
        · obtain ⟨p', rfl⟩ : ∃ p', p = p' + 1 := ⟨p - 1, by omega⟩
          rw [Nat.succ_mul] at j1
          refine d_op (ev_sub (by constructor <;> omega)) (d_op (ev_add (by constructor <;> omega)) ?_)
          have e3 : ((p' + 1 : Nat) : Int) - 1 = (p' : Int) := by omega
          have e4 : (t : Int) + (v1 : Int) = ((t + v1 : Nat) : Int) := by omega
          rw [e3, e4]
          refine d_op ev_geq (d_if rfl (fun g2 => ?_) (fun g2 => ?_))
          · have hb2 := kn_break (q := p') (r := t + v1) (v1 := v1) (v0 := v0) (u := R1) (by omega) (by omega) hv0 (by omega)
            have hk2 := kn_ok (d := d0) (r := t + v1) hb2 hv0 (by omega)
            have hx2 := kn_exit (u := R1) (d := d0) (v1 := v1) (v0 := v0) (q := p') (r := t + v1) (by omega) hk2 (by omega)
            rw [← eQ0] at hx2
            obtain rfl : p' = Q0 := by omega
            refine d_op (ev_mul (by constructor <;> omega)) (d_op (ev_add (by constructor <;> omega)) (d_op ev_mulw (d_op ev_addw (d_op ev_mulw (d_op ev_subw ?_)))))
            rw [hun0]
            exact d_op (ev_shr (y := s) rfl (by show s ≤ 64; omega) rfl) (d_op ev_mktup (d_ret (by show AEnd.ret (.tup [.int .u64 _, .int .u64 _]) = _; congr 5)))
          · exact d_back rfl ⟨(p', t + v1), rfl, ⟨by show p' * v1 + (t + v1) = R1; omega, by show Q0 ≤ p'; omega, by show t + v1 < 4294967296; omega⟩, by show p' < p' + 1; omega⟩
        · have hp32 : p < 4294967296 := by omega
          have hpb2 : p * v0 ≤ 4294967295 * 4294967295 := Nat.mul_le_mul (by omega) (by omega)
          refine d_op (ev_mul (by rw [c]; constructor <;> omega)) ?_
          rw [c p]
          refine d_op (ev_mul (by constructor <;> omega)) (d_op (ev_add (by constructor <;> omega)) (d_op ev_gtr (d_if rfl (fun g2 => ?_) (fun g2 => ?_))))
          · have hd := kn_down (d := d0) j1 (by omega) (v0 := v0) (by omega)
            rw [← eQ0] at hd
            obtain ⟨p', rfl⟩ : ∃ p', p = p' + 1 := ⟨p - 1, by omega⟩
            rw [Nat.succ_mul] at j1
            refine d_op (ev_sub (by constructor <;> omega)) (d_op (ev_add (by constructor <;> omega)) ?_)
            have e3 : ((p' + 1 : Nat) : Int) - 1 = (p' : Int) := by omega
            have e4 : (t : Int) + (v1 : Int) = ((t + v1 : Nat) : Int) := by omega
            rw [e3, e4]
            refine d_op ev_geq (d_if rfl (fun g3 => ?_) (fun g3 => ?_))
            · have hk2 := kn_ok (d := d0) (r := t + v1) (show p' < 4294967296 by omega) hv0 (by omega)
              have hx2 := kn_exit (u := R1) (d := d0) (v1 := v1) (v0 := v0) (q := p') (r := t + v1) (by omega) hk2 (by omega)
              rw [← eQ0] at hx2
              obtain rfl : p' = Q0 := by omega
              refine d_op (ev_mul (by constructor <;> omega)) (d_op (ev_add (by constructor <;> omega)) (d_op ev_mulw (d_op ev_addw (d_op ev_mulw (d_op ev_subw ?_)))))
              rw [hun0]
              exact d_op (ev_shr (y := s) rfl (by show s ≤ 64; omega) rfl) (d_op ev_mktup (d_ret (by show AEnd.ret (.tup [.int .u64 _, .int .u64 _]) = _; congr 5)))
            · exact d_back rfl ⟨(p', t + v1), rfl, ⟨by show p' * v1 + (t + v1) = R1; omega, by show Q0 ≤ p'; omega, by show t + v1 < 4294967296; omega⟩, by show p' < p' + 1; omega⟩
          · have hx2 := kn_exit (u := R1) (d := d0) (v1 := v1) (v0 := v0) (q := p) (r := t) j1 (by omega) (by omega)
            rw [← eQ0] at hx2
            obtain rfl : p = Q0 := by omega
            refine d_op (ev_mul (by constructor <;> omega)) (d_op (ev_add (by constructor <;> omega)) (d_op ev_mulw (d_op ev_addw (d_op ev_mulw (d_op ev_subw ?_)))))
            rw [hun0]
            exact d_op (ev_shr (y := s) rfl (by show s ≤ 64; omega) rfl) (d_op ev_mktup (d_ret (by show AEnd.ret (.tup [.int .u64 _, .int .u64 _]) = _; congr 5)))
      · exact d_back rfl ⟨(q', r + v1), rfl, ⟨by show q' * v1 + (r + v1) = u; omega, by show Q1 ≤ q'; omega, by show r + v1 < 4294967296; omega⟩, by show q' < q' + 1; omega⟩
    · have hq32 : q < 4294967296 := by omega
      have hpb : q * v0 ≤ 4294967295 * 4294967295 := Nat.mul_le_mul (by omega) (by omega)
      refine d_op (ev_mul (by rw [c]; constructor <;> omega)) ?_
      rw [c]
      refine d_op (ev_mul (by constructor <;> omega)) (d_op (ev_add (by constructor <;> omega)) (d_op ev_gtr (d_if rfl (fun h2 => ?_) (fun h2 => ?_))))
      · have hd := kn_down (d := d1) i1 (by omega) (v0 := v0) (by omega)
        rw [← eQ1] at hd
        obtain ⟨q', rfl⟩ : ∃ q', q = q' + 1 := ⟨q - 1, by omega⟩
        rw [Nat.succ_mul] at i1
        refine d_op (ev_sub (by constructor <;> omega)) (d_op (ev_add (by constructor <;> omega)) ?_)
        have e1 : ((q' + 1 : Nat) : Int) - 1 = (q' : Int) := by omega
        have e2 : (r : Int) + (v1 : Int) = ((r + v1 : Nat) : Int) := by omega
        rw [e1, e2]
        refine d_op ev_geq (d_if rfl (fun h3 => ?_) (fun h3 => ?_))
        · have hk := kn_ok (d := d1) (r := r + v1) (show q' < 4294967296 by omega) hv0 (by omega)
          have hx := kn_exit (u := u) (d := d1) (v1 := v1) (v0 := v0) (q := q') (r := r + v1) (by omega) hk (by omega)
          rw [← eQ1] at hx
          obtain rfl : q' = Q1 := by omega
          refine d_op ev_mulw (d_op ev_addw (d_op ev_mulw (d_op ev_subw ?_)))
          rw [hun1]
          refine d_op (ev_quo (by omega) (by omega) (by constructor <;> omega)) ?_
          rw [cd]
          refine d_op (ev_mul (by rw [c]; constructor <;> omega)) ?_
          rw [c (R1 / v1)]
          refine d_op (ev_sub (by constructor <;> omega)) ?_
          have es2 : (R1 : Int) - ((R1 / v1 * v1 : Nat) : Int) = ((R1 % v1 : Nat) : Int) := by have := Nat.div_add_mod' R1 v1; omega
          rw [es2]
          have hrm2 : R1 % v1 < v1 := Nat.mod_lt _ (by omega)
          refine d_while (fun s : Nat × Nat => [.int .u64 (s.1 : Int), .int .u64 (s.2 : Int)]) (fun s => s.1 * v1 + s.2 = R1 ∧ Q0 ≤ s.1 ∧ s.2 < 4294967296) (fun s => s.1) (R1 / v1, R1 % v1) ⟨Nat.div_add_mod' R1 v1, hini0, by show R1 % v1 < 4294967296; omega⟩ rfl ?_
          rintro ⟨p, t⟩ ⟨j1, j2, j3⟩
          dsimp only at j1 j2 j3 ⊢
          have hpu : p ≤ R1 := by
            have : p * 1 ≤ p * v1 := Nat.mul_le_mul_left _ (by omega)
            omega
          refine d_op ev_geq (d_if rfl (fun g1 => ?_) (fun g1 => ?_))
          · obtain ⟨p', rfl⟩ : ∃ p', p = p' + 1 := ⟨p - 1, by omega⟩
            rw [Nat.succ_mul] at j1
            refine d_op (ev_sub (by constructor <;> omega)) (d_op (ev_add (by constructor <;> omega)) ?_)
            have e3 : ((p' + 1 : Nat) : Int) - 1 = (p' : Int) := by omega
            have e4 : (t : Int) + (v1 : Int) = ((t + v1 : Nat) : Int) := by omega
            rw [e3, e4]
            refine d_op ev_geq (d_if rfl (fun g2 => ?_) (fun g2 => ?_))
            · have hb2 := kn_break (q := p') (r := t + v1) (v1 := v1) (v0 := v0) (u := R1) (by omega) (by omega) hv0 (by omega)
              have hk2 := kn_ok (d := d0) (r := t + v1) hb2 hv0 (by omega)
              have hx2 := kn_exit (u := R1) (d := d0) (v1 := v1) (v0 := v0) (q := p') (r := t + v1) (by omega) hk2 (by omega)
              rw [← eQ0] at hx2
              obtain rfl : p' = Q0 := by omega
              refine d_op (ev_mul (by constructor <;> omega)) (d_op (ev_add (by constructor <;> omega)) (d_op ev_mulw (d_op ev_addw (d_op ev_mulw (d_op ev_subw ?_)))))
              rw [hun0]
              exact d_op (ev_shr (y := s) rfl (by show s ≤ 64; omega) rfl) (d_op ev_mktup (d_ret (by show AEnd.ret (.tup [.int .u64 _, .int .u64 _]) = _; congr 5)))
            · exact d_back rfl ⟨(p', t + v1), rfl, ⟨by show p' * v1 + (t + v1) = R1; omega, by show Q0 ≤ p'; omega, by show t + v1 < 4294967296; omega⟩, by show p' < p' + 1; omega⟩
          · have hp32 : p < 4294967296 := by omega
            have hpb2 : p * v0 ≤ 4294967295 * 4294967295 := Nat.mul_le_mul (by omega) (by omega)
            refine d_op (ev_mul (by rw [c]; constructor <;> omega)) ?_
            rw [c p]
            refine d_op (ev_mul (by constructor <;> omega)) (d_op (ev_add (by constructor <;> omega)) (d_op ev_gtr (d_if rfl (fun g2 => ?_) (fun g2 => ?_))))
            · have hd := kn_down (d := d0) j1 (by omega) (v0 := v0) (by omega)
              rw [← eQ0] at hd
              obtain ⟨p', rfl⟩ : ∃ p', p = p' + 1 := ⟨p - 1, by omega⟩
              rw [Nat.succ_mul] at j1
              refine d_op (ev_sub (by constructor <;> omega)) (d_op (ev_add (by constructor <;> omega)) ?_)
              have e3 : ((p' + 1 : Nat) : Int) - 1 = (p' : Int) := by omega
              have e4 : (t : Int) + (v1 : Int) = ((t + v1 : Nat) : Int) := by omega
              rw [e3, e4]
              refine d_op ev_geq (d_if rfl (fun g3 => ?_) (fun g3 => ?_))
              · have hk2 := kn_ok (d := d0) (r := t + v1) (show p' < 4294967296 by omega) hv0 (by omega)
                have hx2 := kn_exit (u := R1) (d := d0) (v1 := v1) (v0 := v0) (q := p') (r := t + v1) (by omega) hk2 (by omega)
                rw [← eQ0] at hx2
                obtain rfl : p' = Q0 := by omega
                refine d_op (ev_mul (by constructor <;> omega)) (d_op (ev_add (by constructor <;> omega)) (d_op ev_mulw (d_op ev_addw (d_op ev_mulw (d_op ev_subw ?_)))))
                rw [hun0]
                exact d_op (ev_shr (y := s) rfl (by show s ≤ 64; omega) rfl) (d_op ev_mktup (d_ret (by show AEnd.ret (.tup [.int .u64 _, .int .u64 _]) = _; congr 5)))
              · exact d_back rfl ⟨(p', t + v1), rfl, ⟨by show p' * v1 + (t + v1) = R1; omega, by show Q0 ≤ p'; omega, by show t + v1 < 4294967296; omega⟩, by show p' < p' + 1; omega⟩
            · have hx2 := kn_exit (u := R1) (d := d0) (v1 := v1) (v0 := v0) (q := p) (r := t) j1 (by omega) (by omega)
              rw [← eQ0] at hx2
              obtain rfl : p = Q0 := by omega
              refine d_op (ev_mul (by constructor <;> omega)) (d_op (ev_add (by constructor <;> omega)) (d_op ev_mulw (d_op ev_addw (d_op ev_mulw (d_op ev_subw ?_)))))
              rw [hun0]
              exact d_op (ev_shr (y := s) rfl (by show s ≤ 64; omega) rfl) (d_op ev_mktup (d_ret (by show AEnd.ret (.tup [.int .u64 _, .int .u64 _]) = _; congr 5)))
        · exact d_back rfl ⟨(q', r + v1), rfl, ⟨by show q' * v1 + (r + v1) = u; omega, by show Q1 ≤ q'; omega, by show r + v1 < 4294967296; omega⟩, by show q' < q' + 1; omega⟩
      · have hx := kn_exit (u := u) (d := d1) (v1 := v1) (v0 := v0) (q := q) (r := r) i1 (by omega) (by omega)
        rw [← eQ1] at hx
        obtain rfl : q = Q1 := by omega
        refine d_op ev_mulw (d_op ev_addw (d_op ev_mulw (d_op ev_subw ?_)))
        rw [hun1]
        refine d_op (ev_quo (by omega) (by omega) (by constructor <;> omega)) ?_
        rw [cd]
        refine d_op (ev_mul (by rw [c]; constructor <;> omega)) ?_
        rw [c (R1 / v1)]
        refine d_op (ev_sub (by constructor <;> omega)) ?_
        have es2 : (R1 : Int) - ((R1 / v1 * v1 : Nat) : Int) = ((R1 % v1 : Nat) : Int) := by have := Nat.div_add_mod' R1 v1; omega
        rw [es2]
        have hrm2 : R1 % v1 < v1 := Nat.mod_lt _ (by omega)
        refine d_while (fun s : Nat × Nat => [.int .u64 (s.1 : Int), .int .u64 (s.2 : Int)]) (fun s => s.1 * v1 + s.2 = R1 ∧ Q0 ≤ s.1 ∧ s.2 < 4294967296) (fun s => s.1) (R1 / v1, R1 % v1) ⟨Nat.div_add_mod' R1 v1, hini0, by show R1 % v1 < 4294967296; omega⟩ rfl ?_
        rintro ⟨p, t⟩ ⟨j1, j2, j3⟩
        dsimp only at j1 j2 j3 ⊢
        have hpu : p ≤ R1 := by
          have : p * 1 ≤ p * v1 := Nat.mul_le_mul_left _ (by omega)
          omega
        refine d_op ev_geq (d_if rfl (fun g1 => ?_) (fun g1 => ?_))
        · obtain ⟨p', rfl⟩ : ∃ p', p = p' + 1 := ⟨p - 1, by omega⟩
          rw [Nat.succ_mul] at j1
          refine d_op (ev_sub (by constructor <;> omega)) (d_op (ev_add (by constructor <;> omega)) ?_)
          have e3 : ((p' + 1 : Nat) : Int) - 1 = (p' : Int) := by omega
          have e4 : (t : Int) + (v1 : Int) = ((t + v1 : Nat) : Int) := by omega
          rw [e3, e4]
          refine d_op ev_geq (d_if rfl (fun g2 => ?_) (fun g2 => ?_))
          · have hb2 := kn_break (q := p') (r := t + v1) (v1 := v1) (v0 := v0) (u := R1) (by omega) (by omega) hv0 (by omega)
            have hk2 := kn_ok (d := d0) (r := t + v1) hb2 hv0 (by omega)
            have hx2 := kn_exit (u := R1) (d := d0) (v1 := v1) (v0 := v0) (q := p') (r := t + v1) (by omega) hk2 (by omega)
            rw [← eQ0] at hx2
            obtain rfl : p' = Q0 := by omega
            refine d_op (ev_mul (by constructor <;> omega)) (d_op (ev_add (by constructor <;> omega)) (d_op ev_mulw (d_op ev_addw (d_op ev_mulw (d_op ev_subw ?_)))))
            rw [hun0]
            exact d_op (ev_shr (y := s) rfl (by show s ≤ 64; omega) rfl) (d_op ev_mktup (d_ret (by show AEnd.ret (.tup [.int .u64 _, .int .u64 _]) = _; congr 5)))
          · exact d_back rfl ⟨(p', t + v1), rfl, ⟨by show p' * v1 + (t + v1) = R1; omega, by show Q0 ≤ p'; omega, by show t + v1 < 4294967296; omega⟩, by show p' < p' + 1; omega⟩
        · have hp32 : p < 4294967296 := by omega
          have hpb2 : p * v0 ≤ 4294967295 * 4294967295 := Nat.mul_le_mul (by omega) (by omega)
          refine d_op (ev_mul (by rw [c]; constructor <;> omega)) ?_
          rw [c p]
          refine d_op (ev_mul (by constructor <;> omega)) (d_op (ev_add (by constructor <;> omega)) (d_op ev_gtr (d_if rfl (fun g2 => ?_) (fun g2 => ?_))))
          · have hd := kn_down (d := d0) j1 (by omega) (v0 := v0) (by omega)
            rw [← eQ0] at hd
            obtain ⟨p', rfl⟩ : ∃ p', p = p' + 1 := ⟨p - 1, by omega⟩
            rw [Nat.succ_mul] at j1
            refine d_op (ev_sub (by constructor <;> omega)) (d_op (ev_add (by constructor <;> omega)) ?_)
            have e3 : ((p' + 1 : Nat) : Int) - 1 = (p' : Int) := by omega
            have e4 : (t : Int) + (v1 : Int) = ((t + v1 : Nat) : Int) := by omega
            rw [e3, e4]
            refine d_op ev_geq (d_if rfl (fun g3 => ?_) (fun g3 => ?_))
            · have hk2 := kn_ok (d := d0) (r := t + v1) (show p' < 4294967296 by omega) hv0 (by omega)
              have hx2 := kn_exit (u := R1) (d := d0) (v1 := v1) (v0 := v0) (q := p') (r := t + v1) (by omega) hk2 (by omega)
              rw [← eQ0] at hx2
              obtain rfl : p' = Q0 := by omega
              refine d_op (ev_mul (by constructor <;> omega)) (d_op (ev_add (by constructor <;> omega)) (d_op ev_mulw (d_op ev_addw (d_op ev_mulw (d_op ev_subw ?_)))))
              rw [hun0]
              exact d_op (ev_shr (y := s) rfl (by show s ≤ 64; omega) rfl) (d_op ev_mktup (d_ret (by show AEnd.ret (.tup [.int .u64 _, .int .u64 _]) = _; congr 5)))
            · exact d_back rfl ⟨(p', t + v1), rfl, ⟨by show p' * v1 + (t + v1) = R1; omega, by show Q0 ≤ p'; omega, by show t + v1 < 4294967296; omega⟩, by show p' < p' + 1; omega⟩
          · have hx2 := kn_exit (u := R1) (d := d0) (v1 := v1) (v0 := v0) (q := p) (r := t) j1 (by omega) (by omega)
            rw [← eQ0] at hx2
            obtain rfl : p = Q0 := by omega
            refine d_op (ev_mul (by constructor <;> omega)) (d_op (ev_add (by constructor <;> omega)) (d_op ev_mulw (d_op ev_addw (d_op ev_mulw (d_op ev_subw ?_)))))
            rw [hun0]
            exact d_op (ev_shr (y := s) rfl (by show s ≤ 64; omega) rfl) (d_op ev_mktup (d_ret (by show AEnd.ret (.tup [.int .u64 _, .int .u64 _]) = _; congr 5)))
end Go.SE
set_option autoImplicit false
set_option maxRecDepth 4000
set_option maxHeartbeats 2000000
set_option exponentiation.threshold 5000
namespace Go.SE
open Go
variable {P : Program} {R : AEnd → Prop}
def WCmpC (P : Program) (f : FuncId) : Prop := ∀ a b, a < W256 → b < W256 → Ct P f [WV a, WV b] (fun e => e = .ret (.int .i64 (cmpN a b)))
theorem cmpN_3 {a0 a1 a2 a3 b0 b1 b2 b3 : Nat} (ha0 : a0 < B64) (ha1 : a1 < B64) (ha2 : a2 < B64) (ha3 : a3 < B64) (hb0 : b0 < B64) (hb1 : b1 < B64) (hb2 : b2 < B64) (hb3 : b3 < B64) :
    cmpN (V4 a0 a1 a2 a3) (V4 b0 b1 b2 b3) = if cmpN a3 b3 ≠ 0 then cmpN a3 b3 else if cmpN a2 b2 ≠ 0 then cmpN a2 b2 else if cmpN a1 b1 ≠ 0 then cmpN a1 b1 else cmpN a0 b0 := by
  have : a0 < 18446744073709551616 := ha0
  have : a1 < 18446744073709551616 := ha1
  have : a2 < 18446744073709551616 := ha2
  have : a3 < 18446744073709551616 := ha3
  have : b0 < 18446744073709551616 := hb0
  have : b1 < 18446744073709551616 := hb1
  have : b2 < 18446744073709551616 := hb2
  have : b3 < 18446744073709551616 := hb3
  have key : ∀ {x y : Nat} {u v : Nat}, (x < y → u < v) → (y < x → v < u) → x ≠ y → cmpN u v = cmpN x y := fun {x y u v} h1 h2 hne => by
    unfold cmpN
    rcases Nat.lt_or_gt_of_ne hne with h | h
    · rw [if_pos (h1 h), if_pos h]
    · have := h2 h
      rw [if_neg (show ¬ u < v by omega), if_pos this, if_neg (show ¬ x < y by omega), if_pos h]
  simp only [ne_eq, cmpN_zero, ite_not]
  by_cases e3 : a3 = b3
  · rw [if_pos e3]
    by_cases e2 : a2 = b2
    · rw [if_pos e2]
      by_cases e1 : a1 = b1
      · rw [if_pos e1]
        by_cases e0 : a0 = b0
        · rw [e0, e1, e2, e3, cmpN_zero.2 rfl, cmpN_zero.2 rfl]
        · exact key (by unfold V4; omega) (by unfold V4; omega) e0
      · rw [if_neg e1]; exact key (by unfold V4; omega) (by unfold V4; omega) e1
    · rw [if_neg e2]; exact key (by unfold V4; omega) (by unfold V4; omega) e2
  · rw [if_neg e3]; exact key (by unfold V4; omega) (by unfold V4; omega) e3
def t_cmpr (cmp : FuncId) : T :=
 .node (.op (.cell 4 0) [.v 0]) <|
 .node (.op (.cell 4 1) [.v 0]) <|
 .node (.op (.cell 4 2) [.v 0]) <|
 .node (.op (.cell 4 3) [.v 0]) <|
 .node (.op (.cell 4 0) [.v 1]) <|
 .node (.op (.cell 4 1) [.v 1]) <|
 .node (.op (.cell 4 2) [.v 1]) <|
 .node (.op (.cell 4 3) [.v 1]) <|
 .node (.call cmp [.v 5, .v 9] true) <|
 .node (.op (.bin .neq) [.v 10, .c (.int .i64 0)]) <|
 .br (.v 11) (
 .ret (.v 10)) (
 .node (.call cmp [.v 4, .v 8] true) <|
 .node (.op (.bin .neq) [.v 12, .c (.int .i64 0)]) <|
 .br (.v 13) (
 .ret (.v 12)) (
 .node (.call cmp [.v 3, .v 7] true) <|
 .node (.op (.bin .neq) [.v 14, .c (.int .i64 0)]) <|
 .br (.v 15) (
 .ret (.v 14)) (
 .node (.call cmp [.v 2, .v 6] true) <|
 .node (.op (.bin .neq) [.v 16, .c (.int .i64 0)]) <|
 .br (.v 17) (
 .ret (.v 16)) (
 .ret (.c (.int .i64 0))))))
theorem cmpr_den {cmp : FuncId} {a b : Nat} (hc : CmpC P cmp .u64) (ha : a < W256) (hb : b < W256) : D P (fun e => e = .ret (.int .i64 (cmpN a b))) [] 2 [WV b, WV a] (t_cmpr cmp) := by
  obtain ⟨a0, a1, a2, a3, ha0, ha1, ha2, ha3, eA, ea⟩ := WV_limbs ha
  obtain ⟨b0, b1, b2, b3, hb0, hb1, hb2, hb3, eB, eb⟩ := WV_limbs hb
  rw [eA, eB, ea, eb, cmpN_3 ha0 ha1 ha2 ha3 hb0 hb1 hb2 hb3]
  refine d_cells rfl rfl rfl rfl (d_cells rfl rfl rfl rfl ?_)
  refine d_call (hc _ _) (fun _ => rfl) (d_op ev_neq (d_if rfl (fun h => ?_) (fun h => ?_)))
  · rw [if_pos h]; exact d_ret rfl
  rw [if_neg h]
  refine d_call (hc _ _) (fun _ => rfl) (d_op ev_neq (d_if rfl (fun h => ?_) (fun h => ?_)))
  · rw [if_pos h]; exact d_ret rfl
  rw [if_neg h]
  refine d_call (hc _ _) (fun _ => rfl) (d_op ev_neq (d_if rfl (fun h => ?_) (fun h => ?_)))
  · rw [if_pos h]; exact d_ret rfl
  rw [if_neg h]
  refine d_call (hc _ _) (fun _ => rfl) (d_op ev_neq (d_if rfl (fun h => ?_) (fun h => ?_)))
  · exact d_ret rfl
  · refine d_ret ?_
    have : cmpN a0 b0 = 0 := Classical.byContradiction h
    show AEnd.ret (.int .i64 0) = _
    rw [this]
def t_wCmp (cmpr : FuncId) : T :=
 .node (.op (.cell 4 0) [.v 0]) <|
 .node (.op (.cell 4 1) [.v 0]) <|
 .node (.op (.cell 4 2) [.v 0]) <|
 .node (.op (.cell 4 3) [.v 0]) <|
 .node (.op (.cell 4 0) [.v 1]) <|
 .node (.op (.cell 4 1) [.v 1]) <|
 .node (.op (.cell 4 2) [.v 1]) <|
 .node (.op (.cell 4 3) [.v 1]) <|
 .node (.op .mkagg [.v 2, .v 3, .v 4, .v 5]) <|
 .node (.op .mkagg [.v 6, .v 7, .v 8, .v 9]) <|
 .node (.call cmpr [.v 10, .v 11] true) <|
 .ret (.v 12)
theorem wCmp_den {cmpr : FuncId} {a b : Nat} (hc : WCmpC P cmpr) (ha : a < W256) (hb : b < W256) : D P (fun e => e = .ret (.int .i64 (cmpN a b))) [] 2 [WV b, WV a] (t_wCmp cmpr) := by
  have h := hc a b ha hb
  obtain ⟨a0, a1, a2, a3, _, _, _, _, eA, _⟩ := WV_limbs ha
  obtain ⟨b0, b1, b2, b3, _, _, _, _, eB, _⟩ := WV_limbs hb
  rw [eA, eB] at h ⊢
  exact d_cells rfl rfl rfl rfl (d_cells rfl rfl rfl rfl (d_op ev_wl (d_op ev_wl (d_call h (fun _ => rfl) (d_ret rfl)))))
def DoubleC (P : Program) (f : FuncId) : Prop := ∀ a bit : Nat, a < W256 → bit ≤ 1 → Ct P f [WV a, .int .u64 (bit : Int)] (fun e => e = .ret (.tup [WV ((2 * a + bit) % W256), .int .u64 (((2 * a + bit) / W256 : Nat) : Int)]))
theorem shl1 {x o : Nat} (_ : x < 18446744073709551616) (ho : o ≤ 1) : x * 2 ^ 1 % 18446744073709551616 ||| o = x * 2 % 18446744073709551616 + o := by
  have e : x * 2 ^ 1 % 18446744073709551616 = (x % 9223372036854775808) * 2 ^ 1 := by omega
  rw [e, or_at64 (by omega)]
def t_double : T :=
 .node (.op (.cell 4 0) [.v 0]) <|
 .node (.op (.cell 4 1) [.v 0]) <|
 .node (.op (.cell 4 2) [.v 0]) <|
 .node (.op (.cell 4 3) [.v 0]) <|
 .node (.op (.bin .shr) [.v 5, .c (.int .u64 63)]) <|
 .node (.op (.bin .shl) [.v 5, .c (.int .u64 1)]) <|
 .node (.op (.bin .shr) [.v 4, .c (.int .u64 63)]) <|
 .node (.op (.bin .or) [.v 7, .v 8]) <|
 .node (.op (.bin .shl) [.v 4, .c (.int .u64 1)]) <|
 .node (.op (.bin .shr) [.v 3, .c (.int .u64 63)]) <|
 .node (.op (.bin .or) [.v 10, .v 11]) <|
 .node (.op (.bin .shl) [.v 3, .c (.int .u64 1)]) <|
 .node (.op (.bin .shr) [.v 2, .c (.int .u64 63)]) <|
 .node (.op (.bin .or) [.v 13, .v 14]) <|
 .node (.op (.bin .shl) [.v 2, .c (.int .u64 1)]) <|
 .node (.op (.bin .or) [.v 16, .v 1]) <|
 .node (.op .mkagg [.v 17, .v 15, .v 12, .v 9]) <|
 .node (.op .mktup [.v 18, .v 6]) <|
 .ret (.v 19)
theorem double_den {a bit : Nat} (ha : a < W256) (hb : bit ≤ 1) : D P (fun e => e = .ret (.tup [WV ((2 * a + bit) % W256), .int .u64 (((2 * a + bit) / W256 : Nat) : Int)])) [] 2 [.int .u64 (bit : Int), WV a] t_double := by
  obtain ⟨a0, a1, a2, a3, ha0, ha1, ha2, ha3, eA, ea⟩ := WV_limbs ha
  have h0 : a0 < 18446744073709551616 := ha0
  have h1 : a1 < 18446744073709551616 := ha1
  have h2 : a2 < 18446744073709551616 := ha2
  have h3 : a3 < 18446744073709551616 := ha3
  have hw : ∀ x : Nat, IntKind.u64.wrap ((x * 2 ^ 1 : Nat) : Int) = ((x * 2 ^ 1 % 18446744073709551616 : Nat) : Int) := fun x => by rw [wrap_u rfl]; rfl
  have sh : ∀ x : Nat, x / 2 ^ 63 = x / 9223372036854775808 := fun x => rfl
  have r0 : a0 * 2 % 18446744073709551616 + bit < B64 := by show _ < 18446744073709551616; omega
  have r1 : a1 * 2 % 18446744073709551616 + a0 / 9223372036854775808 < B64 := by show _ < 18446744073709551616; omega
  have r2 : a2 * 2 % 18446744073709551616 + a1 / 9223372036854775808 < B64 := by show _ < 18446744073709551616; omega
  have r3 : a3 * 2 % 18446744073709551616 + a2 / 9223372036854775808 < B64 := by show _ < 18446744073709551616; omega
  have hr : (2 * a + bit) % W256 = V4 (a0 * 2 % 18446744073709551616 + bit) (a1 * 2 % 18446744073709551616 + a0 / 9223372036854775808) (a2 * 2 % 18446744073709551616 + a1 / 9223372036854775808) (a3 * 2 % 18446744073709551616 + a2 / 9223372036854775808) := by
    rw [ea]; unfold V4 W256; omega
  have hq : (2 * a + bit) / W256 = a3 / 9223372036854775808 := by rw [ea]; unfold V4 W256; omega
  rw [hr, hq, WV_eq r0 r1 r2 r3, eA]
  refine d_cells rfl rfl rfl rfl ?_
  refine d_op (ev_shr (y := 63) rfl (by decide) rfl) (d_op (ev_shl (y := 1) rfl (by decide) rfl) (d_op (ev_shr (y := 63) rfl (by decide) rfl) ?_))
  rw [hw, sh, sh]
  refine d_op (ev_or (by constructor <;> omega) (by constructor <;> omega)) ?_
  rw [shl1 h3 (by omega)]
  refine d_op (ev_shl (y := 1) rfl (by decide) rfl) (d_op (ev_shr (y := 63) rfl (by decide) rfl) ?_)
  rw [hw, sh]
  refine d_op (ev_or (by constructor <;> omega) (by constructor <;> omega)) ?_
  rw [shl1 h2 (by omega)]
  refine d_op (ev_shl (y := 1) rfl (by decide) rfl) (d_op (ev_shr (y := 63) rfl (by decide) rfl) ?_)
  rw [hw, sh]
  refine d_op (ev_or (by constructor <;> omega) (by constructor <;> omega)) ?_
  rw [shl1 h1 (by omega)]
  refine d_op (ev_shl (y := 1) rfl (by decide) rfl) ?_
  rw [hw]
  refine d_op (ev_or (by constructor <;> omega) (by constructor <;> omega)) ?_
  rw [shl1 h0 (by omega)]
  exact d_op ev_wl (d_op ev_mktup (d_ret rfl))
theorem fd_getD {b n q v : Nat} (h : q < n) : (fdigs b n v).getD q 0 = v / b ^ q % b := by
  induction n generalizing q v with
  | zero => omega
  | succ n ih =>
    cases q with
    | zero => simp [fdigs]
    | succ q => rw [fdigs, List.getD_cons_succ, ih (by omega), Nat.div_div_eq_div_mul, Nat.pow_succ, Nat.mul_comm b]
theorem fd_set {b n q v d x : Nat} (hb : 0 < b) (hq : q < n) (hx : x = v / b ^ q % b + d) (hlt : x < b) (hv : v + b ^ q * d < b ^ n) : (fdigs b n v).set q x = fdigs b n (v + b ^ q * d) := by
  refine eq_fdigs hb ((fdigs_lt hb _ _).set hlt q) (by simp) ?_
  have h := val_set (b := b) (L := fdigs b n v) (i := q) (by simp; omega) x
  rw [fd_getD hq, val_fdigs_lt (by omega), hx, Nat.mul_add] at h
  rw [hx]; omega
theorem pow64 (i : Nat) : 2 ^ i = B64 ^ (i / 64) * 2 ^ (i % 64) := by
  have h : 2 ^ i = 2 ^ (64 * (i / 64) + i % 64) := by rw [Nat.div_add_mod]
  rw [h, Nat.pow_add, Nat.pow_mul]
theorem bit_set {n t i x : Nat} (hi : i / 64 < n) (ht : t * 2 ^ (i + 1) + 2 ^ i < B64 ^ n) (hx : x = t * 2 ^ (i + 1) / B64 ^ (i / 64) % B64) :
    x ||| 2 ^ (i % 64) = x + 2 ^ (i % 64) ∧ x < B64 ∧ (fdigs B64 n (t * 2 ^ (i + 1))).set (i / 64) (x + 2 ^ (i % 64)) = fdigs B64 n ((2 * t + 1) * 2 ^ i) := by
  have hp : 0 < B64 ^ (i / 64) := Nat.pow_pos (by decide)
  have e1 : t * 2 ^ (i + 1) / B64 ^ (i / 64) = t * 2 ^ (i % 64 + 1) := by
    rw [Nat.pow_succ, pow64 i, Nat.pow_succ]
    have : t * (B64 ^ (i / 64) * 2 ^ (i % 64) * 2) = t * (2 ^ (i % 64) * 2) * B64 ^ (i / 64) := by generalize B64 ^ (i / 64) = p; generalize 2 ^ (i % 64) = r; grind
    rw [this, Nat.mul_div_cancel _ hp]
  rw [e1] at hx
  have hr : i % 64 < 64 := Nat.mod_lt _ (by decide)
  have e64 : B64 = 2 ^ (i % 64 + 1) * 2 ^ (63 - i % 64) := by rw [← Nat.pow_add, show i % 64 + 1 + (63 - i % 64) = 64 by omega]
  have e2 : x = (t % 2 ^ (63 - i % 64)) * 2 ^ (i % 64 + 1) := by
    rw [hx, e64, Nat.mul_comm t, Nat.mul_mod_mul_left, Nat.mul_comm]
  have e3 : x = (t % 2 ^ (63 - i % 64)) * 2 * 2 ^ (i % 64) := by rw [e2, Nat.pow_succ, Nat.mul_comm (2 ^ (i % 64)), Nat.mul_assoc]
  have hor : x ||| 2 ^ (i % 64) = x + 2 ^ (i % 64) := by
    have h := Nat.two_pow_add_eq_or_of_lt (i := i % 64 + 1) (b := 2 ^ (i % 64)) (Nat.pow_lt_pow_right (by decide) (by omega)) (t % 2 ^ (63 - i % 64))
    rw [Nat.mul_comm, ← e2] at h
    exact h.symm
  have hxl : x < B64 := by rw [hx]; exact Nat.mod_lt _ (by decide)
  have hlt : x + 2 ^ (i % 64) < B64 := by
    rw [← hor]
    exact Nat.or_lt_two_pow (n := 64) hxl (Nat.pow_lt_pow_right (by decide) hr)
  have e4 : (2 * t + 1) * 2 ^ i = t * 2 ^ (i + 1) + B64 ^ (i / 64) * 2 ^ (i % 64) := by rw [← pow64, Nat.pow_succ]; generalize 2 ^ i = p; grind
  refine ⟨hor, hxl, ?_⟩
  rw [e4]
  exact fd_set (by decide) hi (by rw [e1, hx]) hlt (by rw [← pow64]; exact ht)
theorem bit_of64 {L : List Nat} (h : LtAll B64 L) (i : Nat) : L.getD (i / 64) 0 / 2 ^ (i % 64) % 2 = val B64 L / 2 ^ i % 2 := by
  rw [getD_digit (by decide) h, pow64 i, ← Nat.div_div_eq_div_mul]
  generalize val B64 L / B64 ^ (i / 64) = w
  have hr : i % 64 < 64 := Nat.mod_lt _ (by decide)
  have e64 : B64 = 2 ^ (i % 64) * 2 ^ (64 - i % 64) := by rw [← Nat.pow_add, show i % 64 + (64 - i % 64) = 64 by omega]
  rw [e64, Nat.mod_mul_right_div_self]
  exact Nat.mod_mod_of_dvd _ (Nat.pow_dvd_pow 2 (show 1 ≤ 64 - i % 64 by omega))
def DivideWC (P : Program) (f : FuncId) : Prop := ∀ L m, LtAll B64 L → 0 < L.length → L.length ≤ 1048576 → 0 < m → m < W256 →
  Ct P f [SN .u64 L, WV m] (fun e => e = .ret (.tup [SN .u64 (fdigs B64 L.length (val B64 L / m)), WV (val B64 L % m)]))
theorem wdiv_step {N m i : Nat} (hm : 0 < m) : 2 * (N / 2 ^ (i + 1) % m) + N / 2 ^ i % 2 < 2 * m ∧
    N / 2 ^ i % m = (if m ≤ 2 * (N / 2 ^ (i + 1) % m) + N / 2 ^ i % 2 then 2 * (N / 2 ^ (i + 1) % m) + N / 2 ^ i % 2 - m else 2 * (N / 2 ^ (i + 1) % m) + N / 2 ^ i % 2) ∧
    N / 2 ^ i / m = (if m ≤ 2 * (N / 2 ^ (i + 1) % m) + N / 2 ^ i % 2 then 2 * (N / 2 ^ (i + 1) / m) + 1 else 2 * (N / 2 ^ (i + 1) / m)) := by
  have e : N / 2 ^ (i + 1) = N / 2 ^ i / 2 := by rw [Nat.pow_succ, Nat.div_div_eq_div_mul]
  rw [e]
  generalize N / 2 ^ i = x
  have h1 := Nat.div_add_mod (x / 2) m
  have h2 := Nat.mod_lt (x / 2) hm
  obtain ⟨Q, eQ⟩ : ∃ Q, Q = x / 2 / m := ⟨_, rfl⟩
  obtain ⟨r, er⟩ : ∃ r, r = x / 2 % m := ⟨_, rfl⟩
  rw [← eQ, ← er] at h1
  rw [← er] at h2
  rw [← eQ, ← er]
  have hb : x % 2 < 2 := Nat.mod_lt _ (by decide)
  have hx : x = m * (2 * Q) + (2 * r + x % 2) := by
    have : m * (2 * Q) = 2 * (m * Q) := by grind
    omega
  refine ⟨by omega, ?_, ?_⟩
  · split
    · rename_i hc
      have hx2 : x = m * (2 * Q + 1) + (2 * r + x % 2 - m) := by rw [Nat.mul_add]; omega
      rw [hx2, Nat.mul_add_mod, Nat.mod_eq_of_lt (by omega), ← hx2]
    · rename_i hc
      rw [hx, Nat.mul_add_mod, Nat.mod_eq_of_lt (by omega), ← hx]
  · split
    · rename_i hc
      have hx2 : x = m * (2 * Q + 1) + (2 * r + x % 2 - m) := by rw [Nat.mul_add]; omega
      rw [hx2, Nat.mul_add_div hm, Nat.div_eq_of_lt (by omega), Nat.add_zero]
    · rename_i hc
      rw [hx, Nat.mul_add_div hm, Nat.div_eq_of_lt (by omega), Nat.add_zero]
def t_divideW (double sub : FuncId) : T :=
 .node (.op (.cell 4 0) [.v 1]) <|
 .node (.op (.cell 4 1) [.v 1]) <|
 .node (.op (.cell 4 2) [.v 1]) <|
 .node (.op (.cell 4 3) [.v 1]) <|
 .node (.op .len [.v 0]) <|
 .node (.op (.chkmk 8) [.v 6, .v 6]) <|
 .node (.op (.lzero 8 [.int .u64 0]) [.v 6]) <|
 .node (.op .len [.v 0]) <|
 .node (.op (.bin .mul) [.v 9, .c (.int .i64 64)]) <|
 .node (.op (.bin .sub) [.v 10, .c (.int .i64 1)]) <|
 .loop [.v 11, .v 8, .c (.int .u64 0), .c (.int .u64 0), .c (.int .u64 0), .c (.int .u64 0)] [true, false, true, true, true, true] <|
 .node (.op (.bin .geq) [.v 12, .c (.int .i64 0)]) <|
 .br (.v 18) (
 .node (.op (.bin .quo) [.v 12, .c (.int .i64 64)]) <|
 .node (.op (.eaddr 1) [.v 0, .v 19]) <|
 .node (.op (.rld false 1) [.v 20]) <|
 .node (.op (.bin .rem) [.v 12, .c (.int .i64 64)]) <|
 .node (.op (.bin .shr) [.v 21, .v 22]) <|
 .node (.op (.bin .and) [.v 23, .c (.int .u64 1)]) <|
 .node (.op .mkagg [.v 14, .v 15, .v 16, .v 17]) <|
 .node (.call double [.v 25, .v 24] false) <|
 .node (.op (.ext 0 false) [.v 26]) <|
 .node (.op (.ext 1 true) [.v 26]) <|
 .node (.op (.cell 4 0) [.v 27]) <|
 .node (.op (.cell 4 1) [.v 27]) <|
 .node (.op (.cell 4 2) [.v 27]) <|
 .node (.op (.cell 4 3) [.v 27]) <|
 .node (.op .mkagg [.v 29, .v 30, .v 31, .v 32]) <|
 .node (.op .mkagg [.v 2, .v 3, .v 4, .v 5]) <|
 .node (.call sub [.v 33, .v 34] false) <|
 .node (.op (.ext 0 false) [.v 35]) <|
 .node (.op (.ext 1 true) [.v 35]) <|
 .node (.op (.cell 4 0) [.v 36]) <|
 .node (.op (.cell 4 1) [.v 36]) <|
 .node (.op (.cell 4 2) [.v 36]) <|
 .node (.op (.cell 4 3) [.v 36]) <|
 .node (.op (.bin .eql) [.v 28, .c (.int .u64 1)]) <|
 .br (.v 42) (
 .node (.op (.bin .quo) [.v 12, .c (.int .i64 64)]) <|
 .node (.op .chki [.v 43, .v 6]) <|
 .node (.op (.ofs 1) [.c (.int .i64 0), .v 43]) <|
 .node (.op (.lget false 1) [.v 13, .v 45]) <|
 .node (.op (.bin .rem) [.v 12, .c (.int .i64 64)]) <|
 .node (.op (.bin .shl) [.c (.int .u64 1), .v 47]) <|
 .node (.op (.bin .or) [.v 46, .v 48]) <|
 .node (.op .chki [.v 43, .v 6]) <|
 .node (.op (.ofs 1) [.c (.int .i64 0), .v 43]) <|
 .node (.op .lset [.v 13, .v 51, .v 49]) <|
 .node (.op (.bin .sub) [.v 12, .c (.int .i64 1)]) <|
 .back 0 [.v 53, .v 52, .v 38, .v 39, .v 40, .v 41]) (
 .node (.op (.bin .eql) [.v 37, .c (.int .u64 0)]) <|
 .br (.v 43) (
 .node (.op (.bin .quo) [.v 12, .c (.int .i64 64)]) <|
 .node (.op .chki [.v 44, .v 6]) <|
 .node (.op (.ofs 1) [.c (.int .i64 0), .v 44]) <|
 .node (.op (.lget false 1) [.v 13, .v 46]) <|
 .node (.op (.bin .rem) [.v 12, .c (.int .i64 64)]) <|
 .node (.op (.bin .shl) [.c (.int .u64 1), .v 48]) <|
 .node (.op (.bin .or) [.v 47, .v 49]) <|
 .node (.op .chki [.v 44, .v 6]) <|
 .node (.op (.ofs 1) [.c (.int .i64 0), .v 44]) <|
 .node (.op .lset [.v 13, .v 52, .v 50]) <|
 .node (.op (.bin .sub) [.v 12, .c (.int .i64 1)]) <|
 .back 0 [.v 54, .v 53, .v 38, .v 39, .v 40, .v 41]) (
 .node (.op (.bin .sub) [.v 12, .c (.int .i64 1)]) <|
 .back 0 [.v 44, .v 13, .v 29, .v 30, .v 31, .v 32]))) (
 .node (.op (.mksl 1) [.v 13, .c (.int .i64 0), .v 6]) <|
 .node (.op .mkagg [.v 14, .v 15, .v 16, .v 17]) <|
 .node (.op .mktup [.v 19, .v 20]) <|
 .ret (.v 21))
theorem divideW_den {double sub : FuncId} {L : List Nat} {m : Nat} (hdb : DoubleC P double) (hsb : WSubC P sub) (hL : LtAll B64 L) (h0 : 0 < L.length) (hl : L.length ≤ 1048576) (hm : 0 < m) (hmW : m < W256) :
    D P (fun e => e = .ret (.tup [SN .u64 (fdigs B64 L.length (val B64 L / m)), WV (val B64 L % m)])) [] 2 [WV m, SN .u64 L] (t_divideW double sub) := by
  obtain ⟨N, eN⟩ : ∃ N, N = val B64 L := ⟨_, rfl⟩
  obtain ⟨n, en⟩ : ∃ n, n = L.length := ⟨_, rfl⟩
  have hN : N < 2 ^ (64 * n) := by rw [eN, en, Nat.pow_mul]; exact val_lt (by decide) hL
  rw [← eN, ← en]
  rw [← en] at h0 hl
  obtain ⟨m0, m1, m2, m3, _, _, _, _, eM, _⟩ := WV_limbs hmW
  rw [eM]
  refine d_cells rfl rfl rfl rfl ?_
  refine d_op ev_len ?_
  rw [← en]
  refine d_op (ev_chkmk rfl rfl (Nat.le_refl _) (by omega)) (d_op (ev_lzeroN (k := .u64) (n := n) rfl (by omega)) (d_op ev_len ?_))
  rw [← en]
  refine d_op (ev_mul (by constructor <;> omega)) (d_op (ev_sub (by constructor <;> omega)) ?_)
  have lim : ∀ x : Nat, ∃ r : Nat × Nat × Nat × Nat, WV x = WL r.1 r.2.1 r.2.2.1 r.2.2.2 := fun x => ⟨(_, _, _, _), rfl⟩
  refine d_while (fun j : Nat => [.int .i64 ((j : Int) - 1), .lst (CN .u64 (fdigs B64 n (N / 2 ^ j / m * 2 ^ j))), .int .u64 ((N / 2 ^ j % m % 18446744073709551616 : Nat) : Int), .int .u64 ((N / 2 ^ j % m / 18446744073709551616 % 18446744073709551616 : Nat) : Int),
      .int .u64 ((N / 2 ^ j % m / 340282366920938463463374607431768211456 % 18446744073709551616 : Nat) : Int), .int .u64 ((N / 2 ^ j % m / 6277101735386680763835789423207666416102355444464034512896 % 18446744073709551616 : Nat) : Int)])
    (fun j => j ≤ 64 * n) (fun j => j) (64 * n) (Nat.le_refl _) ?_ ?_
  · have e1 : N / 2 ^ (64 * n) = 0 := Nat.div_eq_of_lt hN
    rw [e1, Nat.zero_div, Nat.zero_mod, Nat.zero_mul]
    have e2 : List.replicate n 0 = fdigs B64 n 0 := eq_fdigs (by decide) (LtAll.replicate (by decide) n) (by simp) (val_replicate n)
    rw [e2]
    have e3 : ((64 * n : Nat) : Int) - 1 = (n : Int) * 64 - 1 := by omega
    rw [e3]
    rfl
  · intro j hj
    refine d_op ev_geq (d_if rfl (fun h1 => ?_) (fun h1 => ?_))
    · obtain ⟨i, rfl⟩ : ∃ i, j = i + 1 := ⟨j - 1, by omega⟩
      have ei : ((i + 1 : Nat) : Int) - 1 = (i : Int) := by omega
      rw [ei]
      have hq : (i : Int) / 64 = ((i / 64 : Nat) : Int) := by omega
      have hin : i / 64 < n := by omega
      obtain ⟨x, ex⟩ : ∃ x, x = L.getD (i / 64) 0 := ⟨_, rfl⟩
      have hx : x < 18446744073709551616 := ex ▸ hL.getD (by decide) _
      have hbit : x / 2 ^ (i % 64) % 2 = N / 2 ^ i % 2 := by rw [ex, eN]; exact bit_of64 hL i
      refine d_op (ev_quo (by omega) (by omega) (by constructor <;> omega)) ?_
      rw [hq]
      refine d_op (ev_eaddrN (i := i / 64) rfl (by omega)) (d_op (ev_rldN' (by omega) ex.symm) (d_op (ev_rem (by omega) (by omega)) (d_op (ev_shr (y := i % 64) (by omega) (by show _ ≤ 64; omega) rfl) ?_)))
      have hxs : x / 2 ^ (i % 64) ≤ x := Nat.div_le_self _ _
      generalize x / 2 ^ (i % 64) = xx at *
      have hxx : xx < 18446744073709551616 := by clear hbit; omega
      refine d_op (ev_and (by clear hbit; constructor <;> omega) (y := 1) (by decide)) ?_
      rw [Nat.and_one_is_mod, hbit]
      obtain ⟨s1, s2, s3⟩ := wdiv_step (N := N) (i := i) hm
      obtain ⟨bt, ebt⟩ : ∃ bt, bt = N / 2 ^ i % 2 := ⟨_, rfl⟩
      have hbt : bt ≤ 1 := by omega
      obtain ⟨r, er⟩ : ∃ r, r = N / 2 ^ (i + 1) % m := ⟨_, rfl⟩
      have hr : r < m := er ▸ Nat.mod_lt _ hm
      obtain ⟨Q, eQ⟩ : ∃ Q, Q = N / 2 ^ (i + 1) / m := ⟨_, rfl⟩
      rw [← ebt, ← er] at s1 s2 s3
      rw [← eQ] at s3
      rw [← ebt, ← er, ← eQ]
      have hd := hdb r bt (by omega) hbt
      refine d_op ev_wl ?_
      show D P _ _ _ (WV r :: _) _
      refine d_call hd (fun h => by cases h) (d_op (ev_ext rfl (fun h => by cases h)) (d_op (ev_ext rfl (fun _ => rfl)) ?_))
      obtain ⟨X, eX⟩ : ∃ X, X = (2 * r + bt) % W256 := ⟨_, rfl⟩
      have hXl : X < W256 := eX ▸ Nat.mod_lt _ (by decide)
      have hs := hsb X m hXl hmW
      rw [← eX]
      obtain ⟨x0, x1, x2, x3, _, _, _, _, eXl, _⟩ := WV_limbs hXl
      obtain ⟨Z, eZ⟩ : ∃ Z, Z = (X + W256 - m) % W256 := ⟨_, rfl⟩
      rw [← eZ] at hs
      refine d_cells rfl rfl rfl rfl (d_op ev_wl (d_op ev_wl ?_))
      show D P _ _ _ (WL m0 m1 m2 m3 :: WV X :: _) _
      rw [eM] at hs
      refine d_call hs (fun h => by cases h) (d_op (ev_ext rfl (fun h => by cases h)) (d_op (ev_ext rfl (fun _ => rfl)) ?_))
      refine d_cells rfl rfl rfl rfl ?_
      have hnew : m ≤ 2 * r + bt → Z = N / 2 ^ i % m ∧ N / 2 ^ i / m = 2 * Q + 1 := fun h => by
        rw [if_pos h] at s2 s3
        refine ⟨?_, s3⟩
        rw [s2, eZ, eX]; unfold W256 at *; omega
      have hold : ¬ m ≤ 2 * r + bt → X = N / 2 ^ i % m ∧ N / 2 ^ i / m = 2 * Q := fun h => by
        rw [if_neg h] at s2 s3
        refine ⟨?_, s3⟩
        rw [s2, eX]; unfold W256 at *; omega
      have hQb : (2 * Q + 1) * 2 ^ i ≤ N → Q * 2 ^ (i + 1) + 2 ^ i < B64 ^ n := fun h => by
        have : (2 * Q + 1) * 2 ^ i = Q * 2 ^ (i + 1) + 2 ^ i := by rw [Nat.pow_succ]; generalize 2 ^ i = p; grind
        rw [← this]
        rw [Nat.pow_mul] at hN
        exact Nat.lt_of_le_of_lt h hN
      have hset : m ≤ 2 * r + bt → Q * 2 ^ (i + 1) + 2 ^ i < B64 ^ n := fun h => hQb (by
        have h1 := (hnew h).2
        have h2 : N / 2 ^ i / m ≤ N / 2 ^ i := Nat.div_le_self _ _
        rw [h1] at h2
        exact Nat.le_trans (Nat.mul_le_mul_right _ h2) (Nat.div_mul_le_self _ _))
      refine d_op ev_eql (d_if rfl (fun h2 => ?_) (fun h2 => ?_))
      · have hge : m ≤ 2 * r + bt := by unfold W256 at *; omega
        obtain ⟨z1, z2⟩ := hnew hge
        obtain ⟨y, ey⟩ : ∃ y, y = Q * 2 ^ (i + 1) / B64 ^ (i / 64) % B64 := ⟨_, rfl⟩
        obtain ⟨g1, g2, g3⟩ := bit_set hin (hset hge) ey
        have g2' : y < 18446744073709551616 := g2
        have eg : (fdigs B64 n (Q * 2 ^ (i + 1))).getD (i / 64) 0 = y := by rw [ey]; exact fd_getD hin
        have hpw : 2 ^ (i % 64) < 18446744073709551616 := Nat.pow_lt_pow_right (by decide) (show i % 64 < 64 by omega)
        obtain ⟨pw, epw⟩ : ∃ pw, 2 ^ (i % 64) = pw := ⟨_, rfl⟩
        rw [epw] at g1 g3 hpw
        have hw : IntKind.u64.wrap ((pw : Nat) : Int) = ((pw : Nat) : Int) := wrap_in (by constructor <;> omega)
        refine d_op (ev_quo (by omega) (by omega) (by constructor <;> omega)) ?_
        rw [hq]
        refine d_op (ev_chki (by omega) (by omega) rfl) (d_op (ev_ofs (o := 0) rfl rfl) (d_op (ev_lgetN' (i := i / 64) (by simp) (by simp; omega) eg) ?_))
        refine d_op (ev_rem (by omega) (by omega)) (d_op (ev_shl (x := 1) (y := i % 64) (p := pw) (by omega) (by show _ ≤ 64; omega) (by rw [Nat.one_mul]; exact epw)) ?_)
        rw [hw]
        refine d_op (ev_or (by constructor <;> omega) (by constructor <;> omega)) ?_
        rw [g1]
        refine d_op (ev_chki (by omega) (by omega) rfl) (d_op (ev_ofs (o := 0) rfl rfl) (d_op (ev_lsetN (i := i / 64) (by simp) (by simp; omega) rfl) ?_))
        rw [g3]
        refine d_op (ev_sub (by constructor <;> omega)) ?_
        exact d_back rfl ⟨i, by rw [z2, ← z1]; rfl, by omega, by omega⟩
      · refine d_op ev_eql (d_if rfl (fun h3 => ?_) (fun h3 => ?_))
        · have hge : m ≤ 2 * r + bt := by
            have : ¬ X < m := fun hc => by rw [if_pos hc] at h3; exact absurd h3 (by decide)
            unfold W256 at *; omega
          obtain ⟨z1, z2⟩ := hnew hge
          obtain ⟨y, ey⟩ : ∃ y, y = Q * 2 ^ (i + 1) / B64 ^ (i / 64) % B64 := ⟨_, rfl⟩
          obtain ⟨g1, g2, g3⟩ := bit_set hin (hset hge) ey
          have g2' : y < 18446744073709551616 := g2
          have eg : (fdigs B64 n (Q * 2 ^ (i + 1))).getD (i / 64) 0 = y := by rw [ey]; exact fd_getD hin
          have hpw : 2 ^ (i % 64) < 18446744073709551616 := Nat.pow_lt_pow_right (by decide) (show i % 64 < 64 by omega)
          obtain ⟨pw, epw⟩ : ∃ pw, 2 ^ (i % 64) = pw := ⟨_, rfl⟩
          rw [epw] at g1 g3 hpw
          have hw : IntKind.u64.wrap ((pw : Nat) : Int) = ((pw : Nat) : Int) := wrap_in (by constructor <;> omega)
          refine d_op (ev_quo (by omega) (by omega) (by constructor <;> omega)) ?_
          rw [hq]
          refine d_op (ev_chki (by omega) (by omega) rfl) (d_op (ev_ofs (o := 0) rfl rfl) (d_op (ev_lgetN' (i := i / 64) (by simp) (by simp; omega) eg) ?_))
          refine d_op (ev_rem (by omega) (by omega)) (d_op (ev_shl (x := 1) (y := i % 64) (p := pw) (by omega) (by show _ ≤ 64; omega) (by rw [Nat.one_mul]; exact epw)) ?_)
          rw [hw]
          refine d_op (ev_or (by constructor <;> omega) (by constructor <;> omega)) ?_
          rw [g1]
          refine d_op (ev_chki (by omega) (by omega) rfl) (d_op (ev_ofs (o := 0) rfl rfl) (d_op (ev_lsetN (i := i / 64) (by simp) (by simp; omega) rfl) ?_))
          rw [g3]
          refine d_op (ev_sub (by constructor <;> omega)) ?_
          exact d_back rfl ⟨i, by rw [z2, ← z1]; rfl, by omega, by omega⟩
        · have hlt : ¬ m ≤ 2 * r + bt := by
            have : X < m := Classical.byContradiction fun hc => h3 (by rw [if_neg hc]; rfl)
            unfold W256 at *; omega
          obtain ⟨z1, z2⟩ := hold hlt
          refine d_op (ev_sub (by constructor <;> omega)) ?_
          exact d_back rfl ⟨i, by rw [z2, ← z1, show 2 * Q * 2 ^ i = Q * 2 ^ (i + 1) by rw [Nat.pow_succ]; generalize 2 ^ i = p; grind]; rfl, by omega, by omega⟩
    · have : j = 0 := by omega
      subst this
      rw [Nat.pow_zero, Nat.div_one, Nat.mul_one]
      refine d_op (ev_mkslN rfl (by simp)) (d_op ev_wl (d_op ev_mktup (d_ret rfl)))
end Go.SE
set_option autoImplicit false
set_option maxRecDepth 4000
set_option maxHeartbeats 2000000
set_option exponentiation.threshold 5000
namespace Go.SE
open Go
variable {P : Program} {R : AEnd → Prop}
theorem ev_weq {a b : Nat} (ha : a < W256) (hb : b < W256) : evalO (.eqv false [.int .u64, .int .u64, .int .u64, .int .u64]) [WV a, WV b] = some (.bool (decide (a = b))) := by
  have key : ∀ x y : Nat, ((x : Int) == (y : Int)) = decide (x = y) := fun x y => by
    rw [Bool.eq_iff_iff]; simp only [beq_iff_eq, decide_eq_true_eq]; omega
  simp only [WV, WL, evalO, eqCells, eqCell, and_self, if_true, Option.map_some, key, Bool.false_eq_true, if_false, Bool.and_true]
  congr 2
  rw [Bool.eq_iff_iff]
  simp only [Bool.and_eq_true, decide_eq_true_eq]
  unfold W256 at ha hb
  omega
theorem ev_wne {a b : Nat} (ha : a < W256) (hb : b < W256) : evalO (.eqv true [.int .u64, .int .u64, .int .u64, .int .u64]) [WV a, WV b] = some (.bool (decide (a ≠ b))) := by
  have h := ev_weq ha hb
  simp only [WV, WL, evalO] at h ⊢
  simp only [Bool.false_eq_true, if_false] at h
  simp only [if_true]
  rw [Option.map_eq_some_iff] at h ⊢
  obtain ⟨r, h1, h2⟩ := h
  exact ⟨r, h1, by cases h2; simp⟩
def WDivC (P : Program) (f : FuncId) : Prop := ∀ a b, a < W256 → b < W256 → 0 < b → Ct P f [WV a, WV b] (fun e => e = .ret (.tup [WV (a / b), WV (a % b)]))
theorem long_div {a0 a1 a2 a3 b : Nat} (hb : 0 < b) :
    V4 a0 a1 a2 a3 / b = V4 (((((a3 % b) * 18446744073709551616 + a2) % b * 18446744073709551616 + a1) % b * 18446744073709551616 + a0) / b) ((((a3 % b) * 18446744073709551616 + a2) % b * 18446744073709551616 + a1) / b) (((a3 % b) * 18446744073709551616 + a2) / b) (a3 / b) ∧
    V4 a0 a1 a2 a3 % b = ((((a3 % b) * 18446744073709551616 + a2) % b * 18446744073709551616 + a1) % b * 18446744073709551616 + a0) % b := by
  obtain ⟨r3, e3⟩ : ∃ r, r = a3 % b := ⟨_, rfl⟩
  obtain ⟨r2, e2⟩ : ∃ r, r = (r3 * 18446744073709551616 + a2) % b := ⟨_, rfl⟩
  obtain ⟨r1, e1⟩ : ∃ r, r = (r2 * 18446744073709551616 + a1) % b := ⟨_, rfl⟩
  obtain ⟨r0, e0⟩ : ∃ r, r = (r1 * 18446744073709551616 + a0) % b := ⟨_, rfl⟩
  rw [← e3, ← e2, ← e1, ← e0]
  have hr0 : r0 < b := e0 ▸ Nat.mod_lt _ hb
  have f3 := Nat.div_add_mod a3 b
  have f2 := Nat.div_add_mod (r3 * 18446744073709551616 + a2) b
  have f1 := Nat.div_add_mod (r2 * 18446744073709551616 + a1) b
  have f0 := Nat.div_add_mod (r1 * 18446744073709551616 + a0) b
  rw [← e3] at f3; rw [← e2] at f2; rw [← e1] at f1; rw [← e0] at f0
  obtain ⟨q3, g3⟩ : ∃ q, q = a3 / b := ⟨_, rfl⟩
  obtain ⟨q2, g2⟩ : ∃ q, q = (r3 * 18446744073709551616 + a2) / b := ⟨_, rfl⟩
  obtain ⟨q1, g1⟩ : ∃ q, q = (r2 * 18446744073709551616 + a1) / b := ⟨_, rfl⟩
  obtain ⟨q0, g0⟩ : ∃ q, q = (r1 * 18446744073709551616 + a0) / b := ⟨_, rfl⟩
  rw [← g3, ← g2, ← g1, ← g0]
  rw [← g3] at f3; rw [← g2] at f2; rw [← g1] at f1; rw [← g0] at f0
  have key : V4 a0 a1 a2 a3 = b * V4 q0 q1 q2 q3 + r0 := by
    have : b * V4 q0 q1 q2 q3 = b * q0 + 18446744073709551616 * (b * q1) + 340282366920938463463374607431768211456 * (b * q2) + 6277101735386680763835789423207666416102355444464034512896 * (b * q3) := by unfold V4; grind
    rw [this]
    clear e0 e1 e2 e3 this g0 g1 g2 g3
    unfold V4
    grind
  rw [key]
  exact ⟨by rw [Nat.mul_add_div hb, Nat.div_eq_of_lt hr0, Nat.add_zero], by rw [Nat.mul_add_mod, Nat.mod_eq_of_lt hr0]⟩
theorem fdigs4 (q : Nat) : SN .u64 (fdigs B64 4 q) = .sl 4 [.int .u64 ((q % 18446744073709551616 : Nat) : Int), .int .u64 ((q / 18446744073709551616 % 18446744073709551616 : Nat) : Int), .int .u64 ((q / 340282366920938463463374607431768211456 % 18446744073709551616 : Nat) : Int), .int .u64 ((q / 6277101735386680763835789423207666416102355444464034512896 % 18446744073709551616 : Nat) : Int)] := by
  have h2 : q / 18446744073709551616 / 18446744073709551616 = q / 340282366920938463463374607431768211456 := Nat.div_div_eq_div_mul ..
  have h3 : q / 18446744073709551616 / 18446744073709551616 / 18446744073709551616 = q / 6277101735386680763835789423207666416102355444464034512896 := by rw [Nat.div_div_eq_div_mul, Nat.div_div_eq_div_mul]
  rw [← h3, ← h2]; rfl
theorem val4 {a0 a1 a2 a3 : Nat} : val B64 [a0, a1, a2, a3] = V4 a0 a1 a2 a3 := by
  simp only [val_cons, val_nil]; unfold V4; show a0 + 18446744073709551616 * (a1 + 18446744073709551616 * (a2 + 18446744073709551616 * (a3 + 18446744073709551616 * 0))) = _; omega
theorem ev_build1 {r : Nat} : evalO (.build [.int .u64 0, .int .u64 0, .int .u64 0, .int .u64 0] [(0, 1)]) [.int .u64 (r : Int)] = some (WL r 0 0 0) := rfl
def t_wdiv (cmpr div64 divideW : FuncId) : T :=
 .node (.op (.cell 4 0) [.v 0]) <|
 .node (.op (.cell 4 1) [.v 0]) <|
 .node (.op (.cell 4 2) [.v 0]) <|
 .node (.op (.cell 4 3) [.v 0]) <|
 .node (.op (.cell 4 0) [.v 1]) <|
 .node (.op (.cell 4 1) [.v 1]) <|
 .node (.op (.cell 4 2) [.v 1]) <|
 .node (.op (.cell 4 3) [.v 1]) <|
 .node (.op .mkagg [.v 6, .v 7, .v 8, .v 9]) <|
 .node (.op (.eqv false [.int .u64, .int .u64, .int .u64, .int .u64]) [.v 10, .c (.agg [.int .u64 0, .int .u64 0, .int .u64 0, .int .u64 0])]) <|
 .br (.v 11) (
 .ret (.c (.tup [.agg [.int .u64 0, .int .u64 0, .int .u64 0, .int .u64 0], .agg [.int .u64 0, .int .u64 0, .int .u64 0, .int .u64 0]]))) (
 .node (.op .mkagg [.v 2, .v 3, .v 4, .v 5]) <|
 .node (.op .mkagg [.v 6, .v 7, .v 8, .v 9]) <|
 .node (.call cmpr [.v 12, .v 13] true) <|
 .node (.op (.bin .lss) [.v 14, .c (.int .i64 0)]) <|
 .br (.v 15) (
 .node (.op .mkagg [.v 2, .v 3, .v 4, .v 5]) <|
 .node (.op .mktup [.c (.agg [.int .u64 0, .int .u64 0, .int .u64 0, .int .u64 0]), .v 16]) <|
 .ret (.v 17)) (
 .node (.op (.bin .or) [.v 7, .v 8]) <|
 .node (.op (.bin .or) [.v 16, .v 9]) <|
 .node (.op (.bin .eql) [.v 17, .c (.int .u64 0)]) <|
 .br (.v 18) (
 .node (.call div64 [.c (.int .u64 0), .v 5, .v 6] false) <|
 .node (.op (.ext 0 true) [.v 19]) <|
 .node (.op (.ext 1 true) [.v 19]) <|
 .node (.call div64 [.v 21, .v 4, .v 6] false) <|
 .node (.op (.ext 0 true) [.v 22]) <|
 .node (.op (.ext 1 true) [.v 22]) <|
 .node (.call div64 [.v 24, .v 3, .v 6] false) <|
 .node (.op (.ext 0 true) [.v 25]) <|
 .node (.op (.ext 1 true) [.v 25]) <|
 .node (.call div64 [.v 27, .v 2, .v 6] false) <|
 .node (.op (.ext 0 true) [.v 28]) <|
 .node (.op (.ext 1 true) [.v 28]) <|
 .node (.op (.build [.int .u64 0, .int .u64 0, .int .u64 0, .int .u64 0] [(0, 1)]) [.v 30]) <|
 .node (.op (.cell 4 0) [.v 31]) <|
 .node (.op (.cell 4 1) [.v 31]) <|
 .node (.op (.cell 4 2) [.v 31]) <|
 .node (.op (.cell 4 3) [.v 31]) <|
 .node (.op .mkagg [.v 29, .v 26, .v 23, .v 20]) <|
 .node (.op .mkagg [.v 32, .v 33, .v 34, .v 35]) <|
 .node (.op .mktup [.v 36, .v 37]) <|
 .ret (.v 38)) (
 .node (.op .mklst [.v 2, .v 3, .v 4, .v 5]) <|
 .node (.op (.mksl 1) [.v 19, .c (.int .i64 0), .c (.int .i64 4)]) <|
 .node (.op .mkagg [.v 6, .v 7, .v 8, .v 9]) <|
 .node (.call divideW [.v 20, .v 21] false) <|
 .node (.op (.ext 0 true) [.v 22]) <|
 .node (.op (.ext 1 false) [.v 22]) <|
 .node (.op (.cell 4 0) [.v 24]) <|
 .node (.op (.cell 4 1) [.v 24]) <|
 .node (.op (.cell 4 2) [.v 24]) <|
 .node (.op (.cell 4 3) [.v 24]) <|
 .node (.op (.sl2rp 4 1) [.v 23]) <|
 .node (.op (.rld true 4) [.v 29]) <|
 .node (.op (.cell 4 0) [.v 30]) <|
 .node (.op (.cell 4 1) [.v 30]) <|
 .node (.op (.cell 4 2) [.v 30]) <|
 .node (.op (.cell 4 3) [.v 30]) <|
 .node (.op .mkagg [.v 31, .v 32, .v 33, .v 34]) <|
 .node (.op .mkagg [.v 25, .v 26, .v 27, .v 28]) <|
 .node (.op .mktup [.v 35, .v 36]) <|
 .ret (.v 37))))
theorem wdiv_den {cmpr div64 divideW : FuncId} {a b : Nat} (hc : WCmpC P cmpr) (h64 : Div64C P div64) (hw : DivideWC P divideW) (ha : a < W256) (hb : b < W256) (h0 : 0 < b) :
    D P (fun e => e = .ret (.tup [WV (a / b), WV (a % b)])) [] 2 [WV b, WV a] (t_wdiv cmpr div64 divideW) := by
  have hcc := hc a b ha hb
  obtain ⟨a0, a1, a2, a3, ha0, ha1, ha2, ha3, eA, ea⟩ := WV_limbs ha
  obtain ⟨b0, b1, b2, b3, hb0, hb1, hb2, hb3, eB, eb⟩ := WV_limbs hb
  have heq : evalO (.eqv false [.int .u64, .int .u64, .int .u64, .int .u64]) [WL b0 b1 b2 b3, .agg [.int .u64 0, .int .u64 0, .int .u64 0, .int .u64 0]] = some (.bool (decide (b = 0))) := by
    rw [← eB]; exact ev_weq hb (b := 0) (by decide)
  rw [eA, eB] at hcc
  rw [eA, eB]
  refine d_cells rfl rfl rfl rfl (d_cells rfl rfl rfl rfl (d_op ev_wl (d_op heq (d_if rfl (fun h => absurd h (by omega)) (fun _ => ?_)))))
  refine d_op ev_wl (d_op ev_wl (d_call hcc (fun _ => rfl) (d_op ev_lss (d_if rfl (fun h1 => ?_) (fun h1 => ?_)))))
  · have hlt : a < b := by
      refine Classical.byContradiction fun hn => ?_
      have : cmpN a b = 1 ∨ cmpN a b = 0 := by unfold cmpN; rw [if_neg hn]; split <;> simp
      rcases this with h | h <;> rw [h] at h1 <;> simp at h1
    rw [Nat.div_eq_of_lt hlt, Nat.mod_eq_of_lt hlt]
    refine d_op ev_wl (d_op ev_mktup (d_ret ?_))
    show AEnd.ret (.tup [_, WL a0 a1 a2 a3]) = _
    rw [← eA]; rfl
  · have or0 : ∀ {x y : Nat}, x < 18446744073709551616 → y < 18446744073709551616 → x ||| y < 18446744073709551616 := fun h1 h2 => Nat.or_lt_two_pow (n := 64) h1 h2
    have k1 : b1 < 18446744073709551616 := hb1
    have k2 : b2 < 18446744073709551616 := hb2
    have k3 : b3 < 18446744073709551616 := hb3
    have k12 := or0 k1 k2
    refine d_op (ev_or (by constructor <;> omega) (by constructor <;> omega)) (d_op (ev_or (by constructor <;> omega) (by constructor <;> omega)) (d_op ev_eql (d_if rfl (fun h2 => ?_) (fun h2 => ?_))))
    · have hz : b1 ||| b2 ||| b3 = 0 := by omega
      rw [Nat.or_eq_zero_iff, Nat.or_eq_zero_iff] at hz
      obtain ⟨⟨z1, z2⟩, z3⟩ := hz
      subst z1; subst z2; subst z3
      have eb0 : b = b0 := by rw [eb]; unfold V4; omega
      subst eb0
      have hbB : b < 18446744073709551616 := hb0
      obtain ⟨L1, L2⟩ := long_div (a0 := a0) (a1 := a1) (a2 := a2) (a3 := a3) h0
      have d3 := h64 0 a3 b hb0 h0 ha3
      rw [Nat.zero_mul, Nat.zero_add] at d3
      have d2 := h64 (a3 % b) a2 b hb0 (Nat.mod_lt _ h0) ha2
      have d1 := h64 (((a3 % b) * 18446744073709551616 + a2) % b) a1 b hb0 (Nat.mod_lt _ h0) ha1
      have d0 := h64 ((((a3 % b) * 18446744073709551616 + a2) % b * 18446744073709551616 + a1) % b) a0 b hb0 (Nat.mod_lt _ h0) ha0
      have hq : ∀ {r x : Nat}, r < b → x < B64 → (r * 18446744073709551616 + x) / b < B64 := fun {r x} hr hx => by
        have hx' : x < 18446744073709551616 := hx
        rw [Nat.div_lt_iff_lt_mul h0]
        have : (r + 1) * 18446744073709551616 ≤ b * 18446744073709551616 := Nat.mul_le_mul_right _ hr
        show _ < 18446744073709551616 * b
        omega
      have q3 : a3 / b < B64 := Nat.lt_of_le_of_lt (Nat.div_le_self _ _) ha3
      have q2 := hq (Nat.mod_lt a3 h0) ha2
      have q1 := hq (Nat.mod_lt ((a3 % b) * 18446744073709551616 + a2) h0) ha1
      have q0 := hq (Nat.mod_lt (((a3 % b) * 18446744073709551616 + a2) % b * 18446744073709551616 + a1) h0) ha0
      have hrr : V4 a0 a1 a2 a3 % b < b := Nat.mod_lt _ h0
      rw [← ea] at L1 L2 hrr
      have er : WV (a % b) = WL (a % b) 0 0 0 := by
        have : a % b = V4 (a % b) 0 0 0 := by unfold V4; omega
        rw [this, WV_eq (by show _ < 18446744073709551616; omega) (by decide) (by decide) (by decide), ← this]
      rw [er, L1, WV_eq q0 q1 q2 q3, L2]
      refine d_call d3 (fun h => by cases h) (d_op (ev_ext rfl (fun _ => rfl)) (d_op (ev_ext rfl (fun _ => rfl)) ?_))
      refine d_call d2 (fun h => by cases h) (d_op (ev_ext rfl (fun _ => rfl)) (d_op (ev_ext rfl (fun _ => rfl)) ?_))
      refine d_call d1 (fun h => by cases h) (d_op (ev_ext rfl (fun _ => rfl)) (d_op (ev_ext rfl (fun _ => rfl)) ?_))
      refine d_call d0 (fun h => by cases h) (d_op (ev_ext rfl (fun _ => rfl)) (d_op (ev_ext rfl (fun _ => rfl)) ?_))
      exact d_op ev_build1 (d_cells rfl rfl rfl rfl (d_op ev_wl (d_op ev_wl (d_op ev_mktup (d_ret rfl)))))
    · have hL : LtAll B64 [a0, a1, a2, a3] := fun x hx => by
        simp only [List.mem_cons, List.not_mem_nil, or_false] at hx
        rcases hx with rfl | rfl | rfl | rfl
        · exact ha0
        · exact ha1
        · exact ha2
        · exact ha3
      have hd := hw [a0, a1, a2, a3] b hL (by simp) (by simp) h0 hb
      rw [val4, ← ea, eB] at hd
      obtain ⟨r0, r1, r2, r3, _, _, _, _, er, _⟩ := WV_limbs (a := a % b) (Nat.lt_trans (Nat.mod_lt _ h0) hb)
      rw [er] at hd ⊢
      rw [show [a0, a1, a2, a3].length = 4 from rfl, fdigs4] at hd
      refine d_op (ev_mklst rfl) (d_op (v := SN .u64 [a0, a1, a2, a3]) rfl (d_op ev_wl (d_call hd (fun h => by cases h) ?_)))
      refine d_op (ev_ext rfl (fun _ => rfl)) (d_op (ev_ext rfl (fun h => by cases h)) (d_cells rfl rfl rfl rfl ?_))
      refine d_op (v := .rp _) rfl (d_op (v := WV (a / b)) rfl ?_)
      exact d_cells rfl rfl rfl rfl (d_op ev_wl (d_op ev_wl (d_op ev_mktup (d_ret rfl))))
def t_wMod (div : FuncId) : T :=
 .node (.op (.cell 4 0) [.v 0]) <|
 .node (.op (.cell 4 1) [.v 0]) <|
 .node (.op (.cell 4 2) [.v 0]) <|
 .node (.op (.cell 4 3) [.v 0]) <|
 .node (.op (.cell 4 0) [.v 1]) <|
 .node (.op (.cell 4 1) [.v 1]) <|
 .node (.op (.cell 4 2) [.v 1]) <|
 .node (.op (.cell 4 3) [.v 1]) <|
 .node (.op .mkagg [.v 2, .v 3, .v 4, .v 5]) <|
 .node (.op .mkagg [.v 6, .v 7, .v 8, .v 9]) <|
 .node (.call div [.v 10, .v 11] false) <|
 .node (.op (.ext 0 false) [.v 12]) <|
 .node (.op (.ext 1 false) [.v 12]) <|
 .node (.op (.cell 4 0) [.v 13]) <|
 .node (.op (.cell 4 1) [.v 13]) <|
 .node (.op (.cell 4 2) [.v 13]) <|
 .node (.op (.cell 4 3) [.v 13]) <|
 .node (.op (.cell 4 0) [.v 14]) <|
 .node (.op (.cell 4 1) [.v 14]) <|
 .node (.op (.cell 4 2) [.v 14]) <|
 .node (.op (.cell 4 3) [.v 14]) <|
 .node (.op .mkagg [.v 19, .v 20, .v 21, .v 22]) <|
 .ret (.v 23)
theorem wMod_den {div : FuncId} {a b : Nat} (hd : WDivC P div) (ha : a < W256) (hb : b < W256) (h0 : 0 < b) : D P (fun e => e = .ret (WV (a % b))) [] 2 [WV b, WV a] (t_wMod div) := by
  have h := hd a b ha hb h0
  obtain ⟨q0, q1, q2, q3, _, _, _, _, eq, _⟩ := WV_limbs (a := a / b) (Nat.lt_of_le_of_lt (Nat.div_le_self _ _) ha)
  obtain ⟨r0, r1, r2, r3, _, _, _, _, er, _⟩ := WV_limbs (a := a % b) (Nat.lt_trans (Nat.mod_lt _ h0) hb)
  obtain ⟨a0, a1, a2, a3, _, _, _, _, ea, _⟩ := WV_limbs ha
  obtain ⟨b0, b1, b2, b3, _, _, _, _, eb, _⟩ := WV_limbs hb
  rw [ea, eb, eq, er] at h
  rw [ea, eb, er]
  refine d_cells rfl rfl rfl rfl (d_cells rfl rfl rfl rfl (d_op ev_wl (d_op ev_wl (d_call h (fun h => by cases h) ?_))))
  refine d_op (ev_ext rfl (fun h => by cases h)) (d_op (ev_ext rfl (fun h => by cases h)) (d_cells rfl rfl rfl rfl (d_cells rfl rfl rfl rfl (d_op ev_wl (d_ret rfl)))))
def WModC (P : Program) (f : FuncId) : Prop := ∀ a b, a < W256 → b < W256 → 0 < b → Ct P f [WV a, WV b] (fun e => e = .ret (WV (a % b)))
def OfMC (P : Program) (f : FuncId) : Prop := ∀ m iv sq a, 0 < m → m < W256 → sq < W256 → a < W256 → Ct P f [FP m iv sq, WV a] (fun e => e = .ret (WV (a % m)))
def t_ofM (cmp mod : FuncId) : T :=
 .node (.op (.cell 4 0) [.v 1]) <|
 .node (.op (.cell 4 1) [.v 1]) <|
 .node (.op (.cell 4 2) [.v 1]) <|
 .node (.op (.cell 4 3) [.v 1]) <|
 .node (.op .nilchk [.v 0]) <|
 .node (.op (.roff 0) [.v 6]) <|
 .node (.op (.rld true 4) [.v 7]) <|
 .node (.op .mkagg [.v 2, .v 3, .v 4, .v 5]) <|
 .node (.call cmp [.v 9, .v 8] true) <|
 .node (.op (.bin .lss) [.v 10, .c (.int .i64 0)]) <|
 .br (.v 11) (
 .node (.op .mkagg [.v 2, .v 3, .v 4, .v 5]) <|
 .ret (.v 12)) (
 .node (.op .nilchk [.v 0]) <|
 .node (.op (.roff 0) [.v 12]) <|
 .node (.op (.rld true 4) [.v 13]) <|
 .node (.op .mkagg [.v 2, .v 3, .v 4, .v 5]) <|
 .node (.call mod [.v 15, .v 14] false) <|
 .node (.op (.cell 4 0) [.v 16]) <|
 .node (.op (.cell 4 1) [.v 16]) <|
 .node (.op (.cell 4 2) [.v 16]) <|
 .node (.op (.cell 4 3) [.v 16]) <|
 .node (.op .mkagg [.v 17, .v 18, .v 19, .v 20]) <|
 .ret (.v 21))
theorem ofM_den {cmp mod : FuncId} {m iv sq a : Nat} (hc : WCmpC P cmp) (hmo : WModC P mod) (h0 : 0 < m) (hm : m < W256) (hsq : sq < W256) (ha : a < W256) : D P (fun e => e = .ret (WV (a % m))) [] 2 [WV a, FP m iv sq] (t_ofM cmp mod) := by
  have hcc := hc a m ha hm
  have hmm := hmo a m ha hm h0
  obtain ⟨m0, m1, m2, m3, q0, q1, q2, q3, hm0, hm1, hm2, hm3, _, _, _, _, em, _, eF⟩ := FP_limbs (iv := iv) hm hsq
  obtain ⟨a0, a1, a2, a3, _, _, _, _, eA, _⟩ := WV_limbs ha
  obtain ⟨r0, r1, r2, r3, _, _, _, _, er, _⟩ := WV_limbs (a := a % m) (Nat.lt_trans (Nat.mod_lt _ h0) hm)
  have eM : WV m = WL m0 m1 m2 m3 := by rw [em, WV_eq hm0 hm1 hm2 hm3]
  rw [eA, eM] at hcc hmm
  rw [er] at hmm
  rw [eF, eA]
  refine d_cells rfl rfl rfl rfl (d_op ev_fnil (d_op ev_froff (d_op ev_frldm (d_op ev_wl (d_call hcc (fun _ => rfl) (d_op ev_lss (d_if rfl (fun h1 => ?_) (fun h1 => ?_))))))))
  · have hlt : a < m := by
      refine Classical.byContradiction fun hn => ?_
      have : cmpN a m = 1 ∨ cmpN a m = 0 := by unfold cmpN; rw [if_neg hn]; split <;> simp
      rcases this with h | h <;> rw [h] at h1 <;> simp at h1
    rw [Nat.mod_eq_of_lt hlt, eA]
    exact d_op ev_wl (d_ret rfl)
  · rw [er]
    exact d_op ev_fnil (d_op ev_froff (d_op ev_frldm (d_op ev_wl (d_call hmm (fun h => by cases h) (d_cells rfl rfl rfl rfl (d_op ev_wl (d_ret rfl)))))))
def WLenC (P : Program) (f : FuncId) : Prop := ∀ a, a < W256 → Ct P f [WV a] (fun e => e = .ret (.int .i64 (blen a : Nat)))
def t_wbitLen (len : FuncId) : T :=
 .node (.op (.cell 4 0) [.v 0]) <|
 .node (.op (.cell 4 1) [.v 0]) <|
 .node (.op (.cell 4 2) [.v 0]) <|
 .node (.op (.cell 4 3) [.v 0]) <|
 .node (.op (.bin .neq) [.v 4, .c (.int .u64 0)]) <|
 .br (.v 5) (
 .node (.call len [.v 4] true) <|
 .node (.op (.bin .add) [.c (.int .i64 192), .v 6]) <|
 .ret (.v 7)) (
 .node (.op (.bin .neq) [.v 3, .c (.int .u64 0)]) <|
 .br (.v 6) (
 .node (.call len [.v 3] true) <|
 .node (.op (.bin .add) [.c (.int .i64 128), .v 7]) <|
 .ret (.v 8)) (
 .node (.op (.bin .neq) [.v 2, .c (.int .u64 0)]) <|
 .br (.v 7) (
 .node (.call len [.v 2] true) <|
 .node (.op (.bin .add) [.c (.int .i64 64), .v 8]) <|
 .ret (.v 9)) (
 .node (.op (.bin .neq) [.v 1, .c (.int .u64 0)]) <|
 .br (.v 8) (
 .node (.call len [.v 1] true) <|
 .node (.op (.bin .add) [.c (.int .i64 0), .v 9]) <|
 .ret (.v 10)) (
 .ret (.c (.int .i64 0))))))
theorem wbitLen_den {len : FuncId} {a : Nat} (hl : Len64C P len) (ha : a < W256) : D P (fun e => e = .ret (.int .i64 (blen a : Nat))) [] 1 [WV a] (t_wbitLen len) := by
  obtain ⟨a0, a1, a2, a3, ha0, ha1, ha2, ha3, eA, ea⟩ := WV_limbs ha
  have h0 : a0 < 18446744073709551616 := ha0
  have h1 : a1 < 18446744073709551616 := ha1
  have h2 : a2 < 18446744073709551616 := ha2
  have l : ∀ {x : Nat}, x < B64 → blen x ≤ 64 := fun h => blen_le.2 h
  have l0 := l ha0
  have l1 := l ha1
  have l2 := l ha2
  have l3 := l ha3
  rw [eA]
  refine d_cells rfl rfl rfl rfl (d_op ev_neq (d_if rfl (fun h => ?_) (fun h => ?_)))
  · have e : blen a = 192 + blen a3 := by
      rw [ea, show V4 a0 a1 a2 a3 = (a0 + 18446744073709551616 * a1 + 340282366920938463463374607431768211456 * a2) + 2 ^ 192 * a3 from rfl]
      exact blen_split (by show _ < 6277101735386680763835789423207666416102355444464034512896; omega) (by omega)
    refine d_call (hl a3 ha3) (fun _ => rfl) (d_op (ev_add (by constructor <;> omega)) (d_ret ?_))
    show AEnd.ret (.int .i64 _) = _
    rw [e]; congr 2
  have z3 : a3 = 0 := by omega
  subst z3
  refine d_op ev_neq (d_if rfl (fun h => ?_) (fun h => ?_))
  · have e : blen a = 128 + blen a2 := by
      rw [ea, show V4 a0 a1 a2 0 = (a0 + 18446744073709551616 * a1) + 2 ^ 128 * a2 from rfl]
      exact blen_split (by show _ < 340282366920938463463374607431768211456; omega) (by omega)
    refine d_call (hl a2 ha2) (fun _ => rfl) (d_op (ev_add (by constructor <;> omega)) (d_ret ?_))
    show AEnd.ret (.int .i64 _) = _
    rw [e]; congr 2
  have z2 : a2 = 0 := by omega
  subst z2
  refine d_op ev_neq (d_if rfl (fun h => ?_) (fun h => ?_))
  · have e : blen a = 64 + blen a1 := by
      rw [ea, show V4 a0 a1 0 0 = a0 + 2 ^ 64 * a1 from rfl]
      exact blen_split h0 (by omega)
    refine d_call (hl a1 ha1) (fun _ => rfl) (d_op (ev_add (by constructor <;> omega)) (d_ret ?_))
    show AEnd.ret (.int .i64 _) = _
    rw [e]; congr 2
  have z1 : a1 = 0 := by omega
  subst z1
  have e : a = a0 := by rw [ea]; unfold V4; omega
  refine d_op ev_neq (d_if rfl (fun h => ?_) (fun h => ?_))
  · refine d_call (hl a0 ha0) (fun _ => rfl) (d_op (ev_add (by constructor <;> omega)) (d_ret ?_))
    show AEnd.ret (.int .i64 _) = _
    rw [e]; congr 2; omega
  · refine d_ret ?_
    have z0 : a0 = 0 := by omega
    show AEnd.ret (.int .i64 0) = _
    rw [e, z0]; rfl
def t_wLen (bitLen : FuncId) : T :=
 .node (.op (.cell 4 0) [.v 0]) <|
 .node (.op (.cell 4 1) [.v 0]) <|
 .node (.op (.cell 4 2) [.v 0]) <|
 .node (.op (.cell 4 3) [.v 0]) <|
 .node (.op .mkagg [.v 1, .v 2, .v 3, .v 4]) <|
 .node (.call bitLen [.v 5] true) <|
 .ret (.v 6)
theorem wLen_den {bitLen : FuncId} {a : Nat} (hl : WLenC P bitLen) (ha : a < W256) : D P (fun e => e = .ret (.int .i64 (blen a : Nat))) [] 1 [WV a] (t_wLen bitLen) := by
  have h := hl a ha
  obtain ⟨a0, a1, a2, a3, _, _, _, _, eA, _⟩ := WV_limbs ha
  rw [eA] at h ⊢
  exact d_cells rfl rfl rfl rfl (d_op ev_wl (d_call h (fun _ => rfl) (d_ret rfl)))
end Go.SE
