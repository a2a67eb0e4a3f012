/- Nothing of the statement is proved here: this text lays generic laws: FD; no conditions. -/
import Derived.Test.YtdpcehjiicfpdaaFC
set_option linter.all false
set_option autoImplicit false
set_option maxRecDepth 4000
set_option maxHeartbeats 2000000
set_option exponentiation.threshold 5000
namespace Go.SE
open Go
variable {P : Program} {R : AEnd → Prop}
def Len64C (P : Program) (f : FuncId) : Prop := ∀ x : Nat, x < B64 → Ct P f [.int .u64 (x : Int)] (fun e => e = .ret (.int .i64 (blen x : Nat)))
def t_len64 : T :=
 .node (.op (.bin .geq) [.v 0, .c (.int .u64 4294967296)]) <|
 .br (.v 1) (
 .node (.op (.bin .shr) [.v 0, .c (.int .u64 32)]) <|
 .node (.op (.bin .geq) [.v 2, .c (.int .u64 65536)]) <|
 .br (.v 3) (
 .node (.op (.bin .shr) [.v 2, .c (.int .u64 16)]) <|
 .node (.op (.bin .geq) [.v 4, .c (.int .u64 256)]) <|
 .br (.v 5) (
 .node (.op (.bin .shr) [.v 4, .c (.int .u64 8)]) <|
 .node (.op (.cvt .u8) [.v 6]) <|
 .node (.op .sidx [.c (.str lenTab), .v 7]) <|
 .node (.op (.cvt .i64) [.v 8]) <|
 .node (.op (.bin .add) [.c (.int .i64 56), .v 9]) <|
 .ret (.v 10)) (
 .node (.op (.cvt .u8) [.v 4]) <|
 .node (.op .sidx [.c (.str lenTab), .v 6]) <|
 .node (.op (.cvt .i64) [.v 7]) <|
 .node (.op (.bin .add) [.c (.int .i64 48), .v 8]) <|
 .ret (.v 9))) (
 .node (.op (.bin .geq) [.v 2, .c (.int .u64 256)]) <|
 .br (.v 4) (
 .node (.op (.bin .shr) [.v 2, .c (.int .u64 8)]) <|
 .node (.op (.cvt .u8) [.v 5]) <|
 .node (.op .sidx [.c (.str lenTab), .v 6]) <|
 .node (.op (.cvt .i64) [.v 7]) <|
 .node (.op (.bin .add) [.c (.int .i64 40), .v 8]) <|
 .ret (.v 9)) (
 .node (.op (.cvt .u8) [.v 2]) <|
 .node (.op .sidx [.c (.str lenTab), .v 5]) <|
 .node (.op (.cvt .i64) [.v 6]) <|
 .node (.op (.bin .add) [.c (.int .i64 32), .v 7]) <|
 .ret (.v 8)))) (
 .node (.op (.bin .geq) [.v 0, .c (.int .u64 65536)]) <|
 .br (.v 2) (
 .node (.op (.bin .shr) [.v 0, .c (.int .u64 16)]) <|
 .node (.op (.bin .geq) [.v 3, .c (.int .u64 256)]) <|
 .br (.v 4) (
 .node (.op (.bin .shr) [.v 3, .c (.int .u64 8)]) <|
 .node (.op (.cvt .u8) [.v 5]) <|
 .node (.op .sidx [.c (.str lenTab), .v 6]) <|
 .node (.op (.cvt .i64) [.v 7]) <|
 .node (.op (.bin .add) [.c (.int .i64 24), .v 8]) <|
 .ret (.v 9)) (
 .node (.op (.cvt .u8) [.v 3]) <|
 .node (.op .sidx [.c (.str lenTab), .v 5]) <|
 .node (.op (.cvt .i64) [.v 6]) <|
 .node (.op (.bin .add) [.c (.int .i64 16), .v 7]) <|
 .ret (.v 8))) (
 .node (.op (.bin .geq) [.v 0, .c (.int .u64 256)]) <|
 .br (.v 3) (
 .node (.op (.bin .shr) [.v 0, .c (.int .u64 8)]) <|
 .node (.op (.cvt .u8) [.v 4]) <|
 .node (.op .sidx [.c (.str lenTab), .v 5]) <|
 .node (.op (.cvt .i64) [.v 6]) <|
 .node (.op (.bin .add) [.c (.int .i64 8), .v 7]) <|
 .ret (.v 8)) (
 .node (.op (.cvt .u8) [.v 0]) <|
 .node (.op .sidx [.c (.str lenTab), .v 4]) <|
 .node (.op (.cvt .i64) [.v 5]) <|
 .node (.op (.bin .add) [.c (.int .i64 0), .v 6]) <|
 .ret (.v 7))))
theorem len64_den {x : Nat} (hx : x < B64) : D P (fun e => e = .ret (.int .i64 (blen x : Nat))) [] 1 [.int .u64 (x : Int)] t_len64 := by
  have hx : x < 18446744073709551616 := hx
  refine d_op ev_geq (d_if rfl (fun h => ?_) (fun h => ?_))
  · have e0 : blen x = 32 + blen (x / 4294967296) := blen_div (s := 32) (by omega)
    refine d_op (ev_shr (y := 32) rfl (by decide) rfl) ?_
    show D P _ _ _ (AV.int .u64 ((x / 4294967296 : Nat) : Int) :: _) _
    have hz : x / 4294967296 < 4294967296 := by omega
    generalize x / 4294967296 = z at *
    refine d_op ev_geq (d_if rfl (fun h1 => ?_) (fun h1 => ?_))
    · have e1 : blen z = 16 + blen (z / 65536) := blen_div (s := 16) (by omega)
      refine d_op (ev_shr (y := 16) rfl (by decide) rfl) (d_op ev_geq (d_if rfl (fun h2 => ?_) (fun h2 => ?_)))
      · have e2 : blen (z / 65536) = 8 + blen (z / 65536 / 256) := blen_div (s := 8) (by omega)
        have h8 : blen (z / 65536 / 256) ≤ 8 := blen_le.2 (by omega)
        refine d_op (ev_shr (y := 8) rfl (by decide) rfl) (d_op (ev_cvt (by constructor <;> omega)) (d_op (ev_lenTab (y := z / 65536 / 256) rfl (by omega) rfl) (d_op (ev_cvt (by constructor <;> omega)) (d_op (ev_add (by constructor <;> omega)) (d_ret ?_)))))
        show AEnd.ret (.int .i64 _) = _
        congr 2; omega
      · have h8 : blen (z / 65536) ≤ 8 := blen_le.2 (by omega)
        refine d_op (ev_cvt (by constructor <;> omega)) (d_op (ev_lenTab (y := z / 65536) rfl (by omega) rfl) (d_op (ev_cvt (by constructor <;> omega)) (d_op (ev_add (by constructor <;> omega)) (d_ret ?_))))
        show AEnd.ret (.int .i64 _) = _
        congr 2; omega
    · refine d_op ev_geq (d_if rfl (fun h2 => ?_) (fun h2 => ?_))
      · have e2 : blen z = 8 + blen (z / 256) := blen_div (s := 8) (by omega)
        have h8 : blen (z / 256) ≤ 8 := blen_le.2 (by omega)
        refine d_op (ev_shr (y := 8) rfl (by decide) rfl) (d_op (ev_cvt (by constructor <;> omega)) (d_op (ev_lenTab (y := z / 256) rfl (by omega) rfl) (d_op (ev_cvt (by constructor <;> omega)) (d_op (ev_add (by constructor <;> omega)) (d_ret ?_)))))
        show AEnd.ret (.int .i64 _) = _
        congr 2; omega
      · have h8 : blen z ≤ 8 := blen_le.2 (by omega)
        refine d_op (ev_cvt (by constructor <;> omega)) (d_op (ev_lenTab (y := z) rfl (by omega) rfl) (d_op (ev_cvt (by constructor <;> omega)) (d_op (ev_add (by constructor <;> omega)) (d_ret ?_))))
        show AEnd.ret (.int .i64 _) = _
        congr 2; omega
  · have hx4 : x < 4294967296 := by omega
    refine d_op ev_geq (d_if rfl (fun h1 => ?_) (fun h1 => ?_))
    · have e1 : blen x = 16 + blen (x / 65536) := blen_div (s := 16) (by omega)
      refine d_op (ev_shr (y := 16) rfl (by decide) rfl) (d_op ev_geq (d_if rfl (fun h2 => ?_) (fun h2 => ?_)))
      · have e2 : blen (x / 65536) = 8 + blen (x / 65536 / 256) := blen_div (s := 8) (by omega)
        have h8 : blen (x / 65536 / 256) ≤ 8 := blen_le.2 (by omega)
        refine d_op (ev_shr (y := 8) rfl (by decide) rfl) (d_op (ev_cvt (by constructor <;> omega)) (d_op (ev_lenTab (y := x / 65536 / 256) rfl (by omega) rfl) (d_op (ev_cvt (by constructor <;> omega)) (d_op (ev_add (by constructor <;> omega)) (d_ret ?_)))))
        show AEnd.ret (.int .i64 _) = _
        congr 2; omega
      · have h8 : blen (x / 65536) ≤ 8 := blen_le.2 (by omega)
        refine d_op (ev_cvt (by constructor <;> omega)) (d_op (ev_lenTab (y := x / 65536) rfl (by omega) rfl) (d_op (ev_cvt (by constructor <;> omega)) (d_op (ev_add (by constructor <;> omega)) (d_ret ?_))))
        show AEnd.ret (.int .i64 _) = _
        congr 2; omega
    · refine d_op ev_geq (d_if rfl (fun h2 => ?_) (fun h2 => ?_))
      · have e2 : blen x = 8 + blen (x / 256) := blen_div (s := 8) (by omega)
        have h8 : blen (x / 256) ≤ 8 := blen_le.2 (by omega)
        refine d_op (ev_shr (y := 8) rfl (by decide) rfl) (d_op (ev_cvt (by constructor <;> omega)) (d_op (ev_lenTab (y := x / 256) rfl (by omega) rfl) (d_op (ev_cvt (by constructor <;> omega)) (d_op (ev_add (by constructor <;> omega)) (d_ret ?_)))))
        show AEnd.ret (.int .i64 _) = _
        congr 2; omega
      · have h8 : blen x ≤ 8 := blen_le.2 (by omega)
        refine d_op (ev_cvt (by constructor <;> omega)) (d_op (ev_lenTab (y := x) rfl (by omega) rfl) (d_op (ev_cvt (by constructor <;> omega)) (d_op (ev_add (by constructor <;> omega)) (d_ret ?_))))
        show AEnd.ret (.int .i64 _) = _
        congr 2; omega
def Lz64C (P : Program) (f : FuncId) : Prop := ∀ x : Nat, x < B64 → Ct P f [.int .u64 (x : Int)] (fun e => e = .ret (.int .i64 ((64 - blen x : Nat) : Int)))
def t_lz64 (len : FuncId) : T :=
 .node (.call len [.v 0] true) <|
 .node (.op (.bin .sub) [.c (.int .i64 64), .v 1]) <|
 .ret (.v 2)
theorem lz64_den {len : FuncId} {x : Nat} (hl : Len64C P len) (hx : x < B64) : D P (fun e => e = .ret (.int .i64 ((64 - blen x : Nat) : Int))) [] 1 [.int .u64 (x : Int)] (t_lz64 len) := by
  have h := blen_le.2 (show x < 2 ^ 64 from hx)
  refine d_call (hl x hx) (fun _ => rfl) (d_op (ev_sub (by constructor <;> omega)) (d_ret ?_))
  have : (64 : Int) - ((blen x : Nat) : Int) = ((64 - blen x : Nat) : Int) := by omega
  show AEnd.ret (.int .i64 _) = _
  rw [this]
theorem kn_exit {u d v1 v0 q r : Nat} (h : q * v1 + r = u) (ht : q * v0 ≤ 4294967296 * r + d) (hY : 0 < v1 * 4294967296 + v0) : q ≤ (u * 4294967296 + d) / (v1 * 4294967296 + v0) := by
  rw [Nat.le_div_iff_mul_le hY, ← h]
  have : q * (v1 * 4294967296 + v0) = q * v1 * 4294967296 + q * v0 := by rw [Nat.mul_add, Nat.mul_assoc]
  rw [this]; omega
theorem kn_down {u d v1 v0 q r : Nat} (h : q * v1 + r = u) (ht : 4294967296 * r + d < q * v0) (hY : 0 < v1 * 4294967296 + v0) : (u * 4294967296 + d) / (v1 * 4294967296 + v0) < q := by
  rw [Nat.div_lt_iff_lt_mul hY, ← h]
  have : q * (v1 * 4294967296 + v0) = q * v1 * 4294967296 + q * v0 := by rw [Nat.mul_add, Nat.mul_assoc]
  rw [this]; omega
theorem kn_small {u d v1 v0 : Nat} (hu : u < v1 * 4294967296 + v0) (hd : d < 4294967296) : (u * 4294967296 + d) / (v1 * 4294967296 + v0) < 4294967296 := by
  rw [Nat.div_lt_iff_lt_mul (by omega)]
  have : (u + 1) * 4294967296 ≤ (v1 * 4294967296 + v0) * 4294967296 := Nat.mul_le_mul_right _ hu
  omega
theorem kn_break {u v1 v0 q r : Nat} (h : q * v1 + r = u) (hu : u < v1 * 4294967296 + v0) (hv0 : v0 < 4294967296) (hr : 4294967296 ≤ r) : q < 4294967296 := by
  refine Nat.lt_of_not_le fun hq => ?_
  have : 4294967296 * v1 ≤ q * v1 := Nat.mul_le_mul_right _ hq
  omega
theorem kn_ok {v0 q r d : Nat} (hq : q < 4294967296) (hv0 : v0 < 4294967296) (hr : 4294967296 ≤ r) : q * v0 ≤ 4294967296 * r + d := by
  have : q * v0 ≤ 4294967296 * 4294967296 := Nat.mul_le_mul (Nat.le_of_lt hq) (Nat.le_of_lt hv0)
  omega
theorem or_at64 {o x r : Nat} (ho : o < 2 ^ r) : x * 2 ^ r ||| o = x * 2 ^ r + o := by
  have h := Nat.two_pow_add_eq_or_of_lt (i := r) (b := o) ho x
  rw [Nat.mul_comm x, ← h]
def Div64C (P : Program) (f : FuncId) : Prop := ∀ hi lo y, y < B64 → hi < y → lo < B64 →
  Ct P f [.int .u64 (hi : Int), .int .u64 (lo : Int), .int .u64 (y : Int)] (fun e => e = .ret (.tup [.int .u64 (((hi * 18446744073709551616 + lo) / y : Nat) : Int), .int .u64 (((hi * 18446744073709551616 + lo) % y : Nat) : Int)]))
theorem div64_end {N y s q1 q0 R1 R0 u d1 d0 Y : Nat} (hy : 0 < y) (hY : Y = y * 2 ^ s) (hN : N * 2 ^ s = u * 18446744073709551616 + d1 * 4294967296 + d0) (h1 : u * 4294967296 + d1 = q1 * Y + R1) (h0 : R1 * 4294967296 + d0 = q0 * Y + R0) (hR : R0 < Y) :
    q1 * 4294967296 + q0 = N / y ∧ R0 / 2 ^ s = N % y := by
  have key : u * 18446744073709551616 + d1 * 4294967296 + d0 = q1 * Y * 4294967296 + q0 * Y + R0 := by
    clear hN hY hR hy
    generalize q1 * Y = a at *
    generalize q0 * Y = b at *
    have e1 : u * 18446744073709551616 + d1 * 4294967296 = a * 4294967296 + R1 * 4294967296 := by rw [← Nat.add_mul, ← h1, Nat.add_mul, Nat.mul_assoc]
    rw [e1, Nat.add_assoc, h0, Nat.add_assoc]
  have hp : 0 < 2 ^ s := Nat.two_pow_pos s
  have e : N * 2 ^ s = (q1 * 4294967296 + q0) * y * 2 ^ s + R0 := by
    rw [hN]
    have : (q1 * 4294967296 + q0) * y * 2 ^ s = q1 * Y * 4294967296 + q0 * Y := by rw [hY]; generalize 2 ^ s = p; grind
    rw [this, key]
  have hdv : R0 = R0 / 2 ^ s * 2 ^ s := by
    have : 2 ^ s ∣ R0 := by
      have h2 : 2 ^ s ∣ (q1 * 4294967296 + q0) * y * 2 ^ s + R0 := ⟨N, by rw [← e, Nat.mul_comm]⟩
      exact (Nat.dvd_add_right (Nat.dvd_mul_left _ _)).1 h2
    exact (Nat.div_mul_cancel this).symm
  have e2 : N = (q1 * 4294967296 + q0) * y + R0 / 2 ^ s := by
    refine Nat.eq_of_mul_eq_mul_right hp ?_
    rw [Nat.add_mul, ← hdv]; exact e
  have hlt : R0 / 2 ^ s < y := by rw [Nat.div_lt_iff_lt_mul hp, ← hY]; exact hR
  constructor
  · rw [e2, Nat.mul_comm _ y, Nat.mul_add_div hy, Nat.div_eq_of_lt hlt, Nat.add_zero]
  · rw [e2, Nat.mul_comm _ y, Nat.mul_add_mod, Nat.mod_eq_of_lt hlt]
theorem wrap_rest {u d q Y R : Nat} (h : u * 4294967296 + d = q * Y + R) (hR : R < 18446744073709551616) :
    IntKind.u64.wrap (IntKind.u64.wrap (IntKind.u64.wrap ((u : Int) * 4294967296) + (d : Int)) - IntKind.u64.wrap ((q : Int) * (Y : Int))) = (R : Int) := by
  have e : (q : Int) * (Y : Int) = ((q * Y : Nat) : Int) := by simp
  rw [e, wrap_u rfl, wrap_u rfl, wrap_u rfl, wrap_u rfl]
  show ((((u : Int) * 4294967296) % 18446744073709551616 + (d : Int)) % 18446744073709551616 - ((q * Y : Nat) : Int) % 18446744073709551616) % 18446744073709551616 = _
  omega
def t_div64 (lz : FuncId) : T :=
 .node (.op (.bin .eql) [.v 2, .c (.int .u64 0)]) <|
 .br (.v 3) (
 .fail) (
 .node (.op (.bin .leq) [.v 2, .v 0]) <|
 .br (.v 4) (
 .fail) (
 .node (.op (.bin .eql) [.v 0, .c (.int .u64 0)]) <|
 .br (.v 5) (
 .node (.op (.bin .quo) [.v 1, .v 2]) <|
 .node (.op (.bin .rem) [.v 1, .v 2]) <|
 .node (.op .mktup [.v 6, .v 7]) <|
 .ret (.v 8)) (
 .node (.call lz [.v 2] true) <|
 .node (.op (.cvt .u64) [.v 6]) <|
 .node (.op (.bin .shl) [.v 2, .v 7]) <|
 .node (.op (.bin .shr) [.v 8, .c (.int .u64 32)]) <|
 .node (.op (.bin .and) [.v 8, .c (.int .u64 4294967295)]) <|
 .node (.op (.bin .shl) [.v 0, .v 7]) <|
 .node (.op (.bin .sub) [.c (.int .u64 64), .v 7]) <|
 .node (.op (.bin .shr) [.v 1, .v 12]) <|
 .node (.op (.bin .or) [.v 11, .v 13]) <|
 .node (.op (.bin .shl) [.v 1, .v 7]) <|
 .node (.op (.bin .shr) [.v 15, .c (.int .u64 32)]) <|
 .node (.op (.bin .and) [.v 15, .c (.int .u64 4294967295)]) <|
 .node (.op (.bin .quo) [.v 14, .v 9]) <|
 .node (.op (.bin .mul) [.v 18, .v 9]) <|
 .node (.op (.bin .sub) [.v 14, .v 19]) <|
 .loop [.v 18, .v 20] [true, true] <|
 .node (.op (.bin .geq) [.v 21, .c (.int .u64 4294967296)]) <|
 .br (.v 23) (
 .node (.op (.bin .sub) [.v 21, .c (.int .u64 1)]) <|
 .node (.op (.bin .add) [.v 22, .v 9]) <|
 .node (.op (.bin .geq) [.v 25, .c (.int .u64 4294967296)]) <|
 .br (.v 26) (
 .node (.op (.bin .mul) [.v 14, .c (.int .u64 4294967296)]) <|
 .node (.op (.bin .add) [.v 27, .v 16]) <|
 .node (.op (.bin .mul) [.v 24, .v 8]) <|
 .node (.op (.bin .sub) [.v 28, .v 29]) <|
 .node (.op (.bin .quo) [.v 30, .v 9]) <|
 .node (.op (.bin .mul) [.v 31, .v 9]) <|
 .node (.op (.bin .sub) [.v 30, .v 32]) <|
 .loop [.v 31, .v 33] [true, true] <|
 .node (.op (.bin .geq) [.v 34, .c (.int .u64 4294967296)]) <|
 .br (.v 36) (
 .node (.op (.bin .sub) [.v 34, .c (.int .u64 1)]) <|
 .node (.op (.bin .add) [.v 35, .v 9]) <|
 .node (.op (.bin .geq) [.v 38, .c (.int .u64 4294967296)]) <|
 .br (.v 39) (
 .node (.op (.bin .mul) [.v 24, .c (.int .u64 4294967296)]) <|
 .node (.op (.bin .add) [.v 40, .v 37]) <|
 .node (.op (.bin .mul) [.v 30, .c (.int .u64 4294967296)]) <|
 .node (.op (.bin .add) [.v 42, .v 17]) <|
 .node (.op (.bin .mul) [.v 37, .v 8]) <|
 .node (.op (.bin .sub) [.v 43, .v 44]) <|
 .node (.op (.bin .shr) [.v 45, .v 7]) <|
 .node (.op .mktup [.v 41, .v 46]) <|
 .ret (.v 47)) (
 .back 0 [.v 37, .v 38])) (
 .node (.op (.bin .mul) [.v 34, .v 10]) <|
 .node (.op (.bin .mul) [.c (.int .u64 4294967296), .v 35]) <|
 .node (.op (.bin .add) [.v 38, .v 17]) <|
 .node (.op (.bin .gtr) [.v 37, .v 39]) <|
 .br (.v 40) (
 .node (.op (.bin .sub) [.v 34, .c (.int .u64 1)]) <|
 .node (.op (.bin .add) [.v 35, .v 9]) <|
 .node (.op (.bin .geq) [.v 42, .c (.int .u64 4294967296)]) <|
 .br (.v 43) (
 .node (.op (.bin .mul) [.v 24, .c (.int .u64 4294967296)]) <|
 .node (.op (.bin .add) [.v 44, .v 41]) <|
 .node (.op (.bin .mul) [.v 30, .c (.int .u64 4294967296)]) <|
 .node (.op (.bin .add) [.v 46, .v 17]) <|
 .node (.op (.bin .mul) [.v 41, .v 8]) <|
 .node (.op (.bin .sub) [.v 47, .v 48]) <|
 .node (.op (.bin .shr) [.v 49, .v 7]) <|
 .node (.op .mktup [.v 45, .v 50]) <|
 .ret (.v 51)) (
 .back 0 [.v 41, .v 42])) (
 .node (.op (.bin .mul) [.v 24, .c (.int .u64 4294967296)]) <|
 .node (.op (.bin .add) [.v 41, .v 34]) <|
 .node (.op (.bin .mul) [.v 30, .c (.int .u64 4294967296)]) <|
 .node (.op (.bin .add) [.v 43, .v 17]) <|
 .node (.op (.bin .mul) [.v 34, .v 8]) <|
 .node (.op (.bin .sub) [.v 44, .v 45]) <|
 .node (.op (.bin .shr) [.v 46, .v 7]) <|
 .node (.op .mktup [.v 42, .v 47]) <|
 .ret (.v 48)))) (
 .back 0 [.v 24, .v 25])) (
 .node (.op (.bin .mul) [.v 21, .v 10]) <|
 .node (.op (.bin .mul) [.c (.int .u64 4294967296), .v 22]) <|
 .node (.op (.bin .add) [.v 25, .v 16]) <|
 .node (.op (.bin .gtr) [.v 24, .v 26]) <|
 .br (.v 27) (
 .node (.op (.bin .sub) [.v 21, .c (.int .u64 1)]) <|
 .node (.op (.bin .add) [.v 22, .v 9]) <|
 .node (.op (.bin .geq) [.v 29, .c (.int .u64 4294967296)]) <|
 .br (.v 30) (
 .node (.op (.bin .mul) [.v 14, .c (.int .u64 4294967296)]) <|
 .node (.op (.bin .add) [.v 31, .v 16]) <|
 .node (.op (.bin .mul) [.v 28, .v 8]) <|
 .node (.op (.bin .sub) [.v 32, .v 33]) <|
 .node (.op (.bin .quo) [.v 34, .v 9]) <|
 .node (.op (.bin .mul) [.v 35, .v 9]) <|
 .node (.op (.bin .sub) [.v 34, .v 36]) <|
 .loop [.v 35, .v 37] [true, true] <|
 .node (.op (.bin .geq) [.v 38, .c (.int .u64 4294967296)]) <|
 .br (.v 40) (
 .node (.op (.bin .sub) [.v 38, .c (.int .u64 1)]) <|
 .node (.op (.bin .add) [.v 39, .v 9]) <|
 .node (.op (.bin .geq) [.v 42, .c (.int .u64 4294967296)]) <|
 .br (.v 43) (
 .node (.op (.bin .mul) [.v 28, .c (.int .u64 4294967296)]) <|
 .node (.op (.bin .add) [.v 44, .v 41]) <|
 .node (.op (.bin .mul) [.v 34, .c (.int .u64 4294967296)]) <|
 .node (.op (.bin .add) [.v 46, .v 17]) <|
 .node (.op (.bin .mul) [.v 41, .v 8]) <|
 .node (.op (.bin .sub) [.v 47, .v 48]) <|
 .node (.op (.bin .shr) [.v 49, .v 7]) <|
 .node (.op .mktup [.v 45, .v 50]) <|
 .ret (.v 51)) (
 .back 0 [.v 41, .v 42])) (
 .node (.op (.bin .mul) [.v 38, .v 10]) <|
 .node (.op (.bin .mul) [.c (.int .u64 4294967296), .v 39]) <|
 .node (.op (.bin .add) [.v 42, .v 17]) <|
 .node (.op (.bin .gtr) [.v 41, .v 43]) <|
 .br (.v 44) (
 .node (.op (.bin .sub) [.v 38, .c (.int .u64 1)]) <|
 .node (.op (.bin .add) [.v 39, .v 9]) <|
 .node (.op (.bin .geq) [.v 46, .c (.int .u64 4294967296)]) <|
 .br (.v 47) (
 .node (.op (.bin .mul) [.v 28, .c (.int .u64 4294967296)]) <|
 .node (.op (.bin .add) [.v 48, .v 45]) <|
 .node (.op (.bin .mul) [.v 34, .c (.int .u64 4294967296)]) <|
 .node (.op (.bin .add) [.v 50, .v 17]) <|
 .node (.op (.bin .mul) [.v 45, .v 8]) <|
 .node (.op (.bin .sub) [.v 51, .v 52]) <|
 .node (.op (.bin .shr) [.v 53, .v 7]) <|
 .node (.op .mktup [.v 49, .v 54]) <|
 .ret (.v 55)) (
 .back 0 [.v 45, .v 46])) (
 .node (.op (.bin .mul) [.v 28, .c (.int .u64 4294967296)]) <|
 .node (.op (.bin .add) [.v 45, .v 38]) <|
 .node (.op (.bin .mul) [.v 34, .c (.int .u64 4294967296)]) <|
 .node (.op (.bin .add) [.v 47, .v 17]) <|
 .node (.op (.bin .mul) [.v 38, .v 8]) <|
 .node (.op (.bin .sub) [.v 48, .v 49]) <|
 .node (.op (.bin .shr) [.v 50, .v 7]) <|
 .node (.op .mktup [.v 46, .v 51]) <|
 .ret (.v 52)))) (
 .back 0 [.v 28, .v 29])) (
 .node (.op (.bin .mul) [.v 14, .c (.int .u64 4294967296)]) <|
 .node (.op (.bin .add) [.v 28, .v 16]) <|
 .node (.op (.bin .mul) [.v 21, .v 8]) <|
 .node (.op (.bin .sub) [.v 29, .v 30]) <|
 .node (.op (.bin .quo) [.v 31, .v 9]) <|
 .node (.op (.bin .mul) [.v 32, .v 9]) <|
 .node (.op (.bin .sub) [.v 31, .v 33]) <|
 .loop [.v 32, .v 34] [true, true] <|
 .node (.op (.bin .geq) [.v 35, .c (.int .u64 4294967296)]) <|
 .br (.v 37) (
 .node (.op (.bin .sub) [.v 35, .c (.int .u64 1)]) <|
 .node (.op (.bin .add) [.v 36, .v 9]) <|
 .node (.op (.bin .geq) [.v 39, .c (.int .u64 4294967296)]) <|
 .br (.v 40) (
 .node (.op (.bin .mul) [.v 21, .c (.int .u64 4294967296)]) <|
 .node (.op (.bin .add) [.v 41, .v 38]) <|
 .node (.op (.bin .mul) [.v 31, .c (.int .u64 4294967296)]) <|
 .node (.op (.bin .add) [.v 43, .v 17]) <|
 .node (.op (.bin .mul) [.v 38, .v 8]) <|
 .node (.op (.bin .sub) [.v 44, .v 45]) <|
 .node (.op (.bin .shr) [.v 46, .v 7]) <|
 .node (.op .mktup [.v 42, .v 47]) <|
 .ret (.v 48)) (
 .back 0 [.v 38, .v 39])) (
 .node (.op (.bin .mul) [.v 35, .v 10]) <|
 .node (.op (.bin .mul) [.c (.int .u64 4294967296), .v 36]) <|
 .node (.op (.bin .add) [.v 39, .v 17]) <|
 .node (.op (.bin .gtr) [.v 38, .v 40]) <|
 .br (.v 41) (
 .node (.op (.bin .sub) [.v 35, .c (.int .u64 1)]) <|
 .node (.op (.bin .add) [.v 36, .v 9]) <|
 .node (.op (.bin .geq) [.v 43, .c (.int .u64 4294967296)]) <|
 .br (.v 44) (
 .node (.op (.bin .mul) [.v 21, .c (.int .u64 4294967296)]) <|
 .node (.op (.bin .add) [.v 45, .v 42]) <|
 .node (.op (.bin .mul) [.v 31, .c (.int .u64 4294967296)]) <|
 .node (.op (.bin .add) [.v 47, .v 17]) <|
 .node (.op (.bin .mul) [.v 42, .v 8]) <|
 .node (.op (.bin .sub) [.v 48, .v 49]) <|
 .node (.op (.bin .shr) [.v 50, .v 7]) <|
 .node (.op .mktup [.v 46, .v 51]) <|
 .ret (.v 52)) (
 .back 0 [.v 42, .v 43])) (
 .node (.op (.bin .mul) [.v 21, .c (.int .u64 4294967296)]) <|
 .node (.op (.bin .add) [.v 42, .v 35]) <|
 .node (.op (.bin .mul) [.v 31, .c (.int .u64 4294967296)]) <|
 .node (.op (.bin .add) [.v 44, .v 17]) <|
 .node (.op (.bin .mul) [.v 35, .v 8]) <|
 .node (.op (.bin .sub) [.v 45, .v 46]) <|
 .node (.op (.bin .shr) [.v 47, .v 7]) <|
 .node (.op .mktup [.v 43, .v 48]) <|
 .ret (.v 49))))))))
theorem div64_den {lz : FuncId} {hi lo y : Nat} (hz : Lz64C P lz) (hy : y < B64) (hh : hi < y) (hl : lo < B64) :
    D P (fun e => e = .ret (.tup [.int .u64 (((hi * 18446744073709551616 + lo) / y : Nat) : Int), .int .u64 (((hi * 18446744073709551616 + lo) % y : Nat) : Int)])) [] 3 [.int .u64 (y : Int), .int .u64 (lo : Int), .int .u64 (hi : Int)] (t_div64 lz) := by
  have hy' : y < 18446744073709551616 := hy
  have hl' : lo < 18446744073709551616 := hl
  refine d_op ev_eql (d_if rfl (fun h => absurd h (by omega)) (fun _ => d_op ev_leq (d_if rfl (fun h => absurd h (by omega)) (fun _ => d_op ev_eql (d_if rfl (fun h => ?_) (fun h => ?_))))))
  · have h0 : hi = 0 := by omega
    subst h0
    rw [Nat.zero_mul, Nat.zero_add]
    refine d_op (ev_quo (by omega) (by omega) (by constructor <;> omega)) (d_op (ev_rem (by omega) (by omega)) (d_op ev_mktup (d_ret ?_)))
    show AEnd.ret (.tup [.int .u64 ((lo : Int) / (y : Int)), .int .u64 ((lo : Int) % (y : Int))]) = _
    simp
  · obtain ⟨b1, b2, b3⟩ := blen_spec (x := y) (by omega)
    have b4 := blen_le.2 (show y < 2 ^ 64 from hy)
    refine d_call (hz y hy) (fun _ => rfl) ?_
    obtain ⟨s, es⟩ : ∃ s, s = 64 - blen y := ⟨_, rfl⟩
    rw [← es]
    have hs : s < 64 := by omega
    have p64 : 2 ^ 64 = 2 ^ (64 - s) * 2 ^ s := by rw [← Nat.pow_add]; congr 1; omega
    have hYlt : y * 2 ^ s < 18446744073709551616 := by
      have h1 : y * 2 ^ s < 2 ^ blen y * 2 ^ s := Nat.mul_lt_mul_of_pos_right b2 (Nat.two_pow_pos s)
      rw [← Nat.pow_add, show blen y + s = 64 by omega] at h1; exact h1
    have hYge : 9223372036854775808 ≤ y * 2 ^ s := by
      have h1 : 2 ^ (blen y - 1) * 2 ^ s ≤ y * 2 ^ s := Nat.mul_le_mul_right _ b1
      rw [← Nat.pow_add, show blen y - 1 + s = 63 by omega] at h1; exact h1
    have hhs : hi * 2 ^ s < y * 2 ^ s := Nat.mul_lt_mul_of_pos_right hh (Nat.two_pow_pos s)
    have hps : 2 ^ s < 18446744073709551616 := Nat.pow_lt_pow_right (by decide) hs
    have hlo1 : lo / 2 ^ (64 - s) < 2 ^ s := by
      rw [Nat.div_lt_iff_lt_mul (Nat.two_pow_pos _), Nat.mul_comm, ← p64]; exact hl
    have hwy : IntKind.u64.wrap ((y * 2 ^ s : Nat) : Int) = ((y * 2 ^ s : Nat) : Int) := wrap_in (by constructor <;> omega)
    have hwh : IntKind.u64.wrap ((hi * 2 ^ s : Nat) : Int) = ((hi * 2 ^ s : Nat) : Int) := wrap_in (by constructor <;> omega)
    have hwl : IntKind.u64.wrap ((lo * 2 ^ s : Nat) : Int) = ((lo * 2 ^ s % 18446744073709551616 : Nat) : Int) := by rw [wrap_u rfl]; rfl
    have hlo2 : lo * 2 ^ s / 18446744073709551616 = lo / 2 ^ (64 - s) := by
      have : (18446744073709551616 : Nat) = 2 ^ (64 - s) * 2 ^ s := p64
      rw [this, Nat.mul_div_mul_right _ _ (Nat.two_pow_pos s)]
    have hmul : hi * 2 ^ s + lo / 2 ^ (64 - s) < y * 2 ^ s := by
      have : (hi + 1) * 2 ^ s ≤ y * 2 ^ s := Nat.mul_le_mul_right _ hh
      rw [Nat.add_mul, Nat.one_mul] at this
      omega
    obtain ⟨Y, eY⟩ : ∃ Y, Y = y * 2 ^ s := ⟨_, rfl⟩
    obtain ⟨u, eu⟩ : ∃ u, u = hi * 2 ^ s + lo / 2 ^ (64 - s) := ⟨_, rfl⟩
    obtain ⟨w, ew⟩ : ∃ w, w = lo * 2 ^ s % 18446744073709551616 := ⟨_, rfl⟩
    have hw : w < 18446744073709551616 := by omega
    have hN : (hi * 18446744073709551616 + lo) * 2 ^ s = u * 18446744073709551616 + w := by
      have h1 := Nat.div_add_mod (lo * 2 ^ s) 18446744073709551616
      rw [hlo2, ← ew] at h1
      have h2 : hi * 18446744073709551616 * 2 ^ s = hi * 2 ^ s * 18446744073709551616 := by grind
      rw [Nat.add_mul, h2, eu]; omega
    refine d_op (ev_cvt (by constructor <;> omega)) (d_op (ev_shl (y := s) rfl (by show s ≤ 64; omega) rfl) ?_)
    rw [hwy, ← eY]
    rw [← eY] at hYlt hYge hmul
    rw [← eu] at hmul
    obtain ⟨v1, ev1⟩ : ∃ v1, v1 = Y / 4294967296 := ⟨_, rfl⟩
    obtain ⟨v0, ev0⟩ : ∃ v0, v0 = Y % 4294967296 := ⟨_, rfl⟩
    obtain ⟨d1, ed1⟩ : ∃ d1, d1 = w / 4294967296 := ⟨_, rfl⟩
    obtain ⟨d0, ed0⟩ : ∃ d0, d0 = w % 4294967296 := ⟨_, rfl⟩
    refine d_op (ev_shr (y := 32) rfl (by decide) ev1.symm) (d_op (ev_and (by constructor <;> omega) (y := 4294967295) (by decide)) ?_)
    rw [Nat.and_two_pow_sub_one_eq_mod Y 32, show Y % 2 ^ 32 = v0 from ev0.symm]
    refine d_op (ev_shl (y := s) rfl (by show s ≤ 64; omega) rfl) ?_
    rw [hwh]
    refine d_op (ev_sub (by constructor <;> omega)) (d_op (ev_shr (y := 64 - s) (by omega) (by show 64 - s ≤ 64; omega) rfl) (d_op (ev_or (by constructor <;> omega) (by constructor <;> omega)) ?_))
    rw [or_at64 hlo1, ← eu]
    refine d_op (ev_shl (y := s) rfl (by show s ≤ 64; omega) rfl) ?_
    rw [hwl, ← ew]
    refine d_op (ev_shr (y := 32) rfl (by decide) ed1.symm) (d_op (ev_and (by constructor <;> omega) (y := 4294967295) (by decide)) ?_)
    rw [Nat.and_two_pow_sub_one_eq_mod w 32, show w % 2 ^ 32 = d0 from ed0.symm]
    have hv1 : v1 < 4294967296 := by omega
    have hv1' : 2147483648 ≤ v1 := by omega
    have hv0 : v0 < 4294967296 := by omega
    have hd1 : d1 < 4294967296 := by omega
    have hd0 : d0 < 4294967296 := by omega
    have hYv : Y = v1 * 4294967296 + v0 := by omega
    have hw2 : u * 18446744073709551616 + w = u * 18446744073709551616 + d1 * 4294967296 + d0 := by omega
    rw [hw2] at hN
    obtain ⟨Q1, eQ1⟩ : ∃ Q1, Q1 = (u * 4294967296 + d1) / (v1 * 4294967296 + v0) := ⟨_, rfl⟩
    obtain ⟨R1, eR1⟩ : ∃ R1, R1 = (u * 4294967296 + d1) % (v1 * 4294967296 + v0) := ⟨_, rfl⟩
    have hQ1 : Q1 < 4294967296 := by rw [eQ1]; exact kn_small (by omega) hd1
    have hR1 : R1 < Y := by rw [eR1, hYv]; exact Nat.mod_lt _ (by omega)
    have hdm1 : u * 4294967296 + d1 = Q1 * Y + R1 := by rw [eQ1, eR1, hYv, Nat.div_add_mod']
    obtain ⟨Q0, eQ0⟩ : ∃ Q0, Q0 = (R1 * 4294967296 + d0) / (v1 * 4294967296 + v0) := ⟨_, rfl⟩
    obtain ⟨R0, eR0⟩ : ∃ R0, R0 = (R1 * 4294967296 + d0) % (v1 * 4294967296 + v0) := ⟨_, rfl⟩
    have hQ0 : Q0 < 4294967296 := by rw [eQ0]; exact kn_small (by omega) hd0
    have hR0 : R0 < Y := by rw [eR0, hYv]; exact Nat.mod_lt _ (by omega)
    have hdm0 : R1 * 4294967296 + d0 = Q0 * Y + R0 := by rw [eQ0, eR0, hYv, Nat.div_add_mod']
    obtain ⟨fq, fr⟩ := div64_end (by omega) eY hN hdm1 hdm0 hR0
    rw [← fq, ← fr]
    have hun1 := wrap_rest hdm1 (by omega)
    have hun0 := wrap_rest hdm0 (by omega)
    have c : ∀ a b : Nat, (a : Int) * (b : Int) = ((a * b : Nat) : Int) := fun a b => by simp
    have cd : ∀ a b : Nat, (a : Int) / (b : Int) = ((a / b : Nat) : Int) := fun a b => by simp
    have hqv : u / v1 * v1 ≤ u := Nat.div_mul_le_self _ _
    have hqv1 : R1 / v1 * v1 ≤ R1 := Nat.div_mul_le_self _ _
    have hqq : u / v1 ≤ u := Nat.div_le_self _ _
    have hqq1 : R1 / v1 ≤ R1 := Nat.div_le_self _ _
    refine d_op (ev_quo (by omega) (by omega) (by constructor <;> omega)) ?_
    rw [cd]
    refine d_op (ev_mul (by rw [c]; constructor <;> omega)) ?_
    rw [c]
    refine d_op (ev_sub (by constructor <;> omega)) ?_
    have es1 : (u : Int) - ((u / v1 * v1 : Nat) : Int) = ((u % v1 : Nat) : Int) := by have := Nat.div_add_mod' u v1; omega
    rw [es1]
    have hrm : u % v1 < v1 := Nat.mod_lt _ (by omega)
    have hup : ∀ {u' d' q' : Nat}, (u' * 4294967296 + d') / (v1 * 4294967296 + v0) ≤ u' / v1 ∨ True := fun {_ _ _} => .inr trivial
    have hini : Q1 ≤ u / v1 := by
      rw [Nat.le_div_iff_mul_le (by omega)]
      have h1 : Q1 * Y ≤ u * 4294967296 + d1 := by omega
      have h2 : Q1 * (v1 * 4294967296) ≤ Q1 * Y := Nat.mul_le_mul_left _ (by omega)
      rw [← Nat.mul_assoc] at h2
      omega
    have hini0 : Q0 ≤ R1 / v1 := by
      rw [Nat.le_div_iff_mul_le (by omega)]
      have h1 : Q0 * Y ≤ R1 * 4294967296 + d0 := by omega
      have h2 : Q0 * (v1 * 4294967296) ≤ Q0 * Y := Nat.mul_le_mul_left _ (by omega)
      rw [← Nat.mul_assoc] at h2
      omega
    refine d_while (fun s : Nat × Nat => [.int .u64 (s.1 : Int), .int .u64 (s.2 : Int)]) (fun s => s.1 * v1 + s.2 = u ∧ Q1 ≤ s.1 ∧ s.2 < 4294967296) (fun s => s.1) (u / v1, u % v1) ⟨Nat.div_add_mod' u v1, hini, by show u % v1 < 4294967296; omega⟩ rfl ?_
    rintro ⟨q, r⟩ ⟨i1, i2, i3⟩
    dsimp only at i1 i2 i3 ⊢
    have hqu : q ≤ u := by
      have : q * 1 ≤ q * v1 := Nat.mul_le_mul_left _ (by omega)
      omega
    refine d_op ev_geq (d_if rfl (fun h1 => ?_) (fun h1 => ?_))
    · obtain ⟨q', rfl⟩ : ∃ q', q = q' + 1 := ⟨q - 1, by omega⟩
      rw [Nat.succ_mul] at i1
      refine d_op (ev_sub (by constructor <;> omega)) (d_op (ev_add (by constructor <;> omega)) ?_)
      have e1 : ((q' + 1 : Nat) : Int) - 1 = (q' : Int) := by omega
      have e2 : (r : Int) + (v1 : Int) = ((r + v1 : Nat) : Int) := by omega
      rw [e1, e2]
      refine d_op ev_geq (d_if rfl (fun h2 => ?_) (fun h2 => ?_))
      · have hb := kn_break (q := q') (r := r + v1) (v1 := v1) (v0 := v0) (u := u) (by omega) (by omega) hv0 (by omega)
        have hk := kn_ok (d := d1) (r := r + v1) hb hv0 (by omega)
        have hx := kn_exit (u := u) (d := d1) (v1 := v1) (v0 := v0) (q := q') (r := r + v1) (by omega) hk (by omega)
        rw [← eQ1] at hx
        obtain rfl : q' = Q1 := by omega
        refine d_op ev_mulw (d_op ev_addw (d_op ev_mulw (d_op ev_subw ?_)))
        rw [hun1]
        refine d_op (ev_quo (by omega) (by omega) (by constructor <;> omega)) ?_
        rw [cd]
        refine d_op (ev_mul (by rw [c]; constructor <;> omega)) ?_
        rw [c (R1 / v1)]
        refine d_op (ev_sub (by constructor <;> omega)) ?_
        have es2 : (R1 : Int) - ((R1 / v1 * v1 : Nat) : Int) = ((R1 % v1 : Nat) : Int) := by have := Nat.div_add_mod' R1 v1; omega
        rw [es2]
        have hrm2 : R1 % v1 < v1 := Nat.mod_lt _ (by omega)
        refine d_while (fun s : Nat × Nat => [.int .u64 (s.1 : Int), .int .u64 (s.2 : Int)]) (fun s => s.1 * v1 + s.2 = R1 ∧ Q0 ≤ s.1 ∧ s.2 < 4294967296) (fun s => s.1) (R1 / v1, R1 % v1) ⟨Nat.div_add_mod' R1 v1, hini0, by show R1 % v1 < 4294967296; omega⟩ rfl ?_
        rintro ⟨p, t⟩ ⟨j1, j2, j3⟩
        dsimp only at j1 j2 j3 ⊢
        have hpu : p ≤ R1 := by
          have : p * 1 ≤ p * v1 := Nat.mul_le_mul_left _ (by omega)
          omega
        refine d_op ev_geq (d_if rfl (fun g1 => ?_) (fun g1 => ?_))
        · obtain ⟨p', rfl⟩ : ∃ p', p = p' + 1 := ⟨p - 1, by omega⟩
          rw [Nat.succ_mul] at j1
          refine d_op (ev_sub (by constructor <;> omega)) (d_op (ev_add (by constructor <;> omega)) ?_)
          have e3 : ((p' + 1 : Nat) : Int) - 1 = (p' : Int) := by omega
          have e4 : (t : Int) + (v1 : Int) = ((t + v1 : Nat) : Int) := by omega
          rw [e3, e4]
          refine d_op ev_geq (d_if rfl (fun g2 => ?_) (fun g2 => ?_))
          · have hb2 := kn_break (q := p') (r := t + v1) (v1 := v1) (v0 := v0) (u := R1) (by omega) (by omega) hv0 (by omega)
            have hk2 := kn_ok (d := d0) (r := t + v1) hb2 hv0 (by omega)
            have hx2 := kn_exit (u := R1) (d := d0) (v1 := v1) (v0 := v0) (q := p') (r := t + v1) (by omega) hk2 (by omega)
            rw [← eQ0] at hx2
            obtain rfl : p' = Q0 := by omega
            refine d_op (ev_mul (by constructor <;> omega)) (d_op (ev_add (by constructor <;> omega)) (d_op ev_mulw (d_op ev_addw (d_op ev_mulw (d_op ev_subw ?_)))))
            rw [hun0]
            exact d_op (ev_shr (y := s) rfl (by show s ≤ 64; omega) rfl) (d_op ev_mktup (d_ret (by show AEnd.ret (.tup [.int .u64 _, .int .u64 _]) = _; congr 5)))
          · exact d_back rfl ⟨(p', t + v1), rfl, ⟨by show p' * v1 + (t + v1) = R1; omega, by show Q0 ≤ p'; omega, by show t + v1 < 4294967296; omega⟩, by show p' < p' + 1; omega⟩
        · have hp32 : p < 4294967296 := by omega
          have hpb2 : p * v0 ≤ 4294967295 * 4294967295 := Nat.mul_le_mul (by omega) (by omega)
          refine d_op (ev_mul (by rw [c]; constructor <;> omega)) ?_
          rw [c p]
          refine d_op (ev_mul (by constructor <;> omega)) (d_op (ev_add (by constructor <;> omega)) (d_op ev_gtr (d_if rfl (fun g2 => ?_) (fun g2 => ?_))))
          · have hd := kn_down (d := d0) j1 (by omega) (v0 := v0) (by omega)
            rw [← eQ0] at hd
            obtain ⟨p', rfl⟩ : ∃ p', p = p' + 1 := ⟨p - 1, by omega⟩
            rw [Nat.succ_mul] at j1
            refine d_op (ev_sub (by constructor <;> omega)) (d_op (ev_add (by constructor <;> omega)) ?_)
            have e3 : ((p' + 1 : Nat) : Int) - 1 = (p' : Int) := by omega
            have e4 : (t : Int) + (v1 : Int) = ((t + v1 : Nat) : Int) := by omega
            rw [e3, e4]
            refine d_op ev_geq (d_if rfl (fun g3 => ?_) (fun g3 => ?_))
            · have hk2 := kn_ok (d := d0) (r := t + v1) (show p' < 4294967296 by omega) hv0 (by omega)
              have hx2 := kn_exit (u := R1) (d := d0) (v1 := v1) (v0 := v0) (q := p') (r := t + v1) (by omega) hk2 (by omega)
              rw [← eQ0] at hx2
              obtain rfl : p' = Q0 := by omega
              refine d_op (ev_mul (by constructor <;> omega)) (d_op (ev_add (by constructor <;> omega)) (d_op ev_mulw (d_op ev_addw (d_op ev_mulw (d_op ev_subw ?_)))))
              rw [hun0]
              exact d_op (ev_shr (y := s) rfl (by show s ≤ 64; omega) rfl) (d_op ev_mktup (d_ret (by show AEnd.ret (.tup [.int .u64 _, .int .u64 _]) = _; congr 5)))
            · exact d_back rfl ⟨(p', t + v1), rfl, ⟨by show p' * v1 + (t + v1) = R1; omega, by show Q0 ≤ p'; omega, by show t + v1 < 4294967296; omega⟩, by show p' < p' + 1; omega⟩
          · have hx2 := kn_exit (u := R1) (d := d0) (v1 := v1) (v0 := v0) (q := p) (r := t) j1 (by omega) (by omega)
            rw [← eQ0] at hx2
            obtain rfl : p = Q0 := by omega
            refine d_op (ev_mul (by constructor <;> omega)) (d_op (ev_add (by constructor <;> omega)) (d_op ev_mulw (d_op ev_addw (d_op ev_mulw (d_op ev_subw ?_)))))
            rw [hun0]
            exact d_op (ev_shr (y := s) rfl (by show s ≤ 64; omega) rfl) (d_op ev_mktup (d_ret (by show AEnd.ret (.tup [.int .u64 _, .int .u64 _]) = _; congr 5)))
      · exact d_back rfl ⟨(q', r + v1), rfl, ⟨by show q' * v1 + (r + v1) = u; omega, by show Q1 ≤ q'; omega, by show r + v1 < 4294967296; omega⟩, by show q' < q' + 1; omega⟩
    · have hq32 : q < 4294967296 := by omega
      have hpb : q * v0 ≤ 4294967295 * 4294967295 := Nat.mul_le_mul (by omega) (by omega)
      refine d_op (ev_mul (by rw [c]; constructor <;> omega)) ?_
      rw [c]
      refine d_op (ev_mul (by constructor <;> omega)) (d_op (ev_add (by constructor <;> omega)) (d_op ev_gtr (d_if rfl (fun h2 => ?_) (fun h2 => ?_))))
      · have hd := kn_down (d := d1) i1 (by omega) (v0 := v0) (by omega)
        rw [← eQ1] at hd
        obtain ⟨q', rfl⟩ : ∃ q', q = q' + 1 := ⟨q - 1, by omega⟩
        rw [Nat.succ_mul] at i1
        refine d_op (ev_sub (by constructor <;> omega)) (d_op (ev_add (by constructor <;> omega)) ?_)
        have e1 : ((q' + 1 : Nat) : Int) - 1 = (q' : Int) := by omega
        have e2 : (r : Int) + (v1 : Int) = ((r + v1 : Nat) : Int) := by omega
        rw [e1, e2]
        refine d_op ev_geq (d_if rfl (fun h3 => ?_) (fun h3 => ?_))
        · have hk := kn_ok (d := d1) (r := r + v1) (show q' < 4294967296 by omega) hv0 (by omega)
          have hx := kn_exit (u := u) (d := d1) (v1 := v1) (v0 := v0) (q := q') (r := r + v1) (by omega) hk (by omega)
          rw [← eQ1] at hx
          obtain rfl : q' = Q1 := by omega
          refine d_op ev_mulw (d_op ev_addw (d_op ev_mulw (d_op ev_subw ?_)))
          rw [hun1]
          refine d_op (ev_quo (by omega) (by omega) (by constructor <;> omega)) ?_
          rw [cd]
          refine d_op (ev_mul (by rw [c]; constructor <;> omega)) ?_
          rw [c (R1 / v1)]
          refine d_op (ev_sub (by constructor <;> omega)) ?_
          have es2 : (R1 : Int) - ((R1 / v1 * v1 : Nat) : Int) = ((R1 % v1 : Nat) : Int) := by have := Nat.div_add_mod' R1 v1; omega
          rw [es2]
          have hrm2 : R1 % v1 < v1 := Nat.mod_lt _ (by omega)
          refine d_while (fun s : Nat × Nat => [.int .u64 (s.1 : Int), .int .u64 (s.2 : Int)]) (fun s => s.1 * v1 + s.2 = R1 ∧ Q0 ≤ s.1 ∧ s.2 < 4294967296) (fun s => s.1) (R1 / v1, R1 % v1) ⟨Nat.div_add_mod' R1 v1, hini0, by show R1 % v1 < 4294967296; omega⟩ rfl ?_
          rintro ⟨p, t⟩ ⟨j1, j2, j3⟩
          dsimp only at j1 j2 j3 ⊢
          have hpu : p ≤ R1 := by
            have : p * 1 ≤ p * v1 := Nat.mul_le_mul_left _ (by omega)
            omega
          refine d_op ev_geq (d_if rfl (fun g1 => ?_) (fun g1 => ?_))
          · obtain ⟨p', rfl⟩ : ∃ p', p = p' + 1 := ⟨p - 1, by omega⟩
            rw [Nat.succ_mul] at j1
            refine d_op (ev_sub (by constructor <;> omega)) (d_op (ev_add (by constructor <;> omega)) ?_)
            have e3 : ((p' + 1 : Nat) : Int) - 1 = (p' : Int) := by omega
            have e4 : (t : Int) + (v1 : Int) = ((t + v1 : Nat) : Int) := by omega
            rw [e3, e4]
            refine d_op ev_geq (d_if rfl (fun g2 => ?_) (fun g2 => ?_))
            · have hb2 := kn_break (q := p') (r := t + v1) (v1 := v1) (v0 := v0) (u := R1) (by omega) (by omega) hv0 (by omega)
              have hk2 := kn_ok (d := d0) (r := t + v1) hb2 hv0 (by omega)
              have hx2 := kn_exit (u := R1) (d := d0) (v1 := v1) (v0 := v0) (q := p') (r := t + v1) (by omega) hk2 (by omega)
              rw [← eQ0] at hx2
              obtain rfl : p' = Q0 := by omega
              refine d_op (ev_mul (by constructor <;> omega)) (d_op (ev_add (by constructor <;> omega)) (d_op ev_mulw (d_op ev_addw (d_op ev_mulw (d_op ev_subw ?_)))))
              rw [hun0]
              exact d_op (ev_shr (y := s) rfl (by show s ≤ 64; omega) rfl) (d_op ev_mktup (d_ret (by show AEnd.ret (.tup [.int .u64 _, .int .u64 _]) = _; congr 5)))
            · exact d_back rfl ⟨(p', t + v1), rfl, ⟨by show p' * v1 + (t + v1) = R1; omega, by show Q0 ≤ p'; omega, by show t + v1 < 4294967296; omega⟩, by show p' < p' + 1; omega⟩
          · have hp32 : p < 4294967296 := by omega
            have hpb2 : p * v0 ≤ 4294967295 * 4294967295 := Nat.mul_le_mul (by omega) (by omega)
            refine d_op (ev_mul (by rw [c]; constructor <;> omega)) ?_
            rw [c p]
            refine d_op (ev_mul (by constructor <;> omega)) (d_op (ev_add (by constructor <;> omega)) (d_op ev_gtr (d_if rfl (fun g2 => ?_) (fun g2 => ?_))))
            · have hd := kn_down (d := d0) j1 (by omega) (v0 := v0) (by omega)
              rw [← eQ0] at hd
              obtain ⟨p', rfl⟩ : ∃ p', p = p' + 1 := ⟨p - 1, by omega⟩
              rw [Nat.succ_mul] at j1
              refine d_op (ev_sub (by constructor <;> omega)) (d_op (ev_add (by constructor <;> omega)) ?_)
              have e3 : ((p' + 1 : Nat) : Int) - 1 = (p' : Int) := by omega
              have e4 : (t : Int) + (v1 : Int) = ((t + v1 : Nat) : Int) := by omega
              rw [e3, e4]
              refine d_op ev_geq (d_if rfl (fun g3 => ?_) (fun g3 => ?_))
              · have hk2 := kn_ok (d := d0) (r := t + v1) (show p' < 4294967296 by omega) hv0 (by omega)
                have hx2 := kn_exit (u := R1) (d := d0) (v1 := v1) (v0 := v0) (q := p') (r := t + v1) (by omega) hk2 (by omega)
                rw [← eQ0] at hx2
                obtain rfl : p' = Q0 := by omega
                refine d_op (ev_mul (by constructor <;> omega)) (d_op (ev_add (by constructor <;> omega)) (d_op ev_mulw (d_op ev_addw (d_op ev_mulw (d_op ev_subw ?_)))))
                rw [hun0]
                exact d_op (ev_shr (y := s) rfl (by show s ≤ 64; omega) rfl) (d_op ev_mktup (d_ret (by show AEnd.ret (.tup [.int .u64 _, .int .u64 _]) = _; congr 5)))
              · exact d_back rfl ⟨(p', t + v1), rfl, ⟨by show p' * v1 + (t + v1) = R1; omega, by show Q0 ≤ p'; omega, by show t + v1 < 4294967296; omega⟩, by show p' < p' + 1; omega⟩
            · have hx2 := kn_exit (u := R1) (d := d0) (v1 := v1) (v0 := v0) (q := p) (r := t) j1 (by omega) (by omega)
              rw [← eQ0] at hx2
              obtain rfl : p = Q0 := by omega
              refine d_op (ev_mul (by constructor <;> omega)) (d_op (ev_add (by constructor <;> omega)) (d_op ev_mulw (d_op ev_addw (d_op ev_mulw (d_op ev_subw ?_)))))
              rw [hun0]
              exact d_op (ev_shr (y := s) rfl (by show s ≤ 64; omega) rfl) (d_op ev_mktup (d_ret (by show AEnd.ret (.tup [.int .u64 _, .int .u64 _]) = _; congr 5)))
        · exact d_back rfl ⟨(q', r + v1), rfl, ⟨by show q' * v1 + (r + v1) = u; omega, by show Q1 ≤ q'; omega, by show r + v1 < 4294967296; omega⟩, by show q' < q' + 1; omega⟩
      · have hx := kn_exit (u := u) (d := d1) (v1 := v1) (v0 := v0) (q := q) (r := r) i1 (by omega) (by omega)
        rw [← eQ1] at hx
        obtain rfl : q = Q1 := by omega
        refine d_op ev_mulw (d_op ev_addw (d_op ev_mulw (d_op ev_subw ?_)))
        rw [hun1]
        refine d_op (ev_quo (by omega) (by omega) (by constructor <;> omega)) ?_
        rw [cd]
        refine d_op (ev_mul (by rw [c]; constructor <;> omega)) ?_
        rw [c (R1 / v1)]
        refine d_op (ev_sub (by constructor <;> omega)) ?_
        have es2 : (R1 : Int) - ((R1 / v1 * v1 : Nat) : Int) = ((R1 % v1 : Nat) : Int) := by have := Nat.div_add_mod' R1 v1; omega
        rw [es2]
        have hrm2 : R1 % v1 < v1 := Nat.mod_lt _ (by omega)
        refine d_while (fun s : Nat × Nat => [.int .u64 (s.1 : Int), .int .u64 (s.2 : Int)]) (fun s => s.1 * v1 + s.2 = R1 ∧ Q0 ≤ s.1 ∧ s.2 < 4294967296) (fun s => s.1) (R1 / v1, R1 % v1) ⟨Nat.div_add_mod' R1 v1, hini0, by show R1 % v1 < 4294967296; omega⟩ rfl ?_
        rintro ⟨p, t⟩ ⟨j1, j2, j3⟩
        dsimp only at j1 j2 j3 ⊢
        have hpu : p ≤ R1 := by
          have : p * 1 ≤ p * v1 := Nat.mul_le_mul_left _ (by omega)
          omega
        refine d_op ev_geq (d_if rfl (fun g1 => ?_) (fun g1 => ?_))
        · obtain ⟨p', rfl⟩ : ∃ p', p = p' + 1 := ⟨p - 1, by omega⟩
          rw [Nat.succ_mul] at j1
          refine d_op (ev_sub (by constructor <;> omega)) (d_op (ev_add (by constructor <;> omega)) ?_)
          have e3 : ((p' + 1 : Nat) : Int) - 1 = (p' : Int) := by omega
          have e4 : (t : Int) + (v1 : Int) = ((t + v1 : Nat) : Int) := by omega
          rw [e3, e4]
          refine d_op ev_geq (d_if rfl (fun g2 => ?_) (fun g2 => ?_))
          · have hb2 := kn_break (q := p') (r := t + v1) (v1 := v1) (v0 := v0) (u := R1) (by omega) (by omega) hv0 (by omega)
            have hk2 := kn_ok (d := d0) (r := t + v1) hb2 hv0 (by omega)
            have hx2 := kn_exit (u := R1) (d := d0) (v1 := v1) (v0 := v0) (q := p') (r := t + v1) (by omega) hk2 (by omega)
            rw [← eQ0] at hx2
            obtain rfl : p' = Q0 := by omega
            refine d_op (ev_mul (by constructor <;> omega)) (d_op (ev_add (by constructor <;> omega)) (d_op ev_mulw (d_op ev_addw (d_op ev_mulw (d_op ev_subw ?_)))))
            rw [hun0]
            exact d_op (ev_shr (y := s) rfl (by show s ≤ 64; omega) rfl) (d_op ev_mktup (d_ret (by show AEnd.ret (.tup [.int .u64 _, .int .u64 _]) = _; congr 5)))
          · exact d_back rfl ⟨(p', t + v1), rfl, ⟨by show p' * v1 + (t + v1) = R1; omega, by show Q0 ≤ p'; omega, by show t + v1 < 4294967296; omega⟩, by show p' < p' + 1; omega⟩
        · have hp32 : p < 4294967296 := by omega
          have hpb2 : p * v0 ≤ 4294967295 * 4294967295 := Nat.mul_le_mul (by omega) (by omega)
          refine d_op (ev_mul (by rw [c]; constructor <;> omega)) ?_
          rw [c p]
          refine d_op (ev_mul (by constructor <;> omega)) (d_op (ev_add (by constructor <;> omega)) (d_op ev_gtr (d_if rfl (fun g2 => ?_) (fun g2 => ?_))))
          · have hd := kn_down (d := d0) j1 (by omega) (v0 := v0) (by omega)
            rw [← eQ0] at hd
            obtain ⟨p', rfl⟩ : ∃ p', p = p' + 1 := ⟨p - 1, by omega⟩
            rw [Nat.succ_mul] at j1
            refine d_op (ev_sub (by constructor <;> omega)) (d_op (ev_add (by constructor <;> omega)) ?_)
            have e3 : ((p' + 1 : Nat) : Int) - 1 = (p' : Int) := by omega
            have e4 : (t : Int) + (v1 : Int) = ((t + v1 : Nat) : Int) := by omega
            rw [e3, e4]
            refine d_op ev_geq (d_if rfl (fun g3 => ?_) (fun g3 => ?_))
            · have hk2 := kn_ok (d := d0) (r := t + v1) (show p' < 4294967296 by omega) hv0 (by omega)
              have hx2 := kn_exit (u := R1) (d := d0) (v1 := v1) (v0 := v0) (q := p') (r := t + v1) (by omega) hk2 (by omega)
              rw [← eQ0] at hx2
              obtain rfl : p' = Q0 := by omega
              refine d_op (ev_mul (by constructor <;> omega)) (d_op (ev_add (by constructor <;> omega)) (d_op ev_mulw (d_op ev_addw (d_op ev_mulw (d_op ev_subw ?_)))))
              rw [hun0]
              exact d_op (ev_shr (y := s) rfl (by show s ≤ 64; omega) rfl) (d_op ev_mktup (d_ret (by show AEnd.ret (.tup [.int .u64 _, .int .u64 _]) = _; congr 5)))
            · exact d_back rfl ⟨(p', t + v1), rfl, ⟨by show p' * v1 + (t + v1) = R1; omega, by show Q0 ≤ p'; omega, by show t + v1 < 4294967296; omega⟩, by show p' < p' + 1; omega⟩
          · have hx2 := kn_exit (u := R1) (d := d0) (v1 := v1) (v0 := v0) (q := p) (r := t) j1 (by omega) (by omega)
            rw [← eQ0] at hx2
            obtain rfl : p = Q0 := by omega
            refine d_op (ev_mul (by constructor <;> omega)) (d_op (ev_add (by constructor <;> omega)) (d_op ev_mulw (d_op ev_addw (d_op ev_mulw (d_op ev_subw ?_)))))
            rw [hun0]
            exact d_op (ev_shr (y := s) rfl (by show s ≤ 64; omega) rfl) (d_op ev_mktup (d_ret (by show AEnd.ret (.tup [.int .u64 _, .int .u64 _]) = _; congr 5)))
end Go.SE
