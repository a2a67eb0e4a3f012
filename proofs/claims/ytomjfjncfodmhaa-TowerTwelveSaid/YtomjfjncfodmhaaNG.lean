/- Nothing of the statement is proved here: this text lays generic laws: NG; no conditions. -/
import Derived.Test.YtomjfjncfodmhaaNA
import Derived.Test.YtomjfjncfodmhaaSe6
set_option linter.all false
set_option autoImplicit false
set_option exponentiation.threshold 5000
namespace Go.SE
open Go
variable {P : Program} {R : AEnd → Prop} {L A B X Y : List Nat} {b : Nat}
theorem val_ext (h : ∀ i, X.getD i 0 = Y.getD i 0) : val b X = val b Y := by
  have key : ∀ n, val b (X.take n) = val b (Y.take n) := fun n => by
    induction n with
    | zero => simp
    | succ n ih => rw [val_take_succ, val_take_succ, ih, h]
  have := key (max X.length Y.length)
  rwa [List.take_of_length_le (by omega), List.take_of_length_le (by omega)] at this
theorem less_at {j : Nat} (hb : 0 < b) (hX : LtAll b X) (hY : LtAll b Y) (heq : ∀ k, j + 1 ≤ k → X.getD k 0 = Y.getD k 0) (h : X.getD j 0 ≠ Y.getD j 0) :
    decide (X.getD j 0 < Y.getD j 0) = decide (val b X < val b Y) := by
  have key : ∀ n, val b (X.take (j + 1 + n)) + val b (Y.take (j + 1)) = val b (Y.take (j + 1 + n)) + val b (X.take (j + 1)) := fun n => by
    induction n with
    | zero => simp [Nat.add_comm]
    | succ n ih =>
      rw [show j + 1 + (n + 1) = (j + 1 + n) + 1 from rfl, val_take_succ X (j + 1 + n), val_take_succ Y (j + 1 + n), heq (j + 1 + n) (by omega)]
      omega
  have hall := key (max X.length Y.length)
  have eX : X.take (j + 1 + max X.length Y.length) = X := List.take_of_length_le (by omega)
  have eY : Y.take (j + 1 + max X.length Y.length) = Y := List.take_of_length_le (by omega)
  rw [eX, eY, val_take_succ X j, val_take_succ Y j] at hall
  have low : ∀ {L : List Nat}, LtAll b L → val b (L.take j) < b ^ j := fun {L} hL => by
    have := val_lt hb (hL.take j)
    exact Nat.lt_of_lt_of_le this (Nat.pow_le_pow_right hb (by simp; omega))
  have lX := low hX
  have lY := low hY
  rw [decide_eq_decide]
  rcases Nat.lt_or_gt_of_ne h with h | h
  · have := Nat.mul_le_mul_left (b ^ j) h
    rw [Nat.mul_succ] at this
    constructor <;> intro <;> omega
  · have := Nat.mul_le_mul_left (b ^ j) h
    rw [Nat.mul_succ] at this
    constructor <;> intro <;> omega
def LessC (P : Program) (f : FuncId) : Prop := ∀ X Y, LtAll 65536 X → LtAll 65536 Y → X.length ≤ 35184372088832 → Y.length ≤ 35184372088832 → Ct P f [SN .u64 X, SN .u64 Y] (fun e => e = .ret (.bool (decide (val 65536 X < val 65536 Y))))
def t_less : T :=
 .node (.op .len [.v 0]) <|
 .node (.op .len [.v 1]) <|
 .node (.op (.bin .gtr) [.v 3, .v 2]) <|
 .br (.v 4) (
 .node (.op .len [.v 1]) <|
 .node (.op (.bin .sub) [.v 5, .c (.int .i64 1)]) <|
 .loop [.v 6] [true] <|
 .node (.op (.bin .geq) [.v 7, .c (.int .i64 0)]) <|
 .br (.v 8) (
 .node (.op .len [.v 0]) <|
 .node (.op (.bin .lss) [.v 7, .v 9]) <|
 .br (.v 10) (
 .node (.op (.eaddr 1) [.v 0, .v 7]) <|
 .node (.op (.rld false 1) [.v 11]) <|
 .node (.op .len [.v 1]) <|
 .node (.op (.bin .lss) [.v 7, .v 13]) <|
 .br (.v 14) (
 .node (.op (.eaddr 1) [.v 1, .v 7]) <|
 .node (.op (.rld false 1) [.v 15]) <|
 .node (.op (.bin .neq) [.v 12, .v 16]) <|
 .br (.v 17) (
 .node (.op (.bin .lss) [.v 12, .v 16]) <|
 .ret (.v 18)) (
 .node (.op (.bin .sub) [.v 7, .c (.int .i64 1)]) <|
 .back 0 [.v 18])) (
 .node (.op (.bin .neq) [.v 12, .c (.int .u64 0)]) <|
 .br (.v 15) (
 .node (.op (.bin .lss) [.v 12, .c (.int .u64 0)]) <|
 .ret (.v 16)) (
 .node (.op (.bin .sub) [.v 7, .c (.int .i64 1)]) <|
 .back 0 [.v 16]))) (
 .node (.op .len [.v 1]) <|
 .node (.op (.bin .lss) [.v 7, .v 11]) <|
 .br (.v 12) (
 .node (.op (.eaddr 1) [.v 1, .v 7]) <|
 .node (.op (.rld false 1) [.v 13]) <|
 .node (.op (.bin .neq) [.c (.int .u64 0), .v 14]) <|
 .br (.v 15) (
 .node (.op (.bin .lss) [.c (.int .u64 0), .v 14]) <|
 .ret (.v 16)) (
 .node (.op (.bin .sub) [.v 7, .c (.int .i64 1)]) <|
 .back 0 [.v 16])) (
 .node (.op (.bin .sub) [.v 7, .c (.int .i64 1)]) <|
 .back 0 [.v 13]))) (
 .ret (.c (.bool false)))) (
 .node (.op (.bin .sub) [.v 2, .c (.int .i64 1)]) <|
 .loop [.v 5] [true] <|
 .node (.op (.bin .geq) [.v 6, .c (.int .i64 0)]) <|
 .br (.v 7) (
 .node (.op .len [.v 0]) <|
 .node (.op (.bin .lss) [.v 6, .v 8]) <|
 .br (.v 9) (
 .node (.op (.eaddr 1) [.v 0, .v 6]) <|
 .node (.op (.rld false 1) [.v 10]) <|
 .node (.op .len [.v 1]) <|
 .node (.op (.bin .lss) [.v 6, .v 12]) <|
 .br (.v 13) (
 .node (.op (.eaddr 1) [.v 1, .v 6]) <|
 .node (.op (.rld false 1) [.v 14]) <|
 .node (.op (.bin .neq) [.v 11, .v 15]) <|
 .br (.v 16) (
 .node (.op (.bin .lss) [.v 11, .v 15]) <|
 .ret (.v 17)) (
 .node (.op (.bin .sub) [.v 6, .c (.int .i64 1)]) <|
 .back 0 [.v 17])) (
 .node (.op (.bin .neq) [.v 11, .c (.int .u64 0)]) <|
 .br (.v 14) (
 .node (.op (.bin .lss) [.v 11, .c (.int .u64 0)]) <|
 .ret (.v 15)) (
 .node (.op (.bin .sub) [.v 6, .c (.int .i64 1)]) <|
 .back 0 [.v 15]))) (
 .node (.op .len [.v 1]) <|
 .node (.op (.bin .lss) [.v 6, .v 10]) <|
 .br (.v 11) (
 .node (.op (.eaddr 1) [.v 1, .v 6]) <|
 .node (.op (.rld false 1) [.v 12]) <|
 .node (.op (.bin .neq) [.c (.int .u64 0), .v 13]) <|
 .br (.v 14) (
 .node (.op (.bin .lss) [.c (.int .u64 0), .v 13]) <|
 .ret (.v 15)) (
 .node (.op (.bin .sub) [.v 6, .c (.int .i64 1)]) <|
 .back 0 [.v 15])) (
 .node (.op (.bin .sub) [.v 6, .c (.int .i64 1)]) <|
 .back 0 [.v 12]))) (
 .ret (.c (.bool false))))
theorem less_den (hX : LtAll 65536 X) (hY : LtAll 65536 Y) (hxl : X.length ≤ 35184372088832) (hyl : Y.length ≤ 35184372088832) :
    D P (fun e => e = .ret (.bool (decide (val 65536 X < val 65536 Y)))) [] 2 [SN .u64 Y, SN .u64 X] t_less := by
  have bx : ∀ j, X.getD j 0 < 65536 := fun j => hX.getD (by decide) j
  have bY : ∀ j, Y.getD j 0 < 65536 := fun j => hY.getD (by decide) j
  refine d_op ev_len (d_op ev_len (d_op ev_gtr (d_if rfl (fun h0 => ?_) (fun h0 => ?_))))
  · obtain ⟨n, hn⟩ : ∃ n, n = Y.length := ⟨_, rfl⟩
    refine d_op ev_len ?_
    refine d_op (ev_sub (by constructor <;> omega)) ?_
    refine d_while (fun i : Nat => [.int .i64 ((i : Int) - 1)]) (fun i => i ≤ n ∧ ∀ k, i ≤ k → X.getD k 0 = Y.getD k 0) id n ⟨Nat.le_refl _, fun k hk => by rw [getD_ge (by omega), getD_ge (by omega)]⟩ (by rw [hn]; rfl) ?_
    rintro i ⟨hi, heq⟩
    refine d_op ev_geq (d_if rfl (fun h1 => ?_) (fun h1 => ?_))
    · obtain ⟨j, rfl⟩ : ∃ j, i = j + 1 := ⟨i - 1, by omega⟩
      have hnext : ∀ {Q : Nat → Prop}, X.getD j 0 = Y.getD j 0 → (j ≤ n ∧ ∀ k, j ≤ k → X.getD k 0 = Y.getD k 0) := fun {_} he => ⟨by omega, fun k hk => by
        rcases Nat.eq_or_lt_of_le hk with h | h
        · subst h; exact he
        · exact heq k h⟩
      have hne : X.getD j 0 ≠ Y.getD j 0 → decide (X.getD j 0 < Y.getD j 0) = decide (val 65536 X < val 65536 Y) := fun h => less_at (by decide) hX hY (fun k hk => heq k hk) h
      refine d_op ev_len (d_op ev_lss (d_if rfl (fun h2 => ?_) (fun h2 => ?_)))
      · refine d_op (ev_eaddrN (i := j) (by omega) (by omega)) (d_op (ev_rldN (by omega)) ?_)
        refine d_op ev_len (d_op ev_lss (d_if rfl (fun h3 => ?_) (fun h3 => ?_)))
        · refine d_op (ev_eaddrN (i := j) (by omega) (by omega)) (d_op (ev_rldN (by omega)) ?_)
          refine d_op ev_neq (d_if rfl (fun h4 => ?_) (fun h4 => ?_))
          · refine d_op ev_lss (d_ret ?_)
            show AEnd.ret (.bool (decide ((X.getD j 0 : Int) < (Y.getD j 0 : Int)))) = _
            rw [← hne (by omega)]; congr 2; simp
          · refine d_op (ev_sub (by constructor <;> omega)) ?_
            exact d_back rfl ⟨j, by show [AV.int .i64 _] = _; congr 2; omega, hnext (Q := fun _ => True) (by omega), Nat.lt_succ_self j⟩
        · have hy0 : Y.getD j 0 = 0 := getD_ge (by omega)
          refine d_op ev_neq (d_if rfl (fun h4 => ?_) (fun h4 => ?_))
          · refine d_op ev_lss (d_ret ?_)
            show AEnd.ret (.bool (decide ((X.getD j 0 : Int) < 0))) = _
            rw [← hne (by omega), hy0]; congr 2
          · refine d_op (ev_sub (by constructor <;> omega)) ?_
            exact d_back rfl ⟨j, by show [AV.int .i64 _] = _; congr 2; omega, hnext (Q := fun _ => True) (by omega), Nat.lt_succ_self j⟩
      · have hx0 : X.getD j 0 = 0 := getD_ge (by omega)
        refine d_op ev_len (d_op ev_lss (d_if rfl (fun h3 => ?_) (fun h3 => ?_)))
        · refine d_op (ev_eaddrN (i := j) (by omega) (by omega)) (d_op (ev_rldN (by omega)) ?_)
          refine d_op ev_neq (d_if rfl (fun h4 => ?_) (fun h4 => ?_))
          · refine d_op ev_lss (d_ret ?_)
            show AEnd.ret (.bool (decide ((0 : Int) < (Y.getD j 0 : Int)))) = _
            rw [← hne (by omega), hx0]; congr 2; simp
          · refine d_op (ev_sub (by constructor <;> omega)) ?_
            exact d_back rfl ⟨j, by show [AV.int .i64 _] = _; congr 2; omega, hnext (Q := fun _ => True) (by omega), Nat.lt_succ_self j⟩
        · have hy0 : Y.getD j 0 = 0 := getD_ge (by omega)
          refine d_op (ev_sub (by constructor <;> omega)) ?_
          exact d_back rfl ⟨j, by show [AV.int .i64 _] = _; congr 2; omega, hnext (Q := fun _ => True) (by omega), Nat.lt_succ_self j⟩
    · have : i = 0 := by omega
      subst this
      refine d_ret ?_
      show AEnd.ret (.bool false) = _
      rw [val_ext (b := 65536) (fun k => heq k (Nat.zero_le _))]
      simp
  · obtain ⟨n, hn⟩ : ∃ n, n = X.length := ⟨_, rfl⟩
    refine d_op (ev_sub (by constructor <;> omega)) ?_
    refine d_while (fun i : Nat => [.int .i64 ((i : Int) - 1)]) (fun i => i ≤ n ∧ ∀ k, i ≤ k → X.getD k 0 = Y.getD k 0) id n ⟨Nat.le_refl _, fun k hk => by rw [getD_ge (by omega), getD_ge (by omega)]⟩ (by rw [hn]; rfl) ?_
    rintro i ⟨hi, heq⟩
    refine d_op ev_geq (d_if rfl (fun h1 => ?_) (fun h1 => ?_))
    · obtain ⟨j, rfl⟩ : ∃ j, i = j + 1 := ⟨i - 1, by omega⟩
      have hnext : ∀ {Q : Nat → Prop}, X.getD j 0 = Y.getD j 0 → (j ≤ n ∧ ∀ k, j ≤ k → X.getD k 0 = Y.getD k 0) := fun {_} he => ⟨by omega, fun k hk => by
        rcases Nat.eq_or_lt_of_le hk with h | h
        · subst h; exact he
        · exact heq k h⟩
      have hne : X.getD j 0 ≠ Y.getD j 0 → decide (X.getD j 0 < Y.getD j 0) = decide (val 65536 X < val 65536 Y) := fun h => less_at (by decide) hX hY (fun k hk => heq k hk) h
      refine d_op ev_len (d_op ev_lss (d_if rfl (fun h2 => ?_) (fun h2 => ?_)))
      · refine d_op (ev_eaddrN (i := j) (by omega) (by omega)) (d_op (ev_rldN (by omega)) ?_)
        refine d_op ev_len (d_op ev_lss (d_if rfl (fun h3 => ?_) (fun h3 => ?_)))
        · refine d_op (ev_eaddrN (i := j) (by omega) (by omega)) (d_op (ev_rldN (by omega)) ?_)
          refine d_op ev_neq (d_if rfl (fun h4 => ?_) (fun h4 => ?_))
          · refine d_op ev_lss (d_ret ?_)
            show AEnd.ret (.bool (decide ((X.getD j 0 : Int) < (Y.getD j 0 : Int)))) = _
            rw [← hne (by omega)]; congr 2; simp
          · refine d_op (ev_sub (by constructor <;> omega)) ?_
            exact d_back rfl ⟨j, by show [AV.int .i64 _] = _; congr 2; omega, hnext (Q := fun _ => True) (by omega), Nat.lt_succ_self j⟩
        · have hy0 : Y.getD j 0 = 0 := getD_ge (by omega)
          refine d_op ev_neq (d_if rfl (fun h4 => ?_) (fun h4 => ?_))
          · refine d_op ev_lss (d_ret ?_)
            show AEnd.ret (.bool (decide ((X.getD j 0 : Int) < 0))) = _
            rw [← hne (by omega), hy0]; congr 2
          · refine d_op (ev_sub (by constructor <;> omega)) ?_
            exact d_back rfl ⟨j, by show [AV.int .i64 _] = _; congr 2; omega, hnext (Q := fun _ => True) (by omega), Nat.lt_succ_self j⟩
      · have hx0 : X.getD j 0 = 0 := getD_ge (by omega)
        refine d_op ev_len (d_op ev_lss (d_if rfl (fun h3 => ?_) (fun h3 => ?_)))
        · refine d_op (ev_eaddrN (i := j) (by omega) (by omega)) (d_op (ev_rldN (by omega)) ?_)
          refine d_op ev_neq (d_if rfl (fun h4 => ?_) (fun h4 => ?_))
          · refine d_op ev_lss (d_ret ?_)
            show AEnd.ret (.bool (decide ((0 : Int) < (Y.getD j 0 : Int)))) = _
            rw [← hne (by omega), hx0]; congr 2; simp
          · refine d_op (ev_sub (by constructor <;> omega)) ?_
            exact d_back rfl ⟨j, by show [AV.int .i64 _] = _; congr 2; omega, hnext (Q := fun _ => True) (by omega), Nat.lt_succ_self j⟩
        · have hy0 : Y.getD j 0 = 0 := getD_ge (by omega)
          refine d_op (ev_sub (by constructor <;> omega)) ?_
          exact d_back rfl ⟨j, by show [AV.int .i64 _] = _; congr 2; omega, hnext (Q := fun _ => True) (by omega), Nat.lt_succ_self j⟩
    · have : i = 0 := by omega
      subst this
      refine d_ret ?_
      show AEnd.ret (.bool false) = _
      rw [val_ext (b := 65536) (fun k => heq k (Nat.zero_le _))]
      simp
end Go.SE
set_option autoImplicit false
set_option exponentiation.threshold 5000
namespace Go.SE
open Go
variable {P : Program} {R : AEnd → Prop} {L A B X Y : List Nat} {b : Nat}
end Go.SE
set_option autoImplicit false
set_option exponentiation.threshold 5000
namespace Go.SE
open Go
variable {P : Program} {R : AEnd → Prop} {L A B X Y : List Nat} {b : Nat}
end Go.SE
set_option autoImplicit false
namespace Go.SE
section guess
variable {b v1 v2 vr T u0 u1 u2 wr v w h g r : Nat}
end guess
end Go.SE
set_option autoImplicit false
set_option exponentiation.threshold 5000
namespace Go.SE
open Go
variable {P : Program} {R : AEnd → Prop} {L A B X Y : List Nat} {b : Nat}
structure DivI (a v la m J : Nat) (U Q : List Nat) : Prop where
  le : J ≤ m
  ul : U.length = la + 1
  ut : LtAll B32 U
  ql : Q.length = m
  qt : LtAll B32 Q
  eq : a = val B32 U + v * val B32 Q
  top : val B32 (U.drop J) < v
  zero : ∀ i, i < J → Q.getD i 0 = 0
structure DivS (a v la m k j : Nat) (U Q Pre M Suf : List Nat) : Prop where
  cut : U = Pre ++ M ++ Suf
  pl : Pre.length = j
  ml : M.length = k + 1
  mt : LtAll B32 M
  sum : Pre.length + M.length + Suf.length = la + 1
  lt : val B32 M < B32 * v
  next : ∀ qd R, R < v → val B32 M = R + qd * v → qd < B32 → DivI a v la m j (Pre ++ fdigs B32 (k + 1) R ++ Suf) (Q.set j qd)
end Go.SE
set_option autoImplicit false
set_option exponentiation.threshold 5000
namespace Go.SE
open Go
variable {P : Program} {R : AEnd → Prop} {L A B X Y : List Nat} {b : Nat}
theorem ev_mkslTake {k : IntKind} {L : List Nat} {a b : Int} {n : Nat} (ha : a = 0) (hb : b = (n : Int)) (h : n ≤ L.length) : evalO (.mksl 1) [.lst (CN k L), .int .i64 a, .int .i64 b] = some (SN k (L.take n)) := by
  rw [ev_mksl (o := 0) (n := n) (by simpa using ha) hb (by simpa using h)]
  have : (L.take n).length = n := by simp; omega
  simp [SN, CN, List.map_take]
  omega
end Go.SE
set_option autoImplicit false
set_option exponentiation.threshold 5000
namespace Go.SE
open Go
variable {P : Program} {R : AEnd → Prop} {L A B X Y : List Nat}
def RMinusC (P : Program) (f : FuncId) : Prop := ∀ X Y, LtAll 65536 X → LtAll 65536 Y → X.length ≤ 1099511627776 → Y.length ≤ 1099511627776 → val 65536 Y ≤ val 65536 X →
  Ct P f [SN .u64 X, SN .u64 Y] (fun e => e = .ret (SN .u64 (fdigs 65536 X.length (val 65536 X - val 65536 Y))))
def t_rminus : T :=
 .loop [.c (.int .i64 0), .c (.int .i64 0), .c (.int .u64 0), .c (.int .i64 0), .c (.lst [])] [true, true, true, true, false] <|
 .node (.op .len [.v 0]) <|
 .node (.op (.bin .lss) [.v 5, .v 7]) <|
 .br (.v 8) (
 .node (.op .len [.v 1]) <|
 .node (.op (.bin .lss) [.v 5, .v 9]) <|
 .br (.v 10) (
 .node (.op (.eaddr 1) [.v 1, .v 5]) <|
 .node (.op (.rld false 1) [.v 11]) <|
 .node (.op (.bin .add) [.v 4, .v 12]) <|
 .node (.op (.eaddr 1) [.v 0, .v 5]) <|
 .node (.op (.rld false 1) [.v 14]) <|
 .node (.op (.bin .lss) [.v 15, .v 13]) <|
 .br (.v 16) (
 .node (.op (.bin .add) [.v 15, .c (.int .u64 65536)]) <|
 .node (.op (.bin .sub) [.v 17, .v 13]) <|
 .node (.op .mklst [.v 18]) <|
 .node (.op (.lsl 1) [.v 19, .c (.int .i64 0), .c (.int .i64 1)]) <|
 .node (.op (.lapp 1 8) [.v 6, .v 2, .v 20, .c (.int .i64 1)]) <|
 .node (.op (.ofs 1) [.v 2, .c (.int .i64 1)]) <|
 .node (.op (.bin .add) [.v 5, .c (.int .i64 1)]) <|
 .back 0 [.v 22, .v 22, .c (.int .u64 1), .v 23, .v 21]) (
 .node (.op (.bin .sub) [.v 15, .v 13]) <|
 .node (.op .mklst [.v 17]) <|
 .node (.op (.lsl 1) [.v 18, .c (.int .i64 0), .c (.int .i64 1)]) <|
 .node (.op (.lapp 1 8) [.v 6, .v 2, .v 19, .c (.int .i64 1)]) <|
 .node (.op (.ofs 1) [.v 2, .c (.int .i64 1)]) <|
 .node (.op (.bin .add) [.v 5, .c (.int .i64 1)]) <|
 .back 0 [.v 21, .v 21, .c (.int .u64 0), .v 22, .v 20])) (
 .node (.op (.eaddr 1) [.v 0, .v 5]) <|
 .node (.op (.rld false 1) [.v 11]) <|
 .node (.op (.bin .lss) [.v 12, .v 4]) <|
 .br (.v 13) (
 .node (.op (.bin .add) [.v 12, .c (.int .u64 65536)]) <|
 .node (.op (.bin .sub) [.v 14, .v 4]) <|
 .node (.op .mklst [.v 15]) <|
 .node (.op (.lsl 1) [.v 16, .c (.int .i64 0), .c (.int .i64 1)]) <|
 .node (.op (.lapp 1 8) [.v 6, .v 2, .v 17, .c (.int .i64 1)]) <|
 .node (.op (.ofs 1) [.v 2, .c (.int .i64 1)]) <|
 .node (.op (.bin .add) [.v 5, .c (.int .i64 1)]) <|
 .back 0 [.v 19, .v 19, .c (.int .u64 1), .v 20, .v 18]) (
 .node (.op (.bin .sub) [.v 12, .v 4]) <|
 .node (.op .mklst [.v 14]) <|
 .node (.op (.lsl 1) [.v 15, .c (.int .i64 0), .c (.int .i64 1)]) <|
 .node (.op (.lapp 1 8) [.v 6, .v 2, .v 16, .c (.int .i64 1)]) <|
 .node (.op (.ofs 1) [.v 2, .c (.int .i64 1)]) <|
 .node (.op (.bin .add) [.v 5, .c (.int .i64 1)]) <|
 .back 0 [.v 18, .v 18, .c (.int .u64 0), .v 19, .v 17]))) (
 .node (.op (.mksl 1) [.v 6, .c (.int .i64 0), .v 2]) <|
 .ret (.v 9))
theorem rminus_den (hX : LtAll 65536 X) (hY : LtAll 65536 Y) (hxl : X.length ≤ 1099511627776) (hyl : Y.length ≤ 1099511627776) (hle : val 65536 Y ≤ val 65536 X) :
    D P (fun e => e = .ret (SN .u64 (fdigs 65536 X.length (val 65536 X - val 65536 Y)))) [] 2 [SN .u64 Y, SN .u64 X] t_rminus := by
  refine d_while (fun s : Nat × Nat × List Nat => [.int .i64 (s.2.1 : Int), .int .i64 (s.2.1 : Int), .int .u64 (s.1 : Int), .int .i64 (s.2.1 : Int), .lst (CN .u64 s.2.2)])
    (fun s => s.1 ≤ 1 ∧ s.2.1 ≤ X.length ∧ s.2.2.length = s.2.1 ∧ LtAll 65536 s.2.2 ∧ val 65536 s.2.2 + val 65536 (Y.take s.2.1) = val 65536 (X.take s.2.1) + 65536 ^ s.2.1 * s.1) (fun s => X.length - s.2.1)
    (0, 0, []) ⟨by simp, by simp, rfl, LtAll.nil, by simp⟩ rfl ?_
  rintro ⟨c, i, O⟩ ⟨hc, hi, hol, hot, hov⟩
  dsimp only at hc hi hol hot hov ⊢
  have step : ∀ {t c' : Nat}, t < 65536 → c' ≤ 1 → t + Y.getD i 0 + c = X.getD i 0 + 65536 * c' → i < X.length →
      (c' ≤ 1 ∧ i + 1 ≤ X.length ∧ (O ++ [t]).length = i + 1 ∧ LtAll 65536 (O ++ [t]) ∧
        val 65536 (O ++ [t]) + val 65536 (Y.take (i + 1)) = val 65536 (X.take (i + 1)) + 65536 ^ (i + 1) * c') := fun {t c'} ht hc' et hm => by
    refine ⟨hc', hm, by simp [hol], hot.append (LtAll.cons ht LtAll.nil), ?_⟩
    rw [val_append, hol, val_take_succ, val_take_succ, val_cons, val_nil, Nat.mul_zero, Nat.add_zero, show 65536 ^ (i + 1) = 65536 ^ i * 65536 from Nat.pow_succ ..]
    have := congrArg (65536 ^ i * ·) et
    simp only [Nat.mul_add] at this
    rw [Nat.mul_assoc]
    omega
  refine d_op ev_len (d_op ev_lss (d_if rfl (fun h1 => ?_) (fun h1 => ?_)))
  · obtain ⟨x, ex⟩ : ∃ x, x = X.getD i 0 := ⟨_, rfl⟩
    obtain ⟨y, ey⟩ : ∃ y, y = Y.getD i 0 := ⟨_, rfl⟩
    have hx : x < 65536 := ex ▸ hX.getD (by decide) i
    have hy : y < 65536 := ey ▸ hY.getD (by decide) i
    rw [← ex, ← ey] at step
    refine d_op ev_len (d_op ev_lss (d_if rfl (fun h2 => ?_) (fun h2 => ?_)))
    · refine d_op (ev_eaddrN (i := i) rfl (by omega)) (d_op (ev_rldN' (by omega) ey.symm) (d_op (ev_add (by constructor <;> omega)) ?_))
      refine d_op (ev_eaddrN (i := i) rfl (by omega)) (d_op (ev_rldN' (by omega) ex.symm) ?_)
      refine d_op ev_lss (d_if rfl (fun h3 => ?_) (fun h3 => ?_))
      · obtain ⟨t, et⟩ : ∃ t, t = x + 65536 - (c + y) := ⟨_, rfl⟩
        have e1 : (x : Int) + 65536 - ((c : Int) + (y : Int)) = (t : Int) := by omega
        refine d_op (ev_add (by constructor <;> omega)) (d_op (ev_sub (by constructor <;> omega)) ?_)
        rw [e1]
        refine d_op (ev_mklst rfl) (d_op (ev_lslN (k := .u64) (L := [t]) (o := 0) (n := 1) rfl rfl (by simp)) ?_)
        refine d_op (ev_lappN (k := .u64) (L := O) (M := [t]) (by rw [hol]) rfl (by simp; omega)) ?_
        refine d_op (ev_ofs (n := 1) rfl rfl) (d_op (ev_add (by constructor <;> omega)) ?_)
        exact d_back rfl ⟨(1, i + 1, O ++ [t]), rfl, step (by omega) (by omega) (by omega) (by omega), by simp only; omega⟩
      · obtain ⟨t, et⟩ : ∃ t, t = x - (c + y) := ⟨_, rfl⟩
        have e1 : (x : Int) - ((c : Int) + (y : Int)) = (t : Int) := by omega
        refine d_op (ev_sub (by constructor <;> omega)) ?_
        rw [e1]
        refine d_op (ev_mklst rfl) (d_op (ev_lslN (k := .u64) (L := [t]) (o := 0) (n := 1) rfl rfl (by simp)) ?_)
        refine d_op (ev_lappN (k := .u64) (L := O) (M := [t]) (by rw [hol]) rfl (by simp; omega)) ?_
        refine d_op (ev_ofs (n := 1) rfl rfl) (d_op (ev_add (by constructor <;> omega)) ?_)
        exact d_back rfl ⟨(0, i + 1, O ++ [t]), rfl, step (by omega) (by omega) (by omega) (by omega), by simp only; omega⟩
    · have hy0 : y = 0 := by rw [ey]; exact getD_ge (by omega)
      refine d_op (ev_eaddrN (i := i) rfl (by omega)) (d_op (ev_rldN' (by omega) ex.symm) ?_)
      refine d_op ev_lss (d_if rfl (fun h3 => ?_) (fun h3 => ?_))
      · obtain ⟨t, et⟩ : ∃ t, t = x + 65536 - c := ⟨_, rfl⟩
        have e1 : (x : Int) + 65536 - (c : Int) = (t : Int) := by omega
        refine d_op (ev_add (by constructor <;> omega)) (d_op (ev_sub (by constructor <;> omega)) ?_)
        rw [e1]
        refine d_op (ev_mklst rfl) (d_op (ev_lslN (k := .u64) (L := [t]) (o := 0) (n := 1) rfl rfl (by simp)) ?_)
        refine d_op (ev_lappN (k := .u64) (L := O) (M := [t]) (by rw [hol]) rfl (by simp; omega)) ?_
        refine d_op (ev_ofs (n := 1) rfl rfl) (d_op (ev_add (by constructor <;> omega)) ?_)
        exact d_back rfl ⟨(1, i + 1, O ++ [t]), rfl, step (by omega) (by omega) (by omega) (by omega), by simp only; omega⟩
      · obtain ⟨t, et⟩ : ∃ t, t = x - c := ⟨_, rfl⟩
        have e1 : (x : Int) - (c : Int) = (t : Int) := by omega
        refine d_op (ev_sub (by constructor <;> omega)) ?_
        rw [e1]
        refine d_op (ev_mklst rfl) (d_op (ev_lslN (k := .u64) (L := [t]) (o := 0) (n := 1) rfl rfl (by simp)) ?_)
        refine d_op (ev_lappN (k := .u64) (L := O) (M := [t]) (by rw [hol]) rfl (by simp; omega)) ?_
        refine d_op (ev_ofs (n := 1) rfl rfl) (d_op (ev_add (by constructor <;> omega)) ?_)
        exact d_back rfl ⟨(0, i + 1, O ++ [t]), rfl, step (by omega) (by omega) (by omega) (by omega), by simp only; omega⟩
  · have him : i = X.length := by omega
    subst him
    refine d_op (ev_mkslN rfl (by rw [hol])) (d_ret ?_)
    show AEnd.ret (SN .u64 O) = _
    rw [List.take_length, val_take (by decide) hY] at hov
    have hlt := val_lt (b := 65536) (by decide) hX
    rw [Nat.mod_eq_of_lt (by omega)] at hov
    have hOl := val_lt (b := 65536) (by decide) hot
    rw [hol] at hOl
    have hc0 : c = 0 := by
      rcases Nat.lt_or_ge c 1 with h | h
      · omega
      · exfalso
        have : c = 1 := by omega
        subst this
        omega
    subst hc0
    rw [eq_fdigs (b := 65536) (L := O) (k := X.length) (n := val 65536 X - val 65536 Y) (by decide) hot hol (by omega)]
theorem ev_notd {p : Prop} [Decidable p] : evalO (.un .not) [.bool (decide p)] = some (.bool (decide (¬ p))) := by
  rw [ev_not]; simp
def RDivC (P : Program) (f : FuncId) : Prop := ∀ A B, LtAll 65536 A → LtAll 65536 B → 0 < val 65536 B → A.length ≤ 549755813888 → B.length ≤ 549755813888 →
  Ct P f [SN .u64 A, SN .u64 B] (fun e => e = .ret (.tup [SN .u64 (fdigs 65536 A.length (val 65536 A / val 65536 B)), SN .u64 (fdigs 65536 (min A.length (B.length + 1)) (val 65536 A % val 65536 B))]))
theorem or_bit (c j : Nat) : (c * 2 ^ (j + 1)) ||| 2 ^ j = c * 2 ^ (j + 1) + 2 ^ j := by
  rw [Nat.mul_comm c]
  exact (Nat.two_pow_add_eq_or_of_lt (Nat.pow_lt_pow_right (by decide) (by omega)) c).symm
theorem bit_low {r m j : Nat} (hm : 0 < m) (h : r % (m * 2 ^ (j + 1)) < m * 2 ^ j) : r % (m * 2 ^ j) = r % (m * 2 ^ (j + 1)) ∧ r / (m * 2 ^ j) * 2 ^ j = r / (m * 2 ^ (j + 1)) * 2 ^ (j + 1) := by
  obtain ⟨M, hM⟩ : ∃ M, M = m * 2 ^ j := ⟨_, rfl⟩
  have e : m * 2 ^ (j + 1) = M * 2 := by rw [hM, Nat.pow_succ, Nat.mul_assoc]
  have hM0 : 0 < M := hM ▸ Nat.mul_pos hm (Nat.pow_pos (by decide))
  rw [e] at h ⊢
  rw [← hM] at h ⊢
  have h1 := Nat.mod_mul (x := r) (a := M) (b := 2)
  have h2 : r / M % 2 = 0 := by
    rcases Nat.mod_two_eq_zero_or_one (r / M) with h' | h'
    · exact h'
    · rw [h', Nat.mul_one] at h1; omega
  rw [h2, Nat.mul_zero, Nat.add_zero] at h1
  refine ⟨h1.symm, ?_⟩
  rw [← Nat.div_div_eq_div_mul, Nat.pow_succ]
  have : r / M = r / M / 2 * 2 := by omega
  generalize r / M / 2 = q at this ⊢
  rw [this, Nat.mul_assoc, Nat.mul_comm 2]
theorem bit_high {r m j : Nat} (hm : 0 < m) (h : ¬ r % (m * 2 ^ (j + 1)) < m * 2 ^ j) : r % (m * 2 ^ j) = r % (m * 2 ^ (j + 1)) - m * 2 ^ j ∧ r / (m * 2 ^ j) * 2 ^ j = r / (m * 2 ^ (j + 1)) * 2 ^ (j + 1) + 2 ^ j := by
  obtain ⟨M, hM⟩ : ∃ M, M = m * 2 ^ j := ⟨_, rfl⟩
  have e : m * 2 ^ (j + 1) = M * 2 := by rw [hM, Nat.pow_succ, Nat.mul_assoc]
  have hM0 : 0 < M := hM ▸ Nat.mul_pos hm (Nat.pow_pos (by decide))
  rw [e] at h ⊢
  rw [← hM] at h ⊢
  have h1 := Nat.mod_mul (x := r) (a := M) (b := 2)
  have hlt := Nat.mod_lt r hM0
  have h2 : r / M % 2 = 1 := by
    rcases Nat.mod_two_eq_zero_or_one (r / M) with h' | h'
    · rw [h', Nat.mul_zero] at h1; omega
    · exact h'
  rw [h2, Nat.mul_one] at h1
  refine ⟨by omega, ?_⟩
  rw [← Nat.div_div_eq_div_mul, Nat.pow_succ]
  have : r / M = r / M / 2 * 2 + 1 := by omega
  generalize r / M / 2 = q at this ⊢
  rw [this, Nat.add_mul, Nat.one_mul, Nat.mul_assoc, Nat.mul_comm 2]
theorem place_div {b x n m : Nat} (hm : 0 < m) (hx : x < b) : (x + b * n) % m = (x + b * (n % m)) % m ∧ (x + b * n) / m = (x + b * (n % m)) / m + b * (n / m) ∧ x + b * (n % m) < b * m := by
  have e : x + b * n = (x + b * (n % m)) + m * (b * (n / m)) := by
    have h1 := Nat.mod_add_div n m
    have h2 : b * n = b * (n % m) + b * (m * (n / m)) := by rw [← Nat.mul_add, h1]
    rw [h2]
    have h3 : b * (m * (n / m)) = m * (b * (n / m)) := by ac_rfl
    omega
  refine ⟨?_, ?_, ?_⟩
  · rw [e, Nat.add_mul_mod_self_left]
  · rw [e, Nat.add_mul_div_left _ _ hm]
  · have h1 := Nat.mod_lt n hm
    calc x + b * (n % m) < b + b * (n % m) := by omega
      _ = b * (n % m + 1) := by rw [Nat.mul_add]; omega
      _ ≤ b * m := Nat.mul_le_mul_left _ h1
theorem set_mid {q r : List Nat} {i : Nat} (h : q.length = i) (x y : Nat) : (q ++ x :: r).set i y = q ++ y :: r := by
  subst h; simp
theorem getD_mid {q r : List Nat} {i : Nat} (h : q.length = i) (x : Nat) : (q ++ x :: r).getD i 0 = x := by
  subst h; simp [List.getD_eq_getElem?_getD]
def t_rdivide (product less rminus : FuncId) : T :=
 .node (.op .len [.v 0]) <|
 .node (.op (.chkmk 8) [.v 2, .v 2]) <|
 .node (.op (.lzero 8 [.int .u64 0]) [.v 2]) <|
 .node (.op .len [.v 0]) <|
 .node (.op (.bin .sub) [.v 5, .c (.int .i64 1)]) <|
 .loop [.c (.sl 0 []), .v 6, .v 4] [true, true, false] <|
 .node (.op (.bin .geq) [.v 8, .c (.int .i64 0)]) <|
 .br (.v 10) (
 .node (.op (.eaddr 1) [.v 0, .v 8]) <|
 .node (.op (.rld false 1) [.v 11]) <|
 .node (.op .len [.v 7]) <|
 .node (.op (.s2l 1) [.v 7]) <|
 .node (.op .mklst [.v 12]) <|
 .node (.op (.lapp 1 8) [.v 15, .c (.int .i64 1), .v 14, .v 13]) <|
 .node (.op (.ofs 1) [.c (.int .i64 1), .v 13]) <|
 .node (.op .len [.v 1]) <|
 .node (.op (.bin .add) [.v 18, .c (.int .i64 1)]) <|
 .node (.op (.bin .gtr) [.v 17, .v 19]) <|
 .br (.v 20) (
 .node (.op .len [.v 1]) <|
 .node (.op (.bin .add) [.v 21, .c (.int .i64 1)]) <|
 .node (.op .chkle [.c (.int .i64 0), .v 22]) <|
 .node (.op .chkle [.v 22, .v 17]) <|
 .node (.op .chkle [.v 17, .v 17]) <|
 .node (.op .nsub [.v 22, .c (.int .i64 0)]) <|
 .node (.op .nsub [.v 17, .c (.int .i64 0)]) <|
 .node (.op (.mksl 1) [.v 16, .c (.int .i64 0), .v 26]) <|
 .loop [.v 28, .c (.int .i64 15), .v 9] [true, true, false] <|
 .node (.op (.bin .geq) [.v 30, .c (.int .i64 0)]) <|
 .br (.v 32) (
 .node (.op (.cvt .u64) [.v 30]) <|
 .node (.op (.bin .shl) [.c (.int .u64 1), .v 33]) <|
 .node (.op .mklst [.v 34]) <|
 .node (.op (.mksl 1) [.v 35, .c (.int .i64 0), .c (.int .i64 1)]) <|
 .node (.call product [.v 1, .v 36] true) <|
 .node (.call less [.v 29, .v 37] true) <|
 .node (.op (.un .not) [.v 38]) <|
 .br (.v 39) (
 .node (.call rminus [.v 29, .v 37] true) <|
 .node (.op .chki [.v 8, .v 2]) <|
 .node (.op (.ofs 1) [.c (.int .i64 0), .v 8]) <|
 .node (.op (.lget false 1) [.v 31, .v 42]) <|
 .node (.op (.cvt .u64) [.v 30]) <|
 .node (.op (.bin .shl) [.c (.int .u64 1), .v 44]) <|
 .node (.op (.bin .or) [.v 43, .v 45]) <|
 .node (.op .chki [.v 8, .v 2]) <|
 .node (.op (.ofs 1) [.c (.int .i64 0), .v 8]) <|
 .node (.op .lset [.v 31, .v 48, .v 46]) <|
 .node (.op (.bin .sub) [.v 30, .c (.int .i64 1)]) <|
 .back 0 [.v 40, .v 50, .v 49]) (
 .node (.op (.bin .sub) [.v 30, .c (.int .i64 1)]) <|
 .back 0 [.v 29, .v 40, .v 31])) (
 .node (.op (.bin .sub) [.v 8, .c (.int .i64 1)]) <|
 .back 1 [.v 29, .v 33, .v 31])) (
 .node (.op (.mksl 1) [.v 16, .c (.int .i64 0), .v 17]) <|
 .loop [.v 21, .c (.int .i64 15), .v 9] [true, true, false] <|
 .node (.op (.bin .geq) [.v 23, .c (.int .i64 0)]) <|
 .br (.v 25) (
 .node (.op (.cvt .u64) [.v 23]) <|
 .node (.op (.bin .shl) [.c (.int .u64 1), .v 26]) <|
 .node (.op .mklst [.v 27]) <|
 .node (.op (.mksl 1) [.v 28, .c (.int .i64 0), .c (.int .i64 1)]) <|
 .node (.call product [.v 1, .v 29] true) <|
 .node (.call less [.v 22, .v 30] true) <|
 .node (.op (.un .not) [.v 31]) <|
 .br (.v 32) (
 .node (.call rminus [.v 22, .v 30] true) <|
 .node (.op .chki [.v 8, .v 2]) <|
 .node (.op (.ofs 1) [.c (.int .i64 0), .v 8]) <|
 .node (.op (.lget false 1) [.v 24, .v 35]) <|
 .node (.op (.cvt .u64) [.v 23]) <|
 .node (.op (.bin .shl) [.c (.int .u64 1), .v 37]) <|
 .node (.op (.bin .or) [.v 36, .v 38]) <|
 .node (.op .chki [.v 8, .v 2]) <|
 .node (.op (.ofs 1) [.c (.int .i64 0), .v 8]) <|
 .node (.op .lset [.v 24, .v 41, .v 39]) <|
 .node (.op (.bin .sub) [.v 23, .c (.int .i64 1)]) <|
 .back 0 [.v 33, .v 43, .v 42]) (
 .node (.op (.bin .sub) [.v 23, .c (.int .i64 1)]) <|
 .back 0 [.v 22, .v 33, .v 24])) (
 .node (.op (.bin .sub) [.v 8, .c (.int .i64 1)]) <|
 .back 1 [.v 22, .v 26, .v 24]))) (
 .node (.op (.mksl 1) [.v 9, .c (.int .i64 0), .v 2]) <|
 .node (.op .mktup [.v 11, .v 7]) <|
 .ret (.v 12))
theorem rdivide_den {product less rminus : FuncId} (hp : ProductC P product) (hls : LessC P less) (hm : RMinusC P rminus) (hA : LtAll 65536 A) (hB : LtAll 65536 B) (h0 : 0 < val 65536 B) (hal : A.length ≤ 549755813888) (hbl : B.length ≤ 549755813888) :
    D P (fun e => e = .ret (.tup [SN .u64 (fdigs 65536 A.length (val 65536 A / val 65536 B)), SN .u64 (fdigs 65536 (min A.length (B.length + 1)) (val 65536 A % val 65536 B))])) [] 2 [SN .u64 B, SN .u64 A] (t_rdivide product less rminus) := by
  obtain ⟨m, em⟩ : ∃ m, m = val 65536 B := ⟨_, rfl⟩
  have hml : m < 65536 ^ B.length := em ▸ val_lt (by decide) hB
  rw [← em] at h0 ⊢
  refine d_op ev_len (d_op (ev_chkmk rfl rfl (Nat.le_refl _) (by omega)) (d_op (ev_lzeroN (k := .u64) (n := A.length) rfl (by omega)) (d_op ev_len (d_op (ev_sub (by constructor <;> omega)) ?_))))
  refine d_while (fun s : Nat => [SN .u64 (fdigs 65536 (min (A.length - s) (B.length + 1)) (val 65536 (A.drop s) % m)), .int .i64 ((s : Int) - 1), .lst (CN .u64 (List.replicate s 0 ++ fdigs 65536 (A.length - s) (val 65536 (A.drop s) / m)))])
    (fun s => s ≤ A.length) (fun s => s) A.length (Nat.le_refl _) (by rw [Nat.sub_self]; simp [fdigs]; rfl) ?_
  intro s hs
  refine d_op ev_geq (d_if rfl (fun h1 => ?_) (fun h1 => ?_))
  · obtain ⟨i, rfl⟩ : ∃ i, s = i + 1 := ⟨s - 1, by omega⟩
    have e1 : ((i + 1 : Nat) : Int) - 1 = (i : Int) := by omega
    rw [e1]
    obtain ⟨x, hx⟩ : ∃ x, x = A.getD i 0 := ⟨_, rfl⟩
    have hxl : x < 65536 := hx ▸ hA.getD (by decide) i
    obtain ⟨N, hN⟩ : ∃ N, N = val 65536 (A.drop (i + 1)) := ⟨_, rfl⟩
    have hNl : N < 65536 ^ (A.length - (i + 1)) := by
      have := val_lt (b := 65536) (by decide) (hA.drop (i + 1))
      rw [← hN] at this
      simpa using this
    have hNi : val 65536 (A.drop i) = x + 65536 * N := by
      rw [List.drop_eq_getElem_cons (by omega), val_cons, ← hN]
      congr 1
      rw [hx, List.getD_eq_getElem?_getD, List.getElem?_eq_getElem (by omega)]; rfl
    obtain ⟨d1, d2, d3⟩ := place_div (b := 65536) (n := N) h0 hxl
    obtain ⟨V, hV⟩ : ∃ V, V = x + 65536 * (N % m) := ⟨_, rfl⟩
    rw [← hV] at d1 d2 d3
    obtain ⟨F, hF⟩ : ∃ F, F = fdigs 65536 (min (A.length - (i + 1)) (B.length + 1)) (N % m) := ⟨_, rfl⟩
    have hFl : F.length = min (A.length - (i + 1)) (B.length + 1) := by rw [hF]; simp
    have hFt : LtAll 65536 F := hF ▸ fdigs_lt (by decide) _ _
    have hFv : val 65536 F = N % m := by
      rw [hF]
      refine val_fdigs_lt ?_
      have g1 : N % m < 65536 ^ (A.length - (i + 1)) := Nat.lt_of_le_of_lt (Nat.mod_le _ _) hNl
      have g2 : N % m < 65536 ^ (B.length + 1) := Nat.lt_of_lt_of_le (Nat.lt_trans (Nat.mod_lt _ h0) hml) (Nat.pow_le_pow_right (by decide) (by omega))
      rcases Nat.le_total (A.length - (i + 1)) (B.length + 1) with h | h
      · rw [Nat.min_eq_left h]; exact g1
      · rw [Nat.min_eq_right h]; exact g2
    have hxF : LtAll 65536 (x :: F) := LtAll.cons hxl hFt
    have hxFv : val 65536 (x :: F) = V := by rw [val_cons, hFv, hV]
    have hVl : V < 65536 ^ (B.length + 1) := by
      have : 65536 * m ≤ 65536 ^ (B.length + 1) := by
        rw [Nat.pow_succ, Nat.mul_comm]; exact Nat.mul_le_mul_right _ (Nat.le_of_lt hml)
      omega
    rw [← hN, ← hF]
    obtain ⟨Qr, hQr⟩ : ∃ Qr, Qr = fdigs 65536 (A.length - (i + 1)) (N / m) := ⟨_, rfl⟩
    rw [← hQr]
    have hQl : Qr.length = A.length - (i + 1) := by rw [hQr]; simp
    have hrep : List.replicate (i + 1) 0 ++ Qr = List.replicate i 0 ++ 0 :: Qr := by
      rw [List.replicate_succ']; simp
    rw [hrep]
    have hri : (List.replicate i 0).length = i := by simp
    refine d_op (ev_eaddrN (i := i) rfl (by omega)) (d_op (ev_rldN' (by omega) hx.symm) ?_)
    refine d_op ev_len (d_op ev_s2lN (d_op (ev_mklst rfl) ?_))
    refine d_op (ev_lappN (k := .u64) (L := [x]) (M := F) rfl rfl (by simp [hFl]; omega)) (d_op (ev_ofs (o := 1) rfl rfl) ?_)
    refine d_op ev_len (d_op (ev_add (by constructor <;> omega)) ?_)
    refine d_op ev_gtr (d_if rfl (fun h2 => ?_) (fun h2 => ?_))
    · rw [hFl] at h2
      obtain ⟨n1, hn1⟩ : ∃ n1, n1 = min (A.length - i) (B.length + 1) := ⟨_, rfl⟩
      have hn1' : n1 = B.length + 1 := by omega
      have hcut : (x :: F).take n1 = fdigs 65536 n1 V := by
        refine eq_fdigs (by decide) (hxF.take _) (by simp [hFl]; omega) ?_
        rw [val_take (by decide) hxF, hxFv, hn1', Nat.mod_eq_of_lt hVl]
      refine d_op ev_len (d_op (ev_add (by constructor <;> omega)) ?_)
      refine d_op (ev_chkle (by omega) (by omega)) (d_op (ev_chkle (by omega) (by rw [hFl]; omega)) (d_op (ev_chkle (by omega) (by omega)) ?_))
      refine d_op (ev_nsub (by omega) (by omega)) (d_op (ev_nsub (by omega) (by omega)) ?_)
      refine d_op (ev_mkslTake (k := .u64) (L := [x] ++ F) (n := n1) rfl (by omega) (by simp [hFl]; omega)) ?_
      rw [show ([x] ++ F).take n1 = fdigs 65536 n1 V from hcut]
      have hvn : val 65536 (fdigs 65536 n1 V) = V := by rw [← hcut]; first | exact hxFv | (rw [val_take (by decide) hxF, hxFv, hn1', Nat.mod_eq_of_lt hVl])
      have hVn : V < 65536 ^ n1 := by
        have := val_lt (b := 65536) (by decide) (fdigs_lt (b := 65536) (by decide) n1 V)
        rwa [hvn, fdigs_length] at this
      have hV16 : V < m * 2 ^ 16 := by omega
      refine d_while (fun j : Nat => [SN .u64 (fdigs 65536 n1 (V % (m * 2 ^ j))), .int .i64 ((j : Int) - 1), .lst (CN .u64 (List.replicate i 0 ++ (V / (m * 2 ^ j) * 2 ^ j) :: Qr))])
        (fun j => j ≤ 16) (fun j => j) 16 (Nat.le_refl _) (by rw [Nat.mod_eq_of_lt hV16, Nat.div_eq_of_lt hV16, Nat.zero_mul]; rfl) ?_
      intro s hs
      refine d_op ev_geq (d_if rfl (fun h3 => ?_) (fun h3 => ?_))
      · obtain ⟨j, rfl⟩ : ∃ j, s = j + 1 := ⟨s - 1, by omega⟩
        have e2 : ((j + 1 : Nat) : Int) - 1 = (j : Int) := by omega
        rw [e2]
        have hj : 2 ^ j ≤ 32768 := by
          have : 2 ^ j ≤ 2 ^ 15 := Nat.pow_le_pow_right (by decide) (by omega)
          omega
        obtain ⟨p, hpj⟩ : ∃ p, p = 2 ^ j := ⟨_, rfl⟩
        refine d_op (ev_cvt (by constructor <;> omega)) (d_op (ev_shl (x := 1) (y := j) (p := p) rfl (by show j ≤ 64; omega) (by rw [hpj, Nat.one_mul])) ?_)
        rw [wrap_in (k := .u64) (n := (p : Int)) (by constructor <;> omega)]
        refine d_op (ev_mklst rfl) (d_op (ev_mkslN (k := .u64) (L := [p]) rfl rfl) ?_)
        refine d_call (hp B [p] hB (LtAll.cons (by omega) LtAll.nil) (by simp; omega)) (fun _ => rfl) ?_
        have ev : val 65536 B * val 65536 [p] = m * p := by rw [← em]; simp
        rw [ev]
        have hle : m * p ≤ m * 32768 := Nat.mul_le_mul_left _ (by omega)
        have hT : val 65536 (fdigs 65536 (B.length + [p].length) (m * p)) = m * p := by
          refine val_fdigs_lt ?_
          show m * p < 65536 ^ (B.length + 1)
          have : 65536 * m ≤ 65536 ^ (B.length + 1) := by
            rw [Nat.pow_succ, Nat.mul_comm]; exact Nat.mul_le_mul_right _ (Nat.le_of_lt hml)
          omega
        have hr0 : V % (m * 2 ^ (j + 1)) < 65536 ^ n1 := Nat.lt_of_le_of_lt (Nat.mod_le _ _) hVn
        have hR : val 65536 (fdigs 65536 n1 (V % (m * 2 ^ (j + 1)))) = V % (m * 2 ^ (j + 1)) := val_fdigs_lt hr0
        refine d_call (hls _ _ (fdigs_lt (by decide) _ _) (fdigs_lt (by decide) _ _) (by simp; omega) (by simp; omega)) (fun _ => rfl) ?_
        rw [hR, hT]
        refine d_op ev_notd (d_if rfl (fun h4 => ?_) (fun h4 => ?_))
        · have h4' : ¬ V % (m * 2 ^ (j + 1)) < m * 2 ^ j := by rw [← hpj]; omega
          obtain ⟨b1, b2⟩ := bit_high h0 h4'
          rw [← hpj] at b1 b2
          refine d_call (hm _ _ (fdigs_lt (by decide) _ _) (fdigs_lt (by decide) _ _) (by simp; omega) (by simp; omega) (by rw [hR, hT, hpj]; omega)) (fun _ => rfl) ?_
          rw [hR, hT, fdigs_length, ← b1]
          obtain ⟨dj, hdj⟩ : ∃ dj, dj = V / (m * 2 ^ (j + 1)) * 2 ^ (j + 1) := ⟨_, rfl⟩
          have hdl : dj + p ≤ 65535 := by
            rw [hdj, ← b2]
            have e3 : V / (m * p) * p ≤ V / m := by
              rw [← Nat.div_div_eq_div_mul]; exact Nat.div_mul_le_self _ _
            have e4 : V / m < 65536 := Nat.div_lt_of_lt_mul (by rw [Nat.mul_comm]; omega)
            omega
          rw [← hdj] at b2 ⊢
          refine d_op (ev_chki (by omega) (by omega) rfl) (d_op (ev_ofs (o := 0) rfl rfl) (d_op (ev_lgetN' (i := i) (by simp) (by simp) (getD_mid hri dj)) ?_))
          refine d_op (ev_cvt (by constructor <;> omega)) (d_op (ev_shl (x := 1) (y := j) (p := p) rfl (by show j ≤ 64; omega) (by rw [hpj, Nat.one_mul])) ?_)
          rw [wrap_in (k := .u64) (n := (p : Int)) (by constructor <;> omega)]
          refine d_op (ev_or (by constructor <;> omega) (by constructor <;> omega)) ?_
          refine d_op (ev_chki (by omega) (by omega) rfl) (d_op (ev_ofs (o := 0) rfl rfl) (d_op (ev_lsetN (i := i) (by simp) (by simp) rfl) ?_))
          refine d_op (ev_sub (by constructor <;> omega)) ?_
          have hor : dj ||| p = dj + p := by rw [hdj, hpj]; exact or_bit _ _
          rw [hor, set_mid hri, ← b2]
          exact d_back rfl ⟨j, by rw [← hpj]; rfl, by omega, by omega⟩
        · have h4' : V % (m * 2 ^ (j + 1)) < m * 2 ^ j := by rw [← hpj]; omega
          obtain ⟨b1, b2⟩ := bit_low h0 h4'
          refine d_op (ev_sub (by constructor <;> omega)) ?_
          exact d_back rfl ⟨j, by rw [b1, b2]; rfl, by omega, by omega⟩
      · have hs0 : s = 0 := by omega
        subst hs0
        have e0 : m * 2 ^ 0 = m := by simp
        have e9 : V / m * 2 ^ 0 = V / m := by simp
        rw [e0, e9]
        refine d_op (ev_sub (by constructor <;> omega)) ?_
        refine d_back rfl ⟨i, ?_, by omega, by omega⟩
        rw [hNi, d1, d2, ← hn1]
        have hq : A.length - i = A.length - (i + 1) + 1 := by omega
        have hvm : V / m < 65536 := Nat.div_lt_of_lt_mul (by rw [Nat.mul_comm]; omega)
        rw [hq, fdigs, Nat.add_mul_mod_self_left, Nat.mod_eq_of_lt hvm, Nat.add_mul_div_left _ _ (by decide), Nat.div_eq_of_lt hvm, Nat.zero_add, ← hQr]
        rfl
    · rw [hFl] at h2
      obtain ⟨n1, hn1⟩ : ∃ n1, n1 = min (A.length - i) (B.length + 1) := ⟨_, rfl⟩
      have hn1' : n1 ≤ B.length + 1 := by omega
      have hcut : x :: F = fdigs 65536 n1 V := eq_fdigs (by decide) hxF (by simp [hFl]; omega) hxFv
      refine d_op (ev_mkslN (k := .u64) (L := [x] ++ F) rfl (by simp; omega)) ?_
      rw [show [x] ++ F = fdigs 65536 n1 V from hcut]
      have hvn : val 65536 (fdigs 65536 n1 V) = V := by rw [← hcut]; first | exact hxFv | (rw [val_take (by decide) hxF, hxFv, hn1', Nat.mod_eq_of_lt hVl])
      have hVn : V < 65536 ^ n1 := by
        have := val_lt (b := 65536) (by decide) (fdigs_lt (b := 65536) (by decide) n1 V)
        rwa [hvn, fdigs_length] at this
      have hV16 : V < m * 2 ^ 16 := by omega
      refine d_while (fun j : Nat => [SN .u64 (fdigs 65536 n1 (V % (m * 2 ^ j))), .int .i64 ((j : Int) - 1), .lst (CN .u64 (List.replicate i 0 ++ (V / (m * 2 ^ j) * 2 ^ j) :: Qr))])
        (fun j => j ≤ 16) (fun j => j) 16 (Nat.le_refl _) (by rw [Nat.mod_eq_of_lt hV16, Nat.div_eq_of_lt hV16, Nat.zero_mul]; rfl) ?_
      intro s hs
      refine d_op ev_geq (d_if rfl (fun h3 => ?_) (fun h3 => ?_))
      · obtain ⟨j, rfl⟩ : ∃ j, s = j + 1 := ⟨s - 1, by omega⟩
        have e2 : ((j + 1 : Nat) : Int) - 1 = (j : Int) := by omega
        rw [e2]
        have hj : 2 ^ j ≤ 32768 := by
          have : 2 ^ j ≤ 2 ^ 15 := Nat.pow_le_pow_right (by decide) (by omega)
          omega
        obtain ⟨p, hpj⟩ : ∃ p, p = 2 ^ j := ⟨_, rfl⟩
        refine d_op (ev_cvt (by constructor <;> omega)) (d_op (ev_shl (x := 1) (y := j) (p := p) rfl (by show j ≤ 64; omega) (by rw [hpj, Nat.one_mul])) ?_)
        rw [wrap_in (k := .u64) (n := (p : Int)) (by constructor <;> omega)]
        refine d_op (ev_mklst rfl) (d_op (ev_mkslN (k := .u64) (L := [p]) rfl rfl) ?_)
        refine d_call (hp B [p] hB (LtAll.cons (by omega) LtAll.nil) (by simp; omega)) (fun _ => rfl) ?_
        have ev : val 65536 B * val 65536 [p] = m * p := by rw [← em]; simp
        rw [ev]
        have hle : m * p ≤ m * 32768 := Nat.mul_le_mul_left _ (by omega)
        have hT : val 65536 (fdigs 65536 (B.length + [p].length) (m * p)) = m * p := by
          refine val_fdigs_lt ?_
          show m * p < 65536 ^ (B.length + 1)
          have : 65536 * m ≤ 65536 ^ (B.length + 1) := by
            rw [Nat.pow_succ, Nat.mul_comm]; exact Nat.mul_le_mul_right _ (Nat.le_of_lt hml)
          omega
        have hr0 : V % (m * 2 ^ (j + 1)) < 65536 ^ n1 := Nat.lt_of_le_of_lt (Nat.mod_le _ _) hVn
        have hR : val 65536 (fdigs 65536 n1 (V % (m * 2 ^ (j + 1)))) = V % (m * 2 ^ (j + 1)) := val_fdigs_lt hr0
        refine d_call (hls _ _ (fdigs_lt (by decide) _ _) (fdigs_lt (by decide) _ _) (by simp; omega) (by simp; omega)) (fun _ => rfl) ?_
        rw [hR, hT]
        refine d_op ev_notd (d_if rfl (fun h4 => ?_) (fun h4 => ?_))
        · have h4' : ¬ V % (m * 2 ^ (j + 1)) < m * 2 ^ j := by rw [← hpj]; omega
          obtain ⟨b1, b2⟩ := bit_high h0 h4'
          rw [← hpj] at b1 b2
          refine d_call (hm _ _ (fdigs_lt (by decide) _ _) (fdigs_lt (by decide) _ _) (by simp; omega) (by simp; omega) (by rw [hR, hT, hpj]; omega)) (fun _ => rfl) ?_
          rw [hR, hT, fdigs_length, ← b1]
          obtain ⟨dj, hdj⟩ : ∃ dj, dj = V / (m * 2 ^ (j + 1)) * 2 ^ (j + 1) := ⟨_, rfl⟩
          have hdl : dj + p ≤ 65535 := by
            rw [hdj, ← b2]
            have e3 : V / (m * p) * p ≤ V / m := by
              rw [← Nat.div_div_eq_div_mul]; exact Nat.div_mul_le_self _ _
            have e4 : V / m < 65536 := Nat.div_lt_of_lt_mul (by rw [Nat.mul_comm]; omega)
            omega
          rw [← hdj] at b2 ⊢
          refine d_op (ev_chki (by omega) (by omega) rfl) (d_op (ev_ofs (o := 0) rfl rfl) (d_op (ev_lgetN' (i := i) (by simp) (by simp) (getD_mid hri dj)) ?_))
          refine d_op (ev_cvt (by constructor <;> omega)) (d_op (ev_shl (x := 1) (y := j) (p := p) rfl (by show j ≤ 64; omega) (by rw [hpj, Nat.one_mul])) ?_)
          rw [wrap_in (k := .u64) (n := (p : Int)) (by constructor <;> omega)]
          refine d_op (ev_or (by constructor <;> omega) (by constructor <;> omega)) ?_
          refine d_op (ev_chki (by omega) (by omega) rfl) (d_op (ev_ofs (o := 0) rfl rfl) (d_op (ev_lsetN (i := i) (by simp) (by simp) rfl) ?_))
          refine d_op (ev_sub (by constructor <;> omega)) ?_
          have hor : dj ||| p = dj + p := by rw [hdj, hpj]; exact or_bit _ _
          rw [hor, set_mid hri, ← b2]
          exact d_back rfl ⟨j, by rw [← hpj]; rfl, by omega, by omega⟩
        · have h4' : V % (m * 2 ^ (j + 1)) < m * 2 ^ j := by rw [← hpj]; omega
          obtain ⟨b1, b2⟩ := bit_low h0 h4'
          refine d_op (ev_sub (by constructor <;> omega)) ?_
          exact d_back rfl ⟨j, by rw [b1, b2]; rfl, by omega, by omega⟩
      · have hs0 : s = 0 := by omega
        subst hs0
        have e0 : m * 2 ^ 0 = m := by simp
        have e9 : V / m * 2 ^ 0 = V / m := by simp
        rw [e0, e9]
        refine d_op (ev_sub (by constructor <;> omega)) ?_
        refine d_back rfl ⟨i, ?_, by omega, by omega⟩
        rw [hNi, d1, d2, ← hn1]
        have hq : A.length - i = A.length - (i + 1) + 1 := by omega
        have hvm : V / m < 65536 := Nat.div_lt_of_lt_mul (by rw [Nat.mul_comm]; omega)
        rw [hq, fdigs, Nat.add_mul_mod_self_left, Nat.mod_eq_of_lt hvm, Nat.add_mul_div_left _ _ (by decide), Nat.div_eq_of_lt hvm, Nat.zero_add, ← hQr]
        rfl
  · have hs0 : s = 0 := by omega
    subst hs0
    refine d_op (ev_mkslN (k := .u64) rfl (by simp)) (d_op ev_mktup (d_ret ?_))
    show AEnd.ret (AV.tup [SN .u64 (List.replicate 0 0 ++ fdigs 65536 (A.length - 0) (val 65536 (A.drop 0) / m)), SN .u64 (fdigs 65536 (min (A.length - 0) (B.length + 1)) (val 65536 (A.drop 0) % m))]) = _
    simp
end Go.SE
