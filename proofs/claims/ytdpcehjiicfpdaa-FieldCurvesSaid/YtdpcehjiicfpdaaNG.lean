/- Nothing of the statement is proved here: this text lays generic laws: NG; no conditions. -/
import Derived.Test.YtdpcehjiicfpdaaNF
set_option linter.all false
set_option autoImplicit false
set_option exponentiation.threshold 5000
namespace Go.SE
open Go
variable {P : Program} {R : AEnd → Prop} {L A B X Y : List Nat} {b : Nat}
theorem val_ext (h : ∀ i, X.getD i 0 = Y.getD i 0) : val b X = val b Y := by
  have key : ∀ n, val b (X.take n) = val b (Y.take n) := fun n => by
    induction n with
    | zero => simp
    | succ n ih => rw [val_take_succ, val_take_succ, ih, h]
  have := key (max X.length Y.length)
  rwa [List.take_of_length_le (by omega), List.take_of_length_le (by omega)] at this
theorem less_at {j : Nat} (hb : 0 < b) (hX : LtAll b X) (hY : LtAll b Y) (heq : ∀ k, j + 1 ≤ k → X.getD k 0 = Y.getD k 0) (h : X.getD j 0 ≠ Y.getD j 0) :
    decide (X.getD j 0 < Y.getD j 0) = decide (val b X < val b Y) := by
  have key : ∀ n, val b (X.take (j + 1 + n)) + val b (Y.take (j + 1)) = val b (Y.take (j + 1 + n)) + val b (X.take (j + 1)) := fun n => by
    induction n with
    | zero => simp [Nat.add_comm]
    | succ n ih =>
      rw [show j + 1 + (n + 1) = (j + 1 + n) + 1 from rfl, val_take_succ X (j + 1 + n), val_take_succ Y (j + 1 + n), heq (j + 1 + n) (by omega)]
      omega
  have hall := key (max X.length Y.length)
  have eX : X.take (j + 1 + max X.length Y.length) = X := List.take_of_length_le (by omega)
  have eY : Y.take (j + 1 + max X.length Y.length) = Y := List.take_of_length_le (by omega)
  rw [eX, eY, val_take_succ X j, val_take_succ Y j] at hall
  have low : ∀ {L : List Nat}, LtAll b L → val b (L.take j) < b ^ j := fun {L} hL => by
    have := val_lt hb (hL.take j)
    exact Nat.lt_of_lt_of_le this (Nat.pow_le_pow_right hb (by simp; omega))
  have lX := low hX
  have lY := low hY
  rw [decide_eq_decide]
  rcases Nat.lt_or_gt_of_ne h with h | h
  · have := Nat.mul_le_mul_left (b ^ j) h
    rw [Nat.mul_succ] at this
    constructor <;> intro <;> omega
  · have := Nat.mul_le_mul_left (b ^ j) h
    rw [Nat.mul_succ] at this
    constructor <;> intro <;> omega
def LessC (P : Program) (f : FuncId) : Prop := ∀ X Y, LtAll 65536 X → LtAll 65536 Y → X.length ≤ 35184372088832 → Y.length ≤ 35184372088832 → Ct P f [SN .u64 X, SN .u64 Y] (fun e => e = .ret (.bool (decide (val 65536 X < val 65536 Y))))
def t_less : T :=
 .node (.op .len [.v 0]) <|
 .node (.op .len [.v 1]) <|
 .node (.op (.bin .gtr) [.v 3, .v 2]) <|
 .br (.v 4) (
 .node (.op .len [.v 1]) <|
 .node (.op (.bin .sub) [.v 5, .c (.int .i64 1)]) <|
 .loop [.v 6] [true] <|
 .node (.op (.bin .geq) [.v 7, .c (.int .i64 0)]) <|
 .br (.v 8) (
 .node (.op .len [.v 0]) <|
 .node (.op (.bin .lss) [.v 7, .v 9]) <|
 .br (.v 10) (
 .node (.op (.eaddr 1) [.v 0, .v 7]) <|
 .node (.op (.rld false 1) [.v 11]) <|
 .node (.op .len [.v 1]) <|
 .node (.op (.bin .lss) [.v 7, .v 13]) <|
 .br (.v 14) (
 .node (.op (.eaddr 1) [.v 1, .v 7]) <|
 .node (.op (.rld false 1) [.v 15]) <|
 .node (.op (.bin .neq) [.v 12, .v 16]) <|
 .br (.v 17) (
 .node (.op (.bin .lss) [.v 12, .v 16]) <|
 .ret (.v 18)) (
 .node (.op (.bin .sub) [.v 7, .c (.int .i64 1)]) <|
 .back 0 [.v 18])) (
 .node (.op (.bin .neq) [.v 12, .c (.int .u64 0)]) <|
 .br (.v 15) (
 .node (.op (.bin .lss) [.v 12, .c (.int .u64 0)]) <|
 .ret (.v 16)) (
 .node (.op (.bin .sub) [.v 7, .c (.int .i64 1)]) <|
 .back 0 [.v 16]))) (
 .node (.op .len [.v 1]) <|
 .node (.op (.bin .lss) [.v 7, .v 11]) <|
 .br (.v 12) (
 .node (.op (.eaddr 1) [.v 1, .v 7]) <|
 .node (.op (.rld false 1) [.v 13]) <|
 .node (.op (.bin .neq) [.c (.int .u64 0), .v 14]) <|
 .br (.v 15) (
 .node (.op (.bin .lss) [.c (.int .u64 0), .v 14]) <|
 .ret (.v 16)) (
 .node (.op (.bin .sub) [.v 7, .c (.int .i64 1)]) <|
 .back 0 [.v 16])) (
 .node (.op (.bin .sub) [.v 7, .c (.int .i64 1)]) <|
 .back 0 [.v 13]))) (
 .ret (.c (.bool false)))) (
 .node (.op (.bin .sub) [.v 2, .c (.int .i64 1)]) <|
 .loop [.v 5] [true] <|
 .node (.op (.bin .geq) [.v 6, .c (.int .i64 0)]) <|
 .br (.v 7) (
 .node (.op .len [.v 0]) <|
 .node (.op (.bin .lss) [.v 6, .v 8]) <|
 .br (.v 9) (
 .node (.op (.eaddr 1) [.v 0, .v 6]) <|
 .node (.op (.rld false 1) [.v 10]) <|
 .node (.op .len [.v 1]) <|
 .node (.op (.bin .lss) [.v 6, .v 12]) <|
 .br (.v 13) (
 .node (.op (.eaddr 1) [.v 1, .v 6]) <|
 .node (.op (.rld false 1) [.v 14]) <|
 .node (.op (.bin .neq) [.v 11, .v 15]) <|
 .br (.v 16) (
 .node (.op (.bin .lss) [.v 11, .v 15]) <|
 .ret (.v 17)) (
 .node (.op (.bin .sub) [.v 6, .c (.int .i64 1)]) <|
 .back 0 [.v 17])) (
 .node (.op (.bin .neq) [.v 11, .c (.int .u64 0)]) <|
 .br (.v 14) (
 .node (.op (.bin .lss) [.v 11, .c (.int .u64 0)]) <|
 .ret (.v 15)) (
 .node (.op (.bin .sub) [.v 6, .c (.int .i64 1)]) <|
 .back 0 [.v 15]))) (
 .node (.op .len [.v 1]) <|
 .node (.op (.bin .lss) [.v 6, .v 10]) <|
 .br (.v 11) (
 .node (.op (.eaddr 1) [.v 1, .v 6]) <|
 .node (.op (.rld false 1) [.v 12]) <|
 .node (.op (.bin .neq) [.c (.int .u64 0), .v 13]) <|
 .br (.v 14) (
 .node (.op (.bin .lss) [.c (.int .u64 0), .v 13]) <|
 .ret (.v 15)) (
 .node (.op (.bin .sub) [.v 6, .c (.int .i64 1)]) <|
 .back 0 [.v 15])) (
 .node (.op (.bin .sub) [.v 6, .c (.int .i64 1)]) <|
 .back 0 [.v 12]))) (
 .ret (.c (.bool false))))
theorem less_den (hX : LtAll 65536 X) (hY : LtAll 65536 Y) (hxl : X.length ≤ 35184372088832) (hyl : Y.length ≤ 35184372088832) :
    D P (fun e => e = .ret (.bool (decide (val 65536 X < val 65536 Y)))) [] 2 [SN .u64 Y, SN .u64 X] t_less := by
  have bx : ∀ j, X.getD j 0 < 65536 := fun j => hX.getD (by decide) j
  have bY : ∀ j, Y.getD j 0 < 65536 := fun j => hY.getD (by decide) j
  refine d_op ev_len (d_op ev_len (d_op ev_gtr (d_if rfl (fun h0 => ?_) (fun h0 => ?_))))
  · obtain ⟨n, hn⟩ : ∃ n, n = Y.length := ⟨_, rfl⟩
    refine d_op ev_len ?_
    refine d_op (ev_sub (by constructor <;> omega)) ?_
    refine d_while (fun i : Nat => [.int .i64 ((i : Int) - 1)]) (fun i => i ≤ n ∧ ∀ k, i ≤ k → X.getD k 0 = Y.getD k 0) id n ⟨Nat.le_refl _, fun k hk => by rw [getD_ge (by omega), getD_ge (by omega)]⟩ (by rw [hn]; rfl) ?_
    rintro i ⟨hi, heq⟩
    refine d_op ev_geq (d_if rfl (fun h1 => ?_) (fun h1 => ?_))
    · obtain ⟨j, rfl⟩ : ∃ j, i = j + 1 := ⟨i - 1, by omega⟩
      have hnext : ∀ {Q : Nat → Prop}, X.getD j 0 = Y.getD j 0 → (j ≤ n ∧ ∀ k, j ≤ k → X.getD k 0 = Y.getD k 0) := fun {_} he => ⟨by omega, fun k hk => by
        rcases Nat.eq_or_lt_of_le hk with h | h
        · subst h; exact he
        · exact heq k h⟩
      have hne : X.getD j 0 ≠ Y.getD j 0 → decide (X.getD j 0 < Y.getD j 0) = decide (val 65536 X < val 65536 Y) := fun h => less_at (by decide) hX hY (fun k hk => heq k hk) h
      refine d_op ev_len (d_op ev_lss (d_if rfl (fun h2 => ?_) (fun h2 => ?_)))
      · refine d_op (ev_eaddrN (i := j) (by omega) (by omega)) (d_op (ev_rldN (by omega)) ?_)
        refine d_op ev_len (d_op ev_lss (d_if rfl (fun h3 => ?_) (fun h3 => ?_)))
        · refine d_op (ev_eaddrN (i := j) (by omega) (by omega)) (d_op (ev_rldN (by omega)) ?_)
          refine d_op ev_neq (d_if rfl (fun h4 => ?_) (fun h4 => ?_))
          · refine d_op ev_lss (d_ret ?_)
            show AEnd.ret (.bool (decide ((X.getD j 0 : Int) < (Y.getD j 0 : Int)))) = _
            rw [← hne (by omega)]; congr 2; simp
          · refine d_op (ev_sub (by constructor <;> omega)) ?_
            exact d_back rfl ⟨j, by show [AV.int .i64 _] = _; congr 2; omega, hnext (Q := fun _ => True) (by omega), Nat.lt_succ_self j⟩
        · have hy0 : Y.getD j 0 = 0 := getD_ge (by omega)
          refine d_op ev_neq (d_if rfl (fun h4 => ?_) (fun h4 => ?_))
          · refine d_op ev_lss (d_ret ?_)
            show AEnd.ret (.bool (decide ((X.getD j 0 : Int) < 0))) = _
            rw [← hne (by omega), hy0]; congr 2
          · refine d_op (ev_sub (by constructor <;> omega)) ?_
            exact d_back rfl ⟨j, by show [AV.int .i64 _] = _; congr 2; omega, hnext (Q := fun _ => True) (by omega), Nat.lt_succ_self j⟩
      · have hx0 : X.getD j 0 = 0 := getD_ge (by omega)
        refine d_op ev_len (d_op ev_lss (d_if rfl (fun h3 => ?_) (fun h3 => ?_)))
        · refine d_op (ev_eaddrN (i := j) (by omega) (by omega)) (d_op (ev_rldN (by omega)) ?_)
          refine d_op ev_neq (d_if rfl (fun h4 => ?_) (fun h4 => ?_))
          · refine d_op ev_lss (d_ret ?_)
            show AEnd.ret (.bool (decide ((0 : Int) < (Y.getD j 0 : Int)))) = _
            rw [← hne (by omega), hx0]; congr 2; simp
          · refine d_op (ev_sub (by constructor <;> omega)) ?_
            exact d_back rfl ⟨j, by show [AV.int .i64 _] = _; congr 2; omega, hnext (Q := fun _ => True) (by omega), Nat.lt_succ_self j⟩
        · have hy0 : Y.getD j 0 = 0 := getD_ge (by omega)
          refine d_op (ev_sub (by constructor <;> omega)) ?_
          exact d_back rfl ⟨j, by show [AV.int .i64 _] = _; congr 2; omega, hnext (Q := fun _ => True) (by omega), Nat.lt_succ_self j⟩
    · have : i = 0 := by omega
      subst this
      refine d_ret ?_
      show AEnd.ret (.bool false) = _
      rw [val_ext (b := 65536) (fun k => heq k (Nat.zero_le _))]
      simp
  · obtain ⟨n, hn⟩ : ∃ n, n = X.length := ⟨_, rfl⟩
    refine d_op (ev_sub (by constructor <;> omega)) ?_
    refine d_while (fun i : Nat => [.int .i64 ((i : Int) - 1)]) (fun i => i ≤ n ∧ ∀ k, i ≤ k → X.getD k 0 = Y.getD k 0) id n ⟨Nat.le_refl _, fun k hk => by rw [getD_ge (by omega), getD_ge (by omega)]⟩ (by rw [hn]; rfl) ?_
    rintro i ⟨hi, heq⟩
    refine d_op ev_geq (d_if rfl (fun h1 => ?_) (fun h1 => ?_))
    · obtain ⟨j, rfl⟩ : ∃ j, i = j + 1 := ⟨i - 1, by omega⟩
      have hnext : ∀ {Q : Nat → Prop}, X.getD j 0 = Y.getD j 0 → (j ≤ n ∧ ∀ k, j ≤ k → X.getD k 0 = Y.getD k 0) := fun {_} he => ⟨by omega, fun k hk => by
        rcases Nat.eq_or_lt_of_le hk with h | h
        · subst h; exact he
        · exact heq k h⟩
      have hne : X.getD j 0 ≠ Y.getD j 0 → decide (X.getD j 0 < Y.getD j 0) = decide (val 65536 X < val 65536 Y) := fun h => less_at (by decide) hX hY (fun k hk => heq k hk) h
      refine d_op ev_len (d_op ev_lss (d_if rfl (fun h2 => ?_) (fun h2 => ?_)))
      · refine d_op (ev_eaddrN (i := j) (by omega) (by omega)) (d_op (ev_rldN (by omega)) ?_)
        refine d_op ev_len (d_op ev_lss (d_if rfl (fun h3 => ?_) (fun h3 => ?_)))
        · refine d_op (ev_eaddrN (i := j) (by omega) (by omega)) (d_op (ev_rldN (by omega)) ?_)
          refine d_op ev_neq (d_if rfl (fun h4 => ?_) (fun h4 => ?_))
          · refine d_op ev_lss (d_ret ?_)
            show AEnd.ret (.bool (decide ((X.getD j 0 : Int) < (Y.getD j 0 : Int)))) = _
            rw [← hne (by omega)]; congr 2; simp
          · refine d_op (ev_sub (by constructor <;> omega)) ?_
            exact d_back rfl ⟨j, by show [AV.int .i64 _] = _; congr 2; omega, hnext (Q := fun _ => True) (by omega), Nat.lt_succ_self j⟩
        · have hy0 : Y.getD j 0 = 0 := getD_ge (by omega)
          refine d_op ev_neq (d_if rfl (fun h4 => ?_) (fun h4 => ?_))
          · refine d_op ev_lss (d_ret ?_)
            show AEnd.ret (.bool (decide ((X.getD j 0 : Int) < 0))) = _
            rw [← hne (by omega), hy0]; congr 2
          · refine d_op (ev_sub (by constructor <;> omega)) ?_
            exact d_back rfl ⟨j, by show [AV.int .i64 _] = _; congr 2; omega, hnext (Q := fun _ => True) (by omega), Nat.lt_succ_self j⟩
      · have hx0 : X.getD j 0 = 0 := getD_ge (by omega)
        refine d_op ev_len (d_op ev_lss (d_if rfl (fun h3 => ?_) (fun h3 => ?_)))
        · refine d_op (ev_eaddrN (i := j) (by omega) (by omega)) (d_op (ev_rldN (by omega)) ?_)
          refine d_op ev_neq (d_if rfl (fun h4 => ?_) (fun h4 => ?_))
          · refine d_op ev_lss (d_ret ?_)
            show AEnd.ret (.bool (decide ((0 : Int) < (Y.getD j 0 : Int)))) = _
            rw [← hne (by omega), hx0]; congr 2; simp
          · refine d_op (ev_sub (by constructor <;> omega)) ?_
            exact d_back rfl ⟨j, by show [AV.int .i64 _] = _; congr 2; omega, hnext (Q := fun _ => True) (by omega), Nat.lt_succ_self j⟩
        · have hy0 : Y.getD j 0 = 0 := getD_ge (by omega)
          refine d_op (ev_sub (by constructor <;> omega)) ?_
          exact d_back rfl ⟨j, by show [AV.int .i64 _] = _; congr 2; omega, hnext (Q := fun _ => True) (by omega), Nat.lt_succ_self j⟩
    · have : i = 0 := by omega
      subst this
      refine d_ret ?_
      show AEnd.ret (.bool false) = _
      rw [val_ext (b := 65536) (fun k => heq k (Nat.zero_le _))]
      simp
end Go.SE
