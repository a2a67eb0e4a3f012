/- Nothing of the statement is proved here: this text lays generic laws: NG; no conditions. -/
import Derived.Test.YtdgpkmphhjmdeaaNF

set_option linter.all false
set_option autoImplicit false
set_option exponentiation.threshold 5000
namespace Go.SE
open Go

variable {P : Program} {R : AEnd → Prop} {L A B X Y : List Nat} {b : Nat}

/-! ### Differences -/

theorem val_ext (h : ∀ i, X.getD i 0 = Y.getD i 0) : val b X = val b Y := by
  have key : ∀ n, val b (X.take n) = val b (Y.take n) := fun n => by
    induction n with
    | zero => simp
    | succ n ih => rw [val_take_succ, val_take_succ, ih, h]
  have := key (max X.length Y.length)
  rwa [List.take_of_length_le (by omega), List.take_of_length_le (by omega)] at this

theorem less_at {j : Nat} (hb : 0 < b) (hX : LtAll b X) (hY : LtAll b Y) (heq : ∀ k, j + 1 ≤ k → X.getD k 0 = Y.getD k 0) (h : X.getD j 0 ≠ Y.getD j 0) :
    decide (X.getD j 0 < Y.getD j 0) = decide (val b X < val b Y) := by
  have key : ∀ n, val b (X.take (j + 1 + n)) + val b (Y.take (j + 1)) = val b (Y.take (j + 1 + n)) + val b (X.take (j + 1)) := fun n => by
    induction n with
    | zero => simp [Nat.add_comm]
    | succ n ih =>
      rw [show j + 1 + (n + 1) = (j + 1 + n) + 1 from rfl, val_take_succ X (j + 1 + n), val_take_succ Y (j + 1 + n), heq (j + 1 + n) (by omega)]
      omega
  have hall := key (max X.length Y.length)
  have eX : X.take (j + 1 + max X.length Y.length) = X := List.take_of_length_le (by omega)
  have eY : Y.take (j + 1 + max X.length Y.length) = Y := List.take_of_length_le (by omega)
  rw [eX, eY, val_take_succ X j, val_take_succ Y j] at hall
  have low : ∀ {L : List Nat}, LtAll b L → val b (L.take j) < b ^ j := fun {L} hL => by
    have := val_lt hb (hL.take j)
    exact Nat.lt_of_lt_of_le this (Nat.pow_le_pow_right hb (by simp; omega))
  have lX := low hX
  have lY := low hY
  rw [decide_eq_decide]
  rcases Nat.lt_or_gt_of_ne h with h | h
  · have := Nat.mul_le_mul_left (b ^ j) h
    rw [Nat.mul_succ] at this
    constructor <;> intro <;> omega
  · have := Nat.mul_le_mul_left (b ^ j) h
    rw [Nat.mul_succ] at this
    constructor <;> intro <;> omega

def Sub32C (P : Program) (f : FuncId) : Prop := ∀ x y c : Nat, x < B32 → y < B32 → c ≤ 1 →
  Ct P f [.int .u32 (x : Int), .int .u32 (y : Int), .int .u32 (c : Int)] (fun e => e = .ret (.tup [.int .u32 (((x + 8589934592 - y - c) % B32 : Nat) : Int), .int .u32 ((if x < y + c then 1 else 0 : Nat) : Int)]))

theorem ev_unxor {x : Nat} (hx : x < B32) : evalO (.un .xor) [.int .u32 (x : Int)] = some (.int .u32 ((4294967295 ^^^ x : Nat) : Int)) := by
  have hx : x < 4294967296 := hx
  have := ev_xor (k := .u32) (x := 4294967295) (y := x) (by constructor <;> omega) (by constructor <;> omega)
  simp only [evalO, aBin, isShift, Bool.false_eq_true, if_false, if_true] at this
  simp only [evalO, aUn]
  exact this

theorem top_bit {n : Nat} (h : n < 4294967296) : n / 2147483648 = if n.testBit 31 then 1 else 0 := by
  rw [Nat.testBit_eq_decide_div_mod_eq]
  have : n / 2 ^ 31 % 2 = n / 2147483648 := by omega
  rw [this]
  have : n / 2147483648 < 2 := by omega
  split <;> rename_i h2 <;> simp at h2 <;> omega
theorem test31 {n : Nat} (h : n < 4294967296) : n.testBit 31 = decide (2147483648 ≤ n) := by
  rw [Nat.testBit_eq_decide_div_mod_eq, decide_eq_decide]
  omega

theorem borrow_bits {x y c : Nat} (hx : x < 4294967296) (hy : y < 4294967296) (hc : c ≤ 1) :
    ((4294967295 ^^^ x) &&& y ||| (4294967295 ^^^ (x ^^^ y)) &&& ((x + 8589934592 - y - c) % 4294967296)) / 2147483648 = if x < y + c then 1 else 0 := by
  obtain ⟨d, hd⟩ : ∃ d, d = (x + 8589934592 - y - c) % 4294967296 := ⟨_, rfl⟩
  have hdl : d < 4294967296 := by omega
  have hlt : ((4294967295 ^^^ x) &&& y ||| (4294967295 ^^^ (x ^^^ y)) &&& d) < 4294967296 :=
    Nat.or_lt_two_pow (n := 32) (Nat.lt_of_le_of_lt Nat.and_le_right hy) (Nat.lt_of_le_of_lt Nat.and_le_right hdl)
  rw [← hd, top_bit hlt]
  simp only [Nat.testBit_or, Nat.testBit_and, Nat.testBit_xor]
  rw [test31 hx, test31 hy, test31 hdl, test31 (show 4294967295 < 4294967296 by omega)]
  by_cases a1 : 2147483648 ≤ x <;> by_cases a2 : 2147483648 ≤ y <;> by_cases a3 : 2147483648 ≤ d <;> simp [a1, a2, a3] <;> omega

def t_sub32 : T :=
  .node (.op (.bin .sub) [.v 0, .v 1]) <| -- 3
  .node (.op (.bin .sub) [.v 3, .v 2]) <| -- 4
  .node (.op (.un .xor) [.v 0]) <| -- 5
  .node (.op (.bin .and) [.v 5, .v 1]) <| -- 6
  .node (.op (.bin .xor) [.v 0, .v 1]) <| -- 7
  .node (.op (.un .xor) [.v 7]) <| -- 8
  .node (.op (.bin .and) [.v 8, .v 4]) <| -- 9
  .node (.op (.bin .or) [.v 6, .v 9]) <| -- 10
  .node (.op (.bin .shr) [.v 10, .c (.int .u64 31)]) <| -- 11
  .node (.op .mktup [.v 4, .v 11]) <| -- 12
  .ret (.v 12)
theorem sub32_den {x y c : Nat} (hx : x < B32) (hy : y < B32) (hc : c ≤ 1) :
    D P (fun e => e = .ret (.tup [.int .u32 (((x + 8589934592 - y - c) % B32 : Nat) : Int), .int .u32 ((if x < y + c then 1 else 0 : Nat) : Int)])) [] 3 [.int .u32 (c : Int), .int .u32 (y : Int), .int .u32 (x : Int)] t_sub32 := by
  have hx : x < 4294967296 := hx
  have hy : y < 4294967296 := hy
  refine d_op ev_subw (d_op ev_subw ?_)
  have ed : IntKind.u32.wrap (IntKind.u32.wrap ((x : Int) - (y : Int)) - (c : Int)) = (((x + 8589934592 - y - c) % 4294967296 : Nat) : Int) := by
    rw [wrap_u rfl, wrap_u rfl]
    show (((x : Int) - (y : Int)) % 4294967296 - (c : Int)) % 4294967296 = _
    omega
  rw [ed]
  have hbb := borrow_bits hx hy hc
  obtain ⟨d, hd⟩ : ∃ d, d = (x + 8589934592 - y - c) % 4294967296 := ⟨_, rfl⟩
  have hdl : d < 4294967296 := by omega
  rw [← hd] at hbb
  have xl : ∀ z : Nat, z < 4294967296 → (4294967295 ^^^ z) < 4294967296 := fun z hz => Nat.xor_lt_two_pow (n := 32) (by omega) hz
  have x1 := xl x hx
  have x2 : (x ^^^ y) < 4294967296 := Nat.xor_lt_two_pow (n := 32) hx hy
  have x3 := xl _ x2
  have x4 : ((4294967295 ^^^ x) &&& y) ≤ y := Nat.and_le_right
  have x5 : ((4294967295 ^^^ (x ^^^ y)) &&& d) ≤ d := Nat.and_le_right
  rw [← hd]
  refine d_op (ev_unxor hx) (d_op (ev_and (by constructor <;> omega) (by constructor <;> omega)) (d_op (ev_xor (by constructor <;> omega) (by constructor <;> omega)) (d_op (ev_unxor x2) (d_op (ev_and (by constructor <;> omega) (by constructor <;> omega)) (d_op (ev_or (by constructor <;> omega) (by constructor <;> omega)) ?_)))))
  refine d_op (ev_shr (y := 31) rfl (by decide) hbb) (d_op ev_mktup (d_ret ?_))
  show AEnd.ret (.tup [.int .u32 (d : Int), _]) = _
  rw [hd]
  rfl

def LessC (P : Program) (f : FuncId) : Prop := ∀ X Y, LtAll 65536 X → LtAll 65536 Y → X.length ≤ 35184372088832 → Y.length ≤ 35184372088832 → Ct P f [SN .u64 X, SN .u64 Y] (fun e => e = .ret (.bool (decide (val 65536 X < val 65536 Y))))

def t_less : T :=
  .node (.op .len [.v 0]) <| -- 2
  .node (.op .len [.v 1]) <| -- 3
  .node (.op (.bin .gtr) [.v 3, .v 2]) <| -- 4
  .br (.v 4) (
    .node (.op .len [.v 1]) <| -- 5
    .node (.op (.bin .sub) [.v 5, .c (.int .i64 1)]) <| -- 6
    .loop [.v 6] [true] <| -- 7 to 7
      .node (.op (.bin .geq) [.v 7, .c (.int .i64 0)]) <| -- 8
      .br (.v 8) (
        .node (.op .len [.v 0]) <| -- 9
        .node (.op (.bin .lss) [.v 7, .v 9]) <| -- 10
        .br (.v 10) (
          .node (.op (.eaddr 1) [.v 0, .v 7]) <| -- 11
          .node (.op (.rld false 1) [.v 11]) <| -- 12
          .node (.op .len [.v 1]) <| -- 13
          .node (.op (.bin .lss) [.v 7, .v 13]) <| -- 14
          .br (.v 14) (
            .node (.op (.eaddr 1) [.v 1, .v 7]) <| -- 15
            .node (.op (.rld false 1) [.v 15]) <| -- 16
            .node (.op (.bin .neq) [.v 12, .v 16]) <| -- 17
            .br (.v 17) (
              .node (.op (.bin .lss) [.v 12, .v 16]) <| -- 18
              .ret (.v 18)) (
              .node (.op (.bin .sub) [.v 7, .c (.int .i64 1)]) <| -- 18
              .back 0 [.v 18])) (
            .node (.op (.bin .neq) [.v 12, .c (.int .u64 0)]) <| -- 15
            .br (.v 15) (
              .node (.op (.bin .lss) [.v 12, .c (.int .u64 0)]) <| -- 16
              .ret (.v 16)) (
              .node (.op (.bin .sub) [.v 7, .c (.int .i64 1)]) <| -- 16
              .back 0 [.v 16]))) (
          .node (.op .len [.v 1]) <| -- 11
          .node (.op (.bin .lss) [.v 7, .v 11]) <| -- 12
          .br (.v 12) (
            .node (.op (.eaddr 1) [.v 1, .v 7]) <| -- 13
            .node (.op (.rld false 1) [.v 13]) <| -- 14
            .node (.op (.bin .neq) [.c (.int .u64 0), .v 14]) <| -- 15
            .br (.v 15) (
              .node (.op (.bin .lss) [.c (.int .u64 0), .v 14]) <| -- 16
              .ret (.v 16)) (
              .node (.op (.bin .sub) [.v 7, .c (.int .i64 1)]) <| -- 16
              .back 0 [.v 16])) (
            .node (.op (.bin .sub) [.v 7, .c (.int .i64 1)]) <| -- 13
            .back 0 [.v 13]))) (
        .ret (.c (.bool false)))) (
    .node (.op (.bin .sub) [.v 2, .c (.int .i64 1)]) <| -- 5
    .loop [.v 5] [true] <| -- 6 to 6
      .node (.op (.bin .geq) [.v 6, .c (.int .i64 0)]) <| -- 7
      .br (.v 7) (
        .node (.op .len [.v 0]) <| -- 8
        .node (.op (.bin .lss) [.v 6, .v 8]) <| -- 9
        .br (.v 9) (
          .node (.op (.eaddr 1) [.v 0, .v 6]) <| -- 10
          .node (.op (.rld false 1) [.v 10]) <| -- 11
          .node (.op .len [.v 1]) <| -- 12
          .node (.op (.bin .lss) [.v 6, .v 12]) <| -- 13
          .br (.v 13) (
            .node (.op (.eaddr 1) [.v 1, .v 6]) <| -- 14
            .node (.op (.rld false 1) [.v 14]) <| -- 15
            .node (.op (.bin .neq) [.v 11, .v 15]) <| -- 16
            .br (.v 16) (
              .node (.op (.bin .lss) [.v 11, .v 15]) <| -- 17
              .ret (.v 17)) (
              .node (.op (.bin .sub) [.v 6, .c (.int .i64 1)]) <| -- 17
              .back 0 [.v 17])) (
            .node (.op (.bin .neq) [.v 11, .c (.int .u64 0)]) <| -- 14
            .br (.v 14) (
              .node (.op (.bin .lss) [.v 11, .c (.int .u64 0)]) <| -- 15
              .ret (.v 15)) (
              .node (.op (.bin .sub) [.v 6, .c (.int .i64 1)]) <| -- 15
              .back 0 [.v 15]))) (
          .node (.op .len [.v 1]) <| -- 10
          .node (.op (.bin .lss) [.v 6, .v 10]) <| -- 11
          .br (.v 11) (
            .node (.op (.eaddr 1) [.v 1, .v 6]) <| -- 12
            .node (.op (.rld false 1) [.v 12]) <| -- 13
            .node (.op (.bin .neq) [.c (.int .u64 0), .v 13]) <| -- 14
            .br (.v 14) (
              .node (.op (.bin .lss) [.c (.int .u64 0), .v 13]) <| -- 15
              .ret (.v 15)) (
              .node (.op (.bin .sub) [.v 6, .c (.int .i64 1)]) <| -- 15
              .back 0 [.v 15])) (
            .node (.op (.bin .sub) [.v 6, .c (.int .i64 1)]) <| -- 12
            .back 0 [.v 12]))) (
        .ret (.c (.bool false))))
theorem less_den (hX : LtAll 65536 X) (hY : LtAll 65536 Y) (hxl : X.length ≤ 35184372088832) (hyl : Y.length ≤ 35184372088832) :
    D P (fun e => e = .ret (.bool (decide (val 65536 X < val 65536 Y)))) [] 2 [SN .u64 Y, SN .u64 X] t_less := by
  have bx : ∀ j, X.getD j 0 < 65536 := fun j => hX.getD (by decide) j
  have bY : ∀ j, Y.getD j 0 < 65536 := fun j => hY.getD (by decide) j
  refine d_op ev_len (d_op ev_len (d_op ev_gtr (d_if rfl (fun h0 => ?_) (fun h0 => ?_))))
  · obtain ⟨n, hn⟩ : ∃ n, n = Y.length := ⟨_, rfl⟩
    refine d_op ev_len ?_
    refine d_op (ev_sub (by constructor <;> omega)) ?_
    refine d_while (fun i : Nat => [.int .i64 ((i : Int) - 1)]) (fun i => i ≤ n ∧ ∀ k, i ≤ k → X.getD k 0 = Y.getD k 0) id n ⟨Nat.le_refl _, fun k hk => by rw [getD_ge (by omega), getD_ge (by omega)]⟩ (by rw [hn]; rfl) ?_
    rintro i ⟨hi, heq⟩
    refine d_op ev_geq (d_if rfl (fun h1 => ?_) (fun h1 => ?_))
    · obtain ⟨j, rfl⟩ : ∃ j, i = j + 1 := ⟨i - 1, by omega⟩
      have hnext : ∀ {Q : Nat → Prop}, X.getD j 0 = Y.getD j 0 → (j ≤ n ∧ ∀ k, j ≤ k → X.getD k 0 = Y.getD k 0) := fun {_} he => ⟨by omega, fun k hk => by
        rcases Nat.eq_or_lt_of_le hk with h | h
        · subst h; exact he
        · exact heq k h⟩
      have hne : X.getD j 0 ≠ Y.getD j 0 → decide (X.getD j 0 < Y.getD j 0) = decide (val 65536 X < val 65536 Y) := fun h => less_at (by decide) hX hY (fun k hk => heq k hk) h
      refine d_op ev_len (d_op ev_lss (d_if rfl (fun h2 => ?_) (fun h2 => ?_)))
      · refine d_op (ev_eaddrN (i := j) (by omega) (by omega)) (d_op (ev_rldN (by omega)) ?_)
        refine d_op ev_len (d_op ev_lss (d_if rfl (fun h3 => ?_) (fun h3 => ?_)))
        · refine d_op (ev_eaddrN (i := j) (by omega) (by omega)) (d_op (ev_rldN (by omega)) ?_)
          refine d_op ev_neq (d_if rfl (fun h4 => ?_) (fun h4 => ?_))
          · refine d_op ev_lss (d_ret ?_)
            show AEnd.ret (.bool (decide ((X.getD j 0 : Int) < (Y.getD j 0 : Int)))) = _
            rw [← hne (by omega)]; congr 2; simp
          · refine d_op (ev_sub (by constructor <;> omega)) ?_
            exact d_back rfl ⟨j, by show [AV.int .i64 _] = _; congr 2; omega, hnext (Q := fun _ => True) (by omega), Nat.lt_succ_self j⟩
        · have hy0 : Y.getD j 0 = 0 := getD_ge (by omega)
          refine d_op ev_neq (d_if rfl (fun h4 => ?_) (fun h4 => ?_))
          · refine d_op ev_lss (d_ret ?_)
            show AEnd.ret (.bool (decide ((X.getD j 0 : Int) < 0))) = _
            rw [← hne (by omega), hy0]; congr 2
          · refine d_op (ev_sub (by constructor <;> omega)) ?_
            exact d_back rfl ⟨j, by show [AV.int .i64 _] = _; congr 2; omega, hnext (Q := fun _ => True) (by omega), Nat.lt_succ_self j⟩
      · have hx0 : X.getD j 0 = 0 := getD_ge (by omega)
        refine d_op ev_len (d_op ev_lss (d_if rfl (fun h3 => ?_) (fun h3 => ?_)))
        · refine d_op (ev_eaddrN (i := j) (by omega) (by omega)) (d_op (ev_rldN (by omega)) ?_)
          refine d_op ev_neq (d_if rfl (fun h4 => ?_) (fun h4 => ?_))
          · refine d_op ev_lss (d_ret ?_)
            show AEnd.ret (.bool (decide ((0 : Int) < (Y.getD j 0 : Int)))) = _
            rw [← hne (by omega), hx0]; congr 2; simp
          · refine d_op (ev_sub (by constructor <;> omega)) ?_
            exact d_back rfl ⟨j, by show [AV.int .i64 _] = _; congr 2; omega, hnext (Q := fun _ => True) (by omega), Nat.lt_succ_self j⟩
        · have hy0 : Y.getD j 0 = 0 := getD_ge (by omega)
          refine d_op (ev_sub (by constructor <;> omega)) ?_
          exact d_back rfl ⟨j, by show [AV.int .i64 _] = _; congr 2; omega, hnext (Q := fun _ => True) (by omega), Nat.lt_succ_self j⟩
    · have : i = 0 := by omega
      subst this
      refine d_ret ?_
      show AEnd.ret (.bool false) = _
      rw [val_ext (b := 65536) (fun k => heq k (Nat.zero_le _))]
      simp
  · obtain ⟨n, hn⟩ : ∃ n, n = X.length := ⟨_, rfl⟩
    refine d_op (ev_sub (by constructor <;> omega)) ?_
    refine d_while (fun i : Nat => [.int .i64 ((i : Int) - 1)]) (fun i => i ≤ n ∧ ∀ k, i ≤ k → X.getD k 0 = Y.getD k 0) id n ⟨Nat.le_refl _, fun k hk => by rw [getD_ge (by omega), getD_ge (by omega)]⟩ (by rw [hn]; rfl) ?_
    rintro i ⟨hi, heq⟩
    refine d_op ev_geq (d_if rfl (fun h1 => ?_) (fun h1 => ?_))
    · obtain ⟨j, rfl⟩ : ∃ j, i = j + 1 := ⟨i - 1, by omega⟩
      have hnext : ∀ {Q : Nat → Prop}, X.getD j 0 = Y.getD j 0 → (j ≤ n ∧ ∀ k, j ≤ k → X.getD k 0 = Y.getD k 0) := fun {_} he => ⟨by omega, fun k hk => by
        rcases Nat.eq_or_lt_of_le hk with h | h
        · subst h; exact he
        · exact heq k h⟩
      have hne : X.getD j 0 ≠ Y.getD j 0 → decide (X.getD j 0 < Y.getD j 0) = decide (val 65536 X < val 65536 Y) := fun h => less_at (by decide) hX hY (fun k hk => heq k hk) h
      refine d_op ev_len (d_op ev_lss (d_if rfl (fun h2 => ?_) (fun h2 => ?_)))
      · refine d_op (ev_eaddrN (i := j) (by omega) (by omega)) (d_op (ev_rldN (by omega)) ?_)
        refine d_op ev_len (d_op ev_lss (d_if rfl (fun h3 => ?_) (fun h3 => ?_)))
        · refine d_op (ev_eaddrN (i := j) (by omega) (by omega)) (d_op (ev_rldN (by omega)) ?_)
          refine d_op ev_neq (d_if rfl (fun h4 => ?_) (fun h4 => ?_))
          · refine d_op ev_lss (d_ret ?_)
            show AEnd.ret (.bool (decide ((X.getD j 0 : Int) < (Y.getD j 0 : Int)))) = _
            rw [← hne (by omega)]; congr 2; simp
          · refine d_op (ev_sub (by constructor <;> omega)) ?_
            exact d_back rfl ⟨j, by show [AV.int .i64 _] = _; congr 2; omega, hnext (Q := fun _ => True) (by omega), Nat.lt_succ_self j⟩
        · have hy0 : Y.getD j 0 = 0 := getD_ge (by omega)
          refine d_op ev_neq (d_if rfl (fun h4 => ?_) (fun h4 => ?_))
          · refine d_op ev_lss (d_ret ?_)
            show AEnd.ret (.bool (decide ((X.getD j 0 : Int) < 0))) = _
            rw [← hne (by omega), hy0]; congr 2
          · refine d_op (ev_sub (by constructor <;> omega)) ?_
            exact d_back rfl ⟨j, by show [AV.int .i64 _] = _; congr 2; omega, hnext (Q := fun _ => True) (by omega), Nat.lt_succ_self j⟩
      · have hx0 : X.getD j 0 = 0 := getD_ge (by omega)
        refine d_op ev_len (d_op ev_lss (d_if rfl (fun h3 => ?_) (fun h3 => ?_)))
        · refine d_op (ev_eaddrN (i := j) (by omega) (by omega)) (d_op (ev_rldN (by omega)) ?_)
          refine d_op ev_neq (d_if rfl (fun h4 => ?_) (fun h4 => ?_))
          · refine d_op ev_lss (d_ret ?_)
            show AEnd.ret (.bool (decide ((0 : Int) < (Y.getD j 0 : Int)))) = _
            rw [← hne (by omega), hx0]; congr 2; simp
          · refine d_op (ev_sub (by constructor <;> omega)) ?_
            exact d_back rfl ⟨j, by show [AV.int .i64 _] = _; congr 2; omega, hnext (Q := fun _ => True) (by omega), Nat.lt_succ_self j⟩
        · have hy0 : Y.getD j 0 = 0 := getD_ge (by omega)
          refine d_op (ev_sub (by constructor <;> omega)) ?_
          exact d_back rfl ⟨j, by show [AV.int .i64 _] = _; congr 2; omega, hnext (Q := fun _ => True) (by omega), Nat.lt_succ_self j⟩
    · have : i = 0 := by omega
      subst this
      refine d_ret ?_
      show AEnd.ret (.bool false) = _
      rw [val_ext (b := 65536) (fun k => heq k (Nat.zero_le _))]
      simp

def RCmpC (P : Program) (f : FuncId) : Prop := ∀ A B, OkN A → OkN B → (nrm A).length ≤ 4398046511104 → (nrm B).length ≤ 4398046511104 → Ct P f [W A, W B] (fun e => e = .ret (.int .i64 (cmpN (val B32 A) (val B32 B))))

def t_rcmp (plain digits less : FuncId) : T :=
  .node (.call plain [.v 0] true) <| -- 2
  .node (.call plain [.v 1] true) <| -- 3
  .node (.call digits [.v 2] true) <| -- 4
  .node (.call digits [.v 3] true) <| -- 5
  .node (.call less [.v 4, .v 5] true) <| -- 6
  .br (.v 6) (
    .ret (.c (.int .i64 (-1)))) (
    .node (.call digits [.v 3] true) <| -- 7
    .node (.call digits [.v 2] true) <| -- 8
    .node (.call less [.v 7, .v 8] true) <| -- 9
    .br (.v 9) (
      .ret (.c (.int .i64 1))) (
      .ret (.c (.int .i64 0))))
theorem rcmp_den {plain digits less : FuncId} (hp : PlainC P plain) (hd : DigitsC P digits) (hl : LessC P less) (hA : OkN A) (hB : OkN B) (lX : (nrm A).length ≤ 4398046511104) (lY : (nrm B).length ≤ 4398046511104) :
    D P (fun e => e = .ret (.int .i64 (cmpN (val B32 A) (val B32 B)))) [] 2 [W B, W A] (t_rcmp plain digits less) := by
  refine d_call (hp A hA.1 hA.2) (fun _ => rfl) (d_call (hp B hB.1 hB.2) (fun _ => rfl) ?_)
  refine d_call (hd _ nrm_lt lX) (fun _ => rfl) (d_call (hd _ nrm_lt lY) (fun _ => rfl) ?_)
  refine d_call (hl _ _ (fdigs_lt (by decide) _ _) (fdigs_lt (by decide) _ _) (by simp; omega) (by simp; omega)) (fun _ => rfl) ?_
  rw [dnum_val, dnum_val]
  refine d_if rfl (fun h => ?_) (fun h => ?_)
  · refine d_ret ?_
    show AEnd.ret (.int .i64 (-1)) = _
    unfold cmpN; rw [if_pos h]
  · refine d_call (hd _ nrm_lt lY) (fun _ => rfl) (d_call (hd _ nrm_lt lX) (fun _ => rfl) ?_)
    refine d_call (hl _ _ (fdigs_lt (by decide) _ _) (fdigs_lt (by decide) _ _) (by simp; omega) (by simp; omega)) (fun _ => rfl) ?_
    rw [dnum_val, dnum_val]
    refine d_if rfl (fun h2 => ?_) (fun h2 => ?_)
    · refine d_ret ?_
      show AEnd.ret (.int .i64 1) = _
      unfold cmpN; rw [if_neg h, if_pos h2]
    · refine d_ret ?_
      show AEnd.ret (.int .i64 0) = _
      unfold cmpN; rw [if_neg h, if_neg h2]

/-! minus, in its first argument's memory -/

def MinusH (P : Program) (f : FuncId) : Prop := ∀ X Y, LtAll B32 X → LtAll B32 Y → X.length ≤ 35184372088832 → Y.length ≤ 35184372088832 → val B32 Y ≤ val B32 X →
  CtH P f [.osl 0 1 (.int .i64 0) (.int .i64 (X.length : Int)) (.int .i64 (X.length : Int)), .val (W Y)] [.lst (CN .u32 X)] ⟨true, [], 1⟩ (fun e => e = .ret (.tup [.lst (CN .u32 (fdigs B32 X.length (val B32 X - val B32 Y)))]))
def Minus0 (P : Program) (f : FuncId) : Prop := ∀ Y, Ct P f [W [], W Y] (fun e => e = .ret (.tup []))

/-- one place more of a difference -/
theorem place_minus {p o y c r c' V V' X Z b : Nat} (h1 : V' + p * o = V + p * r) (h2 : r + y + c = o + b * c') (h3 : V + Z = X + p * c) : V' + (Z + p * y) = X + p * b * c' := by
  have := congrArg (p * ·) h2
  simp only [Nat.mul_add] at this
  rw [Nat.mul_assoc]
  omega

def t_minusH (sub32 : FuncId) : T :=
  .loop [.c (.int .u32 0), .c (.int .i64 0), .v 0] [true, true, false] <| -- 5 to 7
    .node (.op (.bin .lss) [.v 6, .v 2]) <| -- 8
    .br (.v 8) (
      .node (.op .len [.v 4]) <| -- 9
      .node (.op (.bin .lss) [.v 6, .v 9]) <| -- 10
      .br (.v 10) (
        .node (.op (.eaddr 1) [.v 4, .v 6]) <| -- 11
        .node (.op (.rld false 1) [.v 11]) <| -- 12
        .node (.op .chki [.v 6, .v 2]) <| -- 13
        .node (.op (.ofs 1) [.v 1, .v 6]) <| -- 14
        .node (.op (.lget false 1) [.v 7, .v 14]) <| -- 15
        .node (.call sub32 [.v 15, .v 12, .v 5] false) <| -- 16
        .node (.op (.ext 0 true) [.v 16]) <| -- 17
        .node (.op (.ext 1 true) [.v 16]) <| -- 18
        .node (.op .chki [.v 6, .v 2]) <| -- 19
        .node (.op (.ofs 1) [.v 1, .v 6]) <| -- 20
        .node (.op .lset [.v 7, .v 20, .v 17]) <| -- 21
        .node (.op (.bin .add) [.v 6, .c (.int .i64 1)]) <| -- 22
        .back 0 [.v 18, .v 22, .v 21]) (
        .node (.op .chki [.v 6, .v 2]) <| -- 11
        .node (.op (.ofs 1) [.v 1, .v 6]) <| -- 12
        .node (.op (.lget false 1) [.v 7, .v 12]) <| -- 13
        .node (.call sub32 [.v 13, .c (.int .u32 0), .v 5] false) <| -- 14
        .node (.op (.ext 0 true) [.v 14]) <| -- 15
        .node (.op (.ext 1 true) [.v 14]) <| -- 16
        .node (.op .chki [.v 6, .v 2]) <| -- 17
        .node (.op (.ofs 1) [.v 1, .v 6]) <| -- 18
        .node (.op .lset [.v 7, .v 18, .v 15]) <| -- 19
        .node (.op (.bin .add) [.v 6, .c (.int .i64 1)]) <| -- 20
        .back 0 [.v 16, .v 20, .v 19])) (
      .node (.op .mktup [.v 7]) <| -- 9
      .ret (.v 9))
theorem minusH_den {sub32 : FuncId} (h32 : Sub32C P sub32) (hX : LtAll B32 X) (hY : LtAll B32 Y) (hxl : X.length ≤ 35184372088832) (hyl : Y.length ≤ 35184372088832) (hle : val B32 Y ≤ val B32 X) :
    D P (fun e => e = .ret (.tup [.lst (CN .u32 (fdigs B32 X.length (val B32 X - val B32 Y)))])) [] 5 [W Y, .int .i64 (X.length : Int), .int .i64 (X.length : Int), .int .i64 0, .lst (CN .u32 X)] (t_minusH sub32) := by
  refine d_while (fun s : Nat × Nat × List Nat => [.int .u32 (s.1 : Int), .int .i64 (s.2.1 : Int), .lst (CN .u32 s.2.2)])
    (fun s => s.1 ≤ 1 ∧ s.2.1 ≤ X.length ∧ s.2.2.length = X.length ∧ LtAll B32 s.2.2 ∧ val B32 s.2.2 + val B32 (Y.take s.2.1) = val B32 X + B32 ^ s.2.1 * s.1) (fun s => X.length - s.2.1)
    (0, 0, X) ⟨by simp, by simp, rfl, hX, by simp⟩ rfl ?_
  rintro ⟨c, i, O⟩ ⟨hc, hi, hol, hot, hov⟩
  dsimp only at hc hi hol hot hov ⊢
  refine d_op ev_lss (d_if rfl (fun h1 => ?_) (fun h1 => ?_))
  · have ho : O.getD i 0 < 4294967296 := hot.getD (by decide) i
    have hy : Y.getD i 0 < 4294967296 := hY.getD (by decide) i
    have step : ∀ {O' : List Nat} {c' : Nat}, O' = O.set i ((O.getD i 0 + 8589934592 - Y.getD i 0 - c) % B32) → c' = (if O.getD i 0 < Y.getD i 0 + c then 1 else 0) →
        (c' ≤ 1 ∧ i + 1 ≤ X.length ∧ O'.length = X.length ∧ LtAll B32 O' ∧ val B32 O' + val B32 (Y.take (i + 1)) = val B32 X + B32 ^ (i + 1) * c') := fun {O' c'} e1 e2 => by
      subst e1; subst e2
      refine ⟨by split <;> omega, by omega, by simp [hol], hot.set (Nat.mod_lt _ (by decide)) i, ?_⟩
      rw [val_take_succ, Nat.pow_succ]
      refine place_minus (val_set (by omega) _) ?_ hov
      show (O.getD i 0 + 8589934592 - Y.getD i 0 - c) % 4294967296 + _ + _ = _ + 4294967296 * _
      split <;> omega
    refine d_op ev_len (d_op ev_lss (d_if rfl (fun h2 => ?_) (fun h2 => ?_)))
    · refine d_op (ev_eaddrN (i := i) rfl (by omega)) (d_op (ev_rldN (by omega)) ?_)
      refine d_op (ev_chki (by omega) (by omega) rfl) (d_op (ev_ofs (o := 0) rfl rfl) (d_op (ev_lgetN (i := i) (by simp) (by omega)) ?_))
      refine d_call (h32 _ _ _ ho hy hc) (fun h => by cases h) ?_
      refine d_op (ev_ext rfl (fun _ => rfl)) (d_op (ev_ext rfl (fun _ => rfl)) ?_)
      refine d_op (ev_chki (by omega) (by omega) rfl) (d_op (ev_ofs (o := 0) rfl rfl) (d_op (ev_lsetN (i := i) (by simp) (by omega) rfl) ?_))
      refine d_op (ev_add (by constructor <;> omega)) ?_
      exact d_back rfl ⟨(_, i + 1, _), rfl, step rfl rfl, by simp only; omega⟩
    · have hy0 : Y.getD i 0 = 0 := getD_ge (by omega)
      refine d_op (ev_chki (by omega) (by omega) rfl) (d_op (ev_ofs (o := 0) rfl rfl) (d_op (ev_lgetN (i := i) (by simp) (by omega)) ?_))
      refine d_call (h32 _ 0 _ ho (by decide) hc) (fun h => by cases h) ?_
      refine d_op (ev_ext rfl (fun _ => rfl)) (d_op (ev_ext rfl (fun _ => rfl)) ?_)
      refine d_op (ev_chki (by omega) (by omega) rfl) (d_op (ev_ofs (o := 0) rfl rfl) (d_op (ev_lsetN (i := i) (by simp) (by omega) rfl) ?_))
      refine d_op (ev_add (by constructor <;> omega)) ?_
      exact d_back rfl ⟨(_, i + 1, _), rfl, step (by rw [hy0]) (by rw [hy0]; rfl), by simp only; omega⟩
  · have : i = X.length := by omega
    subst this
    have hvX := val_lt (b := B32) (by decide) hX
    have hvO := val_lt (b := B32) (by decide) hot
    rw [hol] at hvO
    have hT : val B32 (Y.take X.length) = val B32 Y := by
      rw [val_take (by decide) hY, Nat.mod_eq_of_lt (by omega)]
    rw [hT] at hov
    have hc0 : c = 0 := by
      rcases Nat.eq_zero_or_pos c with h0 | h0
      · exact h0
      · exfalso
        have h3 : B32 ^ X.length * 1 ≤ B32 ^ X.length * c := Nat.mul_le_mul_left _ h0
        omega
    subst hc0
    refine d_op ev_mktup (d_ret ?_)
    show AEnd.ret (.tup [.lst (CN .u32 O)]) = _
    rw [← eq_fdigs (b := B32) (L := O) (by decide) hot hol (by omega)]

def t_minus0 (sub32 : FuncId) : T :=
  .node (.op .len [.v 0]) <| -- 2
  .node (.op (.bin .lss) [.c (.int .i64 0), .v 2]) <| -- 3
  .br (.v 3) (
    .node (.op .len [.v 1]) <| -- 4
    .node (.op (.bin .lss) [.c (.int .i64 0), .v 4]) <| -- 5
    .br (.v 5) (
      .node (.op (.eaddr 1) [.v 1, .c (.int .i64 0)]) <| -- 6
      .node (.op (.rld false 1) [.v 6]) <| -- 7
      .node (.op (.eaddr 1) [.v 0, .c (.int .i64 0)]) <| -- 8
      .node (.op (.rld false 1) [.v 8]) <| -- 9
      .node (.call sub32 [.v 9, .v 7, .c (.int .u32 0)] false) <| -- 10
      .node (.op (.ext 0 true) [.v 10]) <| -- 11
      .node (.op (.ext 1 true) [.v 10]) <| -- 12
      .node (.op (.eaddr 1) [.v 0, .c (.int .i64 0)]) <| -- 13
      .fail) (
      .node (.op (.eaddr 1) [.v 0, .c (.int .i64 0)]) <| -- 6
      .node (.op (.rld false 1) [.v 6]) <| -- 7
      .node (.call sub32 [.v 7, .c (.int .u32 0), .c (.int .u32 0)] false) <| -- 8
      .node (.op (.ext 0 true) [.v 8]) <| -- 9
      .node (.op (.ext 1 true) [.v 8]) <| -- 10
      .node (.op (.eaddr 1) [.v 0, .c (.int .i64 0)]) <| -- 11
      .fail)) (
    .ret (.c (.tup [])))
theorem minus0_den {sub32 : FuncId} : D P (fun e => e = .ret (.tup [])) [] 2 [W Y, W []] (t_minus0 sub32) := by
  refine d_op ev_len (d_op ev_lss (d_if rfl (fun h => absurd h (by decide)) (fun _ => d_ret rfl)))

def subS (a b : Nat) : List Nat × Int := if long a || long b then ([], 2) else if a < b then ([], 1) else told (a - b)

def t_subH (check compare trim clone minus told : FuncId) : T :=
  .node (.op .mklst [.v 0, .v 1]) <| -- 2
  .node (.op (.mksl 1) [.v 2, .c (.int .i64 0), .c (.int .i64 2)]) <| -- 3
  .node (.call check [.v 3] true) <| -- 4
  .node (.op (.bin .neq) [.v 4, .c (.int .i64 0)]) <| -- 5
  .br (.v 5) (
    .node (.op .mktup [.c .nils, .v 4]) <| -- 6
    .ret (.v 6)) (
    .node (.call compare [.v 0, .v 1] true) <| -- 6
    .node (.op (.bin .lss) [.v 6, .c (.int .i64 0)]) <| -- 7
    .br (.v 7) (
      .ret (.c (.tup [.nils, .int .i64 1]))) (
      .node (.call trim [.v 0] true) <| -- 8
      .node (.callH clone [.val (.v 8)] [] (.mk false [.osl 0 1 true] 1)) <| -- 9
      .node (.op (.ext 0 true) [.v 9]) <| -- 10
      .node (.op (.ext 1 true) [.v 9]) <| -- 11
      .node (.op (.ext 2 true) [.v 9]) <| -- 12
      .node (.op (.ext 3 false) [.v 9]) <| -- 13
      .node (.call trim [.v 1] true) <| -- 14
      .node (.callH minus [.osl 0 1 (.c (.int .i64 0)) (.v 11) (.v 12), .val (.v 14)] [.v 13] (.mk true [] 1)) <| -- 15
      .node (.op (.ext 0 false) [.v 15]) <| -- 16
      .node (.op (.mksl 1) [.v 16, .c (.int .i64 0), .v 11]) <| -- 17
      .node (.call told [.v 17] false) <| -- 18
      .node (.op (.ext 0 true) [.v 18]) <| -- 19
      .node (.op (.ext 1 true) [.v 18]) <| -- 20
      .node (.op .mktup [.v 19, .v 20]) <| -- 21
      .ret (.v 21)))
def t_sub0 (check compare trim clone minus told : FuncId) : T :=
  .node (.op .mklst [.v 0, .v 1]) <| -- 2
  .node (.op (.mksl 1) [.v 2, .c (.int .i64 0), .c (.int .i64 2)]) <| -- 3
  .node (.call check [.v 3] true) <| -- 4
  .node (.op (.bin .neq) [.v 4, .c (.int .i64 0)]) <| -- 5
  .br (.v 5) (
    .node (.op .mktup [.c .nils, .v 4]) <| -- 6
    .ret (.v 6)) (
    .node (.call compare [.v 0, .v 1] true) <| -- 6
    .node (.op (.bin .lss) [.v 6, .c (.int .i64 0)]) <| -- 7
    .br (.v 7) (
      .ret (.c (.tup [.nils, .int .i64 1]))) (
      .node (.call trim [.v 0] true) <| -- 8
      .node (.call clone [.v 8] true) <| -- 9
      .node (.call trim [.v 1] true) <| -- 10
      .node (.call minus [.v 9, .v 10] false) <| -- 11
      .node (.call told [.v 9] false) <| -- 12
      .node (.op (.ext 0 true) [.v 12]) <| -- 13
      .node (.op (.ext 1 true) [.v 12]) <| -- 14
      .node (.op .mktup [.v 13, .v 14]) <| -- 15
      .ret (.v 15)))
theorem subH_den {check compare trim clone minus tl : FuncId} (hch : CheckC P check) (hcm : CompareC P compare) (ht : TrimC P trim) (hcl : CloneH P clone) (hmi : MinusH P minus) (htl : ToldC P tl) (hA : OkN A) (hB : OkN B) (hne : 0 < (nrm A).length) :
    D P (Is (res (subS (val B32 A) (val B32 B)))) [] 2 [W B, W A] (t_subH check compare trim clone minus tl) := by
  refine d_op (ev_mklst rfl) (d_op (ev_mksl1 rfl rfl) (d_call (hch [A, B] (by simp [hA, hB]) (by simp)) (fun _ => rfl) ?_))
  have hci : (if ([A, B].any fun L => long (val B32 L)) = true then (2 : Int) else 0) = if (long (val B32 A) || long (val B32 B)) = true then 2 else 0 := by
    simp [List.any]
  rw [hci]
  unfold subS
  cases hh : (long (val B32 A) || long (val B32 B)) with
  | true =>
    refine d_op ev_neq (d_if rfl (fun _ => d_op ev_mktup (d_ret (is_res ?_))) (fun h => absurd (by decide) h))
    exact Sub.res_nil
  | false =>
    have hl0 := Bool.or_eq_false_iff.1 hh
    have lX : (nrm A).length ≤ 1024 := long_false hl0.1
    have lY : (nrm B).length ≤ 1024 := long_false hl0.2
    refine d_op ev_neq (d_if rfl (fun h => absurd h (by decide)) (fun _ => ?_))
    refine d_call (hcm A B hA.1 hB.1 hA.2 hB.2) (fun _ => rfl) ?_
    rw [if_neg (by simp)]
    by_cases hlt : val B32 A < val B32 B
    · rw [if_pos hlt]
      have : cmpN (val B32 A) (val B32 B) = -1 := by unfold cmpN; rw [if_pos hlt]
      rw [this]
      exact d_op ev_lss (d_if rfl (fun _ => d_ret (is_res Sub.res_nil)) (fun h => absurd (by decide) h))
    · rw [if_neg hlt]
      have : ¬ cmpN (val B32 A) (val B32 B) < 0 := by unfold cmpN; rw [if_neg hlt]; split <;> omega
      refine d_op ev_lss (d_if rfl (fun h => absurd h this) (fun _ => ?_))
      refine d_call (ht A hA.1 hA.2) (fun _ => rfl) ?_
      refine d_callH (hcl (nrm A) hne (by omega)) ?_
      refine d_op (ev_ext rfl (fun _ => rfl)) (d_op (ev_ext rfl (fun _ => rfl)) (d_op (ev_ext rfl (fun _ => rfl)) (d_op (ev_ext rfl (fun h => by cases h)) ?_)))
      refine d_call (ht B hB.1 hB.2) (fun _ => rfl) ?_
      refine d_callH (hmi (nrm A) (nrm B) nrm_lt nrm_lt (by omega) (by omega) (by rw [nrm_val, nrm_val]; omega)) ?_
      refine d_op (ev_ext rfl (fun h => by cases h)) (d_op (ev_mkslN rfl (by simp)) ?_)
      have hd : val B32 A - val B32 B < B32 ^ (nrm A).length := by
        have := val_lt (b := B32) (by decide) (nrm_lt (L := A))
        rw [nrm_val] at this
        omega
      refine d_call (htl _ ⟨fdigs_lt (by decide) _ _, by simp; omega⟩) (fun h => by cases h) ?_
      rw [nrm_val, nrm_val, val_fdigs_lt hd]
      exact d_op (ev_ext rfl (fun _ => rfl)) (d_op (ev_ext rfl (fun _ => rfl)) (d_op ev_mktup (d_ret (is_res (Sub.refl _)))))

theorem sub0_den {check compare trim clone minus tl : FuncId} (hch : CheckC P check) (hcm : CompareC P compare) (ht : TrimC P trim) (hcl : OwnC P clone) (hmi : Minus0 P minus) (htl : ToldC P tl) (hA : OkN A) (hB : OkN B) (hne : nrm A = []) :
    D P (Is (res (subS (val B32 A) (val B32 B)))) [] 2 [W B, W A] (t_sub0 check compare trim clone minus tl) := by
  have hA0 : val B32 A = 0 := by rw [← nrm_val, hne]; rfl
  refine d_op (ev_mklst rfl) (d_op (ev_mksl1 rfl rfl) (d_call (hch [A, B] (by simp [hA, hB]) (by simp)) (fun _ => rfl) ?_))
  have hci : (if ([A, B].any fun L => long (val B32 L)) = true then (2 : Int) else 0) = if (long (val B32 A) || long (val B32 B)) = true then 2 else 0 := by
    simp [List.any]
  rw [hci]
  unfold subS
  cases hh : (long (val B32 A) || long (val B32 B)) with
  | true =>
    refine d_op ev_neq (d_if rfl (fun _ => d_op ev_mktup (d_ret (is_res ?_))) (fun h => absurd (by decide) h))
    exact Sub.res_nil
  | false =>
    refine d_op ev_neq (d_if rfl (fun h => absurd h (by decide)) (fun _ => ?_))
    refine d_call (hcm A B hA.1 hB.1 hA.2 hB.2) (fun _ => rfl) ?_
    rw [if_neg (by simp)]
    by_cases hlt : val B32 A < val B32 B
    · rw [if_pos hlt]
      have : cmpN (val B32 A) (val B32 B) = -1 := by unfold cmpN; rw [if_pos hlt]
      rw [this]
      exact d_op ev_lss (d_if rfl (fun _ => d_ret (is_res Sub.res_nil)) (fun h => absurd (by decide) h))
    · rw [if_neg hlt]
      have : ¬ cmpN (val B32 A) (val B32 B) < 0 := by unfold cmpN; rw [if_neg hlt]; split <;> omega
      refine d_op ev_lss (d_if rfl (fun h => absurd h this) (fun _ => ?_))
      refine d_call (ht A hA.1 hA.2) (fun _ => rfl) ?_
      rw [hne]
      refine d_call (hcl [] (by simp)) (fun _ => rfl) (d_call (ht B hB.1 hB.2) (fun _ => rfl) ?_)
      refine d_call (hmi _) (fun h => by cases h) ?_
      refine d_call (htl [] ⟨LtAll.nil, by simp⟩) (fun h => by cases h) ?_
      have e0 : val B32 A - val B32 B = val B32 [] := by rw [hA0]; simp
      rw [e0]
      exact d_op (ev_ext rfl (fun _ => rfl)) (d_op (ev_ext rfl (fun _ => rfl)) (d_op ev_mktup (d_ret (is_res (Sub.refl _)))))

def t_rsub (both rcmp plain : FuncId) : T :=
  .node (.call both [.v 0, .v 1] true) <| -- 2
  .node (.op (.bin .neq) [.v 2, .c (.int .i64 0)]) <| -- 3
  .br (.v 3) (
    .node (.op .mktup [.c .nils, .v 2]) <| -- 4
    .ret (.v 4)) (
    .node (.call rcmp [.v 0, .v 1] true) <| -- 4
    .node (.op (.bin .lss) [.v 4, .c (.int .i64 0)]) <| -- 5
    .br (.v 5) (
      .ret (.c (.tup [.nils, .int .i64 1]))) (
      .node (.call plain [.v 0] true) <| -- 6
      .node (.call plain [.v 1] true) <| -- 7
      .loop [.c (.int .i64 0), .c (.int .i64 0), .c (.int .u64 0), .c (.int .i64 0), .c (.lst [])] [true, true, true, true, false] <| -- 8 to 12
        .node (.op .len [.v 6]) <| -- 13
        .node (.op (.bin .lss) [.v 11, .v 13]) <| -- 14
        .br (.v 14) (
          .node (.op (.eaddr 1) [.v 6, .v 11]) <| -- 15
          .node (.op (.rld false 1) [.v 15]) <| -- 16
          .node (.op (.cvt .u64) [.v 16]) <| -- 17
          .node (.op .len [.v 7]) <| -- 18
          .node (.op (.bin .lss) [.v 11, .v 18]) <| -- 19
          .br (.v 19) (
            .node (.op (.eaddr 1) [.v 7, .v 11]) <| -- 20
            .node (.op (.rld false 1) [.v 20]) <| -- 21
            .node (.op (.cvt .u64) [.v 21]) <| -- 22
            .node (.op (.bin .add) [.v 10, .v 22]) <| -- 23
            .node (.op (.bin .lss) [.v 17, .v 23]) <| -- 24
            .br (.v 24) (
              .node (.op (.bin .add) [.v 17, .c (.int .u64 4294967296)]) <| -- 25
              .node (.op (.bin .sub) [.v 25, .v 23]) <| -- 26
              .node (.op (.cvt .u32) [.v 26]) <| -- 27
              .node (.op .mklst [.v 27]) <| -- 28
              .node (.op (.lsl 1) [.v 28, .c (.int .i64 0), .c (.int .i64 1)]) <| -- 29
              .node (.op (.lapp 1 4) [.v 12, .v 8, .v 29, .c (.int .i64 1)]) <| -- 30
              .node (.op (.ofs 1) [.v 8, .c (.int .i64 1)]) <| -- 31
              .node (.op (.bin .add) [.v 11, .c (.int .i64 1)]) <| -- 32
              .back 0 [.v 31, .v 31, .c (.int .u64 1), .v 32, .v 30]) (
              .node (.op (.bin .sub) [.v 17, .v 23]) <| -- 25
              .node (.op (.cvt .u32) [.v 25]) <| -- 26
              .node (.op .mklst [.v 26]) <| -- 27
              .node (.op (.lsl 1) [.v 27, .c (.int .i64 0), .c (.int .i64 1)]) <| -- 28
              .node (.op (.lapp 1 4) [.v 12, .v 8, .v 28, .c (.int .i64 1)]) <| -- 29
              .node (.op (.ofs 1) [.v 8, .c (.int .i64 1)]) <| -- 30
              .node (.op (.bin .add) [.v 11, .c (.int .i64 1)]) <| -- 31
              .back 0 [.v 30, .v 30, .c (.int .u64 0), .v 31, .v 29])) (
            .node (.op (.bin .lss) [.v 17, .v 10]) <| -- 20
            .br (.v 20) (
              .node (.op (.bin .add) [.v 17, .c (.int .u64 4294967296)]) <| -- 21
              .node (.op (.bin .sub) [.v 21, .v 10]) <| -- 22
              .node (.op (.cvt .u32) [.v 22]) <| -- 23
              .node (.op .mklst [.v 23]) <| -- 24
              .node (.op (.lsl 1) [.v 24, .c (.int .i64 0), .c (.int .i64 1)]) <| -- 25
              .node (.op (.lapp 1 4) [.v 12, .v 8, .v 25, .c (.int .i64 1)]) <| -- 26
              .node (.op (.ofs 1) [.v 8, .c (.int .i64 1)]) <| -- 27
              .node (.op (.bin .add) [.v 11, .c (.int .i64 1)]) <| -- 28
              .back 0 [.v 27, .v 27, .c (.int .u64 1), .v 28, .v 26]) (
              .node (.op (.bin .sub) [.v 17, .v 10]) <| -- 21
              .node (.op (.cvt .u32) [.v 21]) <| -- 22
              .node (.op .mklst [.v 22]) <| -- 23
              .node (.op (.lsl 1) [.v 23, .c (.int .i64 0), .c (.int .i64 1)]) <| -- 24
              .node (.op (.lapp 1 4) [.v 12, .v 8, .v 24, .c (.int .i64 1)]) <| -- 25
              .node (.op (.ofs 1) [.v 8, .c (.int .i64 1)]) <| -- 26
              .node (.op (.bin .add) [.v 11, .c (.int .i64 1)]) <| -- 27
              .back 0 [.v 26, .v 26, .c (.int .u64 0), .v 27, .v 25]))) (
          .node (.op (.mksl 1) [.v 12, .c (.int .i64 0), .v 8]) <| -- 15
          .node (.call plain [.v 15] true) <| -- 16
          .node (.op .mktup [.v 16, .c (.int .i64 0)]) <| -- 17
          .ret (.v 17))))
theorem rsub_den {both rcmp plain : FuncId} (hb : RBothC P both) (hcm : RCmpC P rcmp) (hp : PlainC P plain) (hA : OkN A) (hB : OkN B) :
    D P (Is (res (subS (val B32 A) (val B32 B)))) [] 2 [W B, W A] (t_rsub both rcmp plain) := by
  refine d_call (hb A B hA hB) (fun _ => rfl) ?_
  unfold subS
  cases hh : (long (val B32 A) || long (val B32 B)) with
  | true =>
    refine d_op ev_neq (d_if rfl (fun _ => d_op ev_mktup (d_ret (is_res ?_))) (fun h => absurd (by decide) h))
    exact Sub.res_nil
  | false =>
    have hl0 := Bool.or_eq_false_iff.1 hh
    have lX : (nrm A).length ≤ 1024 := long_false hl0.1
    have lY : (nrm B).length ≤ 1024 := long_false hl0.2
    refine d_op ev_neq (d_if rfl (fun h => absurd h (by decide)) (fun _ => ?_))
    refine d_call (hcm A B hA hB (by omega) (by omega)) (fun _ => rfl) ?_
    rw [if_neg (by simp)]
    by_cases hlt : val B32 A < val B32 B
    · rw [if_pos hlt]
      have : cmpN (val B32 A) (val B32 B) = -1 := by unfold cmpN; rw [if_pos hlt]
      rw [this]
      exact d_op ev_lss (d_if rfl (fun _ => d_ret (is_res Sub.res_nil)) (fun h => absurd (by decide) h))
    · rw [if_neg hlt]
      have : ¬ cmpN (val B32 A) (val B32 B) < 0 := by unfold cmpN; rw [if_neg hlt]; split <;> omega
      refine d_op ev_lss (d_if rfl (fun h => absurd h this) (fun _ => ?_))
      refine d_call (hp A hA.1 hA.2) (fun _ => rfl) (d_call (hp B hB.1 hB.2) (fun _ => rfl) ?_)
      have vA : val B32 (nrm A) = val B32 A := nrm_val
      have vB : val B32 (nrm B) = val B32 B := nrm_val
      have hX : LtAll B32 (nrm A) := nrm_lt
      have hY : LtAll B32 (nrm B) := nrm_lt
      rw [← vA, ← vB] at hlt ⊢
      have hl1 : long (val B32 (nrm A)) = false := by rw [vA]; exact hl0.1
      generalize nrm A = X at *
      generalize nrm B = Y at *
      refine d_while (fun s : Nat × Nat × List Nat => [.int .i64 (s.2.1 : Int), .int .i64 (s.2.1 : Int), .int .u64 (s.1 : Int), .int .i64 (s.2.1 : Int), .lst (CN .u32 s.2.2)])
        (fun s => s.1 ≤ 1 ∧ s.2.1 ≤ X.length ∧ s.2.2.length = s.2.1 ∧ LtAll B32 s.2.2 ∧ val B32 s.2.2 + val B32 (Y.take s.2.1) = val B32 (X.take s.2.1) + B32 ^ s.2.1 * s.1) (fun s => X.length - s.2.1)
        (0, 0, []) ⟨by simp, by simp, rfl, LtAll.nil, by simp⟩ rfl ?_
      rintro ⟨c, i, O⟩ ⟨hc, hi, hol, hot, hov⟩
      dsimp only at hc hi hol hot hov ⊢
      have hx : X.getD i 0 < 4294967296 := hX.getD (by decide) i
      have hy : Y.getD i 0 < 4294967296 := hY.getD (by decide) i
      have step : ∀ {u c' : Nat}, u + Y.getD i 0 + c = X.getD i 0 + 4294967296 * c' → c' ≤ 1 → u < 4294967296 → i < X.length →
          (c' ≤ 1 ∧ i + 1 ≤ X.length ∧ (O ++ [u]).length = i + 1 ∧ LtAll B32 (O ++ [u]) ∧ val B32 (O ++ [u]) + val B32 (Y.take (i + 1)) = val B32 (X.take (i + 1)) + B32 ^ (i + 1) * c') := fun {u c'} e1 e2 e3 e4 => by
        refine ⟨e2, by omega, by simp [hol], hot.append (LtAll.cons e3 LtAll.nil), ?_⟩
        rw [val_append, hol, val_take_succ, val_take_succ, val_cons, val_nil, Nat.mul_zero, Nat.add_zero, Nat.pow_succ, Nat.mul_assoc]
        have := congrArg (B32 ^ i * ·) e1
        simp only [Nat.mul_add] at this
        show _ = _ + B32 ^ i * (4294967296 * c')
        omega
      refine d_op ev_len (d_op ev_lss (d_if rfl (fun h1 => ?_) (fun h1 => ?_)))
      · refine d_op (ev_eaddrN (i := i) rfl (by omega)) (d_op (ev_rldN (by omega)) (d_op (ev_cvt (by constructor <;> omega)) ?_))
        refine d_op ev_len (d_op ev_lss (d_if rfl (fun h2 => ?_) (fun h2 => ?_)))
        · refine d_op (ev_eaddrN (i := i) rfl (by omega)) (d_op (ev_rldN (by omega)) (d_op (ev_cvt (by constructor <;> omega)) (d_op (ev_add (by constructor <;> omega)) ?_)))
          refine d_op ev_lss (d_if rfl (fun h3 => ?_) (fun h3 => ?_))
          · obtain ⟨u, eu⟩ : ∃ u, u + Y.getD i 0 + c = X.getD i 0 + 4294967296 := ⟨X.getD i 0 + 4294967296 - (c + Y.getD i 0), by omega⟩
            have e1 : (X.getD i 0 : Int) + 4294967296 - ((c : Int) + (Y.getD i 0 : Int)) = (u : Int) := by omega
            refine d_op (ev_add (by constructor <;> omega)) (d_op (ev_sub (by constructor <;> omega)) ?_)
            rw [e1]
            refine d_op (ev_cvt (by constructor <;> omega)) ?_
            refine d_op (ev_mklst rfl) (d_op (ev_lslN (k := .u32) (L := [u]) (o := 0) (n := 1) rfl rfl (by simp)) ?_)
            refine d_op (ev_lappN (k := .u32) (L := O) (M := [u]) (by rw [hol]) rfl (by simp; omega)) ?_
            refine d_op (ev_ofs (n := 1) rfl rfl) (d_op (ev_add (by constructor <;> omega)) ?_)
            exact d_back rfl ⟨(1, i + 1, O ++ [u]), rfl, step (by omega) (by omega) (by omega) (by omega), by simp only; omega⟩
          · obtain ⟨u, eu⟩ : ∃ u, u + Y.getD i 0 + c = X.getD i 0 := ⟨X.getD i 0 - (c + Y.getD i 0), by omega⟩
            have e1 : (X.getD i 0 : Int) - ((c : Int) + (Y.getD i 0 : Int)) = (u : Int) := by omega
            refine d_op (ev_sub (by constructor <;> omega)) ?_
            rw [e1]
            refine d_op (ev_cvt (by constructor <;> omega)) ?_
            refine d_op (ev_mklst rfl) (d_op (ev_lslN (k := .u32) (L := [u]) (o := 0) (n := 1) rfl rfl (by simp)) ?_)
            refine d_op (ev_lappN (k := .u32) (L := O) (M := [u]) (by rw [hol]) rfl (by simp; omega)) ?_
            refine d_op (ev_ofs (n := 1) rfl rfl) (d_op (ev_add (by constructor <;> omega)) ?_)
            exact d_back rfl ⟨(0, i + 1, O ++ [u]), rfl, step (by omega) (by omega) (by omega) (by omega), by simp only; omega⟩
        · have hy0 : Y.getD i 0 = 0 := getD_ge (by omega)
          refine d_op ev_lss (d_if rfl (fun h3 => ?_) (fun h3 => ?_))
          · obtain ⟨u, eu⟩ : ∃ u, u + c = X.getD i 0 + 4294967296 := ⟨X.getD i 0 + 4294967296 - c, by omega⟩
            have e1 : (X.getD i 0 : Int) + 4294967296 - (c : Int) = (u : Int) := by omega
            refine d_op (ev_add (by constructor <;> omega)) (d_op (ev_sub (by constructor <;> omega)) ?_)
            rw [e1]
            refine d_op (ev_cvt (by constructor <;> omega)) ?_
            refine d_op (ev_mklst rfl) (d_op (ev_lslN (k := .u32) (L := [u]) (o := 0) (n := 1) rfl rfl (by simp)) ?_)
            refine d_op (ev_lappN (k := .u32) (L := O) (M := [u]) (by rw [hol]) rfl (by simp; omega)) ?_
            refine d_op (ev_ofs (n := 1) rfl rfl) (d_op (ev_add (by constructor <;> omega)) ?_)
            exact d_back rfl ⟨(1, i + 1, O ++ [u]), rfl, step (by omega) (by omega) (by omega) (by omega), by simp only; omega⟩
          · obtain ⟨u, eu⟩ : ∃ u, u + c = X.getD i 0 := ⟨X.getD i 0 - c, by omega⟩
            have e1 : (X.getD i 0 : Int) - (c : Int) = (u : Int) := by omega
            refine d_op (ev_sub (by constructor <;> omega)) ?_
            rw [e1]
            refine d_op (ev_cvt (by constructor <;> omega)) ?_
            refine d_op (ev_mklst rfl) (d_op (ev_lslN (k := .u32) (L := [u]) (o := 0) (n := 1) rfl rfl (by simp)) ?_)
            refine d_op (ev_lappN (k := .u32) (L := O) (M := [u]) (by rw [hol]) rfl (by simp; omega)) ?_
            refine d_op (ev_ofs (n := 1) rfl rfl) (d_op (ev_add (by constructor <;> omega)) ?_)
            exact d_back rfl ⟨(0, i + 1, O ++ [u]), rfl, step (by omega) (by omega) (by omega) (by omega), by simp only; omega⟩
      · have : i = X.length := by omega
        subst this
        have hvX := val_lt (b := B32) (by decide) hX
        have hvO := val_lt (b := B32) (by decide) hot
        rw [hol] at hvO
        have hT : val B32 (Y.take X.length) = val B32 Y := by
          rw [val_take (by decide) hY, Nat.mod_eq_of_lt (by omega)]
        rw [hT, List.take_length] at hov
        have hc0 : c = 0 := by
          rcases Nat.eq_zero_or_pos c with h0 | h0
          · exact h0
          · exfalso
            have h3 : B32 ^ X.length * 1 ≤ B32 ^ X.length * c := Nat.mul_le_mul_left _ h0
            omega
        subst hc0
        have hvv : val B32 O = val B32 X - val B32 Y := by omega
        refine d_op (ev_mkslN rfl (by rw [hol])) (d_call (hp O hot (by omega)) (fun _ => rfl) (d_op ev_mktup (d_ret (is_res ?_))))
        have hlo : long (val B32 X - val B32 Y) = false := long_of (by have := long_pow hl1; omega)
        have : told (val B32 X - val B32 Y) = (nrm O, 0) := by unfold told; rw [hlo]; unfold nrm; rw [hvv]; rfl
        rw [this]
        exact Sub.refl _

end Go.SE
