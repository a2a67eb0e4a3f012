/- Nothing of the statement is proved here: this text lays generic laws: FI; no conditions. -/
import Derived.Test.YtdpcehjiicfpdaaFH

set_option linter.all false
set_option autoImplicit false
set_option maxRecDepth 4000
set_option maxHeartbeats 2000000
set_option exponentiation.threshold 5000
namespace Go.SE
open Go

variable {P : Program} {R : AEnd → Prop}

def t_flives (new inv sqrt : FuncId) : T :=
  .node (.call new [.c (.agg [.int .u64 7, .int .u64 0, .int .u64 0, .int .u64 0])] false) <| -- 0
  .node (.op (.ext 0 true) [.v 0]) <| -- 1
  .node (.op (.ext 1 true) [.v 0]) <| -- 2
  .node (.op (.isnil .pt false) [.v 1]) <| -- 3
  .br (.v 3) (
    .ret (.c (.bool false))) (
    .node (.op (.bin .neq) [.v 2, .c (.int .i64 0)]) <| -- 4
    .br (.v 4) (
      .ret (.c (.bool false))) (
      .node (.call inv [.v 1, .c (.agg [.int .u64 3, .int .u64 0, .int .u64 0, .int .u64 0])] false) <| -- 5
      .node (.op (.ext 0 false) [.v 5]) <| -- 6
      .node (.op (.ext 1 true) [.v 5]) <| -- 7
      .node (.op (.cell 4 0) [.v 6]) <| -- 8
      .node (.op (.cell 4 1) [.v 6]) <| -- 9
      .node (.op (.cell 4 2) [.v 6]) <| -- 10
      .node (.op (.cell 4 3) [.v 6]) <| -- 11
      .node (.call sqrt [.v 1, .c (.agg [.int .u64 2, .int .u64 0, .int .u64 0, .int .u64 0])] false) <| -- 12
      .node (.op (.ext 0 false) [.v 12]) <| -- 13
      .node (.op (.ext 1 true) [.v 12]) <| -- 14
      .node (.op (.cell 4 0) [.v 13]) <| -- 15
      .node (.op (.cell 4 1) [.v 13]) <| -- 16
      .node (.op (.cell 4 2) [.v 13]) <| -- 17
      .node (.op (.cell 4 3) [.v 13]) <| -- 18
      .node (.op .mkagg [.v 8, .v 9, .v 10, .v 11]) <| -- 19
      .node (.op (.eqv false [.int .u64, .int .u64, .int .u64, .int .u64]) [.v 19, .c (.agg [.int .u64 5, .int .u64 0, .int .u64 0, .int .u64 0])]) <| -- 20
      .br (.v 20) (
        .br (.v 7) (
          .node (.op .mkagg [.v 15, .v 16, .v 17, .v 18]) <| -- 21
          .node (.op (.eqv false [.int .u64, .int .u64, .int .u64, .int .u64]) [.v 21, .c (.agg [.int .u64 4, .int .u64 0, .int .u64 0, .int .u64 0])]) <| -- 22
          .br (.v 22) (
            .ret (.v 14)) (
            .ret (.c (.bool false)))) (
          .ret (.c (.bool false)))) (
        .ret (.c (.bool false)))))
theorem flives_den {new inv sqrt : FuncId} (hn : FNewC P new) (hi : FInvC P inv) (hs : FSqrtC P sqrt) : D P (fun e => e = .ret (.bool true)) [] 0 [] (t_flives new inv sqrt) := by
  have h7 := hn 7 (by decide)
  rw [if_neg (by decide)] at h7
  have hF : Fok 7 (minv 7) (W256 * W256 % 7) := minv_Fok (by decide) (by decide)
  have h3 := hi 7 _ _ 3 hF (by decide) (by decide)
  have e3 : aInv 7 3 = (5, true) := by decide
  rw [e3] at h3
  have h2 := hs 7 _ _ 2 hF (by decide)
  have e2 : aSqrt 7 2 = (4, true) := by decide
  rw [e2] at h2
  refine d_call h7 (fun h => by cases h) (d_op (ev_ext rfl (fun _ => rfl)) (d_op (ev_ext rfl (fun _ => rfl)) ?_))
  refine d_op (v := .bool false) rfl (d_br false rfl (fun h => by cases h) (fun _ => d_op ev_neq (f_no (fun h => h rfl) rfl ?_)))
  refine d_call h3 (fun h => by cases h) (d_op (ev_ext rfl (fun h => by cases h)) (d_op (ev_ext rfl (fun _ => rfl)) (d_cells (a := 5) (b := 0) (c := 0) (d := 0) rfl rfl rfl rfl ?_)))
  refine d_call h2 (fun h => by cases h) (d_op (ev_ext rfl (fun h => by cases h)) (d_op (ev_ext rfl (fun _ => rfl)) (d_cells (a := 4) (b := 0) (c := 0) (d := 0) rfl rfl rfl rfl ?_)))
  refine d_op (v := WV 5) rfl (d_op (ev_weq (a := 5) (b := 5) (by decide) (by decide)) (f_yes rfl rfl (d_br true rfl (fun _ => ?_) (fun h => by cases h))))
  exact d_op (v := WV 4) rfl (d_op (ev_weq (a := 4) (b := 4) (by decide) (by decide)) (f_yes rfl rfl (d_ret rfl)))

/-- two words, as an array -/
def WW (a b : Nat) : AV := .agg [.int .u64 ((a % 18446744073709551616 : Nat) : Int), .int .u64 ((a / 18446744073709551616 % 18446744073709551616 : Nat) : Int), .int .u64 ((a / 340282366920938463463374607431768211456 % 18446744073709551616 : Nat) : Int), .int .u64 ((a / 6277101735386680763835789423207666416102355444464034512896 % 18446744073709551616 : Nat) : Int),
  .int .u64 ((b % 18446744073709551616 : Nat) : Int), .int .u64 ((b / 18446744073709551616 % 18446744073709551616 : Nat) : Int), .int .u64 ((b / 340282366920938463463374607431768211456 % 18446744073709551616 : Nat) : Int), .int .u64 ((b / 6277101735386680763835789423207666416102355444464034512896 % 18446744073709551616 : Nat) : Int)]

def t_fieldRing (new is lives add mul sub ofF exp : FuncId) : T :=
  .node (.op (.cell 4 0) [.v 0]) <| -- 3
  .node (.op (.cell 4 1) [.v 0]) <| -- 4
  .node (.op (.cell 4 2) [.v 0]) <| -- 5
  .node (.op (.cell 4 3) [.v 0]) <| -- 6
  .node (.op (.cell 8 0) [.v 1]) <| -- 7
  .node (.op (.cell 8 1) [.v 1]) <| -- 8
  .node (.op (.cell 8 2) [.v 1]) <| -- 9
  .node (.op (.cell 8 3) [.v 1]) <| -- 10
  .node (.op (.cell 8 4) [.v 1]) <| -- 11
  .node (.op (.cell 8 5) [.v 1]) <| -- 12
  .node (.op (.cell 8 6) [.v 1]) <| -- 13
  .node (.op (.cell 8 7) [.v 1]) <| -- 14
  .node (.op (.cell 8 0) [.v 2]) <| -- 15
  .node (.op (.cell 8 1) [.v 2]) <| -- 16
  .node (.op (.cell 8 2) [.v 2]) <| -- 17
  .node (.op (.cell 8 3) [.v 2]) <| -- 18
  .node (.op (.cell 8 4) [.v 2]) <| -- 19
  .node (.op (.cell 8 5) [.v 2]) <| -- 20
  .node (.op (.cell 8 6) [.v 2]) <| -- 21
  .node (.op (.cell 8 7) [.v 2]) <| -- 22
  .node (.op .mkagg [.v 3, .v 4, .v 5, .v 6]) <| -- 23
  .node (.call new [.v 23] false) <| -- 24
  .node (.op (.ext 0 true) [.v 24]) <| -- 25
  .node (.op (.ext 1 true) [.v 24]) <| -- 26
  .node (.op (.isnil .pt false) [.v 25]) <| -- 27
  .br (.v 27) (
    .node (.op .mkagg [.v 3, .v 4, .v 5, .v 6]) <| -- 28
    .node (.call is [.v 28] true) <| -- 29
    .node (.op (.un .not) [.v 29]) <| -- 30
    .br (.v 30) (
      .node (.call lives [] true) <| -- 31
      .ret (.v 31)) (
      .ret (.c (.bool false)))) (
    .node (.op .mkagg [.v 7, .v 8, .v 9, .v 10]) <| -- 28
    .node (.op .mkagg [.v 11, .v 12, .v 13, .v 14]) <| -- 29
    .node (.call add [.v 25, .v 28, .v 29] false) <| -- 30
    .node (.op .mkagg [.v 11, .v 12, .v 13, .v 14]) <| -- 31
    .node (.op .mkagg [.v 7, .v 8, .v 9, .v 10]) <| -- 32
    .node (.call add [.v 25, .v 31, .v 32] false) <| -- 33
    .node (.op (.eqv false [.int .u64, .int .u64, .int .u64, .int .u64]) [.v 30, .v 33]) <| -- 34
    .br (.v 34) (
      .node (.op .mkagg [.v 7, .v 8, .v 9, .v 10]) <| -- 35
      .node (.op .mkagg [.v 11, .v 12, .v 13, .v 14]) <| -- 36
      .node (.call mul [.v 25, .v 35, .v 36] false) <| -- 37
      .node (.op .mkagg [.v 11, .v 12, .v 13, .v 14]) <| -- 38
      .node (.op .mkagg [.v 7, .v 8, .v 9, .v 10]) <| -- 39
      .node (.call mul [.v 25, .v 38, .v 39] false) <| -- 40
      .node (.op (.eqv false [.int .u64, .int .u64, .int .u64, .int .u64]) [.v 37, .v 40]) <| -- 41
      .br (.v 41) (
        .node (.op .mkagg [.v 7, .v 8, .v 9, .v 10]) <| -- 42
        .node (.op .mkagg [.v 11, .v 12, .v 13, .v 14]) <| -- 43
        .node (.call mul [.v 25, .v 42, .v 43] false) <| -- 44
        .node (.op .mkagg [.v 15, .v 16, .v 17, .v 18]) <| -- 45
        .node (.call mul [.v 25, .v 44, .v 45] false) <| -- 46
        .node (.op .mkagg [.v 11, .v 12, .v 13, .v 14]) <| -- 47
        .node (.op .mkagg [.v 15, .v 16, .v 17, .v 18]) <| -- 48
        .node (.call mul [.v 25, .v 47, .v 48] false) <| -- 49
        .node (.op .mkagg [.v 7, .v 8, .v 9, .v 10]) <| -- 50
        .node (.call mul [.v 25, .v 50, .v 49] false) <| -- 51
        .node (.op (.eqv false [.int .u64, .int .u64, .int .u64, .int .u64]) [.v 46, .v 51]) <| -- 52
        .br (.v 52) (
          .node (.op .mkagg [.v 7, .v 8, .v 9, .v 10]) <| -- 53
          .node (.op .mkagg [.v 11, .v 12, .v 13, .v 14]) <| -- 54
          .node (.call add [.v 25, .v 53, .v 54] false) <| -- 55
          .node (.op .mkagg [.v 15, .v 16, .v 17, .v 18]) <| -- 56
          .node (.call mul [.v 25, .v 55, .v 56] false) <| -- 57
          .node (.op .mkagg [.v 7, .v 8, .v 9, .v 10]) <| -- 58
          .node (.op .mkagg [.v 15, .v 16, .v 17, .v 18]) <| -- 59
          .node (.call mul [.v 25, .v 58, .v 59] false) <| -- 60
          .node (.op .mkagg [.v 11, .v 12, .v 13, .v 14]) <| -- 61
          .node (.op .mkagg [.v 15, .v 16, .v 17, .v 18]) <| -- 62
          .node (.call mul [.v 25, .v 61, .v 62] false) <| -- 63
          .node (.call add [.v 25, .v 60, .v 63] false) <| -- 64
          .node (.op (.eqv false [.int .u64, .int .u64, .int .u64, .int .u64]) [.v 57, .v 64]) <| -- 65
          .br (.v 65) (
            .node (.op .mkagg [.v 7, .v 8, .v 9, .v 10]) <| -- 66
            .node (.op .mkagg [.v 11, .v 12, .v 13, .v 14]) <| -- 67
            .node (.call add [.v 25, .v 66, .v 67] false) <| -- 68
            .node (.op .mkagg [.v 11, .v 12, .v 13, .v 14]) <| -- 69
            .node (.call sub [.v 25, .v 68, .v 69] false) <| -- 70
            .node (.op .mkagg [.v 7, .v 8, .v 9, .v 10]) <| -- 71
            .node (.call ofF [.v 25, .v 71] false) <| -- 72
            .node (.op (.eqv false [.int .u64, .int .u64, .int .u64, .int .u64]) [.v 70, .v 72]) <| -- 73
            .br (.v 73) (
              .node (.op .mkagg [.v 7, .v 8, .v 9, .v 10]) <| -- 74
              .node (.call exp [.v 25, .v 74, .c (.agg [.int .u64 3, .int .u64 0, .int .u64 0, .int .u64 0])] false) <| -- 75
              .node (.op .mkagg [.v 7, .v 8, .v 9, .v 10]) <| -- 76
              .node (.op .mkagg [.v 7, .v 8, .v 9, .v 10]) <| -- 77
              .node (.call mul [.v 25, .v 76, .v 77] false) <| -- 78
              .node (.op .mkagg [.v 7, .v 8, .v 9, .v 10]) <| -- 79
              .node (.call mul [.v 25, .v 79, .v 78] false) <| -- 80
              .node (.op (.eqv false [.int .u64, .int .u64, .int .u64, .int .u64]) [.v 75, .v 80]) <| -- 81
              .br (.v 81) (
                .node (.call lives [] true) <| -- 82
                .ret (.v 82)) (
                .ret (.c (.bool false)))) (
              .ret (.c (.bool false)))) (
            .ret (.c (.bool false)))) (
          .ret (.c (.bool false)))) (
        .ret (.c (.bool false)))) (
      .ret (.c (.bool false))))
theorem fieldRing_den {new is lives add mul sub ofF exp : FuncId} (hn : FNewC P new) (hi : FIsC P is) (hv : Ct P lives [] (fun e => e = .ret (.bool true))) (ha : FWC P add aAdd) (hm : FWC P mul aMul) (hs : FWC P sub aSub) (ho : FW1 P ofF aOf) (he : FWC P exp aExp)
    {m x y z w : Nat} (hmW : m < W256) (hx : x < W256) (hy : y < W256) (hz : z < W256) : D P (fun e => e = .ret (.bool true)) [] 3 [WW z w, WW x y, WV m] (t_fieldRing new is lives add mul sub ofF exp) := by
  have h0 := hn m hmW
  have hI := hi m hmW
  refine d_cells rfl rfl rfl rfl ?_
  refine d_op (v := .int .u64 _) rfl (d_op (v := .int .u64 _) rfl (d_op (v := .int .u64 _) rfl (d_op (v := .int .u64 _) rfl ?_)))
  refine d_op (v := .int .u64 _) rfl (d_op (v := .int .u64 _) rfl (d_op (v := .int .u64 _) rfl (d_op (v := .int .u64 _) rfl ?_)))
  refine d_op (v := .int .u64 _) rfl (d_op (v := .int .u64 _) rfl (d_op (v := .int .u64 _) rfl (d_op (v := .int .u64 _) rfl ?_)))
  refine d_op (v := .int .u64 _) rfl (d_op (v := .int .u64 _) rfl (d_op (v := .int .u64 _) rfl (d_op (v := .int .u64 _) rfl ?_)))
  refine d_op (v := WV m) ev_wl ?_
  by_cases hb : m % 2 = 0 ∨ m = 1
  · rw [if_pos hb] at h0
    refine d_call h0 (fun h => by cases h) (d_op (ev_ext rfl (fun _ => rfl)) (d_op (ev_ext rfl (fun _ => rfl)) (d_op (v := .bool true) rfl (d_br true rfl (fun _ => ?_) (fun h => by cases h)))))
    have : decide (m % 2 = 1 ∧ m ≠ 1) = false := by rw [decide_eq_false_iff_not]; omega
    rw [this] at hI
    exact d_op (v := WV m) ev_wl (d_call hI (fun _ => rfl) (d_op (v := .bool true) rfl (d_br true rfl (fun _ => d_call hv (fun _ => rfl) (d_ret rfl)) (fun h => by cases h))))
  · rw [if_neg hb] at h0
    have hF : Fok m (minv m) (W256 * W256 % m) := minv_Fok (by omega) hmW
    have hm0 : 0 < m := by omega
    have lt : ∀ x, x % m < W256 := fun x => Nat.lt_trans (Nat.mod_lt _ hm0) hmW
    generalize minv m = iv at *
    generalize W256 * W256 % m = sq at *
    have A : ∀ {a b c : Nat}, a < W256 → b < W256 → (a + b) % m = c → Ct P add [FP m iv sq, WV a, WV b] (fun e => e = .ret (WV c)) := fun {a b c} h1 h2 h3 => by subst h3; exact ha m iv sq a b hF h1 h2
    have M : ∀ {a b c : Nat}, a < W256 → b < W256 → a * b % m = c → Ct P mul [FP m iv sq, WV a, WV b] (fun e => e = .ret (WV c)) := fun {a b c} h1 h2 h3 => by subst h3; exact hm m iv sq a b hF h1 h2
    have mm : ∀ a b : Nat, a % m * b % m = a * b % m := fun a b => by rw [Nat.mul_mod, Nat.mod_mod, ← Nat.mul_mod]
    have mm' : ∀ a b : Nat, a * (b % m) % m = a * b % m := fun a b => by rw [Nat.mul_mod, Nat.mod_mod, ← Nat.mul_mod]
    refine d_call h0 (fun h => by cases h) (d_op (ev_ext rfl (fun _ => rfl)) (d_op (ev_ext rfl (fun _ => rfl)) (d_op (v := .bool false) rfl (d_br false rfl (fun h => by cases h) (fun _ => ?_)))))
    refine d_op (v := WV x) ev_wl (d_op (v := WV y) ev_wl (d_call (A hx hy rfl) (fun h => by cases h) ?_))
    refine d_op (v := WV y) ev_wl (d_op (v := WV x) ev_wl (d_call (A hy hx rfl) (fun h => by cases h) ?_))
    refine d_op (ev_weq (lt _) (lt _)) (f_yes (by rw [Nat.add_comm]) rfl ?_)
    refine d_op (v := WV x) ev_wl (d_op (v := WV y) ev_wl (d_call (M hx hy rfl) (fun h => by cases h) ?_))
    refine d_op (v := WV y) ev_wl (d_op (v := WV x) ev_wl (d_call (M hy hx rfl) (fun h => by cases h) ?_))
    refine d_op (ev_weq (lt _) (lt _)) (f_yes (by rw [Nat.mul_comm]) rfl ?_)
    refine d_op (v := WV x) ev_wl (d_op (v := WV y) ev_wl (d_call (M hx hy rfl) (fun h => by cases h) ?_))
    refine d_op (v := WV z) ev_wl (d_call (M (lt _) hz (mm _ _)) (fun h => by cases h) ?_)
    refine d_op (v := WV y) ev_wl (d_op (v := WV z) ev_wl (d_call (M hy hz rfl) (fun h => by cases h) ?_))
    refine d_op (v := WV x) ev_wl (d_call (M hx (lt _) (mm' _ _)) (fun h => by cases h) ?_)
    refine d_op (ev_weq (lt _) (lt _)) (f_yes (by rw [Nat.mul_assoc]) rfl ?_)
    refine d_op (v := WV x) ev_wl (d_op (v := WV y) ev_wl (d_call (A hx hy rfl) (fun h => by cases h) ?_))
    refine d_op (v := WV z) ev_wl (d_call (M (lt _) hz (mm _ _)) (fun h => by cases h) ?_)
    refine d_op (v := WV x) ev_wl (d_op (v := WV z) ev_wl (d_call (M hx hz rfl) (fun h => by cases h) ?_))
    refine d_op (v := WV y) ev_wl (d_op (v := WV z) ev_wl (d_call (M hy hz rfl) (fun h => by cases h) ?_))
    refine d_call (A (lt _) (lt _) (Nat.add_mod _ _ _).symm) (fun h => by cases h) (d_op (ev_weq (lt _) (lt _)) (f_yes (by rw [Nat.add_mul]) rfl ?_))
    refine d_op (v := WV x) ev_wl (d_op (v := WV y) ev_wl (d_call (A hx hy rfl) (fun h => by cases h) (d_op (v := WV y) ev_wl (d_call (hs m iv sq _ y hF (lt _) hy) (fun h => by cases h) ?_))))
    refine d_op (v := WV x) ev_wl (d_call (ho m iv sq x hF hx) (fun h => by cases h) (d_op (ev_weq (lt _) (lt _)) (f_yes ?_ rfl ?_)))
    · show aSub m ((x + y) % m) y = aOf m x
      unfold aSub aOf
      have h1 := Nat.div_add_mod (x + y) m
      have h2 := Nat.div_add_mod y m
      have h3 := Nat.mod_lt y hm0
      rw [Nat.mod_mod]
      have h4 : ((x + y) % m + m - y % m) % m = (x + m * (y / m + 1)) % m := by
        rw [← Nat.add_mul_mod_self_left ((x + y) % m + m - y % m) m ((x + y) / m)]
        congr 1
        rw [Nat.mul_add, Nat.mul_one]; omega
      rw [h4, Nat.add_mul_mod_self_left]
    · refine d_op (v := WV x) ev_wl (d_call (he m iv sq x 3 hF hx (by decide)) (fun h => by cases h) ?_)
      refine d_op (v := WV x) ev_wl (d_op (v := WV x) ev_wl (d_call (M hx hx rfl) (fun h => by cases h) (d_op (v := WV x) ev_wl (d_call (M hx (lt _) (mm' _ _)) (fun h => by cases h) (d_op (ev_weq (lt _) (lt _)) (f_yes ?_ rfl (d_call hv (fun _ => rfl) (d_ret rfl))))))))
      show x ^ 3 % m = x * (x * x) % m
      rw [show x ^ 3 = x * (x * x) by rw [Nat.pow_succ, Nat.pow_succ, Nat.pow_succ, Nat.pow_zero, Nat.one_mul, Nat.mul_assoc]]

end Go.SE
