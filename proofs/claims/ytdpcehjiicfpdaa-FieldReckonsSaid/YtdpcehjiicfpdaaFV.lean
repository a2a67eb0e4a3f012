/- Nothing of the statement is proved here: this text lays generic laws: FV; no conditions. -/
import Derived.Test.YtdpcehjiicfpdaaFU
import Derived.Test.YtdpcehjiicfpdaaFK
set_option linter.all false
set_option autoImplicit false
set_option maxRecDepth 8000
set_option maxHeartbeats 4000000
set_option exponentiation.threshold 5000
namespace Go.SE
open Go
variable {P : Program} {R : AEnd → Prop}
def t_fieldReckons (new is lives modu addmod mulmod ofF add mul neg rnew rsub sub : FuncId) : T :=
 .node (.op (.cell 4 0) [.v 0]) <|
 .node (.op (.cell 4 1) [.v 0]) <|
 .node (.op (.cell 4 2) [.v 0]) <|
 .node (.op (.cell 4 3) [.v 0]) <|
 .node (.op (.cell 4 0) [.v 1]) <|
 .node (.op (.cell 4 1) [.v 1]) <|
 .node (.op (.cell 4 2) [.v 1]) <|
 .node (.op (.cell 4 3) [.v 1]) <|
 .node (.op (.cell 4 0) [.v 2]) <|
 .node (.op (.cell 4 1) [.v 2]) <|
 .node (.op (.cell 4 2) [.v 2]) <|
 .node (.op (.cell 4 3) [.v 2]) <|
 .node (.op .mkagg [.v 3, .v 4, .v 5, .v 6]) <|
 .node (.call new [.v 15] false) <|
 .node (.op (.ext 0 true) [.v 16]) <|
 .node (.op (.ext 1 true) [.v 16]) <|
 .node (.op .mkagg [.v 3, .v 4, .v 5, .v 6]) <|
 .node (.call is [.v 19] true) <|
 .node (.op (.un .not) [.v 20]) <|
 .br (.v 21) (
 .node (.op (.isnil .pt false) [.v 17]) <|
 .br (.v 22) (
 .node (.op (.bin .eql) [.v 18, .c (.int .i64 1)]) <|
 .br (.v 23) (
 .node (.call lives [] true) <|
 .ret (.v 24)) (
 .ret (.c (.bool false)))) (
 .ret (.c (.bool false)))) (
 .node (.op (.isnil .pt false) [.v 17]) <|
 .br (.v 22) (
 .ret (.c (.bool false))) (
 .node (.op (.bin .neq) [.v 18, .c (.int .i64 0)]) <|
 .br (.v 23) (
 .ret (.c (.bool false))) (
 .node (.call modu [.v 17] false) <|
 .node (.op .mkagg [.v 3, .v 4, .v 5, .v 6]) <|
 .node (.op (.eqv true [.int .u64, .int .u64, .int .u64, .int .u64]) [.v 24, .v 25]) <|
 .br (.v 26) (
 .ret (.c (.bool false))) (
 .node (.op .mkagg [.v 7, .v 8, .v 9, .v 10]) <|
 .node (.op .mkagg [.v 3, .v 4, .v 5, .v 6]) <|
 .node (.call addmod [.v 27, .c (.agg [.int .u64 0, .int .u64 0, .int .u64 0, .int .u64 0]), .v 28] false) <|
 .node (.op (.cell 4 0) [.v 29]) <|
 .node (.op (.cell 4 1) [.v 29]) <|
 .node (.op (.cell 4 2) [.v 29]) <|
 .node (.op (.cell 4 3) [.v 29]) <|
 .node (.op .mkagg [.v 11, .v 12, .v 13, .v 14]) <|
 .node (.op .mkagg [.v 3, .v 4, .v 5, .v 6]) <|
 .node (.call addmod [.v 34, .c (.agg [.int .u64 0, .int .u64 0, .int .u64 0, .int .u64 0]), .v 35] false) <|
 .node (.op (.cell 4 0) [.v 36]) <|
 .node (.op (.cell 4 1) [.v 36]) <|
 .node (.op (.cell 4 2) [.v 36]) <|
 .node (.op (.cell 4 3) [.v 36]) <|
 .node (.op .mkagg [.v 7, .v 8, .v 9, .v 10]) <|
 .node (.call ofF [.v 17, .v 41] false) <|
 .node (.op .mkagg [.v 30, .v 31, .v 32, .v 33]) <|
 .node (.op (.eqv false [.int .u64, .int .u64, .int .u64, .int .u64]) [.v 42, .v 43]) <|
 .br (.v 44) (
 .node (.op .mkagg [.v 7, .v 8, .v 9, .v 10]) <|
 .node (.op .mkagg [.v 11, .v 12, .v 13, .v 14]) <|
 .node (.call add [.v 17, .v 45, .v 46] false) <|
 .node (.op .mkagg [.v 7, .v 8, .v 9, .v 10]) <|
 .node (.op .mkagg [.v 11, .v 12, .v 13, .v 14]) <|
 .node (.op .mkagg [.v 3, .v 4, .v 5, .v 6]) <|
 .node (.call addmod [.v 48, .v 49, .v 50] false) <|
 .node (.op (.eqv false [.int .u64, .int .u64, .int .u64, .int .u64]) [.v 47, .v 51]) <|
 .br (.v 52) (
 .node (.op .mkagg [.v 7, .v 8, .v 9, .v 10]) <|
 .node (.op .mkagg [.v 11, .v 12, .v 13, .v 14]) <|
 .node (.call mul [.v 17, .v 53, .v 54] false) <|
 .node (.op .mkagg [.v 7, .v 8, .v 9, .v 10]) <|
 .node (.op .mkagg [.v 11, .v 12, .v 13, .v 14]) <|
 .node (.op .mkagg [.v 3, .v 4, .v 5, .v 6]) <|
 .node (.call mulmod [.v 56, .v 57, .v 58] false) <|
 .node (.op (.eqv false [.int .u64, .int .u64, .int .u64, .int .u64]) [.v 55, .v 59]) <|
 .br (.v 60) (
 .node (.op .mkagg [.v 7, .v 8, .v 9, .v 10]) <|
 .node (.call neg [.v 17, .v 61] false) <|
 .node (.op .mkagg [.v 3, .v 4, .v 5, .v 6]) <|
 .node (.call rnew [.v 63] true) <|
 .node (.op .mkagg [.v 30, .v 31, .v 32, .v 33]) <|
 .node (.call rsub [.v 64, .c (.agg [.int .u64 0, .int .u64 0, .int .u64 0, .int .u64 0]), .v 65] false) <|
 .node (.op (.eqv false [.int .u64, .int .u64, .int .u64, .int .u64]) [.v 62, .v 66]) <|
 .br (.v 67) (
 .node (.op .mkagg [.v 7, .v 8, .v 9, .v 10]) <|
 .node (.op .mkagg [.v 11, .v 12, .v 13, .v 14]) <|
 .node (.call sub [.v 17, .v 68, .v 69] false) <|
 .node (.op .mkagg [.v 3, .v 4, .v 5, .v 6]) <|
 .node (.call rnew [.v 71] true) <|
 .node (.op .mkagg [.v 30, .v 31, .v 32, .v 33]) <|
 .node (.op .mkagg [.v 37, .v 38, .v 39, .v 40]) <|
 .node (.call rsub [.v 72, .v 73, .v 74] false) <|
 .node (.op (.eqv false [.int .u64, .int .u64, .int .u64, .int .u64]) [.v 70, .v 75]) <|
 .br (.v 76) (
 .node (.call lives [] true) <|
 .ret (.v 77)) (
 .ret (.c (.bool false)))) (
 .ret (.c (.bool false)))) (
 .ret (.c (.bool false)))) (
 .ret (.c (.bool false)))) (
 .ret (.c (.bool false)))))))
theorem fieldReckons_den {new is lives modu addmod mulmod ofF add mul neg rnew rsub sub : FuncId} (hn : FNewC P new) (hi : FIsC P is) (hv : Ct P lives [] (fun e => e = .ret (.bool true))) (hmd : FModC P modu)
    (ham : W3C P addmod (fun a b m => zmod (a + b) m)) (hmm : W3C P mulmod (fun a b m => zmod (a * b) m)) (ho : FW1 P ofF aOf) (ha : FWC P add aAdd) (hm : FWC P mul aMul) (hg : FW1 P neg aNeg) (hrn : RNewC P rnew) (hrs : R2C P rsub subM) (hs : FWC P sub aSub)
    {m a b : Nat} (hmW : m < W256) (hx : a < W256) (hy : b < W256) : D P (fun e => e = .ret (.bool true)) [] 3 [WV b, WV a, WV m] (t_fieldReckons new is lives modu addmod mulmod ofF add mul neg rnew rsub sub) := by
  have h0 := hn m hmW
  have hI := hi m hmW
  refine d_cells rfl rfl rfl rfl (d_cells rfl rfl rfl rfl (d_cells rfl rfl rfl rfl ?_))
  refine d_op (v := WV m) ev_wl ?_
  by_cases hb : m % 2 = 0 ∨ m = 1
  · rw [if_pos hb] at h0
    have : decide (m % 2 = 1 ∧ m ≠ 1) = false := by rw [decide_eq_false_iff_not]; omega
    rw [this] at hI
    refine d_call h0 (fun h => by cases h) (d_op (ev_ext rfl (fun _ => rfl)) (d_op (ev_ext rfl (fun _ => rfl)) (d_op (v := WV m) ev_wl (d_call hI (fun _ => rfl) (d_op (v := .bool true) rfl (d_br true rfl (fun _ => ?_) (fun h => by cases h)))))))
    exact d_op (v := .bool true) rfl (d_br true rfl (fun _ => d_op ev_eql (f_yes rfl rfl (d_call hv (fun _ => rfl) (d_ret rfl)))) (fun h => by cases h))
  · rw [if_neg hb] at h0
    have : decide (m % 2 = 1 ∧ m ≠ 1) = true := by rw [decide_eq_true_iff]; omega
    rw [this] at hI
    have ho1 : m % 2 = 1 := by omega
    have h1m : 1 < m := by omega
    have hF : Fok m (minv m) (W256 * W256 % m) := minv_Fok ho1 hmW
    have hm0 : 0 < m := by omega
    have hq := hrn m ho1 h1m hmW
    have hsq : W256 * W256 % m < W256 := Nat.lt_trans (Nat.mod_lt _ hm0) hmW
    have hl := hrs m (rlow m) (W256 * W256 % m)
    have lt : ∀ x, x % m < W256 := fun x => Nat.lt_trans (Nat.mod_lt _ hm0) hmW
    have ltm : ∀ x, x % m < m := fun x => Nat.mod_lt _ hm0
    generalize minv m = iv at *
    generalize W256 * W256 % m = sq at *
    have z : ∀ x, zmod x m = x % m := fun x => by unfold zmod; rw [if_neg (by omega)]
    have k1 : Ct P addmod [WV a, WV 0, WV m] (fun e => e = .ret (WV (a % m))) := by
      have := ham a 0 m hx (by decide) hmW
      dsimp only at this
      rwa [z, Nat.add_zero] at this
    have k2 : Ct P addmod [WV b, WV 0, WV m] (fun e => e = .ret (WV (b % m))) := by
      have := ham b 0 m hy (by decide) hmW
      dsimp only at this
      rwa [z, Nat.add_zero] at this
    have k3 : Ct P addmod [WV a, WV b, WV m] (fun e => e = .ret (WV ((a + b) % m))) := by
      have := ham a b m hx hy hmW
      dsimp only at this
      rwa [z] at this
    have k4 : Ct P mulmod [WV a, WV b, WV m] (fun e => e = .ret (WV (a * b % m))) := by
      have := hmm a b m hx hy hmW
      dsimp only at this
      rwa [z] at this
    have k5 : Ct P rsub [RP m (rlow m) sq, WV 0, WV (a % m)] (fun e => e = .ret (WV (subM m 0 (a % m)))) := hl _ _ hmW hsq hm0 (ltm _)
    have k6 : Ct P rsub [RP m (rlow m) sq, WV (a % m), WV (b % m)] (fun e => e = .ret (WV (subM m (a % m) (b % m)))) := hl _ _ hmW hsq (ltm _) (ltm _)
    refine d_call h0 (fun h => by cases h) (d_op (ev_ext rfl (fun _ => rfl)) (d_op (ev_ext rfl (fun _ => rfl)) (d_op (v := WV m) ev_wl (d_call hI (fun _ => rfl) (d_op (v := .bool false) rfl (d_br false rfl (fun h => by cases h) (fun _ => ?_)))))))
    refine d_op (v := .bool false) rfl (d_br false rfl (fun h => by cases h) (fun _ => d_op ev_neq (f_no (fun h => h rfl) rfl ?_)))
    refine d_call (hmd m iv sq hF) (fun h => by cases h) (d_op (v := WV m) ev_wl (d_op (ev_wne hmW hmW) (f_no (fun h => h rfl) rfl ?_)))
    refine d_op (v := WV a) ev_wl (d_op (v := WV m) ev_wl (d_call k1 (fun h => by cases h) (d_cells rfl rfl rfl rfl ?_)))
    refine d_op (v := WV b) ev_wl (d_op (v := WV m) ev_wl (d_call k2 (fun h => by cases h) (d_cells rfl rfl rfl rfl ?_)))
    refine d_op (v := WV a) ev_wl (d_call (ho m iv sq a hF hx) (fun h => by cases h) (d_op (v := WV (a % m)) ev_wl (d_op (ev_weq (lt _) (lt _)) (f_yes rfl rfl ?_))))
    refine d_op (v := WV a) ev_wl (d_op (v := WV b) ev_wl (d_call (ha m iv sq a b hF hx hy) (fun h => by cases h) ?_))
    refine d_op (v := WV a) ev_wl (d_op (v := WV b) ev_wl (d_op (v := WV m) ev_wl (d_call k3 (fun h => by cases h) (d_op (ev_weq (lt _) (lt _)) (f_yes rfl rfl ?_)))))
    refine d_op (v := WV a) ev_wl (d_op (v := WV b) ev_wl (d_call (hm m iv sq a b hF hx hy) (fun h => by cases h) ?_))
    refine d_op (v := WV a) ev_wl (d_op (v := WV b) ev_wl (d_op (v := WV m) ev_wl (d_call k4 (fun h => by cases h) (d_op (ev_weq (lt _) (lt _)) (f_yes rfl rfl ?_)))))
    refine d_op (v := WV a) ev_wl (d_call (hg m iv sq a hF hx) (fun h => by cases h) (d_op (v := WV m) ev_wl (d_call hq (fun _ => rfl) ?_)))
    refine d_op (v := WV (a % m)) ev_wl (d_call k5 (fun h => by cases h) (d_op (ev_weq (lt _) (lt _)) (f_yes ?_ rfl ?_)))
    · show aNeg m a = subM m 0 (a % m)
      unfold aNeg subM
      rfl
    refine d_op (v := WV a) ev_wl (d_op (v := WV b) ev_wl (d_call (hs m iv sq a b hF hx hy) (fun h => by cases h) (d_op (v := WV m) ev_wl (d_call hq (fun _ => rfl) ?_))))
    refine d_op (v := WV (a % m)) ev_wl (d_op (v := WV (b % m)) ev_wl (d_call k6 (fun h => by cases h) (d_op (ev_weq (lt _) (lt _)) (f_yes rfl rfl (d_call hv (fun _ => rfl) (d_ret rfl))))))
end Go.SE
