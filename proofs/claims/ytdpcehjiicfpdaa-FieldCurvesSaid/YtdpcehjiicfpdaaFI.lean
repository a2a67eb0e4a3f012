/- Nothing of the statement is proved here: this text lays generic laws: FI; no conditions. -/
import Derived.Test.YtdpcehjiicfpdaaFH
set_option linter.all false
set_option autoImplicit false
set_option maxRecDepth 4000
set_option maxHeartbeats 2000000
set_option exponentiation.threshold 5000
namespace Go.SE
open Go
variable {P : Program} {R : AEnd → Prop}
def t_flives (new inv sqrt : FuncId) : T :=
 .node (.call new [.c (.agg [.int .u64 7, .int .u64 0, .int .u64 0, .int .u64 0])] false) <|
 .node (.op (.ext 0 true) [.v 0]) <|
 .node (.op (.ext 1 true) [.v 0]) <|
 .node (.op (.isnil .pt false) [.v 1]) <|
 .br (.v 3) (
 .ret (.c (.bool false))) (
 .node (.op (.bin .neq) [.v 2, .c (.int .i64 0)]) <|
 .br (.v 4) (
 .ret (.c (.bool false))) (
 .node (.call inv [.v 1, .c (.agg [.int .u64 3, .int .u64 0, .int .u64 0, .int .u64 0])] false) <|
 .node (.op (.ext 0 false) [.v 5]) <|
 .node (.op (.ext 1 true) [.v 5]) <|
 .node (.op (.cell 4 0) [.v 6]) <|
 .node (.op (.cell 4 1) [.v 6]) <|
 .node (.op (.cell 4 2) [.v 6]) <|
 .node (.op (.cell 4 3) [.v 6]) <|
 .node (.call sqrt [.v 1, .c (.agg [.int .u64 2, .int .u64 0, .int .u64 0, .int .u64 0])] false) <|
 .node (.op (.ext 0 false) [.v 12]) <|
 .node (.op (.ext 1 true) [.v 12]) <|
 .node (.op (.cell 4 0) [.v 13]) <|
 .node (.op (.cell 4 1) [.v 13]) <|
 .node (.op (.cell 4 2) [.v 13]) <|
 .node (.op (.cell 4 3) [.v 13]) <|
 .node (.op .mkagg [.v 8, .v 9, .v 10, .v 11]) <|
 .node (.op (.eqv false [.int .u64, .int .u64, .int .u64, .int .u64]) [.v 19, .c (.agg [.int .u64 5, .int .u64 0, .int .u64 0, .int .u64 0])]) <|
 .br (.v 20) (
 .br (.v 7) (
 .node (.op .mkagg [.v 15, .v 16, .v 17, .v 18]) <|
 .node (.op (.eqv false [.int .u64, .int .u64, .int .u64, .int .u64]) [.v 21, .c (.agg [.int .u64 4, .int .u64 0, .int .u64 0, .int .u64 0])]) <|
 .br (.v 22) (
 .ret (.v 14)) (
 .ret (.c (.bool false)))) (
 .ret (.c (.bool false)))) (
 .ret (.c (.bool false)))))
theorem flives_den {new inv sqrt : FuncId} (hn : FNewC P new) (hi : FInvC P inv) (hs : FSqrtC P sqrt) : D P (fun e => e = .ret (.bool true)) [] 0 [] (t_flives new inv sqrt) := by
  have h7 := hn 7 (by decide)
  rw [if_neg (by decide)] at h7
  have hF : Fok 7 (minv 7) (W256 * W256 % 7) := minv_Fok (by decide) (by decide)
  have h3 := hi 7 _ _ 3 hF (by decide) (by decide)
  have e3 : aInv 7 3 = (5, true) := by decide
  rw [e3] at h3
  have h2 := hs 7 _ _ 2 hF (by decide)
  have e2 : aSqrt 7 2 = (4, true) := by decide
  rw [e2] at h2
  refine d_call h7 (fun h => by cases h) (d_op (ev_ext rfl (fun _ => rfl)) (d_op (ev_ext rfl (fun _ => rfl)) ?_))
  refine d_op (v := .bool false) rfl (d_br false rfl (fun h => by cases h) (fun _ => d_op ev_neq (f_no (fun h => h rfl) rfl ?_)))
  refine d_call h3 (fun h => by cases h) (d_op (ev_ext rfl (fun h => by cases h)) (d_op (ev_ext rfl (fun _ => rfl)) (d_cells (a := 5) (b := 0) (c := 0) (d := 0) rfl rfl rfl rfl ?_)))
  refine d_call h2 (fun h => by cases h) (d_op (ev_ext rfl (fun h => by cases h)) (d_op (ev_ext rfl (fun _ => rfl)) (d_cells (a := 4) (b := 0) (c := 0) (d := 0) rfl rfl rfl rfl ?_)))
  refine d_op (v := WV 5) rfl (d_op (ev_weq (a := 5) (b := 5) (by decide) (by decide)) (f_yes rfl rfl (d_br true rfl (fun _ => ?_) (fun h => by cases h))))
  exact d_op (v := WV 4) rfl (d_op (ev_weq (a := 4) (b := 4) (by decide) (by decide)) (f_yes rfl rfl (d_ret rfl)))
end Go.SE
