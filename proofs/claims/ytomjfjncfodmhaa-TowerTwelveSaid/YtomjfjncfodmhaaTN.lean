/- Nothing of the statement is proved here: this text lays generic laws: TN; no conditions. -/
import Derived.Test.YtomjfjncfodmhaaTM
set_option linter.all false
set_option autoImplicit false
set_option maxRecDepth 20000
set_option maxHeartbeats 16000000
set_option exponentiation.threshold 500
namespace Go.SE
open Go
variable {P : Program} {R : AEnd → Prop}
theorem ev_ne6 {s t : Six pBase} : evalO (.eqv true k48) [w6 s, w6 t] = some (.bool (decide (gl (gv (u6 s)) ≠ gl (gv (u6 t))))) :=
  ev_new (gl_lt (gv_ok _)) (gl_lt (gv_ok _)) rfl rfl
theorem ev_ne6z {s : Six pBase} : evalO (.eqv true k48) [w6 s, WS z12] = some (.bool (decide (gl (gv (u6 s)) ≠ z12))) :=
  ev_new (gl_lt (gv_ok _)) z12_lt rfl rfl
theorem ev_ne2 {a b : Cx pBase} : evalO (.eqv true [.int .u64, .int .u64, .int .u64, .int .u64, .int .u64, .int .u64, .int .u64, .int .u64]) [w2 a, w2 b] = some (.bool (decide (l2 a ≠ l2 b))) :=
  ev_new (l2_lt a) (l2_lt b) rfl rfl
def t_towerTwelve (new rof12 conj12 rsub add12 radd12 mul12 rmul12 inv12f rone lives : FuncId) : T :=
 .node (.op (.cell 48 0) [.v 0]) <|
 .node (.op (.cell 48 1) [.v 0]) <|
 .node (.op (.cell 48 2) [.v 0]) <|
 .node (.op (.cell 48 3) [.v 0]) <|
 .node (.op (.cell 48 4) [.v 0]) <|
 .node (.op (.cell 48 5) [.v 0]) <|
 .node (.op (.cell 48 6) [.v 0]) <|
 .node (.op (.cell 48 7) [.v 0]) <|
 .node (.op (.cell 48 8) [.v 0]) <|
 .node (.op (.cell 48 9) [.v 0]) <|
 .node (.op (.cell 48 10) [.v 0]) <|
 .node (.op (.cell 48 11) [.v 0]) <|
 .node (.op (.cell 48 12) [.v 0]) <|
 .node (.op (.cell 48 13) [.v 0]) <|
 .node (.op (.cell 48 14) [.v 0]) <|
 .node (.op (.cell 48 15) [.v 0]) <|
 .node (.op (.cell 48 16) [.v 0]) <|
 .node (.op (.cell 48 17) [.v 0]) <|
 .node (.op (.cell 48 18) [.v 0]) <|
 .node (.op (.cell 48 19) [.v 0]) <|
 .node (.op (.cell 48 20) [.v 0]) <|
 .node (.op (.cell 48 21) [.v 0]) <|
 .node (.op (.cell 48 22) [.v 0]) <|
 .node (.op (.cell 48 23) [.v 0]) <|
 .node (.op (.cell 48 24) [.v 0]) <|
 .node (.op (.cell 48 25) [.v 0]) <|
 .node (.op (.cell 48 26) [.v 0]) <|
 .node (.op (.cell 48 27) [.v 0]) <|
 .node (.op (.cell 48 28) [.v 0]) <|
 .node (.op (.cell 48 29) [.v 0]) <|
 .node (.op (.cell 48 30) [.v 0]) <|
 .node (.op (.cell 48 31) [.v 0]) <|
 .node (.op (.cell 48 32) [.v 0]) <|
 .node (.op (.cell 48 33) [.v 0]) <|
 .node (.op (.cell 48 34) [.v 0]) <|
 .node (.op (.cell 48 35) [.v 0]) <|
 .node (.op (.cell 48 36) [.v 0]) <|
 .node (.op (.cell 48 37) [.v 0]) <|
 .node (.op (.cell 48 38) [.v 0]) <|
 .node (.op (.cell 48 39) [.v 0]) <|
 .node (.op (.cell 48 40) [.v 0]) <|
 .node (.op (.cell 48 41) [.v 0]) <|
 .node (.op (.cell 48 42) [.v 0]) <|
 .node (.op (.cell 48 43) [.v 0]) <|
 .node (.op (.cell 48 44) [.v 0]) <|
 .node (.op (.cell 48 45) [.v 0]) <|
 .node (.op (.cell 48 46) [.v 0]) <|
 .node (.op (.cell 48 47) [.v 0]) <|
 .node (.op (.cell 48 0) [.v 1]) <|
 .node (.op (.cell 48 1) [.v 1]) <|
 .node (.op (.cell 48 2) [.v 1]) <|
 .node (.op (.cell 48 3) [.v 1]) <|
 .node (.op (.cell 48 4) [.v 1]) <|
 .node (.op (.cell 48 5) [.v 1]) <|
 .node (.op (.cell 48 6) [.v 1]) <|
 .node (.op (.cell 48 7) [.v 1]) <|
 .node (.op (.cell 48 8) [.v 1]) <|
 .node (.op (.cell 48 9) [.v 1]) <|
 .node (.op (.cell 48 10) [.v 1]) <|
 .node (.op (.cell 48 11) [.v 1]) <|
 .node (.op (.cell 48 12) [.v 1]) <|
 .node (.op (.cell 48 13) [.v 1]) <|
 .node (.op (.cell 48 14) [.v 1]) <|
 .node (.op (.cell 48 15) [.v 1]) <|
 .node (.op (.cell 48 16) [.v 1]) <|
 .node (.op (.cell 48 17) [.v 1]) <|
 .node (.op (.cell 48 18) [.v 1]) <|
 .node (.op (.cell 48 19) [.v 1]) <|
 .node (.op (.cell 48 20) [.v 1]) <|
 .node (.op (.cell 48 21) [.v 1]) <|
 .node (.op (.cell 48 22) [.v 1]) <|
 .node (.op (.cell 48 23) [.v 1]) <|
 .node (.op (.cell 48 24) [.v 1]) <|
 .node (.op (.cell 48 25) [.v 1]) <|
 .node (.op (.cell 48 26) [.v 1]) <|
 .node (.op (.cell 48 27) [.v 1]) <|
 .node (.op (.cell 48 28) [.v 1]) <|
 .node (.op (.cell 48 29) [.v 1]) <|
 .node (.op (.cell 48 30) [.v 1]) <|
 .node (.op (.cell 48 31) [.v 1]) <|
 .node (.op (.cell 48 32) [.v 1]) <|
 .node (.op (.cell 48 33) [.v 1]) <|
 .node (.op (.cell 48 34) [.v 1]) <|
 .node (.op (.cell 48 35) [.v 1]) <|
 .node (.op (.cell 48 36) [.v 1]) <|
 .node (.op (.cell 48 37) [.v 1]) <|
 .node (.op (.cell 48 38) [.v 1]) <|
 .node (.op (.cell 48 39) [.v 1]) <|
 .node (.op (.cell 48 40) [.v 1]) <|
 .node (.op (.cell 48 41) [.v 1]) <|
 .node (.op (.cell 48 42) [.v 1]) <|
 .node (.op (.cell 48 43) [.v 1]) <|
 .node (.op (.cell 48 44) [.v 1]) <|
 .node (.op (.cell 48 45) [.v 1]) <|
 .node (.op (.cell 48 46) [.v 1]) <|
 .node (.op (.cell 48 47) [.v 1]) <|
 .node (.call new [] false) <|
 .node (.op (.cell 1 0) [.v 98]) <|
 .node (.op .mkagg [.v 99]) <|
 .node (.op .mkagg [.v 2, .v 3, .v 4, .v 5, .v 6, .v 7, .v 8, .v 9, .v 10, .v 11, .v 12, .v 13, .v 14, .v 15, .v 16, .v 17, .v 18, .v 19, .v 20, .v 21, .v 22, .v 23, .v 24, .v 25, .v 26, .v 27, .v 28, .v 29, .v 30, .v 31, .v 32, .v 33, .v 34, .v 35, .v 36, .v 37, .v 38, .v 39, .v 40, .v 41, .v 42, .v 43, .v 44, .v 45, .v 46, .v 47, .v 48, .v 49]) <|
 .node (.call rof12 [.v 100, .v 101] false) <|
 .node (.op .mkagg [.v 99]) <|
 .node (.op .mkagg [.v 50, .v 51, .v 52, .v 53, .v 54, .v 55, .v 56, .v 57, .v 58, .v 59, .v 60, .v 61, .v 62, .v 63, .v 64, .v 65, .v 66, .v 67, .v 68, .v 69, .v 70, .v 71, .v 72, .v 73, .v 74, .v 75, .v 76, .v 77, .v 78, .v 79, .v 80, .v 81, .v 82, .v 83, .v 84, .v 85, .v 86, .v 87, .v 88, .v 89, .v 90, .v 91, .v 92, .v 93, .v 94, .v 95, .v 96, .v 97]) <|
 .node (.call rof12 [.v 103, .v 104] false) <|
 .node (.op (.cell 48 0) [.v 102]) <|
 .node (.op (.cell 48 1) [.v 102]) <|
 .node (.op (.cell 48 2) [.v 102]) <|
 .node (.op (.cell 48 3) [.v 102]) <|
 .node (.op (.cell 48 4) [.v 102]) <|
 .node (.op (.cell 48 5) [.v 102]) <|
 .node (.op (.cell 48 6) [.v 102]) <|
 .node (.op (.cell 48 7) [.v 102]) <|
 .node (.op (.cell 48 8) [.v 102]) <|
 .node (.op (.cell 48 9) [.v 102]) <|
 .node (.op (.cell 48 10) [.v 102]) <|
 .node (.op (.cell 48 11) [.v 102]) <|
 .node (.op (.cell 48 12) [.v 102]) <|
 .node (.op (.cell 48 13) [.v 102]) <|
 .node (.op (.cell 48 14) [.v 102]) <|
 .node (.op (.cell 48 15) [.v 102]) <|
 .node (.op (.cell 48 16) [.v 102]) <|
 .node (.op (.cell 48 17) [.v 102]) <|
 .node (.op (.cell 48 18) [.v 102]) <|
 .node (.op (.cell 48 19) [.v 102]) <|
 .node (.op (.cell 48 20) [.v 102]) <|
 .node (.op (.cell 48 21) [.v 102]) <|
 .node (.op (.cell 48 22) [.v 102]) <|
 .node (.op (.cell 48 23) [.v 102]) <|
 .node (.op (.cell 48 24) [.v 102]) <|
 .node (.op (.cell 48 25) [.v 102]) <|
 .node (.op (.cell 48 26) [.v 102]) <|
 .node (.op (.cell 48 27) [.v 102]) <|
 .node (.op (.cell 48 28) [.v 102]) <|
 .node (.op (.cell 48 29) [.v 102]) <|
 .node (.op (.cell 48 30) [.v 102]) <|
 .node (.op (.cell 48 31) [.v 102]) <|
 .node (.op (.cell 48 32) [.v 102]) <|
 .node (.op (.cell 48 33) [.v 102]) <|
 .node (.op (.cell 48 34) [.v 102]) <|
 .node (.op (.cell 48 35) [.v 102]) <|
 .node (.op (.cell 48 36) [.v 102]) <|
 .node (.op (.cell 48 37) [.v 102]) <|
 .node (.op (.cell 48 38) [.v 102]) <|
 .node (.op (.cell 48 39) [.v 102]) <|
 .node (.op (.cell 48 40) [.v 102]) <|
 .node (.op (.cell 48 41) [.v 102]) <|
 .node (.op (.cell 48 42) [.v 102]) <|
 .node (.op (.cell 48 43) [.v 102]) <|
 .node (.op (.cell 48 44) [.v 102]) <|
 .node (.op (.cell 48 45) [.v 102]) <|
 .node (.op (.cell 48 46) [.v 102]) <|
 .node (.op (.cell 48 47) [.v 102]) <|
 .node (.op (.cell 48 0) [.v 105]) <|
 .node (.op (.cell 48 1) [.v 105]) <|
 .node (.op (.cell 48 2) [.v 105]) <|
 .node (.op (.cell 48 3) [.v 105]) <|
 .node (.op (.cell 48 4) [.v 105]) <|
 .node (.op (.cell 48 5) [.v 105]) <|
 .node (.op (.cell 48 6) [.v 105]) <|
 .node (.op (.cell 48 7) [.v 105]) <|
 .node (.op (.cell 48 8) [.v 105]) <|
 .node (.op (.cell 48 9) [.v 105]) <|
 .node (.op (.cell 48 10) [.v 105]) <|
 .node (.op (.cell 48 11) [.v 105]) <|
 .node (.op (.cell 48 12) [.v 105]) <|
 .node (.op (.cell 48 13) [.v 105]) <|
 .node (.op (.cell 48 14) [.v 105]) <|
 .node (.op (.cell 48 15) [.v 105]) <|
 .node (.op (.cell 48 16) [.v 105]) <|
 .node (.op (.cell 48 17) [.v 105]) <|
 .node (.op (.cell 48 18) [.v 105]) <|
 .node (.op (.cell 48 19) [.v 105]) <|
 .node (.op (.cell 48 20) [.v 105]) <|
 .node (.op (.cell 48 21) [.v 105]) <|
 .node (.op (.cell 48 22) [.v 105]) <|
 .node (.op (.cell 48 23) [.v 105]) <|
 .node (.op (.cell 48 24) [.v 105]) <|
 .node (.op (.cell 48 25) [.v 105]) <|
 .node (.op (.cell 48 26) [.v 105]) <|
 .node (.op (.cell 48 27) [.v 105]) <|
 .node (.op (.cell 48 28) [.v 105]) <|
 .node (.op (.cell 48 29) [.v 105]) <|
 .node (.op (.cell 48 30) [.v 105]) <|
 .node (.op (.cell 48 31) [.v 105]) <|
 .node (.op (.cell 48 32) [.v 105]) <|
 .node (.op (.cell 48 33) [.v 105]) <|
 .node (.op (.cell 48 34) [.v 105]) <|
 .node (.op (.cell 48 35) [.v 105]) <|
 .node (.op (.cell 48 36) [.v 105]) <|
 .node (.op (.cell 48 37) [.v 105]) <|
 .node (.op (.cell 48 38) [.v 105]) <|
 .node (.op (.cell 48 39) [.v 105]) <|
 .node (.op (.cell 48 40) [.v 105]) <|
 .node (.op (.cell 48 41) [.v 105]) <|
 .node (.op (.cell 48 42) [.v 105]) <|
 .node (.op (.cell 48 43) [.v 105]) <|
 .node (.op (.cell 48 44) [.v 105]) <|
 .node (.op (.cell 48 45) [.v 105]) <|
 .node (.op (.cell 48 46) [.v 105]) <|
 .node (.op (.cell 48 47) [.v 105]) <|
 .node (.op .mkagg [.v 2, .v 3, .v 4, .v 5, .v 6, .v 7, .v 8, .v 9, .v 10, .v 11, .v 12, .v 13, .v 14, .v 15, .v 16, .v 17, .v 18, .v 19, .v 20, .v 21, .v 22, .v 23, .v 24, .v 25, .v 26, .v 27, .v 28, .v 29, .v 30, .v 31, .v 32, .v 33, .v 34, .v 35, .v 36, .v 37, .v 38, .v 39, .v 40, .v 41, .v 42, .v 43, .v 44, .v 45, .v 46, .v 47, .v 48, .v 49]) <|
 .node (.call conj12 [.v 202] false) <|
 .node (.op (.cell 48 0) [.v 203]) <|
 .node (.op (.cell 48 1) [.v 203]) <|
 .node (.op (.cell 48 2) [.v 203]) <|
 .node (.op (.cell 48 3) [.v 203]) <|
 .node (.op (.cell 48 4) [.v 203]) <|
 .node (.op (.cell 48 5) [.v 203]) <|
 .node (.op (.cell 48 6) [.v 203]) <|
 .node (.op (.cell 48 7) [.v 203]) <|
 .node (.op (.cell 48 8) [.v 203]) <|
 .node (.op (.cell 48 9) [.v 203]) <|
 .node (.op (.cell 48 10) [.v 203]) <|
 .node (.op (.cell 48 11) [.v 203]) <|
 .node (.op (.cell 48 12) [.v 203]) <|
 .node (.op (.cell 48 13) [.v 203]) <|
 .node (.op (.cell 48 14) [.v 203]) <|
 .node (.op (.cell 48 15) [.v 203]) <|
 .node (.op (.cell 48 16) [.v 203]) <|
 .node (.op (.cell 48 17) [.v 203]) <|
 .node (.op (.cell 48 18) [.v 203]) <|
 .node (.op (.cell 48 19) [.v 203]) <|
 .node (.op (.cell 48 20) [.v 203]) <|
 .node (.op (.cell 48 21) [.v 203]) <|
 .node (.op (.cell 48 22) [.v 203]) <|
 .node (.op (.cell 48 23) [.v 203]) <|
 .node (.op (.cell 48 24) [.v 203]) <|
 .node (.op (.cell 48 25) [.v 203]) <|
 .node (.op (.cell 48 26) [.v 203]) <|
 .node (.op (.cell 48 27) [.v 203]) <|
 .node (.op (.cell 48 28) [.v 203]) <|
 .node (.op (.cell 48 29) [.v 203]) <|
 .node (.op (.cell 48 30) [.v 203]) <|
 .node (.op (.cell 48 31) [.v 203]) <|
 .node (.op (.cell 48 32) [.v 203]) <|
 .node (.op (.cell 48 33) [.v 203]) <|
 .node (.op (.cell 48 34) [.v 203]) <|
 .node (.op (.cell 48 35) [.v 203]) <|
 .node (.op (.cell 48 36) [.v 203]) <|
 .node (.op (.cell 48 37) [.v 203]) <|
 .node (.op (.cell 48 38) [.v 203]) <|
 .node (.op (.cell 48 39) [.v 203]) <|
 .node (.op (.cell 48 40) [.v 203]) <|
 .node (.op (.cell 48 41) [.v 203]) <|
 .node (.op (.cell 48 42) [.v 203]) <|
 .node (.op (.cell 48 43) [.v 203]) <|
 .node (.op (.cell 48 44) [.v 203]) <|
 .node (.op (.cell 48 45) [.v 203]) <|
 .node (.op (.cell 48 46) [.v 203]) <|
 .node (.op (.cell 48 47) [.v 203]) <|
 .node (.op .mkagg [.v 204, .v 205, .v 206, .v 207, .v 208, .v 209, .v 210, .v 211]) <|
 .node (.op .mkagg [.v 106, .v 107, .v 108, .v 109, .v 110, .v 111, .v 112, .v 113]) <|
 .node (.op (.eqv true [.int .u64, .int .u64, .int .u64, .int .u64, .int .u64, .int .u64, .int .u64, .int .u64]) [.v 252, .v 253]) <|
 .br (.v 254) (
 .ret (.c (.bool false))) (
 .node (.op .mkagg [.v 99]) <|
 .node (.op .mkagg [.v 114, .v 115, .v 116, .v 117, .v 118, .v 119, .v 120, .v 121]) <|
 .node (.call rsub [.v 255, .c (.agg [.int .u64 0, .int .u64 0, .int .u64 0, .int .u64 0, .int .u64 0, .int .u64 0, .int .u64 0, .int .u64 0]), .v 256] false) <|
 .node (.op (.cell 8 0) [.v 257]) <|
 .node (.op (.cell 8 1) [.v 257]) <|
 .node (.op (.cell 8 2) [.v 257]) <|
 .node (.op (.cell 8 3) [.v 257]) <|
 .node (.op (.cell 8 4) [.v 257]) <|
 .node (.op (.cell 8 5) [.v 257]) <|
 .node (.op (.cell 8 6) [.v 257]) <|
 .node (.op (.cell 8 7) [.v 257]) <|
 .node (.op .mkagg [.v 212, .v 213, .v 214, .v 215, .v 216, .v 217, .v 218, .v 219]) <|
 .node (.op .mkagg [.v 258, .v 259, .v 260, .v 261, .v 262, .v 263, .v 264, .v 265]) <|
 .node (.op (.eqv true [.int .u64, .int .u64, .int .u64, .int .u64, .int .u64, .int .u64, .int .u64, .int .u64]) [.v 266, .v 267]) <|
 .br (.v 268) (
 .ret (.c (.bool false))) (
 .node (.op .mkagg [.v 220, .v 221, .v 222, .v 223, .v 224, .v 225, .v 226, .v 227]) <|
 .node (.op .mkagg [.v 122, .v 123, .v 124, .v 125, .v 126, .v 127, .v 128, .v 129]) <|
 .node (.op (.eqv true [.int .u64, .int .u64, .int .u64, .int .u64, .int .u64, .int .u64, .int .u64, .int .u64]) [.v 269, .v 270]) <|
 .br (.v 271) (
 .ret (.c (.bool false))) (
 .node (.op .mkagg [.v 99]) <|
 .node (.op .mkagg [.v 130, .v 131, .v 132, .v 133, .v 134, .v 135, .v 136, .v 137]) <|
 .node (.call rsub [.v 272, .c (.agg [.int .u64 0, .int .u64 0, .int .u64 0, .int .u64 0, .int .u64 0, .int .u64 0, .int .u64 0, .int .u64 0]), .v 273] false) <|
 .node (.op (.cell 8 0) [.v 274]) <|
 .node (.op (.cell 8 1) [.v 274]) <|
 .node (.op (.cell 8 2) [.v 274]) <|
 .node (.op (.cell 8 3) [.v 274]) <|
 .node (.op (.cell 8 4) [.v 274]) <|
 .node (.op (.cell 8 5) [.v 274]) <|
 .node (.op (.cell 8 6) [.v 274]) <|
 .node (.op (.cell 8 7) [.v 274]) <|
 .node (.op .mkagg [.v 228, .v 229, .v 230, .v 231, .v 232, .v 233, .v 234, .v 235]) <|
 .node (.op .mkagg [.v 275, .v 276, .v 277, .v 278, .v 279, .v 280, .v 281, .v 282]) <|
 .node (.op (.eqv true [.int .u64, .int .u64, .int .u64, .int .u64, .int .u64, .int .u64, .int .u64, .int .u64]) [.v 283, .v 284]) <|
 .br (.v 285) (
 .ret (.c (.bool false))) (
 .node (.op .mkagg [.v 236, .v 237, .v 238, .v 239, .v 240, .v 241, .v 242, .v 243]) <|
 .node (.op .mkagg [.v 138, .v 139, .v 140, .v 141, .v 142, .v 143, .v 144, .v 145]) <|
 .node (.op (.eqv true [.int .u64, .int .u64, .int .u64, .int .u64, .int .u64, .int .u64, .int .u64, .int .u64]) [.v 286, .v 287]) <|
 .br (.v 288) (
 .ret (.c (.bool false))) (
 .node (.op .mkagg [.v 99]) <|
 .node (.op .mkagg [.v 146, .v 147, .v 148, .v 149, .v 150, .v 151, .v 152, .v 153]) <|
 .node (.call rsub [.v 289, .c (.agg [.int .u64 0, .int .u64 0, .int .u64 0, .int .u64 0, .int .u64 0, .int .u64 0, .int .u64 0, .int .u64 0]), .v 290] false) <|
 .node (.op (.cell 8 0) [.v 291]) <|
 .node (.op (.cell 8 1) [.v 291]) <|
 .node (.op (.cell 8 2) [.v 291]) <|
 .node (.op (.cell 8 3) [.v 291]) <|
 .node (.op (.cell 8 4) [.v 291]) <|
 .node (.op (.cell 8 5) [.v 291]) <|
 .node (.op (.cell 8 6) [.v 291]) <|
 .node (.op (.cell 8 7) [.v 291]) <|
 .node (.op .mkagg [.v 244, .v 245, .v 246, .v 247, .v 248, .v 249, .v 250, .v 251]) <|
 .node (.op .mkagg [.v 292, .v 293, .v 294, .v 295, .v 296, .v 297, .v 298, .v 299]) <|
 .node (.op (.eqv true [.int .u64, .int .u64, .int .u64, .int .u64, .int .u64, .int .u64, .int .u64, .int .u64]) [.v 300, .v 301]) <|
 .br (.v 302) (
 .ret (.c (.bool false))) (
 .node (.op .mkagg [.v 2, .v 3, .v 4, .v 5, .v 6, .v 7, .v 8, .v 9, .v 10, .v 11, .v 12, .v 13, .v 14, .v 15, .v 16, .v 17, .v 18, .v 19, .v 20, .v 21, .v 22, .v 23, .v 24, .v 25, .v 26, .v 27, .v 28, .v 29, .v 30, .v 31, .v 32, .v 33, .v 34, .v 35, .v 36, .v 37, .v 38, .v 39, .v 40, .v 41, .v 42, .v 43, .v 44, .v 45, .v 46, .v 47, .v 48, .v 49]) <|
 .node (.op .mkagg [.v 50, .v 51, .v 52, .v 53, .v 54, .v 55, .v 56, .v 57, .v 58, .v 59, .v 60, .v 61, .v 62, .v 63, .v 64, .v 65, .v 66, .v 67, .v 68, .v 69, .v 70, .v 71, .v 72, .v 73, .v 74, .v 75, .v 76, .v 77, .v 78, .v 79, .v 80, .v 81, .v 82, .v 83, .v 84, .v 85, .v 86, .v 87, .v 88, .v 89, .v 90, .v 91, .v 92, .v 93, .v 94, .v 95, .v 96, .v 97]) <|
 .node (.call add12 [.v 303, .v 304] false) <|
 .node (.op .mkagg [.v 99]) <|
 .node (.op .mkagg [.v 106, .v 107, .v 108, .v 109, .v 110, .v 111, .v 112, .v 113, .v 114, .v 115, .v 116, .v 117, .v 118, .v 119, .v 120, .v 121, .v 122, .v 123, .v 124, .v 125, .v 126, .v 127, .v 128, .v 129, .v 130, .v 131, .v 132, .v 133, .v 134, .v 135, .v 136, .v 137, .v 138, .v 139, .v 140, .v 141, .v 142, .v 143, .v 144, .v 145, .v 146, .v 147, .v 148, .v 149, .v 150, .v 151, .v 152, .v 153]) <|
 .node (.op .mkagg [.v 154, .v 155, .v 156, .v 157, .v 158, .v 159, .v 160, .v 161, .v 162, .v 163, .v 164, .v 165, .v 166, .v 167, .v 168, .v 169, .v 170, .v 171, .v 172, .v 173, .v 174, .v 175, .v 176, .v 177, .v 178, .v 179, .v 180, .v 181, .v 182, .v 183, .v 184, .v 185, .v 186, .v 187, .v 188, .v 189, .v 190, .v 191, .v 192, .v 193, .v 194, .v 195, .v 196, .v 197, .v 198, .v 199, .v 200, .v 201]) <|
 .node (.call radd12 [.v 306, .v 307, .v 308] false) <|
 .node (.op (.eqv true [.int .u64, .int .u64, .int .u64, .int .u64, .int .u64, .int .u64, .int .u64, .int .u64, .int .u64, .int .u64, .int .u64, .int .u64, .int .u64, .int .u64, .int .u64, .int .u64, .int .u64, .int .u64, .int .u64, .int .u64, .int .u64, .int .u64, .int .u64, .int .u64, .int .u64, .int .u64, .int .u64, .int .u64, .int .u64, .int .u64, .int .u64, .int .u64, .int .u64, .int .u64, .int .u64, .int .u64, .int .u64, .int .u64, .int .u64, .int .u64, .int .u64, .int .u64, .int .u64, .int .u64, .int .u64, .int .u64, .int .u64, .int .u64]) [.v 305, .v 309]) <|
 .br (.v 310) (
 .ret (.c (.bool false))) (
 .node (.op .mkagg [.v 2, .v 3, .v 4, .v 5, .v 6, .v 7, .v 8, .v 9, .v 10, .v 11, .v 12, .v 13, .v 14, .v 15, .v 16, .v 17, .v 18, .v 19, .v 20, .v 21, .v 22, .v 23, .v 24, .v 25, .v 26, .v 27, .v 28, .v 29, .v 30, .v 31, .v 32, .v 33, .v 34, .v 35, .v 36, .v 37, .v 38, .v 39, .v 40, .v 41, .v 42, .v 43, .v 44, .v 45, .v 46, .v 47, .v 48, .v 49]) <|
 .node (.op .mkagg [.v 50, .v 51, .v 52, .v 53, .v 54, .v 55, .v 56, .v 57, .v 58, .v 59, .v 60, .v 61, .v 62, .v 63, .v 64, .v 65, .v 66, .v 67, .v 68, .v 69, .v 70, .v 71, .v 72, .v 73, .v 74, .v 75, .v 76, .v 77, .v 78, .v 79, .v 80, .v 81, .v 82, .v 83, .v 84, .v 85, .v 86, .v 87, .v 88, .v 89, .v 90, .v 91, .v 92, .v 93, .v 94, .v 95, .v 96, .v 97]) <|
 .node (.call mul12 [.v 311, .v 312] false) <|
 .node (.op .mkagg [.v 99]) <|
 .node (.op .mkagg [.v 106, .v 107, .v 108, .v 109, .v 110, .v 111, .v 112, .v 113, .v 114, .v 115, .v 116, .v 117, .v 118, .v 119, .v 120, .v 121, .v 122, .v 123, .v 124, .v 125, .v 126, .v 127, .v 128, .v 129, .v 130, .v 131, .v 132, .v 133, .v 134, .v 135, .v 136, .v 137, .v 138, .v 139, .v 140, .v 141, .v 142, .v 143, .v 144, .v 145, .v 146, .v 147, .v 148, .v 149, .v 150, .v 151, .v 152, .v 153]) <|
 .node (.op .mkagg [.v 154, .v 155, .v 156, .v 157, .v 158, .v 159, .v 160, .v 161, .v 162, .v 163, .v 164, .v 165, .v 166, .v 167, .v 168, .v 169, .v 170, .v 171, .v 172, .v 173, .v 174, .v 175, .v 176, .v 177, .v 178, .v 179, .v 180, .v 181, .v 182, .v 183, .v 184, .v 185, .v 186, .v 187, .v 188, .v 189, .v 190, .v 191, .v 192, .v 193, .v 194, .v 195, .v 196, .v 197, .v 198, .v 199, .v 200, .v 201]) <|
 .node (.call rmul12 [.v 314, .v 315, .v 316] false) <|
 .node (.op (.eqv true [.int .u64, .int .u64, .int .u64, .int .u64, .int .u64, .int .u64, .int .u64, .int .u64, .int .u64, .int .u64, .int .u64, .int .u64, .int .u64, .int .u64, .int .u64, .int .u64, .int .u64, .int .u64, .int .u64, .int .u64, .int .u64, .int .u64, .int .u64, .int .u64, .int .u64, .int .u64, .int .u64, .int .u64, .int .u64, .int .u64, .int .u64, .int .u64, .int .u64, .int .u64, .int .u64, .int .u64, .int .u64, .int .u64, .int .u64, .int .u64, .int .u64, .int .u64, .int .u64, .int .u64, .int .u64, .int .u64, .int .u64, .int .u64]) [.v 313, .v 317]) <|
 .br (.v 318) (
 .ret (.c (.bool false))) (
 .node (.op .mkagg [.v 2, .v 3, .v 4, .v 5, .v 6, .v 7, .v 8, .v 9, .v 10, .v 11, .v 12, .v 13, .v 14, .v 15, .v 16, .v 17, .v 18, .v 19, .v 20, .v 21, .v 22, .v 23, .v 24, .v 25, .v 26, .v 27, .v 28, .v 29, .v 30, .v 31, .v 32, .v 33, .v 34, .v 35, .v 36, .v 37, .v 38, .v 39, .v 40, .v 41, .v 42, .v 43, .v 44, .v 45, .v 46, .v 47, .v 48, .v 49]) <|
 .node (.call inv12f [.v 319] false) <|
 .node (.op (.ext 0 false) [.v 320]) <|
 .node (.op (.ext 1 true) [.v 320]) <|
 .node (.op (.cell 48 0) [.v 321]) <|
 .node (.op (.cell 48 1) [.v 321]) <|
 .node (.op (.cell 48 2) [.v 321]) <|
 .node (.op (.cell 48 3) [.v 321]) <|
 .node (.op (.cell 48 4) [.v 321]) <|
 .node (.op (.cell 48 5) [.v 321]) <|
 .node (.op (.cell 48 6) [.v 321]) <|
 .node (.op (.cell 48 7) [.v 321]) <|
 .node (.op (.cell 48 8) [.v 321]) <|
 .node (.op (.cell 48 9) [.v 321]) <|
 .node (.op (.cell 48 10) [.v 321]) <|
 .node (.op (.cell 48 11) [.v 321]) <|
 .node (.op (.cell 48 12) [.v 321]) <|
 .node (.op (.cell 48 13) [.v 321]) <|
 .node (.op (.cell 48 14) [.v 321]) <|
 .node (.op (.cell 48 15) [.v 321]) <|
 .node (.op (.cell 48 16) [.v 321]) <|
 .node (.op (.cell 48 17) [.v 321]) <|
 .node (.op (.cell 48 18) [.v 321]) <|
 .node (.op (.cell 48 19) [.v 321]) <|
 .node (.op (.cell 48 20) [.v 321]) <|
 .node (.op (.cell 48 21) [.v 321]) <|
 .node (.op (.cell 48 22) [.v 321]) <|
 .node (.op (.cell 48 23) [.v 321]) <|
 .node (.op (.cell 48 24) [.v 321]) <|
 .node (.op (.cell 48 25) [.v 321]) <|
 .node (.op (.cell 48 26) [.v 321]) <|
 .node (.op (.cell 48 27) [.v 321]) <|
 .node (.op (.cell 48 28) [.v 321]) <|
 .node (.op (.cell 48 29) [.v 321]) <|
 .node (.op (.cell 48 30) [.v 321]) <|
 .node (.op (.cell 48 31) [.v 321]) <|
 .node (.op (.cell 48 32) [.v 321]) <|
 .node (.op (.cell 48 33) [.v 321]) <|
 .node (.op (.cell 48 34) [.v 321]) <|
 .node (.op (.cell 48 35) [.v 321]) <|
 .node (.op (.cell 48 36) [.v 321]) <|
 .node (.op (.cell 48 37) [.v 321]) <|
 .node (.op (.cell 48 38) [.v 321]) <|
 .node (.op (.cell 48 39) [.v 321]) <|
 .node (.op (.cell 48 40) [.v 321]) <|
 .node (.op (.cell 48 41) [.v 321]) <|
 .node (.op (.cell 48 42) [.v 321]) <|
 .node (.op (.cell 48 43) [.v 321]) <|
 .node (.op (.cell 48 44) [.v 321]) <|
 .node (.op (.cell 48 45) [.v 321]) <|
 .node (.op (.cell 48 46) [.v 321]) <|
 .node (.op (.cell 48 47) [.v 321]) <|
 .node (.op .mkagg [.v 106, .v 107, .v 108, .v 109, .v 110, .v 111, .v 112, .v 113, .v 114, .v 115, .v 116, .v 117, .v 118, .v 119, .v 120, .v 121, .v 122, .v 123, .v 124, .v 125, .v 126, .v 127, .v 128, .v 129, .v 130, .v 131, .v 132, .v 133, .v 134, .v 135, .v 136, .v 137, .v 138, .v 139, .v 140, .v 141, .v 142, .v 143, .v 144, .v 145, .v 146, .v 147, .v 148, .v 149, .v 150, .v 151, .v 152, .v 153]) <|
 .node (.op (.eqv true [.int .u64, .int .u64, .int .u64, .int .u64, .int .u64, .int .u64, .int .u64, .int .u64, .int .u64, .int .u64, .int .u64, .int .u64, .int .u64, .int .u64, .int .u64, .int .u64, .int .u64, .int .u64, .int .u64, .int .u64, .int .u64, .int .u64, .int .u64, .int .u64, .int .u64, .int .u64, .int .u64, .int .u64, .int .u64, .int .u64, .int .u64, .int .u64, .int .u64, .int .u64, .int .u64, .int .u64, .int .u64, .int .u64, .int .u64, .int .u64, .int .u64, .int .u64, .int .u64, .int .u64, .int .u64, .int .u64, .int .u64, .int .u64]) [.v 371, .c (.agg [.int .u64 0, .int .u64 0, .int .u64 0, .int .u64 0, .int .u64 0, .int .u64 0, .int .u64 0, .int .u64 0, .int .u64 0, .int .u64 0, .int .u64 0, .int .u64 0, .int .u64 0, .int .u64 0, .int .u64 0, .int .u64 0, .int .u64 0, .int .u64 0, .int .u64 0, .int .u64 0, .int .u64 0, .int .u64 0, .int .u64 0, .int .u64 0, .int .u64 0, .int .u64 0, .int .u64 0, .int .u64 0, .int .u64 0, .int .u64 0, .int .u64 0, .int .u64 0, .int .u64 0, .int .u64 0, .int .u64 0, .int .u64 0, .int .u64 0, .int .u64 0, .int .u64 0, .int .u64 0, .int .u64 0, .int .u64 0, .int .u64 0, .int .u64 0, .int .u64 0, .int .u64 0, .int .u64 0, .int .u64 0])]) <|
 .node (.op (.bb true) [.v 322, .v 372]) <|
 .br (.v 373) (
 .ret (.c (.bool false))) (
 .node (.op (.un .not) [.v 322]) <|
 .br (.v 374) (
 .node (.op .mkagg [.v 323, .v 324, .v 325, .v 326, .v 327, .v 328, .v 329, .v 330, .v 331, .v 332, .v 333, .v 334, .v 335, .v 336, .v 337, .v 338, .v 339, .v 340, .v 341, .v 342, .v 343, .v 344, .v 345, .v 346, .v 347, .v 348, .v 349, .v 350, .v 351, .v 352, .v 353, .v 354, .v 355, .v 356, .v 357, .v 358, .v 359, .v 360, .v 361, .v 362, .v 363, .v 364, .v 365, .v 366, .v 367, .v 368, .v 369, .v 370]) <|
 .node (.op (.eqv true [.int .u64, .int .u64, .int .u64, .int .u64, .int .u64, .int .u64, .int .u64, .int .u64, .int .u64, .int .u64, .int .u64, .int .u64, .int .u64, .int .u64, .int .u64, .int .u64, .int .u64, .int .u64, .int .u64, .int .u64, .int .u64, .int .u64, .int .u64, .int .u64, .int .u64, .int .u64, .int .u64, .int .u64, .int .u64, .int .u64, .int .u64, .int .u64, .int .u64, .int .u64, .int .u64, .int .u64, .int .u64, .int .u64, .int .u64, .int .u64, .int .u64, .int .u64, .int .u64, .int .u64, .int .u64, .int .u64, .int .u64, .int .u64]) [.v 375, .c (.agg [.int .u64 0, .int .u64 0, .int .u64 0, .int .u64 0, .int .u64 0, .int .u64 0, .int .u64 0, .int .u64 0, .int .u64 0, .int .u64 0, .int .u64 0, .int .u64 0, .int .u64 0, .int .u64 0, .int .u64 0, .int .u64 0, .int .u64 0, .int .u64 0, .int .u64 0, .int .u64 0, .int .u64 0, .int .u64 0, .int .u64 0, .int .u64 0, .int .u64 0, .int .u64 0, .int .u64 0, .int .u64 0, .int .u64 0, .int .u64 0, .int .u64 0, .int .u64 0, .int .u64 0, .int .u64 0, .int .u64 0, .int .u64 0, .int .u64 0, .int .u64 0, .int .u64 0, .int .u64 0, .int .u64 0, .int .u64 0, .int .u64 0, .int .u64 0, .int .u64 0, .int .u64 0, .int .u64 0, .int .u64 0])]) <|
 .br (.v 376) (
 .ret (.c (.bool false))) (
 .br (.v 322) (
 .node (.op .mkagg [.v 99]) <|
 .node (.op .mkagg [.v 323, .v 324, .v 325, .v 326, .v 327, .v 328, .v 329, .v 330, .v 331, .v 332, .v 333, .v 334, .v 335, .v 336, .v 337, .v 338, .v 339, .v 340, .v 341, .v 342, .v 343, .v 344, .v 345, .v 346, .v 347, .v 348, .v 349, .v 350, .v 351, .v 352, .v 353, .v 354, .v 355, .v 356, .v 357, .v 358, .v 359, .v 360, .v 361, .v 362, .v 363, .v 364, .v 365, .v 366, .v 367, .v 368, .v 369, .v 370]) <|
 .node (.op .mkagg [.v 106, .v 107, .v 108, .v 109, .v 110, .v 111, .v 112, .v 113, .v 114, .v 115, .v 116, .v 117, .v 118, .v 119, .v 120, .v 121, .v 122, .v 123, .v 124, .v 125, .v 126, .v 127, .v 128, .v 129, .v 130, .v 131, .v 132, .v 133, .v 134, .v 135, .v 136, .v 137, .v 138, .v 139, .v 140, .v 141, .v 142, .v 143, .v 144, .v 145, .v 146, .v 147, .v 148, .v 149, .v 150, .v 151, .v 152, .v 153]) <|
 .node (.call rmul12 [.v 377, .v 378, .v 379] false) <|
 .node (.call rone [] false) <|
 .node (.op (.eqv true [.int .u64, .int .u64, .int .u64, .int .u64, .int .u64, .int .u64, .int .u64, .int .u64, .int .u64, .int .u64, .int .u64, .int .u64, .int .u64, .int .u64, .int .u64, .int .u64, .int .u64, .int .u64, .int .u64, .int .u64, .int .u64, .int .u64, .int .u64, .int .u64, .int .u64, .int .u64, .int .u64, .int .u64, .int .u64, .int .u64, .int .u64, .int .u64, .int .u64, .int .u64, .int .u64, .int .u64, .int .u64, .int .u64, .int .u64, .int .u64, .int .u64, .int .u64, .int .u64, .int .u64, .int .u64, .int .u64, .int .u64, .int .u64]) [.v 380, .v 381]) <|
 .br (.v 382) (
 .ret (.c (.bool false))) (
 .node (.call lives [] true) <|
 .ret (.v 383))) (
 .node (.call lives [] true) <|
 .ret (.v 377)))) (
 .br (.v 322) (
 .node (.op .mkagg [.v 99]) <|
 .node (.op .mkagg [.v 323, .v 324, .v 325, .v 326, .v 327, .v 328, .v 329, .v 330, .v 331, .v 332, .v 333, .v 334, .v 335, .v 336, .v 337, .v 338, .v 339, .v 340, .v 341, .v 342, .v 343, .v 344, .v 345, .v 346, .v 347, .v 348, .v 349, .v 350, .v 351, .v 352, .v 353, .v 354, .v 355, .v 356, .v 357, .v 358, .v 359, .v 360, .v 361, .v 362, .v 363, .v 364, .v 365, .v 366, .v 367, .v 368, .v 369, .v 370]) <|
 .node (.op .mkagg [.v 106, .v 107, .v 108, .v 109, .v 110, .v 111, .v 112, .v 113, .v 114, .v 115, .v 116, .v 117, .v 118, .v 119, .v 120, .v 121, .v 122, .v 123, .v 124, .v 125, .v 126, .v 127, .v 128, .v 129, .v 130, .v 131, .v 132, .v 133, .v 134, .v 135, .v 136, .v 137, .v 138, .v 139, .v 140, .v 141, .v 142, .v 143, .v 144, .v 145, .v 146, .v 147, .v 148, .v 149, .v 150, .v 151, .v 152, .v 153]) <|
 .node (.call rmul12 [.v 375, .v 376, .v 377] false) <|
 .node (.call rone [] false) <|
 .node (.op (.eqv true [.int .u64, .int .u64, .int .u64, .int .u64, .int .u64, .int .u64, .int .u64, .int .u64, .int .u64, .int .u64, .int .u64, .int .u64, .int .u64, .int .u64, .int .u64, .int .u64, .int .u64, .int .u64, .int .u64, .int .u64, .int .u64, .int .u64, .int .u64, .int .u64, .int .u64, .int .u64, .int .u64, .int .u64, .int .u64, .int .u64, .int .u64, .int .u64, .int .u64, .int .u64, .int .u64, .int .u64, .int .u64, .int .u64, .int .u64, .int .u64, .int .u64, .int .u64, .int .u64, .int .u64, .int .u64, .int .u64, .int .u64, .int .u64]) [.v 378, .v 379]) <|
 .br (.v 380) (
 .ret (.c (.bool false))) (
 .node (.call lives [] true) <|
 .ret (.v 381))) (
 .node (.call lives [] true) <|
 .ret (.v 375))))))))))))
theorem towerTwelve_den {new rof12 conj12 rsub add12 radd12 mul12 rmul12 inv12f rone lives : FuncId} (hn : Ct P new [] (fun e => e = .ret RT)) (ho : O12C P rof12 RT) (hc : ∀ g, Wok g → Ct P conj12 [W6 g] (fun e => e = .ret (w6 (wh (evn (r6 g)) (Tri.neg (odd (r6 g)))))))
    (hs : RT2 P rsub (· - ·)) (hA : S12C P add12 Six.add) (hRA : RM12C P radd12 Six.add) (hM : S12C P mul12 (Six.mul xi)) (hRM : RM12C P rmul12 (Six.mul xi)) (hI : ∀ g, Wok g → Ct P inv12f [W6 g] (fun e => e = .ret (inv12R (r6 g))))
    (h1 : Ct P rone [] (fun e => e = .ret one6)) (hv : Ct P lives [] (fun e => e = .ret (.bool true))) {g h : Nat → Nat × Nat} (hg : Wok g) (hh : Wok h) :
    D P (fun e => e = .ret (.bool true)) [] 2 [W6 h, W6 g] (t_towerTwelve new rof12 conj12 rsub add12 radd12 mul12 rmul12 inv12f rone lives) := by
  have sz : ∀ q : Cx pBase, Ct P rsub [RT, WW 0 0, w2 q] (fun e => e = .ret (w2 ((Cx.zero : Cx pBase) - q))) := fun q => hs Cx.zero q
  have k1 := ho g hg
  have k2 := ho h hh
  have k3 := hc g hg
  have k4 := hA g h hg hh
  have k5 := hRA (r6 g) (r6 h)
  have k6 := hM g h hg hh
  have k7 := hRM (r6 g) (r6 h)
  have k8 := hI g hg
  have k9 := is12_iff (r6 g)
  have k10 : is12 (r6 g) = true → Ct P rmul12 [RT, w6 (wh (Tri.mul (evn (r6 g)) (inv12 (r6 g))) (Tri.neg (Tri.mul (odd (r6 g)) (inv12 (r6 g))))), w6 (r6 g)] (fun e => e = .ret one6) := fun hi => by
    have := hRM (wh (Tri.mul (evn (r6 g)) (inv12 (r6 g))) (Tri.neg (Tri.mul (odd (r6 g)) (inv12 (r6 g))))) (r6 g)
    rw [inv12_mul hi] at this
    exact this
  have eC : wh (evn (r6 g)) (Tri.neg (odd (r6 g))) = ⟨(r6 g).c0, (Cx.zero : Cx pBase) - (r6 g).c1, (r6 g).c2, (Cx.zero : Cx pBase) - (r6 g).c3, (r6 g).c4, (Cx.zero : Cx pBase) - (r6 g).c5⟩ := rfl
  rw [eC] at k3
  unfold inv12R at k8
  generalize wh (Tri.mul (evn (r6 g)) (inv12 (r6 g))) (Tri.neg (Tri.mul (odd (r6 g)) (inv12 (r6 g)))) = J at *
  generalize is12 (r6 g) = c at *
  clear eC
  generalize r6 g = X at *
  generalize r6 h = Y at *
  generalize Six.add X Y = XA at *
  generalize Six.mul xi X Y = XM at *
  refine d_expl (N := 48) (i := 0) rfl rfl rfl rfl (d_expl (N := 48) (i := 1) rfl rfl rfl rfl (d_call hn (fun h => by cases h) (d_op (v := rB) rfl ?_)))
  refine d_op (v := RT) rfl (d_refold 2 48 (v := W6 g) rfl rfl rfl rfl rfl rfl (d_call k1 (fun h => by cases h) ?_))
  refine d_op (v := RT) rfl (d_refold 50 48 (v := W6 h) rfl rfl rfl rfl rfl rfl (d_call k2 (fun h => by cases h) ?_))
  refine d_expl (N := 48) (i := 102) rfl rfl rfl rfl (d_expl (N := 48) (i := 105) rfl rfl rfl rfl ?_)
  refine d_refold 2 48 (v := W6 g) rfl rfl rfl rfl rfl rfl (d_call k3 (fun h => by cases h) (d_expl (N := 48) (i := 203) rfl rfl rfl rfl ?_))
  refine d_op (v := w2 X.c0) rfl (d_op (v := w2 X.c0) rfl (d_op ev_ne2 (f_no (fun h => h rfl) rfl ?_)))
  refine d_op (v := RT) rfl (d_op (v := w2 X.c1) rfl (d_call (sz X.c1) (fun h => by cases h) (d_expl (N := 8) (i := 257) rfl rfl rfl rfl ?_)))
  refine d_op (v := w2 ((Cx.zero : Cx pBase) - X.c1)) rfl (d_op (v := w2 ((Cx.zero : Cx pBase) - X.c1)) rfl (d_op ev_ne2 (f_no (fun h => h rfl) rfl ?_)))
  refine d_op (v := w2 X.c2) rfl (d_op (v := w2 X.c2) rfl (d_op ev_ne2 (f_no (fun h => h rfl) rfl ?_)))
  refine d_op (v := RT) rfl (d_op (v := w2 X.c3) rfl (d_call (sz X.c3) (fun h => by cases h) (d_expl (N := 8) (i := 274) rfl rfl rfl rfl ?_)))
  refine d_op (v := w2 ((Cx.zero : Cx pBase) - X.c3)) rfl (d_op (v := w2 ((Cx.zero : Cx pBase) - X.c3)) rfl (d_op ev_ne2 (f_no (fun h => h rfl) rfl ?_)))
  refine d_op (v := w2 X.c4) rfl (d_op (v := w2 X.c4) rfl (d_op ev_ne2 (f_no (fun h => h rfl) rfl ?_)))
  refine d_op (v := RT) rfl (d_op (v := w2 X.c5) rfl (d_call (sz X.c5) (fun h => by cases h) (d_expl (N := 8) (i := 291) rfl rfl rfl rfl ?_)))
  refine d_op (v := w2 ((Cx.zero : Cx pBase) - X.c5)) rfl (d_op (v := w2 ((Cx.zero : Cx pBase) - X.c5)) rfl (d_op ev_ne2 (f_no (fun h => h rfl) rfl ?_)))
  refine d_refold 2 48 (v := W6 g) rfl rfl rfl rfl rfl rfl (d_refold 50 48 (v := W6 h) rfl rfl rfl rfl rfl rfl (d_call k4 (fun h => by cases h) ?_))
  refine d_op (v := RT) rfl (d_refold 106 48 (v := w6 X) rfl rfl rfl rfl rfl rfl (d_refold 154 48 (v := w6 Y) rfl rfl rfl rfl rfl rfl (d_call k5 (fun h => by cases h) (d_op ev_ne6 (f_no (fun h => h rfl) rfl ?_)))))
  refine d_refold 2 48 (v := W6 g) rfl rfl rfl rfl rfl rfl (d_refold 50 48 (v := W6 h) rfl rfl rfl rfl rfl rfl (d_call k6 (fun h => by cases h) ?_))
  refine d_op (v := RT) rfl (d_refold 106 48 (v := w6 X) rfl rfl rfl rfl rfl rfl (d_refold 154 48 (v := w6 Y) rfl rfl rfl rfl rfl rfl (d_call k7 (fun h => by cases h) (d_op ev_ne6 (f_no (fun h => h rfl) rfl ?_)))))
  refine d_refold 2 48 (v := W6 g) rfl rfl rfl rfl rfl rfl ?_
  cases c with
  | false =>
    rw [if_neg (by decide)] at k8
    refine d_call k8 (fun h => by cases h) (d_op (v := WS z12) (ev_ext rfl (fun h => by cases h)) (d_op (ev_ext rfl (fun _ => rfl)) (d_expl (N := 48) (i := 321) rfl rfl rfl rfl ?_)))
    refine d_refold 106 48 (v := w6 X) rfl rfl rfl rfl rfl rfl (d_op ev_ne6z (d_op ev_bbne (f_no (fun h => h k9) rfl ?_)))
    refine d_op (v := .bool true) rfl (d_br true rfl (fun _ => ?_) (fun h => by cases h))
    refine d_refold 323 48 (v := WS z12) rfl rfl rfl rfl rfl rfl (d_op (ev_new (l := z12) (m := z12) z12_lt z12_lt rfl rfl) (f_no (fun h => h rfl) rfl ?_))
    exact d_br false rfl (fun h => by cases h) (fun _ => d_call hv (fun _ => rfl) (d_ret rfl))
  | true =>
    rw [if_pos rfl] at k8
    refine d_call k8 (fun h => by cases h) (d_op (v := w6 J) (ev_ext rfl (fun h => by cases h)) (d_op (ev_ext rfl (fun _ => rfl)) (d_expl (N := 48) (i := 321) rfl rfl rfl rfl ?_)))
    refine d_refold 106 48 (v := w6 X) rfl rfl rfl rfl rfl rfl (d_op ev_ne6z (d_op ev_bbne (f_no (fun h => h k9) rfl ?_)))
    refine d_op (v := .bool false) rfl (d_br false rfl (fun h => by cases h) (fun _ => ?_))
    refine d_br true rfl (fun _ => ?_) (fun h => by cases h)
    refine d_op (v := RT) rfl (d_refold 323 48 (v := w6 J) rfl rfl rfl rfl rfl rfl (d_refold 106 48 (v := w6 X) rfl rfl rfl rfl rfl rfl (d_call (k10 rfl) (fun h => by cases h) (d_call h1 (fun h => by cases h) ?_))))
    exact d_op ev_ne6 (f_no (fun h => h rfl) rfl (d_call hv (fun _ => rfl) (d_ret rfl)))
end Go.SE
