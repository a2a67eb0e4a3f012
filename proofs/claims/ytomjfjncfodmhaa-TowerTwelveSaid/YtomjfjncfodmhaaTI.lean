/- Nothing of the statement is proved here: this text lays generic laws: TI; no conditions. -/
import Derived.Test.YtomjfjncfodmhaaTH
set_option linter.all false
set_option autoImplicit false
set_option maxRecDepth 20000
set_option maxHeartbeats 8000000
set_option exponentiation.threshold 500
namespace Go.SE
open Go
variable {P : Program} {R : AEnd → Prop}
def l3 (t : Tri) : List Nat := [t.d0.re.val, t.d0.im.val, t.d1.re.val, t.d1.im.val, t.d2.re.val, t.d2.im.val]
def w3 (t : Tri) : AV := WS (l3 t)
theorem t2w {f : FuncId} {s : Cx pBase → Cx pBase → Cx pBase} (h : T2C P f s) (a b : Cx pBase) : Ct P f [TT, w2 a, w2 b] (fun e => e = .ret (w2 (s a b))) := by
  have := h a.re.val a.im.val b.re.val b.im.val (zval_lt _) (zval_lt _) (zval_lt _) (zval_lt _)
  rwa [c2_val, c2_val] at this
theorem t1w {f : FuncId} {s : Cx pBase → Cx pBase} (h : T1C P f s) (a : Cx pBase) : Ct P f [TT, w2 a] (fun e => e = .ret (w2 (s a))) := by
  have := h a.re.val a.im.val (zval_lt _) (zval_lt _)
  rwa [c2_val] at this
section
variable {a b : Tri}
def t_cross12 (tmul tadd : FuncId) : T :=
 .node (.op (.rld true 1) [.v 0]) <|
 .node (.op (.rld true 1) [.v 0]) <|
 .node (.op (.ridx 3 8) [.v 1, .c (.int .i64 1)]) <|
 .node (.op (.rld true 8) [.v 5]) <|
 .node (.op (.ridx 3 8) [.v 2, .c (.int .i64 2)]) <|
 .node (.op (.rld true 8) [.v 7]) <|
 .node (.call tmul [.v 4, .v 6, .v 8] false) <|
 .node (.op (.rld true 1) [.v 0]) <|
 .node (.op (.ridx 3 8) [.v 1, .c (.int .i64 2)]) <|
 .node (.op (.rld true 8) [.v 11]) <|
 .node (.op (.ridx 3 8) [.v 2, .c (.int .i64 1)]) <|
 .node (.op (.rld true 8) [.v 13]) <|
 .node (.call tmul [.v 10, .v 12, .v 14] false) <|
 .node (.call tadd [.v 3, .v 9, .v 15] false) <|
 .node (.op (.cell 8 0) [.v 16]) <|
 .node (.op (.cell 8 1) [.v 16]) <|
 .node (.op (.cell 8 2) [.v 16]) <|
 .node (.op (.cell 8 3) [.v 16]) <|
 .node (.op (.cell 8 4) [.v 16]) <|
 .node (.op (.cell 8 5) [.v 16]) <|
 .node (.op (.cell 8 6) [.v 16]) <|
 .node (.op (.cell 8 7) [.v 16]) <|
 .node (.op .mkagg [.v 17, .v 18, .v 19, .v 20, .v 21, .v 22, .v 23, .v 24]) <|
 .ret (.v 25)
def t_cross01 (tmul tadd : FuncId) : T :=
 .node (.op (.rld true 1) [.v 0]) <|
 .node (.op (.rld true 1) [.v 0]) <|
 .node (.op (.ridx 3 8) [.v 1, .c (.int .i64 0)]) <|
 .node (.op (.rld true 8) [.v 5]) <|
 .node (.op (.ridx 3 8) [.v 2, .c (.int .i64 1)]) <|
 .node (.op (.rld true 8) [.v 7]) <|
 .node (.call tmul [.v 4, .v 6, .v 8] false) <|
 .node (.op (.rld true 1) [.v 0]) <|
 .node (.op (.ridx 3 8) [.v 1, .c (.int .i64 1)]) <|
 .node (.op (.rld true 8) [.v 11]) <|
 .node (.op (.ridx 3 8) [.v 2, .c (.int .i64 0)]) <|
 .node (.op (.rld true 8) [.v 13]) <|
 .node (.call tmul [.v 10, .v 12, .v 14] false) <|
 .node (.call tadd [.v 3, .v 9, .v 15] false) <|
 .node (.op (.cell 8 0) [.v 16]) <|
 .node (.op (.cell 8 1) [.v 16]) <|
 .node (.op (.cell 8 2) [.v 16]) <|
 .node (.op (.cell 8 3) [.v 16]) <|
 .node (.op (.cell 8 4) [.v 16]) <|
 .node (.op (.cell 8 5) [.v 16]) <|
 .node (.op (.cell 8 6) [.v 16]) <|
 .node (.op (.cell 8 7) [.v 16]) <|
 .node (.op .mkagg [.v 17, .v 18, .v 19, .v 20, .v 21, .v 22, .v 23, .v 24]) <|
 .ret (.v 25)
def t_cross02 (tmul tadd : FuncId) : T :=
 .node (.op (.rld true 1) [.v 0]) <|
 .node (.op (.rld true 1) [.v 0]) <|
 .node (.op (.ridx 3 8) [.v 1, .c (.int .i64 0)]) <|
 .node (.op (.rld true 8) [.v 5]) <|
 .node (.op (.ridx 3 8) [.v 2, .c (.int .i64 2)]) <|
 .node (.op (.rld true 8) [.v 7]) <|
 .node (.call tmul [.v 4, .v 6, .v 8] false) <|
 .node (.op (.rld true 1) [.v 0]) <|
 .node (.op (.ridx 3 8) [.v 1, .c (.int .i64 2)]) <|
 .node (.op (.rld true 8) [.v 11]) <|
 .node (.op (.ridx 3 8) [.v 2, .c (.int .i64 0)]) <|
 .node (.op (.rld true 8) [.v 13]) <|
 .node (.call tmul [.v 10, .v 12, .v 14] false) <|
 .node (.call tadd [.v 3, .v 9, .v 15] false) <|
 .node (.op (.cell 8 0) [.v 16]) <|
 .node (.op (.cell 8 1) [.v 16]) <|
 .node (.op (.cell 8 2) [.v 16]) <|
 .node (.op (.cell 8 3) [.v 16]) <|
 .node (.op (.cell 8 4) [.v 16]) <|
 .node (.op (.cell 8 5) [.v 16]) <|
 .node (.op (.cell 8 6) [.v 16]) <|
 .node (.op (.cell 8 7) [.v 16]) <|
 .node (.op .mkagg [.v 17, .v 18, .v 19, .v 20, .v 21, .v 22, .v 23, .v 24]) <|
 .ret (.v 25)
theorem cross12_den {tmul tadd : FuncId} (hm : T2C P tmul (· * ·)) (ha : T2C P tadd (· + ·)) : D P (fun e => e = .ret (w2 (a.d1 * b.d2 + a.d2 * b.d1))) [] 3 [.rp (LC (l3 b)), .rp (LC (l3 a)), .rp [fBase]] (t_cross12 tmul tadd) := by
  have x : Ct P tmul [TT, w2 a.d1, w2 b.d2] (fun e => e = .ret (w2 (a.d1 * b.d2))) := t2w hm _ _
  have y : Ct P tmul [TT, w2 a.d2, w2 b.d1] (fun e => e = .ret (w2 (a.d2 * b.d1))) := t2w hm _ _
  have c : Ct P tadd [TT, w2 (a.d1 * b.d2), w2 (a.d2 * b.d1)] (fun e => e = .ret (w2 (a.d1 * b.d2 + a.d2 * b.d1))) := t2w ha _ _
  refine d_op (v := TT) rfl (d_op (v := TT) rfl (d_op (v := .rp ((LC (l3 a)).drop 8)) rfl (d_op (v := w2 a.d1) rfl (d_op (v := .rp ((LC (l3 b)).drop 16)) rfl (d_op (v := w2 b.d2) rfl (d_call x (fun h => by cases h) ?_))))))
  refine d_op (v := TT) rfl (d_op (v := .rp ((LC (l3 a)).drop 16)) rfl (d_op (v := w2 a.d2) rfl (d_op (v := .rp ((LC (l3 b)).drop 8)) rfl (d_op (v := w2 b.d1) rfl (d_call y (fun h => by cases h) (d_call c (fun h => by cases h) (d_expl (N := 8) (i := 16) rfl rfl rfl rfl ?_)))))))
  exact d_op (v := w2 (a.d1 * b.d2 + a.d2 * b.d1)) rfl (d_ret rfl)
theorem cross01_den {tmul tadd : FuncId} (hm : T2C P tmul (· * ·)) (ha : T2C P tadd (· + ·)) : D P (fun e => e = .ret (w2 (a.d0 * b.d1 + a.d1 * b.d0))) [] 3 [.rp (LC (l3 b)), .rp (LC (l3 a)), .rp [fBase]] (t_cross01 tmul tadd) := by
  have x : Ct P tmul [TT, w2 a.d0, w2 b.d1] (fun e => e = .ret (w2 (a.d0 * b.d1))) := t2w hm _ _
  have y : Ct P tmul [TT, w2 a.d1, w2 b.d0] (fun e => e = .ret (w2 (a.d1 * b.d0))) := t2w hm _ _
  have c : Ct P tadd [TT, w2 (a.d0 * b.d1), w2 (a.d1 * b.d0)] (fun e => e = .ret (w2 (a.d0 * b.d1 + a.d1 * b.d0))) := t2w ha _ _
  refine d_op (v := TT) rfl (d_op (v := TT) rfl (d_op (v := .rp ((LC (l3 a)).drop 0)) rfl (d_op (v := w2 a.d0) rfl (d_op (v := .rp ((LC (l3 b)).drop 8)) rfl (d_op (v := w2 b.d1) rfl (d_call x (fun h => by cases h) ?_))))))
  refine d_op (v := TT) rfl (d_op (v := .rp ((LC (l3 a)).drop 8)) rfl (d_op (v := w2 a.d1) rfl (d_op (v := .rp ((LC (l3 b)).drop 0)) rfl (d_op (v := w2 b.d0) rfl (d_call y (fun h => by cases h) (d_call c (fun h => by cases h) (d_expl (N := 8) (i := 16) rfl rfl rfl rfl ?_)))))))
  exact d_op (v := w2 (a.d0 * b.d1 + a.d1 * b.d0)) rfl (d_ret rfl)
theorem cross02_den {tmul tadd : FuncId} (hm : T2C P tmul (· * ·)) (ha : T2C P tadd (· + ·)) : D P (fun e => e = .ret (w2 (a.d0 * b.d2 + a.d2 * b.d0))) [] 3 [.rp (LC (l3 b)), .rp (LC (l3 a)), .rp [fBase]] (t_cross02 tmul tadd) := by
  have x : Ct P tmul [TT, w2 a.d0, w2 b.d2] (fun e => e = .ret (w2 (a.d0 * b.d2))) := t2w hm _ _
  have y : Ct P tmul [TT, w2 a.d2, w2 b.d0] (fun e => e = .ret (w2 (a.d2 * b.d0))) := t2w hm _ _
  have c : Ct P tadd [TT, w2 (a.d0 * b.d2), w2 (a.d2 * b.d0)] (fun e => e = .ret (w2 (a.d0 * b.d2 + a.d2 * b.d0))) := t2w ha _ _
  refine d_op (v := TT) rfl (d_op (v := TT) rfl (d_op (v := .rp ((LC (l3 a)).drop 0)) rfl (d_op (v := w2 a.d0) rfl (d_op (v := .rp ((LC (l3 b)).drop 16)) rfl (d_op (v := w2 b.d2) rfl (d_call x (fun h => by cases h) ?_))))))
  refine d_op (v := TT) rfl (d_op (v := .rp ((LC (l3 a)).drop 16)) rfl (d_op (v := w2 a.d2) rfl (d_op (v := .rp ((LC (l3 b)).drop 0)) rfl (d_op (v := w2 b.d0) rfl (d_call y (fun h => by cases h) (d_call c (fun h => by cases h) (d_expl (N := 8) (i := 16) rfl rfl rfl rfl ?_)))))))
  exact d_op (v := w2 (a.d0 * b.d2 + a.d2 * b.d0)) rfl (d_ret rfl)
structure CrossC (P : Program) (f : FuncId) : Prop where
  h12 : ∀ a b : Tri, Ct P f [.int .i64 1, .int .i64 2, .rp [fBase], .rp (LC (l3 a)), .rp (LC (l3 b))] (fun e => e = .ret (w2 (a.d1 * b.d2 + a.d2 * b.d1)))
  h01 : ∀ a b : Tri, Ct P f [.int .i64 0, .int .i64 1, .rp [fBase], .rp (LC (l3 a)), .rp (LC (l3 b))] (fun e => e = .ret (w2 (a.d0 * b.d1 + a.d1 * b.d0)))
  h02 : ∀ a b : Tri, Ct P f [.int .i64 0, .int .i64 2, .rp [fBase], .rp (LC (l3 a)), .rp (LC (l3 b))] (fun e => e = .ret (w2 (a.d0 * b.d2 + a.d2 * b.d0)))
def M6C (P : Program) (f : FuncId) : Prop := ∀ a b : Tri, Ct P f [TT, w3 a, w3 b] (fun e => e = .ret (w3 (Tri.mul a b)))
def t_mul6 (tmul cross tup tadd : FuncId) : T :=
 .node (.op (.cell 1 0) [.v 0]) <|
 .node (.op (.cell 24 0) [.v 1]) <|
 .node (.op (.cell 24 1) [.v 1]) <|
 .node (.op (.cell 24 2) [.v 1]) <|
 .node (.op (.cell 24 3) [.v 1]) <|
 .node (.op (.cell 24 4) [.v 1]) <|
 .node (.op (.cell 24 5) [.v 1]) <|
 .node (.op (.cell 24 6) [.v 1]) <|
 .node (.op (.cell 24 7) [.v 1]) <|
 .node (.op (.cell 24 8) [.v 1]) <|
 .node (.op (.cell 24 9) [.v 1]) <|
 .node (.op (.cell 24 10) [.v 1]) <|
 .node (.op (.cell 24 11) [.v 1]) <|
 .node (.op (.cell 24 12) [.v 1]) <|
 .node (.op (.cell 24 13) [.v 1]) <|
 .node (.op (.cell 24 14) [.v 1]) <|
 .node (.op (.cell 24 15) [.v 1]) <|
 .node (.op (.cell 24 16) [.v 1]) <|
 .node (.op (.cell 24 17) [.v 1]) <|
 .node (.op (.cell 24 18) [.v 1]) <|
 .node (.op (.cell 24 19) [.v 1]) <|
 .node (.op (.cell 24 20) [.v 1]) <|
 .node (.op (.cell 24 21) [.v 1]) <|
 .node (.op (.cell 24 22) [.v 1]) <|
 .node (.op (.cell 24 23) [.v 1]) <|
 .node (.op (.cell 24 0) [.v 2]) <|
 .node (.op (.cell 24 1) [.v 2]) <|
 .node (.op (.cell 24 2) [.v 2]) <|
 .node (.op (.cell 24 3) [.v 2]) <|
 .node (.op (.cell 24 4) [.v 2]) <|
 .node (.op (.cell 24 5) [.v 2]) <|
 .node (.op (.cell 24 6) [.v 2]) <|
 .node (.op (.cell 24 7) [.v 2]) <|
 .node (.op (.cell 24 8) [.v 2]) <|
 .node (.op (.cell 24 9) [.v 2]) <|
 .node (.op (.cell 24 10) [.v 2]) <|
 .node (.op (.cell 24 11) [.v 2]) <|
 .node (.op (.cell 24 12) [.v 2]) <|
 .node (.op (.cell 24 13) [.v 2]) <|
 .node (.op (.cell 24 14) [.v 2]) <|
 .node (.op (.cell 24 15) [.v 2]) <|
 .node (.op (.cell 24 16) [.v 2]) <|
 .node (.op (.cell 24 17) [.v 2]) <|
 .node (.op (.cell 24 18) [.v 2]) <|
 .node (.op (.cell 24 19) [.v 2]) <|
 .node (.op (.cell 24 20) [.v 2]) <|
 .node (.op (.cell 24 21) [.v 2]) <|
 .node (.op (.cell 24 22) [.v 2]) <|
 .node (.op (.cell 24 23) [.v 2]) <|
 .node (.op .mkagg [.v 3]) <|
 .node (.op .mkagg [.v 4, .v 5, .v 6, .v 7, .v 8, .v 9, .v 10, .v 11]) <|
 .node (.op .mkagg [.v 28, .v 29, .v 30, .v 31, .v 32, .v 33, .v 34, .v 35]) <|
 .node (.call tmul [.v 52, .v 53, .v 54] false) <|
 .node (.op .mkagg [.v 3]) <|
 .node (.op .mkagg [.v 12, .v 13, .v 14, .v 15, .v 16, .v 17, .v 18, .v 19]) <|
 .node (.op .mkagg [.v 36, .v 37, .v 38, .v 39, .v 40, .v 41, .v 42, .v 43]) <|
 .node (.call tmul [.v 56, .v 57, .v 58] false) <|
 .node (.op .mkagg [.v 3]) <|
 .node (.op .mkagg [.v 20, .v 21, .v 22, .v 23, .v 24, .v 25, .v 26, .v 27]) <|
 .node (.op .mkagg [.v 44, .v 45, .v 46, .v 47, .v 48, .v 49, .v 50, .v 51]) <|
 .node (.call tmul [.v 60, .v 61, .v 62] false) <|
 .node (.op (.cell 8 0) [.v 55]) <|
 .node (.op (.cell 8 1) [.v 55]) <|
 .node (.op (.cell 8 2) [.v 55]) <|
 .node (.op (.cell 8 3) [.v 55]) <|
 .node (.op (.cell 8 4) [.v 55]) <|
 .node (.op (.cell 8 5) [.v 55]) <|
 .node (.op (.cell 8 6) [.v 55]) <|
 .node (.op (.cell 8 7) [.v 55]) <|
 .node (.op (.cell 8 0) [.v 59]) <|
 .node (.op (.cell 8 1) [.v 59]) <|
 .node (.op (.cell 8 2) [.v 59]) <|
 .node (.op (.cell 8 3) [.v 59]) <|
 .node (.op (.cell 8 4) [.v 59]) <|
 .node (.op (.cell 8 5) [.v 59]) <|
 .node (.op (.cell 8 6) [.v 59]) <|
 .node (.op (.cell 8 7) [.v 59]) <|
 .node (.op (.cell 8 0) [.v 63]) <|
 .node (.op (.cell 8 1) [.v 63]) <|
 .node (.op (.cell 8 2) [.v 63]) <|
 .node (.op (.cell 8 3) [.v 63]) <|
 .node (.op (.cell 8 4) [.v 63]) <|
 .node (.op (.cell 8 5) [.v 63]) <|
 .node (.op (.cell 8 6) [.v 63]) <|
 .node (.op (.cell 8 7) [.v 63]) <|
 .node (.op .mklst [.v 3]) <|
 .node (.op .mkrp [.v 88, .c (.int .i64 0)]) <|
 .node (.op .mklst [.v 4, .v 5, .v 6, .v 7, .v 8, .v 9, .v 10, .v 11, .v 12, .v 13, .v 14, .v 15, .v 16, .v 17, .v 18, .v 19, .v 20, .v 21, .v 22, .v 23, .v 24, .v 25, .v 26, .v 27]) <|
 .node (.op .mkrp [.v 90, .c (.int .i64 0)]) <|
 .node (.op .mklst [.v 28, .v 29, .v 30, .v 31, .v 32, .v 33, .v 34, .v 35, .v 36, .v 37, .v 38, .v 39, .v 40, .v 41, .v 42, .v 43, .v 44, .v 45, .v 46, .v 47, .v 48, .v 49, .v 50, .v 51]) <|
 .node (.op .mkrp [.v 92, .c (.int .i64 0)]) <|
 .node (.op (.rld true 1) [.v 89]) <|
 .node (.op (.rld true 1) [.v 89]) <|
 .node (.op .mklst [.v 3]) <|
 .node (.op .mkrp [.v 96, .c (.int .i64 0)]) <|
 .node (.op .mklst [.v 4, .v 5, .v 6, .v 7, .v 8, .v 9, .v 10, .v 11, .v 12, .v 13, .v 14, .v 15, .v 16, .v 17, .v 18, .v 19, .v 20, .v 21, .v 22, .v 23, .v 24, .v 25, .v 26, .v 27]) <|
 .node (.op .mkrp [.v 98, .c (.int .i64 0)]) <|
 .node (.op .mklst [.v 28, .v 29, .v 30, .v 31, .v 32, .v 33, .v 34, .v 35, .v 36, .v 37, .v 38, .v 39, .v 40, .v 41, .v 42, .v 43, .v 44, .v 45, .v 46, .v 47, .v 48, .v 49, .v 50, .v 51]) <|
 .node (.op .mkrp [.v 100, .c (.int .i64 0)]) <|
 .node (.call cross [.c (.int .i64 1), .c (.int .i64 2), .v 97, .v 99, .v 101] false) <|
 .node (.call tup [.v 95, .v 102] false) <|
 .node (.op .mkagg [.v 64, .v 65, .v 66, .v 67, .v 68, .v 69, .v 70, .v 71]) <|
 .node (.call tadd [.v 94, .v 104, .v 103] false) <|
 .node (.op (.rld true 1) [.v 89]) <|
 .node (.op .mklst [.v 3]) <|
 .node (.op .mkrp [.v 107, .c (.int .i64 0)]) <|
 .node (.op .mklst [.v 4, .v 5, .v 6, .v 7, .v 8, .v 9, .v 10, .v 11, .v 12, .v 13, .v 14, .v 15, .v 16, .v 17, .v 18, .v 19, .v 20, .v 21, .v 22, .v 23, .v 24, .v 25, .v 26, .v 27]) <|
 .node (.op .mkrp [.v 109, .c (.int .i64 0)]) <|
 .node (.op .mklst [.v 28, .v 29, .v 30, .v 31, .v 32, .v 33, .v 34, .v 35, .v 36, .v 37, .v 38, .v 39, .v 40, .v 41, .v 42, .v 43, .v 44, .v 45, .v 46, .v 47, .v 48, .v 49, .v 50, .v 51]) <|
 .node (.op .mkrp [.v 111, .c (.int .i64 0)]) <|
 .node (.call cross [.c (.int .i64 0), .c (.int .i64 1), .v 108, .v 110, .v 112] false) <|
 .node (.op (.rld true 1) [.v 89]) <|
 .node (.op .mkagg [.v 80, .v 81, .v 82, .v 83, .v 84, .v 85, .v 86, .v 87]) <|
 .node (.call tup [.v 114, .v 115] false) <|
 .node (.call tadd [.v 106, .v 113, .v 116] false) <|
 .node (.op (.rld true 1) [.v 89]) <|
 .node (.op .mklst [.v 3]) <|
 .node (.op .mkrp [.v 119, .c (.int .i64 0)]) <|
 .node (.op .mklst [.v 4, .v 5, .v 6, .v 7, .v 8, .v 9, .v 10, .v 11, .v 12, .v 13, .v 14, .v 15, .v 16, .v 17, .v 18, .v 19, .v 20, .v 21, .v 22, .v 23, .v 24, .v 25, .v 26, .v 27]) <|
 .node (.op .mkrp [.v 121, .c (.int .i64 0)]) <|
 .node (.op .mklst [.v 28, .v 29, .v 30, .v 31, .v 32, .v 33, .v 34, .v 35, .v 36, .v 37, .v 38, .v 39, .v 40, .v 41, .v 42, .v 43, .v 44, .v 45, .v 46, .v 47, .v 48, .v 49, .v 50, .v 51]) <|
 .node (.op .mkrp [.v 123, .c (.int .i64 0)]) <|
 .node (.call cross [.c (.int .i64 0), .c (.int .i64 2), .v 120, .v 122, .v 124] false) <|
 .node (.op .mkagg [.v 72, .v 73, .v 74, .v 75, .v 76, .v 77, .v 78, .v 79]) <|
 .node (.call tadd [.v 118, .v 125, .v 126] false) <|
 .node (.op (.build [.int .u64 0, .int .u64 0, .int .u64 0, .int .u64 0, .int .u64 0, .int .u64 0, .int .u64 0, .int .u64 0, .int .u64 0, .int .u64 0, .int .u64 0, .int .u64 0, .int .u64 0, .int .u64 0, .int .u64 0, .int .u64 0, .int .u64 0, .int .u64 0, .int .u64 0, .int .u64 0, .int .u64 0, .int .u64 0, .int .u64 0, .int .u64 0] [(0, 8), (8, 8), (16, 8)]) [.v 105, .v 117, .v 127]) <|
 .node (.op (.cell 24 0) [.v 128]) <|
 .node (.op (.cell 24 1) [.v 128]) <|
 .node (.op (.cell 24 2) [.v 128]) <|
 .node (.op (.cell 24 3) [.v 128]) <|
 .node (.op (.cell 24 4) [.v 128]) <|
 .node (.op (.cell 24 5) [.v 128]) <|
 .node (.op (.cell 24 6) [.v 128]) <|
 .node (.op (.cell 24 7) [.v 128]) <|
 .node (.op (.cell 24 8) [.v 128]) <|
 .node (.op (.cell 24 9) [.v 128]) <|
 .node (.op (.cell 24 10) [.v 128]) <|
 .node (.op (.cell 24 11) [.v 128]) <|
 .node (.op (.cell 24 12) [.v 128]) <|
 .node (.op (.cell 24 13) [.v 128]) <|
 .node (.op (.cell 24 14) [.v 128]) <|
 .node (.op (.cell 24 15) [.v 128]) <|
 .node (.op (.cell 24 16) [.v 128]) <|
 .node (.op (.cell 24 17) [.v 128]) <|
 .node (.op (.cell 24 18) [.v 128]) <|
 .node (.op (.cell 24 19) [.v 128]) <|
 .node (.op (.cell 24 20) [.v 128]) <|
 .node (.op (.cell 24 21) [.v 128]) <|
 .node (.op (.cell 24 22) [.v 128]) <|
 .node (.op (.cell 24 23) [.v 128]) <|
 .node (.op .mkagg [.v 129, .v 130, .v 131, .v 132, .v 133, .v 134, .v 135, .v 136, .v 137, .v 138, .v 139, .v 140, .v 141, .v 142, .v 143, .v 144, .v 145, .v 146, .v 147, .v 148, .v 149, .v 150, .v 151, .v 152]) <|
 .ret (.v 153)
theorem mul6_den {tmul cross tup tadd : FuncId} (hm : T2C P tmul (· * ·)) (hc : CrossC P cross) (hu : T1C P tup (· * xi)) (ha : T2C P tadd (· + ·)) : D P (fun e => e = .ret (w3 (Tri.mul a b))) [] 3 [w3 b, w3 a, TT] (t_mul6 tmul cross tup tadd) := by
  have x := t2w hm a.d0 b.d0
  have y := t2w hm a.d1 b.d1
  have z := t2w hm a.d2 b.d2
  have u1 := t1w hu (a.d1 * b.d2 + a.d2 * b.d1)
  have u2 := t1w hu (a.d2 * b.d2)
  have s0 := t2w ha (a.d0 * b.d0) ((a.d1 * b.d2 + a.d2 * b.d1) * xi)
  have s1 := t2w ha (a.d0 * b.d1 + a.d1 * b.d0) (a.d2 * b.d2 * xi)
  have s2 := t2w ha (a.d0 * b.d2 + a.d2 * b.d0) (a.d1 * b.d1)
  have h12 := hc.h12 a b
  have h01 := hc.h01 a b
  have h02 := hc.h02 a b
  try dsimp only at x y z u1 u2 s0 s1 s2
  refine d_op (v := fBase) rfl (d_expl (N := 24) (i := 1) rfl rfl rfl rfl (d_expl (N := 24) (i := 2) rfl rfl rfl rfl ?_))
  refine d_op (v := TT) rfl (d_op (v := w2 a.d0) rfl (d_op (v := w2 b.d0) rfl (d_call x (fun h => by cases h) ?_)))
  refine d_op (v := TT) rfl (d_op (v := w2 a.d1) rfl (d_op (v := w2 b.d1) rfl (d_call y (fun h => by cases h) ?_)))
  refine d_op (v := TT) rfl (d_op (v := w2 a.d2) rfl (d_op (v := w2 b.d2) rfl (d_call z (fun h => by cases h) ?_)))
  refine d_expl (N := 8) (i := 55) rfl rfl rfl rfl (d_expl (N := 8) (i := 59) rfl rfl rfl rfl (d_expl (N := 8) (i := 63) rfl rfl rfl rfl ?_))
  refine d_op (v := .lst [fBase]) rfl (d_op (v := .rp [fBase]) rfl ?_)
  refine d_relist 4 24 (v := .lst (LC (l3 a))) rfl rfl rfl rfl rfl rfl (d_op (v := .rp (LC (l3 a))) rfl (d_relist 28 24 (v := .lst (LC (l3 b))) rfl rfl rfl rfl rfl rfl (d_op (v := .rp (LC (l3 b))) rfl ?_)))
  refine d_op (v := TT) rfl (d_op (v := TT) rfl ?_)
  refine d_op (v := .lst [fBase]) rfl (d_op (v := .rp [fBase]) rfl ?_)
  refine d_relist 4 24 (v := .lst (LC (l3 a))) rfl rfl rfl rfl rfl rfl (d_op (v := .rp (LC (l3 a))) rfl (d_relist 28 24 (v := .lst (LC (l3 b))) rfl rfl rfl rfl rfl rfl (d_op (v := .rp (LC (l3 b))) rfl ?_)))
  refine d_call h12 (fun h => by cases h) (d_call u1 (fun h => by cases h) (d_op (v := w2 (a.d0 * b.d0)) rfl (d_call s0 (fun h => by cases h) (d_op (v := TT) rfl ?_))))
  refine d_op (v := .lst [fBase]) rfl (d_op (v := .rp [fBase]) rfl ?_)
  refine d_relist 4 24 (v := .lst (LC (l3 a))) rfl rfl rfl rfl rfl rfl (d_op (v := .rp (LC (l3 a))) rfl (d_relist 28 24 (v := .lst (LC (l3 b))) rfl rfl rfl rfl rfl rfl (d_op (v := .rp (LC (l3 b))) rfl ?_)))
  refine d_call h01 (fun h => by cases h) (d_op (v := TT) rfl (d_op (v := w2 (a.d2 * b.d2)) rfl (d_call u2 (fun h => by cases h) (d_call s1 (fun h => by cases h) (d_op (v := TT) rfl ?_)))))
  refine d_op (v := .lst [fBase]) rfl (d_op (v := .rp [fBase]) rfl ?_)
  refine d_relist 4 24 (v := .lst (LC (l3 a))) rfl rfl rfl rfl rfl rfl (d_op (v := .rp (LC (l3 a))) rfl (d_relist 28 24 (v := .lst (LC (l3 b))) rfl rfl rfl rfl rfl rfl (d_op (v := .rp (LC (l3 b))) rfl ?_)))
  refine d_call h02 (fun h => by cases h) (d_op (v := w2 (a.d1 * b.d1)) rfl (d_call s2 (fun h => by cases h) ?_))
  refine d_op (v := w3 (Tri.mul a b)) rfl (d_expl (N := 24) (i := 128) rfl rfl rfl rfl ?_)
  exact d_refold 129 24 (v := w3 (Tri.mul a b)) rfl rfl rfl rfl rfl rfl (d_ret rfl)
end
end Go.SE
