/- Nothing of the statement is proved here: this text lays generic laws: TJ; no conditions. -/
import Derived.Test.YtomjfjncfodmhaaTI
set_option linter.all false
set_option autoImplicit false
set_option maxRecDepth 20000
set_option maxHeartbeats 8000000
set_option exponentiation.threshold 500
namespace Go.SE
open Go
variable {P : Program} {R : AEnd → Prop}
def ci (n : Cx pBase) : Cx pBase := if norm n = 0 then .zero else cinv n
def cb (n : Cx pBase) : Bool := decide (norm n ≠ 0)
theorem cinvR_ci (n : Cx pBase) : cinvR n = .tup [w2 (ci n), .bool (cb n)] := by
  unfold cinvR ci cb
  by_cases h : norm n = 0
  · rw [if_pos h, if_pos h, decide_eq_false (by simpa using h)]; rfl
  · rw [if_neg h, if_neg h, decide_eq_true h]
section
variable {a b : Tri}
def I6C (P : Program) (f : FuncId) : Prop := ∀ a : Tri, Ct P f [TT, w3 a] (fun e => e = .ret (.tup [w3 (Tri.scale (Tri.adj a) (ci (Tri.nrm a))), .bool (cb (Tri.nrm a))]))
def t_inv6 (tmul tup tsub tadd tinv : FuncId) : T :=
 .node (.op (.cell 1 0) [.v 0]) <|
 .node (.op (.cell 24 0) [.v 1]) <|
 .node (.op (.cell 24 1) [.v 1]) <|
 .node (.op (.cell 24 2) [.v 1]) <|
 .node (.op (.cell 24 3) [.v 1]) <|
 .node (.op (.cell 24 4) [.v 1]) <|
 .node (.op (.cell 24 5) [.v 1]) <|
 .node (.op (.cell 24 6) [.v 1]) <|
 .node (.op (.cell 24 7) [.v 1]) <|
 .node (.op (.cell 24 8) [.v 1]) <|
 .node (.op (.cell 24 9) [.v 1]) <|
 .node (.op (.cell 24 10) [.v 1]) <|
 .node (.op (.cell 24 11) [.v 1]) <|
 .node (.op (.cell 24 12) [.v 1]) <|
 .node (.op (.cell 24 13) [.v 1]) <|
 .node (.op (.cell 24 14) [.v 1]) <|
 .node (.op (.cell 24 15) [.v 1]) <|
 .node (.op (.cell 24 16) [.v 1]) <|
 .node (.op (.cell 24 17) [.v 1]) <|
 .node (.op (.cell 24 18) [.v 1]) <|
 .node (.op (.cell 24 19) [.v 1]) <|
 .node (.op (.cell 24 20) [.v 1]) <|
 .node (.op (.cell 24 21) [.v 1]) <|
 .node (.op (.cell 24 22) [.v 1]) <|
 .node (.op (.cell 24 23) [.v 1]) <|
 .node (.op .mkagg [.v 2]) <|
 .node (.op .mkagg [.v 3, .v 4, .v 5, .v 6, .v 7, .v 8, .v 9, .v 10]) <|
 .node (.op .mkagg [.v 3, .v 4, .v 5, .v 6, .v 7, .v 8, .v 9, .v 10]) <|
 .node (.call tmul [.v 27, .v 28, .v 29] false) <|
 .node (.op .mkagg [.v 2]) <|
 .node (.op .mkagg [.v 11, .v 12, .v 13, .v 14, .v 15, .v 16, .v 17, .v 18]) <|
 .node (.op .mkagg [.v 19, .v 20, .v 21, .v 22, .v 23, .v 24, .v 25, .v 26]) <|
 .node (.call tmul [.v 31, .v 32, .v 33] false) <|
 .node (.op .mkagg [.v 2]) <|
 .node (.call tup [.v 35, .v 34] false) <|
 .node (.op .mkagg [.v 2]) <|
 .node (.call tsub [.v 37, .v 30, .v 36] false) <|
 .node (.op (.cell 8 0) [.v 38]) <|
 .node (.op (.cell 8 1) [.v 38]) <|
 .node (.op (.cell 8 2) [.v 38]) <|
 .node (.op (.cell 8 3) [.v 38]) <|
 .node (.op (.cell 8 4) [.v 38]) <|
 .node (.op (.cell 8 5) [.v 38]) <|
 .node (.op (.cell 8 6) [.v 38]) <|
 .node (.op (.cell 8 7) [.v 38]) <|
 .node (.op .mkagg [.v 2]) <|
 .node (.op .mkagg [.v 19, .v 20, .v 21, .v 22, .v 23, .v 24, .v 25, .v 26]) <|
 .node (.op .mkagg [.v 19, .v 20, .v 21, .v 22, .v 23, .v 24, .v 25, .v 26]) <|
 .node (.call tmul [.v 47, .v 48, .v 49] false) <|
 .node (.op .mkagg [.v 2]) <|
 .node (.call tup [.v 51, .v 50] false) <|
 .node (.op .mkagg [.v 2]) <|
 .node (.op .mkagg [.v 3, .v 4, .v 5, .v 6, .v 7, .v 8, .v 9, .v 10]) <|
 .node (.op .mkagg [.v 11, .v 12, .v 13, .v 14, .v 15, .v 16, .v 17, .v 18]) <|
 .node (.call tmul [.v 53, .v 54, .v 55] false) <|
 .node (.op .mkagg [.v 2]) <|
 .node (.call tsub [.v 57, .v 52, .v 56] false) <|
 .node (.op (.cell 8 0) [.v 58]) <|
 .node (.op (.cell 8 1) [.v 58]) <|
 .node (.op (.cell 8 2) [.v 58]) <|
 .node (.op (.cell 8 3) [.v 58]) <|
 .node (.op (.cell 8 4) [.v 58]) <|
 .node (.op (.cell 8 5) [.v 58]) <|
 .node (.op (.cell 8 6) [.v 58]) <|
 .node (.op (.cell 8 7) [.v 58]) <|
 .node (.op .mkagg [.v 2]) <|
 .node (.op .mkagg [.v 11, .v 12, .v 13, .v 14, .v 15, .v 16, .v 17, .v 18]) <|
 .node (.op .mkagg [.v 11, .v 12, .v 13, .v 14, .v 15, .v 16, .v 17, .v 18]) <|
 .node (.call tmul [.v 67, .v 68, .v 69] false) <|
 .node (.op .mkagg [.v 2]) <|
 .node (.op .mkagg [.v 3, .v 4, .v 5, .v 6, .v 7, .v 8, .v 9, .v 10]) <|
 .node (.op .mkagg [.v 19, .v 20, .v 21, .v 22, .v 23, .v 24, .v 25, .v 26]) <|
 .node (.call tmul [.v 71, .v 72, .v 73] false) <|
 .node (.op .mkagg [.v 2]) <|
 .node (.call tsub [.v 75, .v 70, .v 74] false) <|
 .node (.op (.cell 8 0) [.v 76]) <|
 .node (.op (.cell 8 1) [.v 76]) <|
 .node (.op (.cell 8 2) [.v 76]) <|
 .node (.op (.cell 8 3) [.v 76]) <|
 .node (.op (.cell 8 4) [.v 76]) <|
 .node (.op (.cell 8 5) [.v 76]) <|
 .node (.op (.cell 8 6) [.v 76]) <|
 .node (.op (.cell 8 7) [.v 76]) <|
 .node (.op .mkagg [.v 2]) <|
 .node (.op .mkagg [.v 3, .v 4, .v 5, .v 6, .v 7, .v 8, .v 9, .v 10]) <|
 .node (.op .mkagg [.v 39, .v 40, .v 41, .v 42, .v 43, .v 44, .v 45, .v 46]) <|
 .node (.call tmul [.v 85, .v 86, .v 87] false) <|
 .node (.op .mkagg [.v 2]) <|
 .node (.op .mkagg [.v 19, .v 20, .v 21, .v 22, .v 23, .v 24, .v 25, .v 26]) <|
 .node (.op .mkagg [.v 59, .v 60, .v 61, .v 62, .v 63, .v 64, .v 65, .v 66]) <|
 .node (.call tmul [.v 89, .v 90, .v 91] false) <|
 .node (.op .mkagg [.v 2]) <|
 .node (.op .mkagg [.v 11, .v 12, .v 13, .v 14, .v 15, .v 16, .v 17, .v 18]) <|
 .node (.op .mkagg [.v 77, .v 78, .v 79, .v 80, .v 81, .v 82, .v 83, .v 84]) <|
 .node (.call tmul [.v 93, .v 94, .v 95] false) <|
 .node (.op .mkagg [.v 2]) <|
 .node (.call tadd [.v 97, .v 92, .v 96] false) <|
 .node (.op .mkagg [.v 2]) <|
 .node (.call tup [.v 99, .v 98] false) <|
 .node (.op .mkagg [.v 2]) <|
 .node (.call tadd [.v 101, .v 88, .v 100] false) <|
 .node (.op (.cell 8 0) [.v 102]) <|
 .node (.op (.cell 8 1) [.v 102]) <|
 .node (.op (.cell 8 2) [.v 102]) <|
 .node (.op (.cell 8 3) [.v 102]) <|
 .node (.op (.cell 8 4) [.v 102]) <|
 .node (.op (.cell 8 5) [.v 102]) <|
 .node (.op (.cell 8 6) [.v 102]) <|
 .node (.op (.cell 8 7) [.v 102]) <|
 .node (.op .mkagg [.v 2]) <|
 .node (.op .mkagg [.v 103, .v 104, .v 105, .v 106, .v 107, .v 108, .v 109, .v 110]) <|
 .node (.call tinv [.v 111, .v 112] false) <|
 .node (.op (.ext 0 false) [.v 113]) <|
 .node (.op (.ext 1 true) [.v 113]) <|
 .node (.op (.cell 8 0) [.v 114]) <|
 .node (.op (.cell 8 1) [.v 114]) <|
 .node (.op (.cell 8 2) [.v 114]) <|
 .node (.op (.cell 8 3) [.v 114]) <|
 .node (.op (.cell 8 4) [.v 114]) <|
 .node (.op (.cell 8 5) [.v 114]) <|
 .node (.op (.cell 8 6) [.v 114]) <|
 .node (.op (.cell 8 7) [.v 114]) <|
 .node (.op .mkagg [.v 2]) <|
 .node (.op .mkagg [.v 39, .v 40, .v 41, .v 42, .v 43, .v 44, .v 45, .v 46]) <|
 .node (.op .mkagg [.v 116, .v 117, .v 118, .v 119, .v 120, .v 121, .v 122, .v 123]) <|
 .node (.call tmul [.v 124, .v 125, .v 126] false) <|
 .node (.op .mkagg [.v 2]) <|
 .node (.op .mkagg [.v 59, .v 60, .v 61, .v 62, .v 63, .v 64, .v 65, .v 66]) <|
 .node (.op .mkagg [.v 116, .v 117, .v 118, .v 119, .v 120, .v 121, .v 122, .v 123]) <|
 .node (.call tmul [.v 128, .v 129, .v 130] false) <|
 .node (.op .mkagg [.v 2]) <|
 .node (.op .mkagg [.v 77, .v 78, .v 79, .v 80, .v 81, .v 82, .v 83, .v 84]) <|
 .node (.op .mkagg [.v 116, .v 117, .v 118, .v 119, .v 120, .v 121, .v 122, .v 123]) <|
 .node (.call tmul [.v 132, .v 133, .v 134] false) <|
 .node (.op (.build [.int .u64 0, .int .u64 0, .int .u64 0, .int .u64 0, .int .u64 0, .int .u64 0, .int .u64 0, .int .u64 0, .int .u64 0, .int .u64 0, .int .u64 0, .int .u64 0, .int .u64 0, .int .u64 0, .int .u64 0, .int .u64 0, .int .u64 0, .int .u64 0, .int .u64 0, .int .u64 0, .int .u64 0, .int .u64 0, .int .u64 0, .int .u64 0] [(0, 8), (8, 8), (16, 8)]) [.v 127, .v 131, .v 135]) <|
 .node (.op (.cell 24 0) [.v 136]) <|
 .node (.op (.cell 24 1) [.v 136]) <|
 .node (.op (.cell 24 2) [.v 136]) <|
 .node (.op (.cell 24 3) [.v 136]) <|
 .node (.op (.cell 24 4) [.v 136]) <|
 .node (.op (.cell 24 5) [.v 136]) <|
 .node (.op (.cell 24 6) [.v 136]) <|
 .node (.op (.cell 24 7) [.v 136]) <|
 .node (.op (.cell 24 8) [.v 136]) <|
 .node (.op (.cell 24 9) [.v 136]) <|
 .node (.op (.cell 24 10) [.v 136]) <|
 .node (.op (.cell 24 11) [.v 136]) <|
 .node (.op (.cell 24 12) [.v 136]) <|
 .node (.op (.cell 24 13) [.v 136]) <|
 .node (.op (.cell 24 14) [.v 136]) <|
 .node (.op (.cell 24 15) [.v 136]) <|
 .node (.op (.cell 24 16) [.v 136]) <|
 .node (.op (.cell 24 17) [.v 136]) <|
 .node (.op (.cell 24 18) [.v 136]) <|
 .node (.op (.cell 24 19) [.v 136]) <|
 .node (.op (.cell 24 20) [.v 136]) <|
 .node (.op (.cell 24 21) [.v 136]) <|
 .node (.op (.cell 24 22) [.v 136]) <|
 .node (.op (.cell 24 23) [.v 136]) <|
 .node (.op .mkagg [.v 137, .v 138, .v 139, .v 140, .v 141, .v 142, .v 143, .v 144, .v 145, .v 146, .v 147, .v 148, .v 149, .v 150, .v 151, .v 152, .v 153, .v 154, .v 155, .v 156, .v 157, .v 158, .v 159, .v 160]) <|
 .node (.op .mktup [.v 161, .v 115]) <|
 .ret (.v 162)
theorem inv6_den {tmul tup tsub tadd tinv : FuncId} (hm : T2C P tmul (· * ·)) (hu : T1C P tup (· * xi)) (hs : T2C P tsub (· - ·)) (ha : T2C P tadd (· + ·))
    (hi : ∀ x y, x < W256 → y < W256 → Ct P tinv [TT, WW x y] (fun e => e = .ret (cinvR (c2 x y)))) :
    D P (fun e => e = .ret (.tup [w3 (Tri.scale (Tri.adj a) (ci (Tri.nrm a))), .bool (cb (Tri.nrm a))])) [] 2 [w3 a, TT] (t_inv6 tmul tup tsub tadd tinv) := by
  have m : ∀ p q : Cx pBase, Ct P tmul [TT, w2 p, w2 q] (fun e => e = .ret (w2 (p * q))) := fun p q => t2w hm p q
  have u : ∀ p : Cx pBase, Ct P tup [TT, w2 p] (fun e => e = .ret (w2 (p * xi))) := fun p => t1w hu p
  have s : ∀ p q : Cx pBase, Ct P tsub [TT, w2 p, w2 q] (fun e => e = .ret (w2 (p - q))) := fun p q => t2w hs p q
  have d : ∀ p q : Cx pBase, Ct P tadd [TT, w2 p, w2 q] (fun e => e = .ret (w2 (p + q))) := fun p q => t2w ha p q
  have iv : ∀ p : Cx pBase, Ct P tinv [TT, w2 p] (fun e => e = .ret (.tup [w2 (ci p), .bool (cb p)])) := fun p => by
    have := hi p.re.val p.im.val (zval_lt _) (zval_lt _)
    rw [c2_val, cinvR_ci] at this
    exact this
  obtain ⟨X, eX⟩ : ∃ X, X = a.d0 * a.d0 - a.d1 * a.d2 * xi := ⟨_, rfl⟩
  obtain ⟨Y, eY⟩ : ∃ Y, Y = a.d2 * a.d2 * xi - a.d0 * a.d1 := ⟨_, rfl⟩
  obtain ⟨Z, eZ⟩ : ∃ Z, Z = a.d1 * a.d1 - a.d0 * a.d2 := ⟨_, rfl⟩
  obtain ⟨n, en⟩ : ∃ n, n = a.d0 * X + (a.d2 * Y + a.d1 * Z) * xi := ⟨_, rfl⟩
  have k1 : Ct P tsub [TT, w2 (a.d0 * a.d0), w2 (a.d1 * a.d2 * xi)] (fun e => e = .ret (w2 X)) := by rw [eX]; exact s _ _
  have k2 : Ct P tsub [TT, w2 (a.d2 * a.d2 * xi), w2 (a.d0 * a.d1)] (fun e => e = .ret (w2 Y)) := by rw [eY]; exact s _ _
  have k3 : Ct P tsub [TT, w2 (a.d1 * a.d1), w2 (a.d0 * a.d2)] (fun e => e = .ret (w2 Z)) := by rw [eZ]; exact s _ _
  have k4 : Ct P tadd [TT, w2 (a.d0 * X), w2 ((a.d2 * Y + a.d1 * Z) * xi)] (fun e => e = .ret (w2 n)) := by rw [en]; exact d _ _
  have eAdj : Tri.scale (Tri.adj a) (ci (Tri.nrm a)) = ⟨X * ci n, Y * ci n, Z * ci n⟩ := by rw [en, eX, eY, eZ]; rfl
  have eN : Tri.nrm a = n := by rw [en, eX, eY, eZ]; rfl
  rw [eAdj, eN]
  clear eAdj eN en eX eY eZ
  refine d_op (v := fBase) rfl (d_expl (N := 24) (i := 1) rfl rfl rfl rfl ?_)
  refine d_op (v := TT) rfl (d_op (v := w2 a.d0) rfl (d_op (v := w2 a.d0) rfl (d_call (m a.d0 a.d0) (fun h => by cases h) ?_)))
  refine d_op (v := TT) rfl (d_op (v := w2 a.d1) rfl (d_op (v := w2 a.d2) rfl (d_call (m a.d1 a.d2) (fun h => by cases h) ?_)))
  refine d_op (v := TT) rfl (d_call (u (a.d1 * a.d2)) (fun h => by cases h) (d_op (v := TT) rfl (d_call k1 (fun h => by cases h) (d_expl (N := 8) (i := 38) rfl rfl rfl rfl ?_))))
  refine d_op (v := TT) rfl (d_op (v := w2 a.d2) rfl (d_op (v := w2 a.d2) rfl (d_call (m a.d2 a.d2) (fun h => by cases h) ?_)))
  refine d_op (v := TT) rfl (d_call (u (a.d2 * a.d2)) (fun h => by cases h) ?_)
  refine d_op (v := TT) rfl (d_op (v := w2 a.d0) rfl (d_op (v := w2 a.d1) rfl (d_call (m a.d0 a.d1) (fun h => by cases h) ?_)))
  refine d_op (v := TT) rfl (d_call k2 (fun h => by cases h) (d_expl (N := 8) (i := 58) rfl rfl rfl rfl ?_))
  refine d_op (v := TT) rfl (d_op (v := w2 a.d1) rfl (d_op (v := w2 a.d1) rfl (d_call (m a.d1 a.d1) (fun h => by cases h) ?_)))
  refine d_op (v := TT) rfl (d_op (v := w2 a.d0) rfl (d_op (v := w2 a.d2) rfl (d_call (m a.d0 a.d2) (fun h => by cases h) ?_)))
  refine d_op (v := TT) rfl (d_call k3 (fun h => by cases h) (d_expl (N := 8) (i := 76) rfl rfl rfl rfl ?_))
  refine d_op (v := TT) rfl (d_op (v := w2 a.d0) rfl (d_op (v := w2 X) rfl (d_call (m a.d0 X) (fun h => by cases h) ?_)))
  refine d_op (v := TT) rfl (d_op (v := w2 a.d2) rfl (d_op (v := w2 Y) rfl (d_call (m a.d2 Y) (fun h => by cases h) ?_)))
  refine d_op (v := TT) rfl (d_op (v := w2 a.d1) rfl (d_op (v := w2 Z) rfl (d_call (m a.d1 Z) (fun h => by cases h) ?_)))
  refine d_op (v := TT) rfl (d_call (d (a.d2 * Y) (a.d1 * Z)) (fun h => by cases h) (d_op (v := TT) rfl (d_call (u (a.d2 * Y + a.d1 * Z)) (fun h => by cases h) ?_)))
  refine d_op (v := TT) rfl (d_call k4 (fun h => by cases h) (d_expl (N := 8) (i := 102) rfl rfl rfl rfl ?_))
  refine d_op (v := TT) rfl (d_op (v := w2 n) rfl (d_call (iv n) (fun h => by cases h) (d_op (ev_ext rfl (fun h => by cases h)) (d_op (ev_ext rfl (fun _ => rfl)) (d_expl (N := 8) (i := 114) rfl rfl rfl rfl ?_)))))
  refine d_op (v := TT) rfl (d_op (v := w2 X) rfl (d_op (v := w2 (ci n)) rfl (d_call (m X (ci n)) (fun h => by cases h) ?_)))
  refine d_op (v := TT) rfl (d_op (v := w2 Y) rfl (d_op (v := w2 (ci n)) rfl (d_call (m Y (ci n)) (fun h => by cases h) ?_)))
  refine d_op (v := TT) rfl (d_op (v := w2 Z) rfl (d_op (v := w2 (ci n)) rfl (d_call (m Z (ci n)) (fun h => by cases h) ?_)))
  refine d_op (v := w3 ⟨X * ci n, Y * ci n, Z * ci n⟩) rfl (d_expl (N := 24) (i := 136) rfl rfl rfl rfl ?_)
  exact d_refold 137 24 (v := w3 ⟨X * ci n, Y * ci n, Z * ci n⟩) rfl rfl rfl rfl rfl rfl (d_op ev_mktup (d_ret rfl))
def N6C (P : Program) (f : FuncId) : Prop := ∀ a : Tri, Ct P f [TT, w3 a] (fun e => e = .ret (w3 (Tri.neg a)))
def t_neg6 (tsub : FuncId) : T :=
 .node (.op (.cell 1 0) [.v 0]) <|
 .node (.op (.cell 24 0) [.v 1]) <|
 .node (.op (.cell 24 1) [.v 1]) <|
 .node (.op (.cell 24 2) [.v 1]) <|
 .node (.op (.cell 24 3) [.v 1]) <|
 .node (.op (.cell 24 4) [.v 1]) <|
 .node (.op (.cell 24 5) [.v 1]) <|
 .node (.op (.cell 24 6) [.v 1]) <|
 .node (.op (.cell 24 7) [.v 1]) <|
 .node (.op (.cell 24 8) [.v 1]) <|
 .node (.op (.cell 24 9) [.v 1]) <|
 .node (.op (.cell 24 10) [.v 1]) <|
 .node (.op (.cell 24 11) [.v 1]) <|
 .node (.op (.cell 24 12) [.v 1]) <|
 .node (.op (.cell 24 13) [.v 1]) <|
 .node (.op (.cell 24 14) [.v 1]) <|
 .node (.op (.cell 24 15) [.v 1]) <|
 .node (.op (.cell 24 16) [.v 1]) <|
 .node (.op (.cell 24 17) [.v 1]) <|
 .node (.op (.cell 24 18) [.v 1]) <|
 .node (.op (.cell 24 19) [.v 1]) <|
 .node (.op (.cell 24 20) [.v 1]) <|
 .node (.op (.cell 24 21) [.v 1]) <|
 .node (.op (.cell 24 22) [.v 1]) <|
 .node (.op (.cell 24 23) [.v 1]) <|
 .node (.op .mkagg [.v 2]) <|
 .node (.op .mkagg [.v 3, .v 4, .v 5, .v 6, .v 7, .v 8, .v 9, .v 10]) <|
 .node (.call tsub [.v 27, .c (.agg [.int .u64 0, .int .u64 0, .int .u64 0, .int .u64 0, .int .u64 0, .int .u64 0, .int .u64 0, .int .u64 0]), .v 28] false) <|
 .node (.op (.cell 8 0) [.v 29]) <|
 .node (.op (.cell 8 1) [.v 29]) <|
 .node (.op (.cell 8 2) [.v 29]) <|
 .node (.op (.cell 8 3) [.v 29]) <|
 .node (.op (.cell 8 4) [.v 29]) <|
 .node (.op (.cell 8 5) [.v 29]) <|
 .node (.op (.cell 8 6) [.v 29]) <|
 .node (.op (.cell 8 7) [.v 29]) <|
 .node (.op .mkagg [.v 2]) <|
 .node (.op .mkagg [.v 11, .v 12, .v 13, .v 14, .v 15, .v 16, .v 17, .v 18]) <|
 .node (.call tsub [.v 38, .c (.agg [.int .u64 0, .int .u64 0, .int .u64 0, .int .u64 0, .int .u64 0, .int .u64 0, .int .u64 0, .int .u64 0]), .v 39] false) <|
 .node (.op (.cell 8 0) [.v 40]) <|
 .node (.op (.cell 8 1) [.v 40]) <|
 .node (.op (.cell 8 2) [.v 40]) <|
 .node (.op (.cell 8 3) [.v 40]) <|
 .node (.op (.cell 8 4) [.v 40]) <|
 .node (.op (.cell 8 5) [.v 40]) <|
 .node (.op (.cell 8 6) [.v 40]) <|
 .node (.op (.cell 8 7) [.v 40]) <|
 .node (.op .mkagg [.v 2]) <|
 .node (.op .mkagg [.v 19, .v 20, .v 21, .v 22, .v 23, .v 24, .v 25, .v 26]) <|
 .node (.call tsub [.v 49, .c (.agg [.int .u64 0, .int .u64 0, .int .u64 0, .int .u64 0, .int .u64 0, .int .u64 0, .int .u64 0, .int .u64 0]), .v 50] false) <|
 .node (.op (.cell 8 0) [.v 51]) <|
 .node (.op (.cell 8 1) [.v 51]) <|
 .node (.op (.cell 8 2) [.v 51]) <|
 .node (.op (.cell 8 3) [.v 51]) <|
 .node (.op (.cell 8 4) [.v 51]) <|
 .node (.op (.cell 8 5) [.v 51]) <|
 .node (.op (.cell 8 6) [.v 51]) <|
 .node (.op (.cell 8 7) [.v 51]) <|
 .node (.op .mkagg [.v 30, .v 31, .v 32, .v 33, .v 34, .v 35, .v 36, .v 37, .v 41, .v 42, .v 43, .v 44, .v 45, .v 46, .v 47, .v 48, .v 52, .v 53, .v 54, .v 55, .v 56, .v 57, .v 58, .v 59]) <|
 .ret (.v 60)
theorem neg6_den {tsub : FuncId} (hs : T2C P tsub (· - ·)) : D P (fun e => e = .ret (w3 (Tri.neg a))) [] 2 [w3 a, TT] (t_neg6 tsub) := by
  have s : ∀ q : Cx pBase, Ct P tsub [TT, WW 0 0, w2 q] (fun e => e = .ret (w2 ((Cx.zero : Cx pBase) - q))) := fun q => t2w hs Cx.zero q
  refine d_op (v := fBase) rfl (d_expl (N := 24) (i := 1) rfl rfl rfl rfl ?_)
  refine d_op (v := TT) rfl (d_op (v := w2 a.d0) rfl (d_call (s a.d0) (fun h => by cases h) (d_expl (N := 8) (i := 29) rfl rfl rfl rfl ?_)))
  refine d_op (v := TT) rfl (d_op (v := w2 a.d1) rfl (d_call (s a.d1) (fun h => by cases h) (d_expl (N := 8) (i := 40) rfl rfl rfl rfl ?_)))
  refine d_op (v := TT) rfl (d_op (v := w2 a.d2) rfl (d_call (s a.d2) (fun h => by cases h) (d_expl (N := 8) (i := 51) rfl rfl rfl rfl ?_)))
  exact d_op (v := w3 (Tri.neg a)) rfl (d_ret rfl)
def evn (s : Six pBase) : Tri := ⟨s.c0, s.c2, s.c4⟩
def odd (s : Six pBase) : Tri := ⟨s.c1, s.c3, s.c5⟩
def wh (a b : Tri) : Six pBase := ⟨a.d0, b.d0, a.d1, b.d1, a.d2, b.d2⟩
def t_halves : T :=
 .node (.op (.cell 48 0) [.v 0]) <|
 .node (.op (.cell 48 1) [.v 0]) <|
 .node (.op (.cell 48 2) [.v 0]) <|
 .node (.op (.cell 48 3) [.v 0]) <|
 .node (.op (.cell 48 4) [.v 0]) <|
 .node (.op (.cell 48 5) [.v 0]) <|
 .node (.op (.cell 48 6) [.v 0]) <|
 .node (.op (.cell 48 7) [.v 0]) <|
 .node (.op (.cell 48 8) [.v 0]) <|
 .node (.op (.cell 48 9) [.v 0]) <|
 .node (.op (.cell 48 10) [.v 0]) <|
 .node (.op (.cell 48 11) [.v 0]) <|
 .node (.op (.cell 48 12) [.v 0]) <|
 .node (.op (.cell 48 13) [.v 0]) <|
 .node (.op (.cell 48 14) [.v 0]) <|
 .node (.op (.cell 48 15) [.v 0]) <|
 .node (.op (.cell 48 16) [.v 0]) <|
 .node (.op (.cell 48 17) [.v 0]) <|
 .node (.op (.cell 48 18) [.v 0]) <|
 .node (.op (.cell 48 19) [.v 0]) <|
 .node (.op (.cell 48 20) [.v 0]) <|
 .node (.op (.cell 48 21) [.v 0]) <|
 .node (.op (.cell 48 22) [.v 0]) <|
 .node (.op (.cell 48 23) [.v 0]) <|
 .node (.op (.cell 48 24) [.v 0]) <|
 .node (.op (.cell 48 25) [.v 0]) <|
 .node (.op (.cell 48 26) [.v 0]) <|
 .node (.op (.cell 48 27) [.v 0]) <|
 .node (.op (.cell 48 28) [.v 0]) <|
 .node (.op (.cell 48 29) [.v 0]) <|
 .node (.op (.cell 48 30) [.v 0]) <|
 .node (.op (.cell 48 31) [.v 0]) <|
 .node (.op (.cell 48 32) [.v 0]) <|
 .node (.op (.cell 48 33) [.v 0]) <|
 .node (.op (.cell 48 34) [.v 0]) <|
 .node (.op (.cell 48 35) [.v 0]) <|
 .node (.op (.cell 48 36) [.v 0]) <|
 .node (.op (.cell 48 37) [.v 0]) <|
 .node (.op (.cell 48 38) [.v 0]) <|
 .node (.op (.cell 48 39) [.v 0]) <|
 .node (.op (.cell 48 40) [.v 0]) <|
 .node (.op (.cell 48 41) [.v 0]) <|
 .node (.op (.cell 48 42) [.v 0]) <|
 .node (.op (.cell 48 43) [.v 0]) <|
 .node (.op (.cell 48 44) [.v 0]) <|
 .node (.op (.cell 48 45) [.v 0]) <|
 .node (.op (.cell 48 46) [.v 0]) <|
 .node (.op (.cell 48 47) [.v 0]) <|
 .node (.op .mkagg [.v 1, .v 2, .v 3, .v 4, .v 5, .v 6, .v 7, .v 8, .v 17, .v 18, .v 19, .v 20, .v 21, .v 22, .v 23, .v 24, .v 33, .v 34, .v 35, .v 36, .v 37, .v 38, .v 39, .v 40]) <|
 .node (.op .mkagg [.v 9, .v 10, .v 11, .v 12, .v 13, .v 14, .v 15, .v 16, .v 25, .v 26, .v 27, .v 28, .v 29, .v 30, .v 31, .v 32, .v 41, .v 42, .v 43, .v 44, .v 45, .v 46, .v 47, .v 48]) <|
 .node (.op .mktup [.v 49, .v 50]) <|
 .ret (.v 51)
theorem halves_den {s : Six pBase} : D P (fun e => e = .ret (.tup [w3 (evn s), w3 (odd s)])) [] 1 [w6 s] t_halves := by
  refine d_expl (N := 48) (i := 0) rfl rfl rfl rfl (d_op (v := w3 (evn s)) rfl (d_op (v := w3 (odd s)) rfl (d_op ev_mktup (d_ret rfl))))
def t_whole6 : T :=
 .node (.op (.cell 24 0) [.v 0]) <|
 .node (.op (.cell 24 1) [.v 0]) <|
 .node (.op (.cell 24 2) [.v 0]) <|
 .node (.op (.cell 24 3) [.v 0]) <|
 .node (.op (.cell 24 4) [.v 0]) <|
 .node (.op (.cell 24 5) [.v 0]) <|
 .node (.op (.cell 24 6) [.v 0]) <|
 .node (.op (.cell 24 7) [.v 0]) <|
 .node (.op (.cell 24 8) [.v 0]) <|
 .node (.op (.cell 24 9) [.v 0]) <|
 .node (.op (.cell 24 10) [.v 0]) <|
 .node (.op (.cell 24 11) [.v 0]) <|
 .node (.op (.cell 24 12) [.v 0]) <|
 .node (.op (.cell 24 13) [.v 0]) <|
 .node (.op (.cell 24 14) [.v 0]) <|
 .node (.op (.cell 24 15) [.v 0]) <|
 .node (.op (.cell 24 16) [.v 0]) <|
 .node (.op (.cell 24 17) [.v 0]) <|
 .node (.op (.cell 24 18) [.v 0]) <|
 .node (.op (.cell 24 19) [.v 0]) <|
 .node (.op (.cell 24 20) [.v 0]) <|
 .node (.op (.cell 24 21) [.v 0]) <|
 .node (.op (.cell 24 22) [.v 0]) <|
 .node (.op (.cell 24 23) [.v 0]) <|
 .node (.op (.cell 24 0) [.v 1]) <|
 .node (.op (.cell 24 1) [.v 1]) <|
 .node (.op (.cell 24 2) [.v 1]) <|
 .node (.op (.cell 24 3) [.v 1]) <|
 .node (.op (.cell 24 4) [.v 1]) <|
 .node (.op (.cell 24 5) [.v 1]) <|
 .node (.op (.cell 24 6) [.v 1]) <|
 .node (.op (.cell 24 7) [.v 1]) <|
 .node (.op (.cell 24 8) [.v 1]) <|
 .node (.op (.cell 24 9) [.v 1]) <|
 .node (.op (.cell 24 10) [.v 1]) <|
 .node (.op (.cell 24 11) [.v 1]) <|
 .node (.op (.cell 24 12) [.v 1]) <|
 .node (.op (.cell 24 13) [.v 1]) <|
 .node (.op (.cell 24 14) [.v 1]) <|
 .node (.op (.cell 24 15) [.v 1]) <|
 .node (.op (.cell 24 16) [.v 1]) <|
 .node (.op (.cell 24 17) [.v 1]) <|
 .node (.op (.cell 24 18) [.v 1]) <|
 .node (.op (.cell 24 19) [.v 1]) <|
 .node (.op (.cell 24 20) [.v 1]) <|
 .node (.op (.cell 24 21) [.v 1]) <|
 .node (.op (.cell 24 22) [.v 1]) <|
 .node (.op (.cell 24 23) [.v 1]) <|
 .node (.op .mkagg [.v 2, .v 3, .v 4, .v 5, .v 6, .v 7, .v 8, .v 9, .v 26, .v 27, .v 28, .v 29, .v 30, .v 31, .v 32, .v 33, .v 10, .v 11, .v 12, .v 13, .v 14, .v 15, .v 16, .v 17, .v 34, .v 35, .v 36, .v 37, .v 38, .v 39, .v 40, .v 41, .v 18, .v 19, .v 20, .v 21, .v 22, .v 23, .v 24, .v 25, .v 42, .v 43, .v 44, .v 45, .v 46, .v 47, .v 48, .v 49]) <|
 .ret (.v 50)
theorem whole6_den : D P (fun e => e = .ret (w6 (wh a b))) [] 2 [w3 b, w3 a] t_whole6 := by
  refine d_expl (N := 24) (i := 0) rfl rfl rfl rfl (d_expl (N := 24) (i := 1) rfl rfl rfl rfl (d_op (v := w6 (wh a b)) rfl (d_ret rfl)))
def t_tof2 (fof : FuncId) : T :=
 .node (.op (.cell 1 0) [.v 0]) <|
 .node (.op (.cell 8 0) [.v 1]) <|
 .node (.op (.cell 8 1) [.v 1]) <|
 .node (.op (.cell 8 2) [.v 1]) <|
 .node (.op (.cell 8 3) [.v 1]) <|
 .node (.op (.cell 8 4) [.v 1]) <|
 .node (.op (.cell 8 5) [.v 1]) <|
 .node (.op (.cell 8 6) [.v 1]) <|
 .node (.op (.cell 8 7) [.v 1]) <|
 .node (.op .mkagg [.v 3, .v 4, .v 5, .v 6]) <|
 .node (.call fof [.v 2, .v 11] false) <|
 .node (.op .mkagg [.v 7, .v 8, .v 9, .v 10]) <|
 .node (.call fof [.v 2, .v 13] false) <|
 .node (.op (.build [.int .u64 0, .int .u64 0, .int .u64 0, .int .u64 0, .int .u64 0, .int .u64 0, .int .u64 0, .int .u64 0] [(0, 4), (4, 4)]) [.v 12, .v 14]) <|
 .node (.op (.cell 8 0) [.v 15]) <|
 .node (.op (.cell 8 1) [.v 15]) <|
 .node (.op (.cell 8 2) [.v 15]) <|
 .node (.op (.cell 8 3) [.v 15]) <|
 .node (.op (.cell 8 4) [.v 15]) <|
 .node (.op (.cell 8 5) [.v 15]) <|
 .node (.op (.cell 8 6) [.v 15]) <|
 .node (.op (.cell 8 7) [.v 15]) <|
 .node (.op .mkagg [.v 16, .v 17, .v 18, .v 19, .v 20, .v 21, .v 22, .v 23]) <|
 .ret (.v 24)
theorem tof2_den {fof : FuncId} (h : BF1 P fof id) {x y : Nat} (hx : x < W256) (hy : y < W256) : D P (fun e => e = .ret (w2 (c2 x y))) [] 2 [WW x y, TT] (t_tof2 fof) := by
  have k1 : Ct P fof [fBase, WV x] (fun e => e = .ret (WV (fv x).val)) := h x hx
  have k2 : Ct P fof [fBase, WV y] (fun e => e = .ret (WV (fv y).val)) := h y hy
  refine d_op (v := fBase) rfl (d_expl (N := 8) (i := 1) rfl rfl rfl rfl ?_)
  refine d_op (v := WV x) rfl (d_call k1 (fun h => by cases h) (d_op (v := WV y) rfl (d_call k2 (fun h => by cases h) ?_)))
  refine d_op (v := w2 (c2 x y)) rfl (d_expl (N := 8) (i := 15) rfl rfl rfl rfl ?_)
  exact d_op (v := w2 (c2 x y)) rfl (d_ret rfl)
def O12C (P : Program) (f : FuncId) (T : AV) : Prop := ∀ g, Wok g → Ct P f [T, W6 g] (fun e => e = .ret (w6 (r6 g)))
def t_tof12 (tof2 : FuncId) : T :=
 .node (.op (.cell 1 0) [.v 0]) <|
 .node (.op (.cell 48 0) [.v 1]) <|
 .node (.op (.cell 48 1) [.v 1]) <|
 .node (.op (.cell 48 2) [.v 1]) <|
 .node (.op (.cell 48 3) [.v 1]) <|
 .node (.op (.cell 48 4) [.v 1]) <|
 .node (.op (.cell 48 5) [.v 1]) <|
 .node (.op (.cell 48 6) [.v 1]) <|
 .node (.op (.cell 48 7) [.v 1]) <|
 .node (.op (.cell 48 8) [.v 1]) <|
 .node (.op (.cell 48 9) [.v 1]) <|
 .node (.op (.cell 48 10) [.v 1]) <|
 .node (.op (.cell 48 11) [.v 1]) <|
 .node (.op (.cell 48 12) [.v 1]) <|
 .node (.op (.cell 48 13) [.v 1]) <|
 .node (.op (.cell 48 14) [.v 1]) <|
 .node (.op (.cell 48 15) [.v 1]) <|
 .node (.op (.cell 48 16) [.v 1]) <|
 .node (.op (.cell 48 17) [.v 1]) <|
 .node (.op (.cell 48 18) [.v 1]) <|
 .node (.op (.cell 48 19) [.v 1]) <|
 .node (.op (.cell 48 20) [.v 1]) <|
 .node (.op (.cell 48 21) [.v 1]) <|
 .node (.op (.cell 48 22) [.v 1]) <|
 .node (.op (.cell 48 23) [.v 1]) <|
 .node (.op (.cell 48 24) [.v 1]) <|
 .node (.op (.cell 48 25) [.v 1]) <|
 .node (.op (.cell 48 26) [.v 1]) <|
 .node (.op (.cell 48 27) [.v 1]) <|
 .node (.op (.cell 48 28) [.v 1]) <|
 .node (.op (.cell 48 29) [.v 1]) <|
 .node (.op (.cell 48 30) [.v 1]) <|
 .node (.op (.cell 48 31) [.v 1]) <|
 .node (.op (.cell 48 32) [.v 1]) <|
 .node (.op (.cell 48 33) [.v 1]) <|
 .node (.op (.cell 48 34) [.v 1]) <|
 .node (.op (.cell 48 35) [.v 1]) <|
 .node (.op (.cell 48 36) [.v 1]) <|
 .node (.op (.cell 48 37) [.v 1]) <|
 .node (.op (.cell 48 38) [.v 1]) <|
 .node (.op (.cell 48 39) [.v 1]) <|
 .node (.op (.cell 48 40) [.v 1]) <|
 .node (.op (.cell 48 41) [.v 1]) <|
 .node (.op (.cell 48 42) [.v 1]) <|
 .node (.op (.cell 48 43) [.v 1]) <|
 .node (.op (.cell 48 44) [.v 1]) <|
 .node (.op (.cell 48 45) [.v 1]) <|
 .node (.op (.cell 48 46) [.v 1]) <|
 .node (.op (.cell 48 47) [.v 1]) <|
 .node (.op .mkagg [.v 2]) <|
 .node (.op .mkagg [.v 3, .v 4, .v 5, .v 6, .v 7, .v 8, .v 9, .v 10]) <|
 .node (.call tof2 [.v 51, .v 52] false) <|
 .node (.op (.cell 8 0) [.v 53]) <|
 .node (.op (.cell 8 1) [.v 53]) <|
 .node (.op (.cell 8 2) [.v 53]) <|
 .node (.op (.cell 8 3) [.v 53]) <|
 .node (.op (.cell 8 4) [.v 53]) <|
 .node (.op (.cell 8 5) [.v 53]) <|
 .node (.op (.cell 8 6) [.v 53]) <|
 .node (.op (.cell 8 7) [.v 53]) <|
 .node (.op .mkagg [.v 2]) <|
 .node (.op .mkagg [.v 11, .v 12, .v 13, .v 14, .v 15, .v 16, .v 17, .v 18]) <|
 .node (.call tof2 [.v 62, .v 63] false) <|
 .node (.op (.cell 8 0) [.v 64]) <|
 .node (.op (.cell 8 1) [.v 64]) <|
 .node (.op (.cell 8 2) [.v 64]) <|
 .node (.op (.cell 8 3) [.v 64]) <|
 .node (.op (.cell 8 4) [.v 64]) <|
 .node (.op (.cell 8 5) [.v 64]) <|
 .node (.op (.cell 8 6) [.v 64]) <|
 .node (.op (.cell 8 7) [.v 64]) <|
 .node (.op .mkagg [.v 2]) <|
 .node (.op .mkagg [.v 19, .v 20, .v 21, .v 22, .v 23, .v 24, .v 25, .v 26]) <|
 .node (.call tof2 [.v 73, .v 74] false) <|
 .node (.op (.cell 8 0) [.v 75]) <|
 .node (.op (.cell 8 1) [.v 75]) <|
 .node (.op (.cell 8 2) [.v 75]) <|
 .node (.op (.cell 8 3) [.v 75]) <|
 .node (.op (.cell 8 4) [.v 75]) <|
 .node (.op (.cell 8 5) [.v 75]) <|
 .node (.op (.cell 8 6) [.v 75]) <|
 .node (.op (.cell 8 7) [.v 75]) <|
 .node (.op .mkagg [.v 2]) <|
 .node (.op .mkagg [.v 27, .v 28, .v 29, .v 30, .v 31, .v 32, .v 33, .v 34]) <|
 .node (.call tof2 [.v 84, .v 85] false) <|
 .node (.op (.cell 8 0) [.v 86]) <|
 .node (.op (.cell 8 1) [.v 86]) <|
 .node (.op (.cell 8 2) [.v 86]) <|
 .node (.op (.cell 8 3) [.v 86]) <|
 .node (.op (.cell 8 4) [.v 86]) <|
 .node (.op (.cell 8 5) [.v 86]) <|
 .node (.op (.cell 8 6) [.v 86]) <|
 .node (.op (.cell 8 7) [.v 86]) <|
 .node (.op .mkagg [.v 2]) <|
 .node (.op .mkagg [.v 35, .v 36, .v 37, .v 38, .v 39, .v 40, .v 41, .v 42]) <|
 .node (.call tof2 [.v 95, .v 96] false) <|
 .node (.op (.cell 8 0) [.v 97]) <|
 .node (.op (.cell 8 1) [.v 97]) <|
 .node (.op (.cell 8 2) [.v 97]) <|
 .node (.op (.cell 8 3) [.v 97]) <|
 .node (.op (.cell 8 4) [.v 97]) <|
 .node (.op (.cell 8 5) [.v 97]) <|
 .node (.op (.cell 8 6) [.v 97]) <|
 .node (.op (.cell 8 7) [.v 97]) <|
 .node (.op .mkagg [.v 2]) <|
 .node (.op .mkagg [.v 43, .v 44, .v 45, .v 46, .v 47, .v 48, .v 49, .v 50]) <|
 .node (.call tof2 [.v 106, .v 107] false) <|
 .node (.op (.cell 8 0) [.v 108]) <|
 .node (.op (.cell 8 1) [.v 108]) <|
 .node (.op (.cell 8 2) [.v 108]) <|
 .node (.op (.cell 8 3) [.v 108]) <|
 .node (.op (.cell 8 4) [.v 108]) <|
 .node (.op (.cell 8 5) [.v 108]) <|
 .node (.op (.cell 8 6) [.v 108]) <|
 .node (.op (.cell 8 7) [.v 108]) <|
 .node (.op .mkagg [.v 54, .v 55, .v 56, .v 57, .v 58, .v 59, .v 60, .v 61, .v 65, .v 66, .v 67, .v 68, .v 69, .v 70, .v 71, .v 72, .v 76, .v 77, .v 78, .v 79, .v 80, .v 81, .v 82, .v 83, .v 87, .v 88, .v 89, .v 90, .v 91, .v 92, .v 93, .v 94, .v 98, .v 99, .v 100, .v 101, .v 102, .v 103, .v 104, .v 105, .v 109, .v 110, .v 111, .v 112, .v 113, .v 114, .v 115, .v 116]) <|
 .ret (.v 117)
theorem tof12_den {tof2 : FuncId} {cs : List AV} (h : ∀ x y, x < W256 → y < W256 → Ct P tof2 [.agg [.rp cs], WW x y] (fun e => e = .ret (w2 (c2 x y)))) {g : Nat → Nat × Nat} (hg : Wok g) : D P (fun e => e = .ret (w6 (r6 g))) [] 2 [W6 g, .agg [.rp cs]] (t_tof12 tof2) := by
  have c : ∀ j, Ct P tof2 [.agg [.rp cs], WW (g j).1 (g j).2] (fun e => e = .ret (w2 (cg g j))) := fun j => h _ _ (hg j).1 (hg j).2
  obtain ⟨G, eG⟩ : ∃ G, G = cg g := ⟨_, rfl⟩
  have e : r6 g = s6 G := by rw [eG]; rfl
  rw [← eG] at c
  rw [e]
  clear e eG
  refine d_op (v := .rp cs) rfl (d_expl (N := 48) (i := 1) rfl rfl rfl rfl ?_)
  refine d_op (v := .agg [.rp cs]) rfl (d_op (v := WW (g 0).1 (g 0).2) rfl (d_call (c 0) (fun h => by cases h) (d_expl (N := 8) (i := 53) rfl rfl rfl rfl ?_)))
  refine d_op (v := .agg [.rp cs]) rfl (d_op (v := WW (g 1).1 (g 1).2) rfl (d_call (c 1) (fun h => by cases h) (d_expl (N := 8) (i := 64) rfl rfl rfl rfl ?_)))
  refine d_op (v := .agg [.rp cs]) rfl (d_op (v := WW (g 2).1 (g 2).2) rfl (d_call (c 2) (fun h => by cases h) (d_expl (N := 8) (i := 75) rfl rfl rfl rfl ?_)))
  refine d_op (v := .agg [.rp cs]) rfl (d_op (v := WW (g 3).1 (g 3).2) rfl (d_call (c 3) (fun h => by cases h) (d_expl (N := 8) (i := 86) rfl rfl rfl rfl ?_)))
  refine d_op (v := .agg [.rp cs]) rfl (d_op (v := WW (g 4).1 (g 4).2) rfl (d_call (c 4) (fun h => by cases h) (d_expl (N := 8) (i := 97) rfl rfl rfl rfl ?_)))
  refine d_op (v := .agg [.rp cs]) rfl (d_op (v := WW (g 5).1 (g 5).2) rfl (d_call (c 5) (fun h => by cases h) (d_expl (N := 8) (i := 108) rfl rfl rfl rfl ?_)))
  exact d_op (v := w6 (s6 G)) rfl (d_ret rfl)
end
end Go.SE
