/- Nothing of the statement is proved here: this text lays generic laws: TD; no conditions. -/
import Derived.Test.YtomjfjncfodmhaaTA
set_option linter.all false
set_option autoImplicit false
set_option maxRecDepth 20000
set_option maxHeartbeats 8000000
set_option exponentiation.threshold 5000
namespace Go.SE
open Go
variable {P : Program} {R : AEnd → Prop}
def gv (G : Nat → Cx pBase) : Nat → Nat × Nat := fun j => ((G j).re.val, (G j).im.val)
def cg (g : Nat → Nat × Nat) : Nat → Cx pBase := fun j => c2 (g j).1 (g j).2
theorem gv_ok (G : Nat → Cx pBase) : Wok (gv G) := fun _ => ⟨zval_lt _, zval_lt _⟩
theorem gset_gv (G : Nat → Cx pBase) (j : Nat) (z : Cx pBase) : gset (gv G) j (z.re.val, z.im.val) = gv (fun k => if k = j then z else G k) := by
  funext k
  unfold gset gv
  dsimp only
  split <;> rfl
theorem row_succ (A B : Nat → Cx pBase) (k i : Nat) (g : Nat → Cx pBase) : (fun j => if j = (i + k) % 6 then row A B k i g ((i + k) % 6) + term A B i k else row A B k i g j) = row A B k (i + 1) g := by
  funext j
  show _ = if j = (i + k) % 6 then row A B k i g j + term A B i k else row A B k i g j
  split
  · rename_i h; rw [h]
  · rfl
theorem zeros48 : LC (gl (gv (fun _ => Cx.zero))) = List.replicate 48 (.int .u64 0) := by decide +kernel
def M12C (P : Program) (f : FuncId) : Prop := ∀ g h, Wok g → Wok h → Ct P f [TT, W6 g, W6 h] (fun e => e = .ret (W6 (gv (outs (cg g) (cg h) 6))))
def t_mul12 (tmul tup tadd : FuncId) : T :=
 .node (.op (.cell 1 0) [.v 0]) <|
 .node (.op (.cell 48 0) [.v 1]) <|
 .node (.op (.cell 48 1) [.v 1]) <|
 .node (.op (.cell 48 2) [.v 1]) <|
 .node (.op (.cell 48 3) [.v 1]) <|
 .node (.op (.cell 48 4) [.v 1]) <|
 .node (.op (.cell 48 5) [.v 1]) <|
 .node (.op (.cell 48 6) [.v 1]) <|
 .node (.op (.cell 48 7) [.v 1]) <|
 .node (.op (.cell 48 8) [.v 1]) <|
 .node (.op (.cell 48 9) [.v 1]) <|
 .node (.op (.cell 48 10) [.v 1]) <|
 .node (.op (.cell 48 11) [.v 1]) <|
 .node (.op (.cell 48 12) [.v 1]) <|
 .node (.op (.cell 48 13) [.v 1]) <|
 .node (.op (.cell 48 14) [.v 1]) <|
 .node (.op (.cell 48 15) [.v 1]) <|
 .node (.op (.cell 48 16) [.v 1]) <|
 .node (.op (.cell 48 17) [.v 1]) <|
 .node (.op (.cell 48 18) [.v 1]) <|
 .node (.op (.cell 48 19) [.v 1]) <|
 .node (.op (.cell 48 20) [.v 1]) <|
 .node (.op (.cell 48 21) [.v 1]) <|
 .node (.op (.cell 48 22) [.v 1]) <|
 .node (.op (.cell 48 23) [.v 1]) <|
 .node (.op (.cell 48 24) [.v 1]) <|
 .node (.op (.cell 48 25) [.v 1]) <|
 .node (.op (.cell 48 26) [.v 1]) <|
 .node (.op (.cell 48 27) [.v 1]) <|
 .node (.op (.cell 48 28) [.v 1]) <|
 .node (.op (.cell 48 29) [.v 1]) <|
 .node (.op (.cell 48 30) [.v 1]) <|
 .node (.op (.cell 48 31) [.v 1]) <|
 .node (.op (.cell 48 32) [.v 1]) <|
 .node (.op (.cell 48 33) [.v 1]) <|
 .node (.op (.cell 48 34) [.v 1]) <|
 .node (.op (.cell 48 35) [.v 1]) <|
 .node (.op (.cell 48 36) [.v 1]) <|
 .node (.op (.cell 48 37) [.v 1]) <|
 .node (.op (.cell 48 38) [.v 1]) <|
 .node (.op (.cell 48 39) [.v 1]) <|
 .node (.op (.cell 48 40) [.v 1]) <|
 .node (.op (.cell 48 41) [.v 1]) <|
 .node (.op (.cell 48 42) [.v 1]) <|
 .node (.op (.cell 48 43) [.v 1]) <|
 .node (.op (.cell 48 44) [.v 1]) <|
 .node (.op (.cell 48 45) [.v 1]) <|
 .node (.op (.cell 48 46) [.v 1]) <|
 .node (.op (.cell 48 47) [.v 1]) <|
 .node (.op (.cell 48 0) [.v 2]) <|
 .node (.op (.cell 48 1) [.v 2]) <|
 .node (.op (.cell 48 2) [.v 2]) <|
 .node (.op (.cell 48 3) [.v 2]) <|
 .node (.op (.cell 48 4) [.v 2]) <|
 .node (.op (.cell 48 5) [.v 2]) <|
 .node (.op (.cell 48 6) [.v 2]) <|
 .node (.op (.cell 48 7) [.v 2]) <|
 .node (.op (.cell 48 8) [.v 2]) <|
 .node (.op (.cell 48 9) [.v 2]) <|
 .node (.op (.cell 48 10) [.v 2]) <|
 .node (.op (.cell 48 11) [.v 2]) <|
 .node (.op (.cell 48 12) [.v 2]) <|
 .node (.op (.cell 48 13) [.v 2]) <|
 .node (.op (.cell 48 14) [.v 2]) <|
 .node (.op (.cell 48 15) [.v 2]) <|
 .node (.op (.cell 48 16) [.v 2]) <|
 .node (.op (.cell 48 17) [.v 2]) <|
 .node (.op (.cell 48 18) [.v 2]) <|
 .node (.op (.cell 48 19) [.v 2]) <|
 .node (.op (.cell 48 20) [.v 2]) <|
 .node (.op (.cell 48 21) [.v 2]) <|
 .node (.op (.cell 48 22) [.v 2]) <|
 .node (.op (.cell 48 23) [.v 2]) <|
 .node (.op (.cell 48 24) [.v 2]) <|
 .node (.op (.cell 48 25) [.v 2]) <|
 .node (.op (.cell 48 26) [.v 2]) <|
 .node (.op (.cell 48 27) [.v 2]) <|
 .node (.op (.cell 48 28) [.v 2]) <|
 .node (.op (.cell 48 29) [.v 2]) <|
 .node (.op (.cell 48 30) [.v 2]) <|
 .node (.op (.cell 48 31) [.v 2]) <|
 .node (.op (.cell 48 32) [.v 2]) <|
 .node (.op (.cell 48 33) [.v 2]) <|
 .node (.op (.cell 48 34) [.v 2]) <|
 .node (.op (.cell 48 35) [.v 2]) <|
 .node (.op (.cell 48 36) [.v 2]) <|
 .node (.op (.cell 48 37) [.v 2]) <|
 .node (.op (.cell 48 38) [.v 2]) <|
 .node (.op (.cell 48 39) [.v 2]) <|
 .node (.op (.cell 48 40) [.v 2]) <|
 .node (.op (.cell 48 41) [.v 2]) <|
 .node (.op (.cell 48 42) [.v 2]) <|
 .node (.op (.cell 48 43) [.v 2]) <|
 .node (.op (.cell 48 44) [.v 2]) <|
 .node (.op (.cell 48 45) [.v 2]) <|
 .node (.op (.cell 48 46) [.v 2]) <|
 .node (.op (.cell 48 47) [.v 2]) <|
 .node (.op .mklst [.v 4, .v 5, .v 6, .v 7, .v 8, .v 9, .v 10, .v 11, .v 12, .v 13, .v 14, .v 15, .v 16, .v 17, .v 18, .v 19, .v 20, .v 21, .v 22, .v 23, .v 24, .v 25, .v 26, .v 27, .v 28, .v 29, .v 30, .v 31, .v 32, .v 33, .v 34, .v 35, .v 36, .v 37, .v 38, .v 39, .v 40, .v 41, .v 42, .v 43, .v 44, .v 45, .v 46, .v 47, .v 48, .v 49, .v 50, .v 51]) <|
 .node (.op .mklst [.v 52, .v 53, .v 54, .v 55, .v 56, .v 57, .v 58, .v 59, .v 60, .v 61, .v 62, .v 63, .v 64, .v 65, .v 66, .v 67, .v 68, .v 69, .v 70, .v 71, .v 72, .v 73, .v 74, .v 75, .v 76, .v 77, .v 78, .v 79, .v 80, .v 81, .v 82, .v 83, .v 84, .v 85, .v 86, .v 87, .v 88, .v 89, .v 90, .v 91, .v 92, .v 93, .v 94, .v 95, .v 96, .v 97, .v 98, .v 99]) <|
 .loop [.c (.int .i64 0), .c (.lst [.int .u64 0, .int .u64 0, .int .u64 0, .int .u64 0, .int .u64 0, .int .u64 0, .int .u64 0, .int .u64 0, .int .u64 0, .int .u64 0, .int .u64 0, .int .u64 0, .int .u64 0, .int .u64 0, .int .u64 0, .int .u64 0, .int .u64 0, .int .u64 0, .int .u64 0, .int .u64 0, .int .u64 0, .int .u64 0, .int .u64 0, .int .u64 0, .int .u64 0, .int .u64 0, .int .u64 0, .int .u64 0, .int .u64 0, .int .u64 0, .int .u64 0, .int .u64 0, .int .u64 0, .int .u64 0, .int .u64 0, .int .u64 0, .int .u64 0, .int .u64 0, .int .u64 0, .int .u64 0, .int .u64 0, .int .u64 0, .int .u64 0, .int .u64 0, .int .u64 0, .int .u64 0, .int .u64 0, .int .u64 0])] [true, false] <|
 .node (.op (.bin .lss) [.v 102, .c (.int .i64 6)]) <|
 .br (.v 104) (
 .node (.op .chki [.v 102, .c (.int .i64 6)]) <|
 .node (.op (.ofs 8) [.c (.int .i64 0), .v 102]) <|
 .node (.op (.lget true 8) [.v 101, .v 106]) <|
 .node (.op (.eqv false [.int .u64, .int .u64, .int .u64, .int .u64, .int .u64, .int .u64, .int .u64, .int .u64]) [.v 107, .c (.agg [.int .u64 0, .int .u64 0, .int .u64 0, .int .u64 0, .int .u64 0, .int .u64 0, .int .u64 0, .int .u64 0])]) <|
 .br (.v 108) (
 .node (.op (.bin .add) [.v 102, .c (.int .i64 1)]) <|
 .back 0 [.v 109, .v 103]) (
 .loop [.c (.int .i64 0), .v 103] [true, false] <|
 .node (.op (.bin .lss) [.v 109, .c (.int .i64 6)]) <|
 .br (.v 111) (
 .node (.op .chki [.v 109, .c (.int .i64 6)]) <|
 .node (.op (.ofs 8) [.c (.int .i64 0), .v 109]) <|
 .node (.op (.lget true 8) [.v 100, .v 113]) <|
 .node (.op .chki [.v 102, .c (.int .i64 6)]) <|
 .node (.op (.ofs 8) [.c (.int .i64 0), .v 102]) <|
 .node (.op (.lget true 8) [.v 101, .v 116]) <|
 .node (.op .mkagg [.v 3]) <|
 .node (.call tmul [.v 118, .v 114, .v 117] false) <|
 .node (.op (.cell 8 0) [.v 119]) <|
 .node (.op (.cell 8 1) [.v 119]) <|
 .node (.op (.cell 8 2) [.v 119]) <|
 .node (.op (.cell 8 3) [.v 119]) <|
 .node (.op (.cell 8 4) [.v 119]) <|
 .node (.op (.cell 8 5) [.v 119]) <|
 .node (.op (.cell 8 6) [.v 119]) <|
 .node (.op (.cell 8 7) [.v 119]) <|
 .node (.op (.bin .add) [.v 109, .v 102]) <|
 .node (.op (.bin .geq) [.v 128, .c (.int .i64 6)]) <|
 .br (.v 129) (
 .node (.op .mkagg [.v 3]) <|
 .node (.op .mkagg [.v 120, .v 121, .v 122, .v 123, .v 124, .v 125, .v 126, .v 127]) <|
 .node (.call tup [.v 130, .v 131] false) <|
 .node (.op (.cell 8 0) [.v 132]) <|
 .node (.op (.cell 8 1) [.v 132]) <|
 .node (.op (.cell 8 2) [.v 132]) <|
 .node (.op (.cell 8 3) [.v 132]) <|
 .node (.op (.cell 8 4) [.v 132]) <|
 .node (.op (.cell 8 5) [.v 132]) <|
 .node (.op (.cell 8 6) [.v 132]) <|
 .node (.op (.cell 8 7) [.v 132]) <|
 .node (.op (.bin .add) [.v 109, .v 102]) <|
 .node (.op (.bin .rem) [.v 141, .c (.int .i64 6)]) <|
 .node (.op (.bin .add) [.v 109, .v 102]) <|
 .node (.op (.bin .rem) [.v 143, .c (.int .i64 6)]) <|
 .node (.op .chki [.v 144, .c (.int .i64 6)]) <|
 .node (.op (.ofs 8) [.c (.int .i64 0), .v 144]) <|
 .node (.op (.lget true 8) [.v 110, .v 146]) <|
 .node (.op .mkagg [.v 3]) <|
 .node (.op .mkagg [.v 133, .v 134, .v 135, .v 136, .v 137, .v 138, .v 139, .v 140]) <|
 .node (.call tadd [.v 148, .v 147, .v 149] false) <|
 .node (.op .chki [.v 142, .c (.int .i64 6)]) <|
 .node (.op (.ofs 8) [.c (.int .i64 0), .v 142]) <|
 .node (.op (.cell 8 0) [.v 150]) <|
 .node (.op (.cell 8 1) [.v 150]) <|
 .node (.op (.cell 8 2) [.v 150]) <|
 .node (.op (.cell 8 3) [.v 150]) <|
 .node (.op (.cell 8 4) [.v 150]) <|
 .node (.op (.cell 8 5) [.v 150]) <|
 .node (.op (.cell 8 6) [.v 150]) <|
 .node (.op (.cell 8 7) [.v 150]) <|
 .node (.op .lset [.v 110, .v 152, .v 153, .v 154, .v 155, .v 156, .v 157, .v 158, .v 159, .v 160]) <|
 .node (.op (.bin .add) [.v 109, .c (.int .i64 1)]) <|
 .back 0 [.v 162, .v 161]) (
 .node (.op (.bin .add) [.v 109, .v 102]) <|
 .node (.op (.bin .rem) [.v 130, .c (.int .i64 6)]) <|
 .node (.op (.bin .add) [.v 109, .v 102]) <|
 .node (.op (.bin .rem) [.v 132, .c (.int .i64 6)]) <|
 .node (.op .chki [.v 133, .c (.int .i64 6)]) <|
 .node (.op (.ofs 8) [.c (.int .i64 0), .v 133]) <|
 .node (.op (.lget true 8) [.v 110, .v 135]) <|
 .node (.op .mkagg [.v 3]) <|
 .node (.op .mkagg [.v 120, .v 121, .v 122, .v 123, .v 124, .v 125, .v 126, .v 127]) <|
 .node (.call tadd [.v 137, .v 136, .v 138] false) <|
 .node (.op .chki [.v 131, .c (.int .i64 6)]) <|
 .node (.op (.ofs 8) [.c (.int .i64 0), .v 131]) <|
 .node (.op (.cell 8 0) [.v 139]) <|
 .node (.op (.cell 8 1) [.v 139]) <|
 .node (.op (.cell 8 2) [.v 139]) <|
 .node (.op (.cell 8 3) [.v 139]) <|
 .node (.op (.cell 8 4) [.v 139]) <|
 .node (.op (.cell 8 5) [.v 139]) <|
 .node (.op (.cell 8 6) [.v 139]) <|
 .node (.op (.cell 8 7) [.v 139]) <|
 .node (.op .lset [.v 110, .v 141, .v 142, .v 143, .v 144, .v 145, .v 146, .v 147, .v 148, .v 149]) <|
 .node (.op (.bin .add) [.v 109, .c (.int .i64 1)]) <|
 .back 0 [.v 151, .v 150])) (
 .node (.op (.bin .add) [.v 102, .c (.int .i64 1)]) <|
 .back 1 [.v 112, .v 110]))) (
 .node (.op (.lget true 48) [.v 103, .c (.int .i64 0)]) <|
 .node (.op (.cell 48 0) [.v 105]) <|
 .node (.op (.cell 48 1) [.v 105]) <|
 .node (.op (.cell 48 2) [.v 105]) <|
 .node (.op (.cell 48 3) [.v 105]) <|
 .node (.op (.cell 48 4) [.v 105]) <|
 .node (.op (.cell 48 5) [.v 105]) <|
 .node (.op (.cell 48 6) [.v 105]) <|
 .node (.op (.cell 48 7) [.v 105]) <|
 .node (.op (.cell 48 8) [.v 105]) <|
 .node (.op (.cell 48 9) [.v 105]) <|
 .node (.op (.cell 48 10) [.v 105]) <|
 .node (.op (.cell 48 11) [.v 105]) <|
 .node (.op (.cell 48 12) [.v 105]) <|
 .node (.op (.cell 48 13) [.v 105]) <|
 .node (.op (.cell 48 14) [.v 105]) <|
 .node (.op (.cell 48 15) [.v 105]) <|
 .node (.op (.cell 48 16) [.v 105]) <|
 .node (.op (.cell 48 17) [.v 105]) <|
 .node (.op (.cell 48 18) [.v 105]) <|
 .node (.op (.cell 48 19) [.v 105]) <|
 .node (.op (.cell 48 20) [.v 105]) <|
 .node (.op (.cell 48 21) [.v 105]) <|
 .node (.op (.cell 48 22) [.v 105]) <|
 .node (.op (.cell 48 23) [.v 105]) <|
 .node (.op (.cell 48 24) [.v 105]) <|
 .node (.op (.cell 48 25) [.v 105]) <|
 .node (.op (.cell 48 26) [.v 105]) <|
 .node (.op (.cell 48 27) [.v 105]) <|
 .node (.op (.cell 48 28) [.v 105]) <|
 .node (.op (.cell 48 29) [.v 105]) <|
 .node (.op (.cell 48 30) [.v 105]) <|
 .node (.op (.cell 48 31) [.v 105]) <|
 .node (.op (.cell 48 32) [.v 105]) <|
 .node (.op (.cell 48 33) [.v 105]) <|
 .node (.op (.cell 48 34) [.v 105]) <|
 .node (.op (.cell 48 35) [.v 105]) <|
 .node (.op (.cell 48 36) [.v 105]) <|
 .node (.op (.cell 48 37) [.v 105]) <|
 .node (.op (.cell 48 38) [.v 105]) <|
 .node (.op (.cell 48 39) [.v 105]) <|
 .node (.op (.cell 48 40) [.v 105]) <|
 .node (.op (.cell 48 41) [.v 105]) <|
 .node (.op (.cell 48 42) [.v 105]) <|
 .node (.op (.cell 48 43) [.v 105]) <|
 .node (.op (.cell 48 44) [.v 105]) <|
 .node (.op (.cell 48 45) [.v 105]) <|
 .node (.op (.cell 48 46) [.v 105]) <|
 .node (.op (.cell 48 47) [.v 105]) <|
 .node (.op .mkagg [.v 106, .v 107, .v 108, .v 109, .v 110, .v 111, .v 112, .v 113, .v 114, .v 115, .v 116, .v 117, .v 118, .v 119, .v 120, .v 121, .v 122, .v 123, .v 124, .v 125, .v 126, .v 127, .v 128, .v 129, .v 130, .v 131, .v 132, .v 133, .v 134, .v 135, .v 136, .v 137, .v 138, .v 139, .v 140, .v 141, .v 142, .v 143, .v 144, .v 145, .v 146, .v 147, .v 148, .v 149, .v 150, .v 151, .v 152, .v 153]) <|
 .ret (.v 154))
theorem mul12_den {tmul tup tadd : FuncId} (hm : T2C P tmul (· * ·)) (hu : T1C P tup (· * xi)) (ha : T2C P tadd (· + ·)) {g h : Nat → Nat × Nat} (hg : Wok g) (hh : Wok h) :
    D P (fun e => e = .ret (W6 (gv (outs (cg g) (cg h) 6)))) [] 3 [W6 h, W6 g, TT] (t_mul12 tmul tup tadd) := by
  refine d_op (v := fBase) rfl (d_expl (N := 48) (i := 1) rfl rfl rfl rfl (d_expl (N := 48) (i := 2) rfl rfl rfl rfl ?_))
  refine d_relist 4 48 (v := .lst (LC (gl g))) rfl rfl rfl rfl rfl rfl (d_relist 52 48 (v := .lst (LC (gl h))) rfl rfl rfl rfl rfl rfl ?_)
  obtain ⟨lg, elg⟩ : ∃ l, l = LC (gl g) := ⟨_, rfl⟩
  obtain ⟨lh, elh⟩ : ∃ l, l = LC (gl h) := ⟨_, rfl⟩
  have gg : ∀ {j : Nat} {z : Int}, z = ((0 + j * 8 : Nat) : Int) → j < 6 → evalO (.lget true 8) [.lst lg, .int .i64 z] = some (WW (g j).1 (g j).2) := by rw [elg]; exact fun hz h => ev_get6 hz h
  have gh : ∀ {j : Nat} {z : Int}, z = ((0 + j * 8 : Nat) : Int) → j < 6 → evalO (.lget true 8) [.lst lh, .int .i64 z] = some (WW (h j).1 (h j).2) := by rw [elh]; exact fun hz h => ev_get6 hz h
  rw [← elg, ← elh]
  clear elg elh
  refine d_while (fun k : Nat => [.int .i64 (k : Int), .lst (LC (gl (gv (outs (cg g) (cg h) k))))]) (fun k => k ≤ 6) (fun k => 6 - k) 0 (Nat.zero_le _) (by rw [show outs (cg g) (cg h) 0 = fun _ => Cx.zero from rfl, zeros48]; rfl) ?_
  intro k hk
  refine d_op ev_lss (d_if rfl (fun h1 => ?_) (fun h1 => ?_))
  · have hk6 : k < 6 := by omega
    have hz : evalO (.eqv false [.int .u64, .int .u64, .int .u64, .int .u64, .int .u64, .int .u64, .int .u64, .int .u64]) [WW (h k).1 (h k).2, .agg [.int .u64 0, .int .u64 0, .int .u64 0, .int .u64 0, .int .u64 0, .int .u64 0, .int .u64 0, .int .u64 0]] = some (.bool (decide ([(h k).1, (h k).2] = [0, 0]))) :=
      ev_eqws (neg := false) (l := [(h k).1, (h k).2]) (m := [0, 0]) (by intro x hx; simp at hx; rcases hx with rfl | rfl; exact (hh k).1; exact (hh k).2) (by intro x hx; simp at hx; subst hx; decide) rfl rfl
    refine d_op (ev_chki (n := 6) (by omega) (by omega) rfl) (d_op (ev_ofs (n := k) (o := 0) rfl rfl) (d_op (gh rfl hk6) (d_op hz (d_if rfl (fun h2 => ?_) (fun h2 => ?_)))))
    · refine d_op (ev_add (by constructor <;> omega)) (d_back rfl ⟨k + 1, ?_, by omega, by omega⟩)
      have hB : cg h k = .zero := by
        simp only [List.cons.injEq, and_true] at h2
        unfold cg
        rw [h2.1, h2.2]
        rfl
      have e : outs (cg g) (cg h) (k + 1) = outs (cg g) (cg h) k := row_zero hB _ 6
      rw [e]
      rfl
    · refine d_while (fun i : Nat => [.int .i64 (i : Int), .lst (LC (gl (gv (row (cg g) (cg h) k i (outs (cg g) (cg h) k)))))]) (fun i => i ≤ 6) (fun i => 6 - i) 0 (Nat.zero_le _) rfl ?_
      intro i hi
      refine d_op ev_lss (d_if rfl (fun h3 => ?_) (fun h3 => ?_))
      · have hi6 : i < 6 := by omega
        obtain ⟨j, ej⟩ : ∃ j, j = (i + k) % 6 := ⟨_, rfl⟩
        have hj : j < 6 := by omega
        have ejz : ((i : Int) + (k : Int)) % 6 = (j : Int) := by omega
        obtain ⟨G, eG⟩ : ∃ G, G = row (cg g) (cg h) k i (outs (cg g) (cg h) k) := ⟨_, rfl⟩
        obtain ⟨m, em⟩ : ∃ m, m = cg g i * cg h k := ⟨_, rfl⟩
        have c1 : Ct P tmul [TT, WW (g i).1 (g i).2, WW (h k).1 (h k).2] (fun e => e = .ret (w2 m)) := by rw [em]; exact hm _ _ _ _ (hg i).1 (hg i).2 (hh k).1 (hh k).2
        have c2 : Ct P tup [TT, w2 m] (fun e => e = .ret (w2 (m * xi))) := by
          have := hu m.re.val m.im.val (zval_lt _) (zval_lt _)
          rw [c2_val] at this
          exact this
        have c3 : ∀ x : Cx pBase, Ct P tadd [TT, WW (gv G j).1 (gv G j).2, w2 x] (fun e => e = .ret (w2 (G j + x))) := fun x => by
          have := ha (G j).re.val (G j).im.val x.re.val x.im.val (zval_lt _) (zval_lt _) (zval_lt _) (zval_lt _)
          rw [c2_val, c2_val] at this
          exact this
        have hn : row (cg g) (cg h) k (i + 1) (outs (cg g) (cg h) k) = fun q => if q = j then G j + term (cg g) (cg h) i k else G q := by
          rw [← row_succ, ← eG, ← ej]
        have hnext : LC (gl (gset (gv G) j ((G j + term (cg g) (cg h) i k).re.val, (G j + term (cg g) (cg h) i k).im.val))) = LC (gl (gv (row (cg g) (cg h) k (i + 1) (outs (cg g) (cg h) k)))) := by
          rw [gset_gv, hn]
        rw [← eG]
        refine d_op (ev_chki (n := 6) (by omega) (by omega) rfl) (d_op (ev_ofs (n := i) (o := 0) rfl rfl) (d_op (gg rfl hi6) ?_))
        refine d_op (ev_chki (n := 6) (by omega) (by omega) rfl) (d_op (ev_ofs (n := k) (o := 0) rfl rfl) (d_op (gh rfl hk6) ?_))
        refine d_op (v := TT) rfl (d_call c1 (fun h => by cases h) (d_expl (N := 8) (i := 119) rfl rfl rfl rfl ?_))
        refine d_op (ev_add (by constructor <;> omega)) (d_op ev_geq (d_if rfl (fun h4 => ?_) (fun h4 => ?_)))
        · have ht : term (cg g) (cg h) i k = m * xi := by unfold term; rw [if_pos (by omega), em]
          rw [ht] at hnext
          refine d_op (v := TT) rfl (d_op (v := w2 m) rfl (d_call c2 (fun h => by cases h) (d_expl (N := 8) (i := 132) rfl rfl rfl rfl ?_)))
          refine d_op (ev_add (by constructor <;> omega)) (d_op (ev_rem (by omega) (by omega)) (d_op (ev_add (by constructor <;> omega)) (d_op (ev_rem (by omega) (by omega)) ?_)))
          refine d_op (ev_chki (n := 6) (by omega) (by omega) rfl) (d_op (ev_ofs (n := j) (o := 0) rfl ejz) (d_op (ev_get6 rfl hj) ?_))
          refine d_op (v := TT) rfl (d_op (v := w2 (m * xi)) rfl (d_call (c3 _) (fun h => by cases h) ?_))
          refine d_op (ev_chki (n := 6) (by omega) (by omega) rfl) (d_op (ev_ofs (n := j) (o := 0) rfl ejz) (d_expl (N := 8) (i := 150) rfl rfl rfl rfl ?_))
          refine d_op (ev_set6 (g := gv G) (j := j) (u := (G j + m * xi).re.val) (v := (G j + m * xi).im.val) rfl hj) ?_
          rw [hnext]
          refine d_op (ev_add (by constructor <;> omega)) (d_back rfl ⟨i + 1, rfl, by omega, by omega⟩)
        · have ht : term (cg g) (cg h) i k = m := by unfold term; rw [if_neg (by omega), em]
          rw [ht] at hnext
          refine d_op (ev_add (by constructor <;> omega)) (d_op (ev_rem (by omega) (by omega)) (d_op (ev_add (by constructor <;> omega)) (d_op (ev_rem (by omega) (by omega)) ?_)))
          refine d_op (ev_chki (n := 6) (by omega) (by omega) rfl) (d_op (ev_ofs (n := j) (o := 0) rfl ejz) (d_op (ev_get6 rfl hj) ?_))
          refine d_op (v := TT) rfl (d_op (v := w2 m) rfl (d_call (c3 _) (fun h => by cases h) ?_))
          refine d_op (ev_chki (n := 6) (by omega) (by omega) rfl) (d_op (ev_ofs (n := j) (o := 0) rfl ejz) (d_expl (N := 8) (i := 139) rfl rfl rfl rfl ?_))
          refine d_op (ev_set6 (g := gv G) (j := j) (u := (G j + m).re.val) (v := (G j + m).im.val) rfl hj) ?_
          rw [hnext]
          refine d_op (ev_add (by constructor <;> omega)) (d_back rfl ⟨i + 1, rfl, by omega, by omega⟩)
      · have : i = 6 := by omega
        subst this
        exact d_op (ev_add (by constructor <;> omega)) (d_back rfl ⟨k + 1, rfl, by omega, by omega⟩)
  · have : k = 6 := by omega
    subst this
    refine d_op (v := W6 (gv (outs (cg g) (cg h) 6))) rfl (d_expl (N := 48) (i := 105) rfl rfl rfl rfl ?_)
    exact d_refold 106 48 (v := W6 (gv (outs (cg g) (cg h) 6))) rfl rfl rfl rfl rfl rfl (d_ret rfl)
end Go.SE
