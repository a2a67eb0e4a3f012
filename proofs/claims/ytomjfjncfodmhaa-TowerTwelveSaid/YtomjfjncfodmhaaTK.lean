/- Nothing of the statement is proved here: this text lays generic laws: TK; no conditions. -/
import Derived.Test.YtomjfjncfodmhaaTJ
set_option linter.all false
set_option autoImplicit false
set_option maxRecDepth 20000
set_option maxHeartbeats 8000000
set_option exponentiation.threshold 500
namespace Go.SE
open Go
variable {P : Program} {R : AEnd → Prop}
def gl11 (g : Nat → Nat × Nat) : List Nat := [(g 0).1, (g 0).2, (g 1).1, (g 1).2, (g 2).1, (g 2).2, (g 3).1, (g 3).2, (g 4).1, (g 4).2, (g 5).1, (g 5).2, (g 6).1, (g 6).2, (g 7).1, (g 7).2, (g 8).1, (g 8).2, (g 9).1, (g 9).2, (g 10).1, (g 10).2]
theorem ev_get11 {g : Nat → Nat × Nat} {j : Nat} {z : Int} (hz : z = ((0 + j * 8 : Nat) : Int)) (h : j < 11) : evalO (.lget true 8) [.lst (LC (gl11 g)), .int .i64 z] = some (WW (g j).1 (g j).2) := by
  subst hz
  match j, h with
  | 0, _ => rfl
  | 1, _ => rfl
  | 2, _ => rfl
  | 3, _ => rfl
  | 4, _ => rfl
  | 5, _ => rfl
  | 6, _ => rfl
  | 7, _ => rfl
  | 8, _ => rfl
  | 9, _ => rfl
  | 10, _ => rfl
theorem ev_set11 {g : Nat → Nat × Nat} {j u v : Nat} {z : Int} (hz : z = ((0 + j * 8 : Nat) : Int)) (h : j < 11) : evalO .lset (.lst (LC (gl11 g)) :: .int .i64 z :: (i64s u ++ i64s v)) = some (.lst (LC (gl11 (gset g j (u, v))))) := by
  subst hz
  match j, h with
  | 0, _ => rfl
  | 1, _ => rfl
  | 2, _ => rfl
  | 3, _ => rfl
  | 4, _ => rfl
  | 5, _ => rfl
  | 6, _ => rfl
  | 7, _ => rfl
  | 8, _ => rfl
  | 9, _ => rfl
  | 10, _ => rfl
theorem zeros88 : LC (gl11 (gv (fun _ => Cx.zero))) = List.replicate 88 (.int .u64 0) := by decide +kernel
def rrow (A B : Nat → Cx pBase) (i : Nat) : Nat → (Nat → Cx pBase) → Nat → Cx pBase
  | 0, g => g
  | k + 1, g => fun j => if j = i + k then rrow A B i k g (i + k) + A i * B k else rrow A B i k g j
def routs (A B : Nat → Cx pBase) : Nat → Nat → Cx pBase
  | 0 => fun _ => .zero
  | i + 1 => rrow A B i 6 (routs A B i)
def rfin (S : Nat → Cx pBase) : Nat → Cx pBase := fun j => if j < 5 then S j + S (6 + j) * xi else S j
theorem rrow_zero {A B : Nat → Cx pBase} {i : Nat} (h : A i = .zero) (g : Nat → Cx pBase) : ∀ k, rrow A B i k g = g
  | 0 => rfl
  | k + 1 => by
    funext j
    simp only [rrow, rrow_zero h g k, h, Cx.zero_mul, Cx.add_zero]
    split
    · rename_i e; rw [e]
    · rfl
theorem rfin_mul (A B : Nat → Cx pBase) : s6 (rfin (routs A B 6)) = Six.mul xi (s6 A) (s6 B) := by
  have z : ∀ a : Cx pBase, Cx.zero + a = a := Cx.zero_add
  ext1 <;> simp [s6, rfin, routs, rrow, Six.mul, z, Cx.mul_add, Cx.add_mul] <;> ac_rfl
def fo (S : Nat → Cx pBase) (i : Nat) : Nat → Cx pBase := fun j => if j < i then rfin S j else .zero
theorem fo_six (S : Nat → Cx pBase) : s6 (fo S 6) = s6 (rfin S) := rfl
theorem fo_step (S : Nat → Cx pBase) (i : Nat) : (fun q => if q = i then rfin S i else fo S i q) = fo S (i + 1) := by
  funext q
  simp only [fo]
  by_cases h : q = i
  · subst h; rw [if_pos rfl, if_pos (by omega)]
  · rw [if_neg h]
    by_cases h2 : q < i
    · rw [if_pos h2, if_pos (by omega)]
    · rw [if_neg h2, if_neg (by omega)]
theorem gset_two (g : Nat → Nat × Nat) (i : Nat) (u v : Nat × Nat) : gset (gset g i u) i v = gset g i v := by
  funext k; unfold gset; split <;> rfl
theorem gset_at (g : Nat → Nat × Nat) (i : Nat) (u : Nat × Nat) : gset g i u i = u := by unfold gset; rw [if_pos rfl]
def RM12C (P : Program) (f : FuncId) (s : Six pBase → Six pBase → Six pBase) : Prop := ∀ a b : Six pBase, Ct P f [RT, w6 a, w6 b] (fun e => e = .ret (w6 (s a b)))
def t_rmul12 (rmul radd : FuncId) : T :=
 .node (.op (.cell 1 0) [.v 0]) <|
 .node (.op (.cell 48 0) [.v 1]) <|
 .node (.op (.cell 48 1) [.v 1]) <|
 .node (.op (.cell 48 2) [.v 1]) <|
 .node (.op (.cell 48 3) [.v 1]) <|
 .node (.op (.cell 48 4) [.v 1]) <|
 .node (.op (.cell 48 5) [.v 1]) <|
 .node (.op (.cell 48 6) [.v 1]) <|
 .node (.op (.cell 48 7) [.v 1]) <|
 .node (.op (.cell 48 8) [.v 1]) <|
 .node (.op (.cell 48 9) [.v 1]) <|
 .node (.op (.cell 48 10) [.v 1]) <|
 .node (.op (.cell 48 11) [.v 1]) <|
 .node (.op (.cell 48 12) [.v 1]) <|
 .node (.op (.cell 48 13) [.v 1]) <|
 .node (.op (.cell 48 14) [.v 1]) <|
 .node (.op (.cell 48 15) [.v 1]) <|
 .node (.op (.cell 48 16) [.v 1]) <|
 .node (.op (.cell 48 17) [.v 1]) <|
 .node (.op (.cell 48 18) [.v 1]) <|
 .node (.op (.cell 48 19) [.v 1]) <|
 .node (.op (.cell 48 20) [.v 1]) <|
 .node (.op (.cell 48 21) [.v 1]) <|
 .node (.op (.cell 48 22) [.v 1]) <|
 .node (.op (.cell 48 23) [.v 1]) <|
 .node (.op (.cell 48 24) [.v 1]) <|
 .node (.op (.cell 48 25) [.v 1]) <|
 .node (.op (.cell 48 26) [.v 1]) <|
 .node (.op (.cell 48 27) [.v 1]) <|
 .node (.op (.cell 48 28) [.v 1]) <|
 .node (.op (.cell 48 29) [.v 1]) <|
 .node (.op (.cell 48 30) [.v 1]) <|
 .node (.op (.cell 48 31) [.v 1]) <|
 .node (.op (.cell 48 32) [.v 1]) <|
 .node (.op (.cell 48 33) [.v 1]) <|
 .node (.op (.cell 48 34) [.v 1]) <|
 .node (.op (.cell 48 35) [.v 1]) <|
 .node (.op (.cell 48 36) [.v 1]) <|
 .node (.op (.cell 48 37) [.v 1]) <|
 .node (.op (.cell 48 38) [.v 1]) <|
 .node (.op (.cell 48 39) [.v 1]) <|
 .node (.op (.cell 48 40) [.v 1]) <|
 .node (.op (.cell 48 41) [.v 1]) <|
 .node (.op (.cell 48 42) [.v 1]) <|
 .node (.op (.cell 48 43) [.v 1]) <|
 .node (.op (.cell 48 44) [.v 1]) <|
 .node (.op (.cell 48 45) [.v 1]) <|
 .node (.op (.cell 48 46) [.v 1]) <|
 .node (.op (.cell 48 47) [.v 1]) <|
 .node (.op (.cell 48 0) [.v 2]) <|
 .node (.op (.cell 48 1) [.v 2]) <|
 .node (.op (.cell 48 2) [.v 2]) <|
 .node (.op (.cell 48 3) [.v 2]) <|
 .node (.op (.cell 48 4) [.v 2]) <|
 .node (.op (.cell 48 5) [.v 2]) <|
 .node (.op (.cell 48 6) [.v 2]) <|
 .node (.op (.cell 48 7) [.v 2]) <|
 .node (.op (.cell 48 8) [.v 2]) <|
 .node (.op (.cell 48 9) [.v 2]) <|
 .node (.op (.cell 48 10) [.v 2]) <|
 .node (.op (.cell 48 11) [.v 2]) <|
 .node (.op (.cell 48 12) [.v 2]) <|
 .node (.op (.cell 48 13) [.v 2]) <|
 .node (.op (.cell 48 14) [.v 2]) <|
 .node (.op (.cell 48 15) [.v 2]) <|
 .node (.op (.cell 48 16) [.v 2]) <|
 .node (.op (.cell 48 17) [.v 2]) <|
 .node (.op (.cell 48 18) [.v 2]) <|
 .node (.op (.cell 48 19) [.v 2]) <|
 .node (.op (.cell 48 20) [.v 2]) <|
 .node (.op (.cell 48 21) [.v 2]) <|
 .node (.op (.cell 48 22) [.v 2]) <|
 .node (.op (.cell 48 23) [.v 2]) <|
 .node (.op (.cell 48 24) [.v 2]) <|
 .node (.op (.cell 48 25) [.v 2]) <|
 .node (.op (.cell 48 26) [.v 2]) <|
 .node (.op (.cell 48 27) [.v 2]) <|
 .node (.op (.cell 48 28) [.v 2]) <|
 .node (.op (.cell 48 29) [.v 2]) <|
 .node (.op (.cell 48 30) [.v 2]) <|
 .node (.op (.cell 48 31) [.v 2]) <|
 .node (.op (.cell 48 32) [.v 2]) <|
 .node (.op (.cell 48 33) [.v 2]) <|
 .node (.op (.cell 48 34) [.v 2]) <|
 .node (.op (.cell 48 35) [.v 2]) <|
 .node (.op (.cell 48 36) [.v 2]) <|
 .node (.op (.cell 48 37) [.v 2]) <|
 .node (.op (.cell 48 38) [.v 2]) <|
 .node (.op (.cell 48 39) [.v 2]) <|
 .node (.op (.cell 48 40) [.v 2]) <|
 .node (.op (.cell 48 41) [.v 2]) <|
 .node (.op (.cell 48 42) [.v 2]) <|
 .node (.op (.cell 48 43) [.v 2]) <|
 .node (.op (.cell 48 44) [.v 2]) <|
 .node (.op (.cell 48 45) [.v 2]) <|
 .node (.op (.cell 48 46) [.v 2]) <|
 .node (.op (.cell 48 47) [.v 2]) <|
 .node (.op .mklst [.v 4, .v 5, .v 6, .v 7, .v 8, .v 9, .v 10, .v 11, .v 12, .v 13, .v 14, .v 15, .v 16, .v 17, .v 18, .v 19, .v 20, .v 21, .v 22, .v 23, .v 24, .v 25, .v 26, .v 27, .v 28, .v 29, .v 30, .v 31, .v 32, .v 33, .v 34, .v 35, .v 36, .v 37, .v 38, .v 39, .v 40, .v 41, .v 42, .v 43, .v 44, .v 45, .v 46, .v 47, .v 48, .v 49, .v 50, .v 51]) <|
 .node (.op .mklst [.v 52, .v 53, .v 54, .v 55, .v 56, .v 57, .v 58, .v 59, .v 60, .v 61, .v 62, .v 63, .v 64, .v 65, .v 66, .v 67, .v 68, .v 69, .v 70, .v 71, .v 72, .v 73, .v 74, .v 75, .v 76, .v 77, .v 78, .v 79, .v 80, .v 81, .v 82, .v 83, .v 84, .v 85, .v 86, .v 87, .v 88, .v 89, .v 90, .v 91, .v 92, .v 93, .v 94, .v 95, .v 96, .v 97, .v 98, .v 99]) <|
 .loop [.c (.int .i64 0), .c (.lst [.int .u64 0, .int .u64 0, .int .u64 0, .int .u64 0, .int .u64 0, .int .u64 0, .int .u64 0, .int .u64 0, .int .u64 0, .int .u64 0, .int .u64 0, .int .u64 0, .int .u64 0, .int .u64 0, .int .u64 0, .int .u64 0, .int .u64 0, .int .u64 0, .int .u64 0, .int .u64 0, .int .u64 0, .int .u64 0, .int .u64 0, .int .u64 0, .int .u64 0, .int .u64 0, .int .u64 0, .int .u64 0, .int .u64 0, .int .u64 0, .int .u64 0, .int .u64 0, .int .u64 0, .int .u64 0, .int .u64 0, .int .u64 0, .int .u64 0, .int .u64 0, .int .u64 0, .int .u64 0, .int .u64 0, .int .u64 0, .int .u64 0, .int .u64 0, .int .u64 0, .int .u64 0, .int .u64 0, .int .u64 0, .int .u64 0, .int .u64 0, .int .u64 0, .int .u64 0, .int .u64 0, .int .u64 0, .int .u64 0, .int .u64 0, .int .u64 0, .int .u64 0, .int .u64 0, .int .u64 0, .int .u64 0, .int .u64 0, .int .u64 0, .int .u64 0, .int .u64 0, .int .u64 0, .int .u64 0, .int .u64 0, .int .u64 0, .int .u64 0, .int .u64 0, .int .u64 0, .int .u64 0, .int .u64 0, .int .u64 0, .int .u64 0, .int .u64 0, .int .u64 0, .int .u64 0, .int .u64 0, .int .u64 0, .int .u64 0, .int .u64 0, .int .u64 0, .int .u64 0, .int .u64 0, .int .u64 0, .int .u64 0])] [true, false] <|
 .node (.op (.bin .lss) [.v 102, .c (.int .i64 6)]) <|
 .br (.v 104) (
 .node (.op .chki [.v 102, .c (.int .i64 6)]) <|
 .node (.op (.ofs 8) [.c (.int .i64 0), .v 102]) <|
 .node (.op (.lget true 8) [.v 100, .v 106]) <|
 .node (.op (.eqv false [.int .u64, .int .u64, .int .u64, .int .u64, .int .u64, .int .u64, .int .u64, .int .u64]) [.v 107, .c (.agg [.int .u64 0, .int .u64 0, .int .u64 0, .int .u64 0, .int .u64 0, .int .u64 0, .int .u64 0, .int .u64 0])]) <|
 .br (.v 108) (
 .node (.op (.bin .add) [.v 102, .c (.int .i64 1)]) <|
 .back 0 [.v 109, .v 103]) (
 .loop [.c (.int .i64 0), .v 103] [true, false] <|
 .node (.op (.bin .lss) [.v 109, .c (.int .i64 6)]) <|
 .br (.v 111) (
 .node (.op (.bin .add) [.v 102, .v 109]) <|
 .node (.op (.bin .add) [.v 102, .v 109]) <|
 .node (.op .chki [.v 113, .c (.int .i64 11)]) <|
 .node (.op (.ofs 8) [.c (.int .i64 0), .v 113]) <|
 .node (.op (.lget true 8) [.v 110, .v 115]) <|
 .node (.op .chki [.v 102, .c (.int .i64 6)]) <|
 .node (.op (.ofs 8) [.c (.int .i64 0), .v 102]) <|
 .node (.op (.lget true 8) [.v 100, .v 118]) <|
 .node (.op .chki [.v 109, .c (.int .i64 6)]) <|
 .node (.op (.ofs 8) [.c (.int .i64 0), .v 109]) <|
 .node (.op (.lget true 8) [.v 101, .v 121]) <|
 .node (.op .mkagg [.v 3]) <|
 .node (.call rmul [.v 123, .v 119, .v 122] false) <|
 .node (.op .mkagg [.v 3]) <|
 .node (.call radd [.v 125, .v 116, .v 124] false) <|
 .node (.op .chki [.v 112, .c (.int .i64 11)]) <|
 .node (.op (.ofs 8) [.c (.int .i64 0), .v 112]) <|
 .node (.op (.cell 8 0) [.v 126]) <|
 .node (.op (.cell 8 1) [.v 126]) <|
 .node (.op (.cell 8 2) [.v 126]) <|
 .node (.op (.cell 8 3) [.v 126]) <|
 .node (.op (.cell 8 4) [.v 126]) <|
 .node (.op (.cell 8 5) [.v 126]) <|
 .node (.op (.cell 8 6) [.v 126]) <|
 .node (.op (.cell 8 7) [.v 126]) <|
 .node (.op .lset [.v 110, .v 128, .v 129, .v 130, .v 131, .v 132, .v 133, .v 134, .v 135, .v 136]) <|
 .node (.op (.bin .add) [.v 109, .c (.int .i64 1)]) <|
 .back 0 [.v 138, .v 137]) (
 .node (.op (.bin .add) [.v 102, .c (.int .i64 1)]) <|
 .back 1 [.v 112, .v 110]))) (
 .loop [.c (.int .i64 0), .c (.lst [.int .u64 0, .int .u64 0, .int .u64 0, .int .u64 0, .int .u64 0, .int .u64 0, .int .u64 0, .int .u64 0, .int .u64 0, .int .u64 0, .int .u64 0, .int .u64 0, .int .u64 0, .int .u64 0, .int .u64 0, .int .u64 0, .int .u64 0, .int .u64 0, .int .u64 0, .int .u64 0, .int .u64 0, .int .u64 0, .int .u64 0, .int .u64 0, .int .u64 0, .int .u64 0, .int .u64 0, .int .u64 0, .int .u64 0, .int .u64 0, .int .u64 0, .int .u64 0, .int .u64 0, .int .u64 0, .int .u64 0, .int .u64 0, .int .u64 0, .int .u64 0, .int .u64 0, .int .u64 0, .int .u64 0, .int .u64 0, .int .u64 0, .int .u64 0, .int .u64 0, .int .u64 0, .int .u64 0, .int .u64 0])] [true, false] <|
 .node (.op (.bin .lss) [.v 105, .c (.int .i64 6)]) <|
 .br (.v 107) (
 .node (.op .chki [.v 105, .c (.int .i64 11)]) <|
 .node (.op (.ofs 8) [.c (.int .i64 0), .v 105]) <|
 .node (.op (.lget true 8) [.v 103, .v 109]) <|
 .node (.op .chki [.v 105, .c (.int .i64 6)]) <|
 .node (.op (.ofs 8) [.c (.int .i64 0), .v 105]) <|
 .node (.op (.cell 8 0) [.v 110]) <|
 .node (.op (.cell 8 1) [.v 110]) <|
 .node (.op (.cell 8 2) [.v 110]) <|
 .node (.op (.cell 8 3) [.v 110]) <|
 .node (.op (.cell 8 4) [.v 110]) <|
 .node (.op (.cell 8 5) [.v 110]) <|
 .node (.op (.cell 8 6) [.v 110]) <|
 .node (.op (.cell 8 7) [.v 110]) <|
 .node (.op .lset [.v 106, .v 112, .v 113, .v 114, .v 115, .v 116, .v 117, .v 118, .v 119, .v 120]) <|
 .node (.op (.bin .lss) [.v 105, .c (.int .i64 5)]) <|
 .br (.v 122) (
 .node (.op .chki [.v 105, .c (.int .i64 6)]) <|
 .node (.op (.ofs 8) [.c (.int .i64 0), .v 105]) <|
 .node (.op (.lget true 8) [.v 121, .v 124]) <|
 .node (.op (.bin .add) [.c (.int .i64 6), .v 105]) <|
 .node (.op .chki [.v 126, .c (.int .i64 11)]) <|
 .node (.op (.ofs 8) [.c (.int .i64 0), .v 126]) <|
 .node (.op (.lget true 8) [.v 103, .v 128]) <|
 .node (.op .mkagg [.v 3]) <|
 .node (.call rmul [.v 130, .v 129, .c (.agg [.int .u64 9, .int .u64 0, .int .u64 0, .int .u64 0, .int .u64 1, .int .u64 0, .int .u64 0, .int .u64 0])] false) <|
 .node (.op .mkagg [.v 3]) <|
 .node (.call radd [.v 132, .v 125, .v 131] false) <|
 .node (.op .chki [.v 105, .c (.int .i64 6)]) <|
 .node (.op (.ofs 8) [.c (.int .i64 0), .v 105]) <|
 .node (.op (.cell 8 0) [.v 133]) <|
 .node (.op (.cell 8 1) [.v 133]) <|
 .node (.op (.cell 8 2) [.v 133]) <|
 .node (.op (.cell 8 3) [.v 133]) <|
 .node (.op (.cell 8 4) [.v 133]) <|
 .node (.op (.cell 8 5) [.v 133]) <|
 .node (.op (.cell 8 6) [.v 133]) <|
 .node (.op (.cell 8 7) [.v 133]) <|
 .node (.op .lset [.v 121, .v 135, .v 136, .v 137, .v 138, .v 139, .v 140, .v 141, .v 142, .v 143]) <|
 .node (.op (.bin .add) [.v 105, .c (.int .i64 1)]) <|
 .back 0 [.v 145, .v 144]) (
 .node (.op (.bin .add) [.v 105, .c (.int .i64 1)]) <|
 .back 0 [.v 123, .v 121])) (
 .node (.op (.lget true 48) [.v 106, .c (.int .i64 0)]) <|
 .node (.op (.cell 48 0) [.v 108]) <|
 .node (.op (.cell 48 1) [.v 108]) <|
 .node (.op (.cell 48 2) [.v 108]) <|
 .node (.op (.cell 48 3) [.v 108]) <|
 .node (.op (.cell 48 4) [.v 108]) <|
 .node (.op (.cell 48 5) [.v 108]) <|
 .node (.op (.cell 48 6) [.v 108]) <|
 .node (.op (.cell 48 7) [.v 108]) <|
 .node (.op (.cell 48 8) [.v 108]) <|
 .node (.op (.cell 48 9) [.v 108]) <|
 .node (.op (.cell 48 10) [.v 108]) <|
 .node (.op (.cell 48 11) [.v 108]) <|
 .node (.op (.cell 48 12) [.v 108]) <|
 .node (.op (.cell 48 13) [.v 108]) <|
 .node (.op (.cell 48 14) [.v 108]) <|
 .node (.op (.cell 48 15) [.v 108]) <|
 .node (.op (.cell 48 16) [.v 108]) <|
 .node (.op (.cell 48 17) [.v 108]) <|
 .node (.op (.cell 48 18) [.v 108]) <|
 .node (.op (.cell 48 19) [.v 108]) <|
 .node (.op (.cell 48 20) [.v 108]) <|
 .node (.op (.cell 48 21) [.v 108]) <|
 .node (.op (.cell 48 22) [.v 108]) <|
 .node (.op (.cell 48 23) [.v 108]) <|
 .node (.op (.cell 48 24) [.v 108]) <|
 .node (.op (.cell 48 25) [.v 108]) <|
 .node (.op (.cell 48 26) [.v 108]) <|
 .node (.op (.cell 48 27) [.v 108]) <|
 .node (.op (.cell 48 28) [.v 108]) <|
 .node (.op (.cell 48 29) [.v 108]) <|
 .node (.op (.cell 48 30) [.v 108]) <|
 .node (.op (.cell 48 31) [.v 108]) <|
 .node (.op (.cell 48 32) [.v 108]) <|
 .node (.op (.cell 48 33) [.v 108]) <|
 .node (.op (.cell 48 34) [.v 108]) <|
 .node (.op (.cell 48 35) [.v 108]) <|
 .node (.op (.cell 48 36) [.v 108]) <|
 .node (.op (.cell 48 37) [.v 108]) <|
 .node (.op (.cell 48 38) [.v 108]) <|
 .node (.op (.cell 48 39) [.v 108]) <|
 .node (.op (.cell 48 40) [.v 108]) <|
 .node (.op (.cell 48 41) [.v 108]) <|
 .node (.op (.cell 48 42) [.v 108]) <|
 .node (.op (.cell 48 43) [.v 108]) <|
 .node (.op (.cell 48 44) [.v 108]) <|
 .node (.op (.cell 48 45) [.v 108]) <|
 .node (.op (.cell 48 46) [.v 108]) <|
 .node (.op (.cell 48 47) [.v 108]) <|
 .node (.op .mkagg [.v 109, .v 110, .v 111, .v 112, .v 113, .v 114, .v 115, .v 116, .v 117, .v 118, .v 119, .v 120, .v 121, .v 122, .v 123, .v 124, .v 125, .v 126, .v 127, .v 128, .v 129, .v 130, .v 131, .v 132, .v 133, .v 134, .v 135, .v 136, .v 137, .v 138, .v 139, .v 140, .v 141, .v 142, .v 143, .v 144, .v 145, .v 146, .v 147, .v 148, .v 149, .v 150, .v 151, .v 152, .v 153, .v 154, .v 155, .v 156]) <|
 .ret (.v 157)))
theorem rmul12_den {rmul radd : FuncId} (hm : RT2 P rmul (· * ·)) (ha : RT2 P radd (· + ·)) {a b : Six pBase} :
    D P (fun e => e = .ret (w6 (Six.mul xi a b))) [] 3 [w6 b, w6 a, RT] (t_rmul12 rmul radd) := by
  have m : ∀ p q : Cx pBase, Ct P rmul [RT, w2 p, w2 q] (fun e => e = .ret (w2 (p * q))) := hm
  have d : ∀ p q : Cx pBase, Ct P radd [RT, w2 p, w2 q] (fun e => e = .ret (w2 (p + q))) := ha
  have mx : ∀ p : Cx pBase, Ct P rmul [RT, w2 p, WW 9 1] (fun e => e = .ret (w2 (p * xi))) := fun p => m p xi
  have hA : s6 (u6 a) = a := rfl
  have hB : s6 (u6 b) = b := rfl
  have hres : Six.mul xi a b = s6 (fo (routs (u6 a) (u6 b) 6) 6) := by rw [fo_six, rfin_mul, hA, hB]
  rw [hres]
  clear hres hA hB hm ha
  refine d_op (v := rB) rfl (d_expl (N := 48) (i := 1) rfl rfl rfl rfl (d_expl (N := 48) (i := 2) rfl rfl rfl rfl ?_))
  refine d_relist 4 48 (v := .lst (LC (gl (gv (u6 a))))) rfl rfl rfl rfl rfl rfl (d_relist 52 48 (v := .lst (LC (gl (gv (u6 b))))) rfl rfl rfl rfl rfl rfl ?_)
  obtain ⟨A, eA⟩ : ∃ A, A = u6 a := ⟨_, rfl⟩
  obtain ⟨B, eB⟩ : ∃ B, B = u6 b := ⟨_, rfl⟩
  rw [← eA, ← eB]
  obtain ⟨lg, elg⟩ : ∃ l, l = LC (gl (gv A)) := ⟨_, rfl⟩
  obtain ⟨lh, elh⟩ : ∃ l, l = LC (gl (gv B)) := ⟨_, rfl⟩
  have gg : ∀ {j : Nat} {z : Int}, z = ((0 + j * 8 : Nat) : Int) → j < 6 → evalO (.lget true 8) [.lst lg, .int .i64 z] = some (w2 (A j)) := by rw [elg]; exact fun hz h => ev_get6 hz h
  have gh : ∀ {j : Nat} {z : Int}, z = ((0 + j * 8 : Nat) : Int) → j < 6 → evalO (.lget true 8) [.lst lh, .int .i64 z] = some (w2 (B j)) := by rw [elh]; exact fun hz h => ev_get6 hz h
  rw [← elg, ← elh]
  clear elg elh eA eB
  refine d_while (fun i : Nat => [.int .i64 (i : Int), .lst (LC (gl11 (gv (routs A B i))))]) (fun i => i ≤ 6) (fun i => 6 - i) 0 (Nat.zero_le _) (by rw [show routs A B 0 = fun _ => Cx.zero from rfl, zeros88]; rfl) ?_
  intro i hi
  refine d_op ev_lss (d_if rfl (fun h1 => ?_) (fun h1 => ?_))
  · have hi6 : i < 6 := by omega
    have hz : evalO (.eqv false [.int .u64, .int .u64, .int .u64, .int .u64, .int .u64, .int .u64, .int .u64, .int .u64]) [w2 (A i), .agg [.int .u64 0, .int .u64 0, .int .u64 0, .int .u64 0, .int .u64 0, .int .u64 0, .int .u64 0, .int .u64 0]] = some (.bool (decide (l2 (A i) = [0, 0]))) :=
      ev_eqw (l := l2 (A i)) (m := [0, 0]) (l2_lt _) z2_lt rfl rfl
    refine d_op (ev_chki (n := 6) (by omega) (by omega) rfl) (d_op (ev_ofs (n := i) (o := 0) rfl rfl) (d_op (gg rfl hi6) (d_op hz (d_if rfl (fun h2 => ?_) (fun h2 => ?_)))))
    · refine d_op (ev_add (by constructor <;> omega)) (d_back rfl ⟨i + 1, ?_, by omega, by omega⟩)
      have hB : A i = .zero := by
        simp only [l2, List.cons.injEq, and_true] at h2
        exact Cx.ext (Fin.ext h2.1) (Fin.ext h2.2)
      have e : routs A B (i + 1) = routs A B i := rrow_zero hB _ 6
      rw [e]
      rfl
    · refine d_while (fun k : Nat => [.int .i64 (k : Int), .lst (LC (gl11 (gv (rrow A B i k (routs A B i)))))]) (fun k => k ≤ 6) (fun k => 6 - k) 0 (Nat.zero_le _) rfl ?_
      intro k hk
      refine d_op ev_lss (d_if rfl (fun h3 => ?_) (fun h3 => ?_))
      · have hk6 : k < 6 := by omega
        obtain ⟨j, ej⟩ : ∃ j, j = i + k := ⟨_, rfl⟩
        have hj : j < 11 := by omega
        have ejz : (i : Int) + (k : Int) = (j : Int) := by omega
        obtain ⟨G, eG⟩ : ∃ G, G = rrow A B i k (routs A B i) := ⟨_, rfl⟩
        have hn : rrow A B i (k + 1) (routs A B i) = fun q => if q = j then G j + A i * B k else G q := by rw [eG, ej]; rfl
        have hnext : LC (gl11 (gset (gv G) j ((G j + A i * B k).re.val, (G j + A i * B k).im.val))) = LC (gl11 (gv (rrow A B i (k + 1) (routs A B i)))) := by rw [gset_gv, hn]
        rw [← eG]
        refine d_op (ev_add (by constructor <;> omega)) (d_op (ev_add (by constructor <;> omega)) ?_)
        refine d_op (ev_chki (n := 11) (by omega) (by omega) rfl) (d_op (ev_ofs (n := j) (o := 0) rfl ejz) (d_op (v := w2 (G j)) (ev_get11 rfl hj) ?_))
        refine d_op (ev_chki (n := 6) (by omega) (by omega) rfl) (d_op (ev_ofs (n := i) (o := 0) rfl rfl) (d_op (gg rfl hi6) ?_))
        refine d_op (ev_chki (n := 6) (by omega) (by omega) rfl) (d_op (ev_ofs (n := k) (o := 0) rfl rfl) (d_op (gh rfl hk6) ?_))
        refine d_op (v := RT) rfl (d_call (m (A i) (B k)) (fun h => by cases h) (d_op (v := RT) rfl (d_call (d (G j) (A i * B k)) (fun h => by cases h) ?_)))
        refine d_op (ev_chki (n := 11) (by omega) (by omega) rfl) (d_op (ev_ofs (n := j) (o := 0) rfl ejz) (d_expl (N := 8) (i := 126) rfl rfl rfl rfl ?_))
        refine d_op (ev_set11 (g := gv G) (j := j) (u := (G j + A i * B k).re.val) (v := (G j + A i * B k).im.val) rfl hj) ?_
        rw [hnext]
        exact d_op (ev_add (by constructor <;> omega)) (d_back rfl ⟨k + 1, rfl, by omega, by omega⟩)
      · have : k = 6 := by omega
        subst this
        exact d_op (ev_add (by constructor <;> omega)) (d_back rfl ⟨i + 1, rfl, by omega, by omega⟩)
  · have : i = 6 := by omega
    subst this
    obtain ⟨S, eS⟩ : ∃ S, S = routs A B 6 := ⟨_, rfl⟩
    rw [← eS]
    obtain ⟨ls, els⟩ : ∃ l, l = LC (gl11 (gv S)) := ⟨_, rfl⟩
    have gs : ∀ {j : Nat} {z : Int}, z = ((0 + j * 8 : Nat) : Int) → j < 11 → evalO (.lget true 8) [.lst ls, .int .i64 z] = some (w2 (S j)) := by rw [els]; exact fun hz h => ev_get11 hz h
    rw [← els]
    clear els eS
    refine d_while (fun i : Nat => [.int .i64 (i : Int), .lst (LC (gl (gv (fo S i))))]) (fun i => i ≤ 6) (fun i => 6 - i) 0 (Nat.zero_le _) (by rw [show fo S 0 = fun _ => Cx.zero from rfl, zeros48]; rfl) ?_
    intro i hi
    refine d_op ev_lss (d_if rfl (fun h1 => ?_) (fun h1 => ?_))
    · have hi6 : i < 6 := by omega
      refine d_op (ev_chki (n := 11) (by omega) (by omega) rfl) (d_op (ev_ofs (n := i) (o := 0) rfl rfl) (d_op (gs rfl (by omega)) ?_))
      refine d_op (ev_chki (n := 6) (by omega) (by omega) rfl) (d_op (ev_ofs (n := i) (o := 0) rfl rfl) (d_expl (N := 8) (i := 110) rfl rfl rfl rfl ?_))
      refine d_op (ev_set6 (g := gv (fo S i)) (j := i) (u := (S i).re.val) (v := (S i).im.val) rfl hi6) (d_op ev_lss (d_if rfl (fun h2 => ?_) (fun h2 => ?_)))
      · have hi5 : i < 5 := by omega
        have hat : WW (gset (gv (fo S i)) i ((S i).re.val, (S i).im.val) i).1 (gset (gv (fo S i)) i ((S i).re.val, (S i).im.val) i).2 = w2 (S i) := by rw [gset_at]; rfl
        have hget := ev_get6 (g := gset (gv (fo S i)) i ((S i).re.val, (S i).im.val)) (j := i) rfl hi6
        rw [hat] at hget
        have hnext : LC (gl (gset (gset (gv (fo S i)) i ((S i).re.val, (S i).im.val)) i ((S i + S (6 + i) * xi).re.val, (S i + S (6 + i) * xi).im.val))) = LC (gl (gv (fo S (i + 1)))) := by
          rw [gset_two, gset_gv, ← fo_step]
          have : rfin S i = S i + S (6 + i) * xi := by unfold rfin; rw [if_pos hi5]
          rw [this]
        refine d_op (ev_chki (n := 6) (by omega) (by omega) rfl) (d_op (ev_ofs (n := i) (o := 0) rfl rfl) (d_op hget (d_op (ev_add (by constructor <;> omega)) ?_)))
        refine d_op (ev_chki (n := 11) (by omega) (by omega) rfl) (d_op (ev_ofs (n := 6 + i) (o := 0) rfl (by omega)) (d_op (gs rfl (by omega)) ?_))
        refine d_op (v := RT) rfl (d_call (mx (S (6 + i))) (fun h => by cases h) (d_op (v := RT) rfl (d_call (d (S i) (S (6 + i) * xi)) (fun h => by cases h) ?_)))
        refine d_op (ev_chki (n := 6) (by omega) (by omega) rfl) (d_op (ev_ofs (n := i) (o := 0) rfl rfl) (d_expl (N := 8) (i := 133) rfl rfl rfl rfl ?_))
        refine d_op (ev_set6 (g := gset (gv (fo S i)) i ((S i).re.val, (S i).im.val)) (j := i) (u := (S i + S (6 + i) * xi).re.val) (v := (S i + S (6 + i) * xi).im.val) rfl hi6) ?_
        rw [hnext]
        exact d_op (ev_add (by constructor <;> omega)) (d_back rfl ⟨i + 1, rfl, by omega, by omega⟩)
      · have hnext : LC (gl (gset (gv (fo S i)) i ((S i).re.val, (S i).im.val))) = LC (gl (gv (fo S (i + 1)))) := by
          rw [gset_gv, ← fo_step]
          have : rfin S i = S i := by unfold rfin; rw [if_neg (by omega)]
          rw [this]
        rw [hnext]
        exact d_op (ev_add (by constructor <;> omega)) (d_back rfl ⟨i + 1, rfl, by omega, by omega⟩)
    · have : i = 6 := by omega
      subst this
      refine d_op (v := w6 (s6 (fo S 6))) rfl (d_expl (N := 48) (i := 108) rfl rfl rfl rfl ?_)
      exact d_refold 109 48 (v := w6 (s6 (fo S 6))) rfl rfl rfl rfl rfl rfl (d_ret rfl)
def t_radd12 (radd : FuncId) : T :=
 .node (.op (.cell 1 0) [.v 0]) <|
 .node (.op (.cell 48 0) [.v 1]) <|
 .node (.op (.cell 48 1) [.v 1]) <|
 .node (.op (.cell 48 2) [.v 1]) <|
 .node (.op (.cell 48 3) [.v 1]) <|
 .node (.op (.cell 48 4) [.v 1]) <|
 .node (.op (.cell 48 5) [.v 1]) <|
 .node (.op (.cell 48 6) [.v 1]) <|
 .node (.op (.cell 48 7) [.v 1]) <|
 .node (.op (.cell 48 8) [.v 1]) <|
 .node (.op (.cell 48 9) [.v 1]) <|
 .node (.op (.cell 48 10) [.v 1]) <|
 .node (.op (.cell 48 11) [.v 1]) <|
 .node (.op (.cell 48 12) [.v 1]) <|
 .node (.op (.cell 48 13) [.v 1]) <|
 .node (.op (.cell 48 14) [.v 1]) <|
 .node (.op (.cell 48 15) [.v 1]) <|
 .node (.op (.cell 48 16) [.v 1]) <|
 .node (.op (.cell 48 17) [.v 1]) <|
 .node (.op (.cell 48 18) [.v 1]) <|
 .node (.op (.cell 48 19) [.v 1]) <|
 .node (.op (.cell 48 20) [.v 1]) <|
 .node (.op (.cell 48 21) [.v 1]) <|
 .node (.op (.cell 48 22) [.v 1]) <|
 .node (.op (.cell 48 23) [.v 1]) <|
 .node (.op (.cell 48 24) [.v 1]) <|
 .node (.op (.cell 48 25) [.v 1]) <|
 .node (.op (.cell 48 26) [.v 1]) <|
 .node (.op (.cell 48 27) [.v 1]) <|
 .node (.op (.cell 48 28) [.v 1]) <|
 .node (.op (.cell 48 29) [.v 1]) <|
 .node (.op (.cell 48 30) [.v 1]) <|
 .node (.op (.cell 48 31) [.v 1]) <|
 .node (.op (.cell 48 32) [.v 1]) <|
 .node (.op (.cell 48 33) [.v 1]) <|
 .node (.op (.cell 48 34) [.v 1]) <|
 .node (.op (.cell 48 35) [.v 1]) <|
 .node (.op (.cell 48 36) [.v 1]) <|
 .node (.op (.cell 48 37) [.v 1]) <|
 .node (.op (.cell 48 38) [.v 1]) <|
 .node (.op (.cell 48 39) [.v 1]) <|
 .node (.op (.cell 48 40) [.v 1]) <|
 .node (.op (.cell 48 41) [.v 1]) <|
 .node (.op (.cell 48 42) [.v 1]) <|
 .node (.op (.cell 48 43) [.v 1]) <|
 .node (.op (.cell 48 44) [.v 1]) <|
 .node (.op (.cell 48 45) [.v 1]) <|
 .node (.op (.cell 48 46) [.v 1]) <|
 .node (.op (.cell 48 47) [.v 1]) <|
 .node (.op (.cell 48 0) [.v 2]) <|
 .node (.op (.cell 48 1) [.v 2]) <|
 .node (.op (.cell 48 2) [.v 2]) <|
 .node (.op (.cell 48 3) [.v 2]) <|
 .node (.op (.cell 48 4) [.v 2]) <|
 .node (.op (.cell 48 5) [.v 2]) <|
 .node (.op (.cell 48 6) [.v 2]) <|
 .node (.op (.cell 48 7) [.v 2]) <|
 .node (.op (.cell 48 8) [.v 2]) <|
 .node (.op (.cell 48 9) [.v 2]) <|
 .node (.op (.cell 48 10) [.v 2]) <|
 .node (.op (.cell 48 11) [.v 2]) <|
 .node (.op (.cell 48 12) [.v 2]) <|
 .node (.op (.cell 48 13) [.v 2]) <|
 .node (.op (.cell 48 14) [.v 2]) <|
 .node (.op (.cell 48 15) [.v 2]) <|
 .node (.op (.cell 48 16) [.v 2]) <|
 .node (.op (.cell 48 17) [.v 2]) <|
 .node (.op (.cell 48 18) [.v 2]) <|
 .node (.op (.cell 48 19) [.v 2]) <|
 .node (.op (.cell 48 20) [.v 2]) <|
 .node (.op (.cell 48 21) [.v 2]) <|
 .node (.op (.cell 48 22) [.v 2]) <|
 .node (.op (.cell 48 23) [.v 2]) <|
 .node (.op (.cell 48 24) [.v 2]) <|
 .node (.op (.cell 48 25) [.v 2]) <|
 .node (.op (.cell 48 26) [.v 2]) <|
 .node (.op (.cell 48 27) [.v 2]) <|
 .node (.op (.cell 48 28) [.v 2]) <|
 .node (.op (.cell 48 29) [.v 2]) <|
 .node (.op (.cell 48 30) [.v 2]) <|
 .node (.op (.cell 48 31) [.v 2]) <|
 .node (.op (.cell 48 32) [.v 2]) <|
 .node (.op (.cell 48 33) [.v 2]) <|
 .node (.op (.cell 48 34) [.v 2]) <|
 .node (.op (.cell 48 35) [.v 2]) <|
 .node (.op (.cell 48 36) [.v 2]) <|
 .node (.op (.cell 48 37) [.v 2]) <|
 .node (.op (.cell 48 38) [.v 2]) <|
 .node (.op (.cell 48 39) [.v 2]) <|
 .node (.op (.cell 48 40) [.v 2]) <|
 .node (.op (.cell 48 41) [.v 2]) <|
 .node (.op (.cell 48 42) [.v 2]) <|
 .node (.op (.cell 48 43) [.v 2]) <|
 .node (.op (.cell 48 44) [.v 2]) <|
 .node (.op (.cell 48 45) [.v 2]) <|
 .node (.op (.cell 48 46) [.v 2]) <|
 .node (.op (.cell 48 47) [.v 2]) <|
 .node (.op .mkagg [.v 3]) <|
 .node (.op .mkagg [.v 4, .v 5, .v 6, .v 7, .v 8, .v 9, .v 10, .v 11]) <|
 .node (.op .mkagg [.v 52, .v 53, .v 54, .v 55, .v 56, .v 57, .v 58, .v 59]) <|
 .node (.call radd [.v 100, .v 101, .v 102] false) <|
 .node (.op (.cell 8 0) [.v 103]) <|
 .node (.op (.cell 8 1) [.v 103]) <|
 .node (.op (.cell 8 2) [.v 103]) <|
 .node (.op (.cell 8 3) [.v 103]) <|
 .node (.op (.cell 8 4) [.v 103]) <|
 .node (.op (.cell 8 5) [.v 103]) <|
 .node (.op (.cell 8 6) [.v 103]) <|
 .node (.op (.cell 8 7) [.v 103]) <|
 .node (.op .mkagg [.v 3]) <|
 .node (.op .mkagg [.v 12, .v 13, .v 14, .v 15, .v 16, .v 17, .v 18, .v 19]) <|
 .node (.op .mkagg [.v 60, .v 61, .v 62, .v 63, .v 64, .v 65, .v 66, .v 67]) <|
 .node (.call radd [.v 112, .v 113, .v 114] false) <|
 .node (.op (.cell 8 0) [.v 115]) <|
 .node (.op (.cell 8 1) [.v 115]) <|
 .node (.op (.cell 8 2) [.v 115]) <|
 .node (.op (.cell 8 3) [.v 115]) <|
 .node (.op (.cell 8 4) [.v 115]) <|
 .node (.op (.cell 8 5) [.v 115]) <|
 .node (.op (.cell 8 6) [.v 115]) <|
 .node (.op (.cell 8 7) [.v 115]) <|
 .node (.op .mkagg [.v 3]) <|
 .node (.op .mkagg [.v 20, .v 21, .v 22, .v 23, .v 24, .v 25, .v 26, .v 27]) <|
 .node (.op .mkagg [.v 68, .v 69, .v 70, .v 71, .v 72, .v 73, .v 74, .v 75]) <|
 .node (.call radd [.v 124, .v 125, .v 126] false) <|
 .node (.op (.cell 8 0) [.v 127]) <|
 .node (.op (.cell 8 1) [.v 127]) <|
 .node (.op (.cell 8 2) [.v 127]) <|
 .node (.op (.cell 8 3) [.v 127]) <|
 .node (.op (.cell 8 4) [.v 127]) <|
 .node (.op (.cell 8 5) [.v 127]) <|
 .node (.op (.cell 8 6) [.v 127]) <|
 .node (.op (.cell 8 7) [.v 127]) <|
 .node (.op .mkagg [.v 3]) <|
 .node (.op .mkagg [.v 28, .v 29, .v 30, .v 31, .v 32, .v 33, .v 34, .v 35]) <|
 .node (.op .mkagg [.v 76, .v 77, .v 78, .v 79, .v 80, .v 81, .v 82, .v 83]) <|
 .node (.call radd [.v 136, .v 137, .v 138] false) <|
 .node (.op (.cell 8 0) [.v 139]) <|
 .node (.op (.cell 8 1) [.v 139]) <|
 .node (.op (.cell 8 2) [.v 139]) <|
 .node (.op (.cell 8 3) [.v 139]) <|
 .node (.op (.cell 8 4) [.v 139]) <|
 .node (.op (.cell 8 5) [.v 139]) <|
 .node (.op (.cell 8 6) [.v 139]) <|
 .node (.op (.cell 8 7) [.v 139]) <|
 .node (.op .mkagg [.v 3]) <|
 .node (.op .mkagg [.v 36, .v 37, .v 38, .v 39, .v 40, .v 41, .v 42, .v 43]) <|
 .node (.op .mkagg [.v 84, .v 85, .v 86, .v 87, .v 88, .v 89, .v 90, .v 91]) <|
 .node (.call radd [.v 148, .v 149, .v 150] false) <|
 .node (.op (.cell 8 0) [.v 151]) <|
 .node (.op (.cell 8 1) [.v 151]) <|
 .node (.op (.cell 8 2) [.v 151]) <|
 .node (.op (.cell 8 3) [.v 151]) <|
 .node (.op (.cell 8 4) [.v 151]) <|
 .node (.op (.cell 8 5) [.v 151]) <|
 .node (.op (.cell 8 6) [.v 151]) <|
 .node (.op (.cell 8 7) [.v 151]) <|
 .node (.op .mkagg [.v 3]) <|
 .node (.op .mkagg [.v 44, .v 45, .v 46, .v 47, .v 48, .v 49, .v 50, .v 51]) <|
 .node (.op .mkagg [.v 92, .v 93, .v 94, .v 95, .v 96, .v 97, .v 98, .v 99]) <|
 .node (.call radd [.v 160, .v 161, .v 162] false) <|
 .node (.op (.cell 8 0) [.v 163]) <|
 .node (.op (.cell 8 1) [.v 163]) <|
 .node (.op (.cell 8 2) [.v 163]) <|
 .node (.op (.cell 8 3) [.v 163]) <|
 .node (.op (.cell 8 4) [.v 163]) <|
 .node (.op (.cell 8 5) [.v 163]) <|
 .node (.op (.cell 8 6) [.v 163]) <|
 .node (.op (.cell 8 7) [.v 163]) <|
 .node (.op .mkagg [.v 104, .v 105, .v 106, .v 107, .v 108, .v 109, .v 110, .v 111, .v 116, .v 117, .v 118, .v 119, .v 120, .v 121, .v 122, .v 123, .v 128, .v 129, .v 130, .v 131, .v 132, .v 133, .v 134, .v 135, .v 140, .v 141, .v 142, .v 143, .v 144, .v 145, .v 146, .v 147, .v 152, .v 153, .v 154, .v 155, .v 156, .v 157, .v 158, .v 159, .v 164, .v 165, .v 166, .v 167, .v 168, .v 169, .v 170, .v 171]) <|
 .ret (.v 172)
theorem radd12_den {radd : FuncId} (ha : RT2 P radd (· + ·)) {a b : Six pBase} : D P (fun e => e = .ret (w6 (Six.add a b))) [] 3 [w6 b, w6 a, RT] (t_radd12 radd) := by
  have d : ∀ p q : Cx pBase, Ct P radd [RT, w2 p, w2 q] (fun e => e = .ret (w2 (p + q))) := ha
  refine d_op (v := rB) rfl (d_expl (N := 48) (i := 1) rfl rfl rfl rfl (d_expl (N := 48) (i := 2) rfl rfl rfl rfl ?_))
  refine d_op (v := RT) rfl (d_op (v := w2 a.c0) rfl (d_op (v := w2 b.c0) rfl (d_call (d a.c0 b.c0) (fun h => by cases h) (d_expl (N := 8) (i := 103) rfl rfl rfl rfl ?_))))
  refine d_op (v := RT) rfl (d_op (v := w2 a.c1) rfl (d_op (v := w2 b.c1) rfl (d_call (d a.c1 b.c1) (fun h => by cases h) (d_expl (N := 8) (i := 115) rfl rfl rfl rfl ?_))))
  refine d_op (v := RT) rfl (d_op (v := w2 a.c2) rfl (d_op (v := w2 b.c2) rfl (d_call (d a.c2 b.c2) (fun h => by cases h) (d_expl (N := 8) (i := 127) rfl rfl rfl rfl ?_))))
  refine d_op (v := RT) rfl (d_op (v := w2 a.c3) rfl (d_op (v := w2 b.c3) rfl (d_call (d a.c3 b.c3) (fun h => by cases h) (d_expl (N := 8) (i := 139) rfl rfl rfl rfl ?_))))
  refine d_op (v := RT) rfl (d_op (v := w2 a.c4) rfl (d_op (v := w2 b.c4) rfl (d_call (d a.c4 b.c4) (fun h => by cases h) (d_expl (N := 8) (i := 151) rfl rfl rfl rfl ?_))))
  refine d_op (v := RT) rfl (d_op (v := w2 a.c5) rfl (d_op (v := w2 b.c5) rfl (d_call (d a.c5 b.c5) (fun h => by cases h) (d_expl (N := 8) (i := 163) rfl rfl rfl rfl ?_))))
  exact d_op (v := w6 (Six.add a b)) rfl (d_ret rfl)
end Go.SE
