/- Nothing of the statement is proved here: this text lays generic laws: TE; no conditions. -/
import Derived.Test.YtomjfjncfodmhaaTD
set_option linter.all false
set_option autoImplicit false
set_option maxRecDepth 20000
set_option maxHeartbeats 8000000
set_option exponentiation.threshold 5000
namespace Go.SE
open Go
variable {P : Program} {R : AEnd → Prop}
def u6 (s : Six pBase) : Nat → Cx pBase
  | 0 => s.c0 | 1 => s.c1 | 2 => s.c2 | 3 => s.c3 | 4 => s.c4 | _ => s.c5
def w6 (s : Six pBase) : AV := W6 (gv (u6 s))
def r6 (g : Nat → Nat × Nat) : Six pBase := s6 (cg g)
theorem W6_s6 (G : Nat → Cx pBase) : W6 (gv G) = w6 (s6 G) := rfl
def S12C (P : Program) (f : FuncId) (s : Six pBase → Six pBase → Six pBase) : Prop := ∀ g h, Wok g → Wok h → Ct P f [W6 g, W6 h] (fun e => e = .ret (w6 (s (r6 g) (r6 h))))
def k48 : List CK := List.replicate 48 (.int .u64)
theorem ev_eq6 {s t : Six pBase} : evalO (.eqv false k48) [w6 s, w6 t] = some (.bool (decide (gl (gv (u6 s)) = gl (gv (u6 t))))) :=
  ev_eqw (gl_lt (gv_ok _)) (gl_lt (gv_ok _)) rfl rfl
def t_Mul12 (tof mul12 : FuncId) : T :=
 .node (.op (.cell 48 0) [.v 0]) <|
 .node (.op (.cell 48 1) [.v 0]) <|
 .node (.op (.cell 48 2) [.v 0]) <|
 .node (.op (.cell 48 3) [.v 0]) <|
 .node (.op (.cell 48 4) [.v 0]) <|
 .node (.op (.cell 48 5) [.v 0]) <|
 .node (.op (.cell 48 6) [.v 0]) <|
 .node (.op (.cell 48 7) [.v 0]) <|
 .node (.op (.cell 48 8) [.v 0]) <|
 .node (.op (.cell 48 9) [.v 0]) <|
 .node (.op (.cell 48 10) [.v 0]) <|
 .node (.op (.cell 48 11) [.v 0]) <|
 .node (.op (.cell 48 12) [.v 0]) <|
 .node (.op (.cell 48 13) [.v 0]) <|
 .node (.op (.cell 48 14) [.v 0]) <|
 .node (.op (.cell 48 15) [.v 0]) <|
 .node (.op (.cell 48 16) [.v 0]) <|
 .node (.op (.cell 48 17) [.v 0]) <|
 .node (.op (.cell 48 18) [.v 0]) <|
 .node (.op (.cell 48 19) [.v 0]) <|
 .node (.op (.cell 48 20) [.v 0]) <|
 .node (.op (.cell 48 21) [.v 0]) <|
 .node (.op (.cell 48 22) [.v 0]) <|
 .node (.op (.cell 48 23) [.v 0]) <|
 .node (.op (.cell 48 24) [.v 0]) <|
 .node (.op (.cell 48 25) [.v 0]) <|
 .node (.op (.cell 48 26) [.v 0]) <|
 .node (.op (.cell 48 27) [.v 0]) <|
 .node (.op (.cell 48 28) [.v 0]) <|
 .node (.op (.cell 48 29) [.v 0]) <|
 .node (.op (.cell 48 30) [.v 0]) <|
 .node (.op (.cell 48 31) [.v 0]) <|
 .node (.op (.cell 48 32) [.v 0]) <|
 .node (.op (.cell 48 33) [.v 0]) <|
 .node (.op (.cell 48 34) [.v 0]) <|
 .node (.op (.cell 48 35) [.v 0]) <|
 .node (.op (.cell 48 36) [.v 0]) <|
 .node (.op (.cell 48 37) [.v 0]) <|
 .node (.op (.cell 48 38) [.v 0]) <|
 .node (.op (.cell 48 39) [.v 0]) <|
 .node (.op (.cell 48 40) [.v 0]) <|
 .node (.op (.cell 48 41) [.v 0]) <|
 .node (.op (.cell 48 42) [.v 0]) <|
 .node (.op (.cell 48 43) [.v 0]) <|
 .node (.op (.cell 48 44) [.v 0]) <|
 .node (.op (.cell 48 45) [.v 0]) <|
 .node (.op (.cell 48 46) [.v 0]) <|
 .node (.op (.cell 48 47) [.v 0]) <|
 .node (.op (.cell 48 0) [.v 1]) <|
 .node (.op (.cell 48 1) [.v 1]) <|
 .node (.op (.cell 48 2) [.v 1]) <|
 .node (.op (.cell 48 3) [.v 1]) <|
 .node (.op (.cell 48 4) [.v 1]) <|
 .node (.op (.cell 48 5) [.v 1]) <|
 .node (.op (.cell 48 6) [.v 1]) <|
 .node (.op (.cell 48 7) [.v 1]) <|
 .node (.op (.cell 48 8) [.v 1]) <|
 .node (.op (.cell 48 9) [.v 1]) <|
 .node (.op (.cell 48 10) [.v 1]) <|
 .node (.op (.cell 48 11) [.v 1]) <|
 .node (.op (.cell 48 12) [.v 1]) <|
 .node (.op (.cell 48 13) [.v 1]) <|
 .node (.op (.cell 48 14) [.v 1]) <|
 .node (.op (.cell 48 15) [.v 1]) <|
 .node (.op (.cell 48 16) [.v 1]) <|
 .node (.op (.cell 48 17) [.v 1]) <|
 .node (.op (.cell 48 18) [.v 1]) <|
 .node (.op (.cell 48 19) [.v 1]) <|
 .node (.op (.cell 48 20) [.v 1]) <|
 .node (.op (.cell 48 21) [.v 1]) <|
 .node (.op (.cell 48 22) [.v 1]) <|
 .node (.op (.cell 48 23) [.v 1]) <|
 .node (.op (.cell 48 24) [.v 1]) <|
 .node (.op (.cell 48 25) [.v 1]) <|
 .node (.op (.cell 48 26) [.v 1]) <|
 .node (.op (.cell 48 27) [.v 1]) <|
 .node (.op (.cell 48 28) [.v 1]) <|
 .node (.op (.cell 48 29) [.v 1]) <|
 .node (.op (.cell 48 30) [.v 1]) <|
 .node (.op (.cell 48 31) [.v 1]) <|
 .node (.op (.cell 48 32) [.v 1]) <|
 .node (.op (.cell 48 33) [.v 1]) <|
 .node (.op (.cell 48 34) [.v 1]) <|
 .node (.op (.cell 48 35) [.v 1]) <|
 .node (.op (.cell 48 36) [.v 1]) <|
 .node (.op (.cell 48 37) [.v 1]) <|
 .node (.op (.cell 48 38) [.v 1]) <|
 .node (.op (.cell 48 39) [.v 1]) <|
 .node (.op (.cell 48 40) [.v 1]) <|
 .node (.op (.cell 48 41) [.v 1]) <|
 .node (.op (.cell 48 42) [.v 1]) <|
 .node (.op (.cell 48 43) [.v 1]) <|
 .node (.op (.cell 48 44) [.v 1]) <|
 .node (.op (.cell 48 45) [.v 1]) <|
 .node (.op (.cell 48 46) [.v 1]) <|
 .node (.op (.cell 48 47) [.v 1]) <|
 .node (.call tof [] false) <|
 .node (.op .mkagg [.v 2, .v 3, .v 4, .v 5, .v 6, .v 7, .v 8, .v 9, .v 10, .v 11, .v 12, .v 13, .v 14, .v 15, .v 16, .v 17, .v 18, .v 19, .v 20, .v 21, .v 22, .v 23, .v 24, .v 25, .v 26, .v 27, .v 28, .v 29, .v 30, .v 31, .v 32, .v 33, .v 34, .v 35, .v 36, .v 37, .v 38, .v 39, .v 40, .v 41, .v 42, .v 43, .v 44, .v 45, .v 46, .v 47, .v 48, .v 49]) <|
 .node (.op .mkagg [.v 50, .v 51, .v 52, .v 53, .v 54, .v 55, .v 56, .v 57, .v 58, .v 59, .v 60, .v 61, .v 62, .v 63, .v 64, .v 65, .v 66, .v 67, .v 68, .v 69, .v 70, .v 71, .v 72, .v 73, .v 74, .v 75, .v 76, .v 77, .v 78, .v 79, .v 80, .v 81, .v 82, .v 83, .v 84, .v 85, .v 86, .v 87, .v 88, .v 89, .v 90, .v 91, .v 92, .v 93, .v 94, .v 95, .v 96, .v 97]) <|
 .node (.call mul12 [.v 98, .v 99, .v 100] false) <|
 .node (.op (.cell 48 0) [.v 101]) <|
 .node (.op (.cell 48 1) [.v 101]) <|
 .node (.op (.cell 48 2) [.v 101]) <|
 .node (.op (.cell 48 3) [.v 101]) <|
 .node (.op (.cell 48 4) [.v 101]) <|
 .node (.op (.cell 48 5) [.v 101]) <|
 .node (.op (.cell 48 6) [.v 101]) <|
 .node (.op (.cell 48 7) [.v 101]) <|
 .node (.op (.cell 48 8) [.v 101]) <|
 .node (.op (.cell 48 9) [.v 101]) <|
 .node (.op (.cell 48 10) [.v 101]) <|
 .node (.op (.cell 48 11) [.v 101]) <|
 .node (.op (.cell 48 12) [.v 101]) <|
 .node (.op (.cell 48 13) [.v 101]) <|
 .node (.op (.cell 48 14) [.v 101]) <|
 .node (.op (.cell 48 15) [.v 101]) <|
 .node (.op (.cell 48 16) [.v 101]) <|
 .node (.op (.cell 48 17) [.v 101]) <|
 .node (.op (.cell 48 18) [.v 101]) <|
 .node (.op (.cell 48 19) [.v 101]) <|
 .node (.op (.cell 48 20) [.v 101]) <|
 .node (.op (.cell 48 21) [.v 101]) <|
 .node (.op (.cell 48 22) [.v 101]) <|
 .node (.op (.cell 48 23) [.v 101]) <|
 .node (.op (.cell 48 24) [.v 101]) <|
 .node (.op (.cell 48 25) [.v 101]) <|
 .node (.op (.cell 48 26) [.v 101]) <|
 .node (.op (.cell 48 27) [.v 101]) <|
 .node (.op (.cell 48 28) [.v 101]) <|
 .node (.op (.cell 48 29) [.v 101]) <|
 .node (.op (.cell 48 30) [.v 101]) <|
 .node (.op (.cell 48 31) [.v 101]) <|
 .node (.op (.cell 48 32) [.v 101]) <|
 .node (.op (.cell 48 33) [.v 101]) <|
 .node (.op (.cell 48 34) [.v 101]) <|
 .node (.op (.cell 48 35) [.v 101]) <|
 .node (.op (.cell 48 36) [.v 101]) <|
 .node (.op (.cell 48 37) [.v 101]) <|
 .node (.op (.cell 48 38) [.v 101]) <|
 .node (.op (.cell 48 39) [.v 101]) <|
 .node (.op (.cell 48 40) [.v 101]) <|
 .node (.op (.cell 48 41) [.v 101]) <|
 .node (.op (.cell 48 42) [.v 101]) <|
 .node (.op (.cell 48 43) [.v 101]) <|
 .node (.op (.cell 48 44) [.v 101]) <|
 .node (.op (.cell 48 45) [.v 101]) <|
 .node (.op (.cell 48 46) [.v 101]) <|
 .node (.op (.cell 48 47) [.v 101]) <|
 .node (.op .mkagg [.v 102, .v 103, .v 104, .v 105, .v 106, .v 107, .v 108, .v 109, .v 110, .v 111, .v 112, .v 113, .v 114, .v 115, .v 116, .v 117, .v 118, .v 119, .v 120, .v 121, .v 122, .v 123, .v 124, .v 125, .v 126, .v 127, .v 128, .v 129, .v 130, .v 131, .v 132, .v 133, .v 134, .v 135, .v 136, .v 137, .v 138, .v 139, .v 140, .v 141, .v 142, .v 143, .v 144, .v 145, .v 146, .v 147, .v 148, .v 149]) <|
 .ret (.v 150)
theorem Mul12_den {tof mul12 : FuncId} (ht : Ct P tof [] (fun e => e = .ret TT)) (hm : M12C P mul12) {g h : Nat → Nat × Nat} (hg : Wok g) (hh : Wok h) :
    D P (fun e => e = .ret (w6 (Six.mul xi (r6 g) (r6 h)))) [] 2 [W6 h, W6 g] (t_Mul12 tof mul12) := by
  have c := hm g h hg hh
  rw [W6_s6, outs_mul] at c
  obtain ⟨o, eo⟩ : ∃ o, o = Six.mul xi (r6 g) (r6 h) := ⟨_, rfl⟩
  have c' : Ct P mul12 [TT, W6 g, W6 h] (fun e => e = .ret (w6 o)) := by rw [eo]; exact c
  rw [← eo]
  clear c eo
  refine d_expl (N := 48) (i := 0) rfl rfl rfl rfl (d_expl (N := 48) (i := 1) rfl rfl rfl rfl ?_)
  refine d_call ht (fun h => by cases h) (d_refold 2 48 (v := W6 g) rfl rfl rfl rfl rfl rfl (d_refold 50 48 (v := W6 h) rfl rfl rfl rfl rfl rfl (d_call c' (fun h => by cases h) (d_expl (N := 48) (i := 101) rfl rfl rfl rfl ?_))))
  exact d_refold 102 48 (v := w6 o) rfl rfl rfl rfl rfl rfl (d_ret rfl)
def t_Add12 (tof tadd : FuncId) : T :=
 .node (.op (.cell 48 0) [.v 0]) <|
 .node (.op (.cell 48 1) [.v 0]) <|
 .node (.op (.cell 48 2) [.v 0]) <|
 .node (.op (.cell 48 3) [.v 0]) <|
 .node (.op (.cell 48 4) [.v 0]) <|
 .node (.op (.cell 48 5) [.v 0]) <|
 .node (.op (.cell 48 6) [.v 0]) <|
 .node (.op (.cell 48 7) [.v 0]) <|
 .node (.op (.cell 48 8) [.v 0]) <|
 .node (.op (.cell 48 9) [.v 0]) <|
 .node (.op (.cell 48 10) [.v 0]) <|
 .node (.op (.cell 48 11) [.v 0]) <|
 .node (.op (.cell 48 12) [.v 0]) <|
 .node (.op (.cell 48 13) [.v 0]) <|
 .node (.op (.cell 48 14) [.v 0]) <|
 .node (.op (.cell 48 15) [.v 0]) <|
 .node (.op (.cell 48 16) [.v 0]) <|
 .node (.op (.cell 48 17) [.v 0]) <|
 .node (.op (.cell 48 18) [.v 0]) <|
 .node (.op (.cell 48 19) [.v 0]) <|
 .node (.op (.cell 48 20) [.v 0]) <|
 .node (.op (.cell 48 21) [.v 0]) <|
 .node (.op (.cell 48 22) [.v 0]) <|
 .node (.op (.cell 48 23) [.v 0]) <|
 .node (.op (.cell 48 24) [.v 0]) <|
 .node (.op (.cell 48 25) [.v 0]) <|
 .node (.op (.cell 48 26) [.v 0]) <|
 .node (.op (.cell 48 27) [.v 0]) <|
 .node (.op (.cell 48 28) [.v 0]) <|
 .node (.op (.cell 48 29) [.v 0]) <|
 .node (.op (.cell 48 30) [.v 0]) <|
 .node (.op (.cell 48 31) [.v 0]) <|
 .node (.op (.cell 48 32) [.v 0]) <|
 .node (.op (.cell 48 33) [.v 0]) <|
 .node (.op (.cell 48 34) [.v 0]) <|
 .node (.op (.cell 48 35) [.v 0]) <|
 .node (.op (.cell 48 36) [.v 0]) <|
 .node (.op (.cell 48 37) [.v 0]) <|
 .node (.op (.cell 48 38) [.v 0]) <|
 .node (.op (.cell 48 39) [.v 0]) <|
 .node (.op (.cell 48 40) [.v 0]) <|
 .node (.op (.cell 48 41) [.v 0]) <|
 .node (.op (.cell 48 42) [.v 0]) <|
 .node (.op (.cell 48 43) [.v 0]) <|
 .node (.op (.cell 48 44) [.v 0]) <|
 .node (.op (.cell 48 45) [.v 0]) <|
 .node (.op (.cell 48 46) [.v 0]) <|
 .node (.op (.cell 48 47) [.v 0]) <|
 .node (.op (.cell 48 0) [.v 1]) <|
 .node (.op (.cell 48 1) [.v 1]) <|
 .node (.op (.cell 48 2) [.v 1]) <|
 .node (.op (.cell 48 3) [.v 1]) <|
 .node (.op (.cell 48 4) [.v 1]) <|
 .node (.op (.cell 48 5) [.v 1]) <|
 .node (.op (.cell 48 6) [.v 1]) <|
 .node (.op (.cell 48 7) [.v 1]) <|
 .node (.op (.cell 48 8) [.v 1]) <|
 .node (.op (.cell 48 9) [.v 1]) <|
 .node (.op (.cell 48 10) [.v 1]) <|
 .node (.op (.cell 48 11) [.v 1]) <|
 .node (.op (.cell 48 12) [.v 1]) <|
 .node (.op (.cell 48 13) [.v 1]) <|
 .node (.op (.cell 48 14) [.v 1]) <|
 .node (.op (.cell 48 15) [.v 1]) <|
 .node (.op (.cell 48 16) [.v 1]) <|
 .node (.op (.cell 48 17) [.v 1]) <|
 .node (.op (.cell 48 18) [.v 1]) <|
 .node (.op (.cell 48 19) [.v 1]) <|
 .node (.op (.cell 48 20) [.v 1]) <|
 .node (.op (.cell 48 21) [.v 1]) <|
 .node (.op (.cell 48 22) [.v 1]) <|
 .node (.op (.cell 48 23) [.v 1]) <|
 .node (.op (.cell 48 24) [.v 1]) <|
 .node (.op (.cell 48 25) [.v 1]) <|
 .node (.op (.cell 48 26) [.v 1]) <|
 .node (.op (.cell 48 27) [.v 1]) <|
 .node (.op (.cell 48 28) [.v 1]) <|
 .node (.op (.cell 48 29) [.v 1]) <|
 .node (.op (.cell 48 30) [.v 1]) <|
 .node (.op (.cell 48 31) [.v 1]) <|
 .node (.op (.cell 48 32) [.v 1]) <|
 .node (.op (.cell 48 33) [.v 1]) <|
 .node (.op (.cell 48 34) [.v 1]) <|
 .node (.op (.cell 48 35) [.v 1]) <|
 .node (.op (.cell 48 36) [.v 1]) <|
 .node (.op (.cell 48 37) [.v 1]) <|
 .node (.op (.cell 48 38) [.v 1]) <|
 .node (.op (.cell 48 39) [.v 1]) <|
 .node (.op (.cell 48 40) [.v 1]) <|
 .node (.op (.cell 48 41) [.v 1]) <|
 .node (.op (.cell 48 42) [.v 1]) <|
 .node (.op (.cell 48 43) [.v 1]) <|
 .node (.op (.cell 48 44) [.v 1]) <|
 .node (.op (.cell 48 45) [.v 1]) <|
 .node (.op (.cell 48 46) [.v 1]) <|
 .node (.op (.cell 48 47) [.v 1]) <|
 .node (.call tof [] false) <|
 .node (.op (.cell 1 0) [.v 98]) <|
 .node (.op .mkagg [.v 99]) <|
 .node (.op .mkagg [.v 2, .v 3, .v 4, .v 5, .v 6, .v 7, .v 8, .v 9]) <|
 .node (.op .mkagg [.v 50, .v 51, .v 52, .v 53, .v 54, .v 55, .v 56, .v 57]) <|
 .node (.call tadd [.v 100, .v 101, .v 102] false) <|
 .node (.op (.cell 8 0) [.v 103]) <|
 .node (.op (.cell 8 1) [.v 103]) <|
 .node (.op (.cell 8 2) [.v 103]) <|
 .node (.op (.cell 8 3) [.v 103]) <|
 .node (.op (.cell 8 4) [.v 103]) <|
 .node (.op (.cell 8 5) [.v 103]) <|
 .node (.op (.cell 8 6) [.v 103]) <|
 .node (.op (.cell 8 7) [.v 103]) <|
 .node (.op .mkagg [.v 99]) <|
 .node (.op .mkagg [.v 10, .v 11, .v 12, .v 13, .v 14, .v 15, .v 16, .v 17]) <|
 .node (.op .mkagg [.v 58, .v 59, .v 60, .v 61, .v 62, .v 63, .v 64, .v 65]) <|
 .node (.call tadd [.v 112, .v 113, .v 114] false) <|
 .node (.op (.cell 8 0) [.v 115]) <|
 .node (.op (.cell 8 1) [.v 115]) <|
 .node (.op (.cell 8 2) [.v 115]) <|
 .node (.op (.cell 8 3) [.v 115]) <|
 .node (.op (.cell 8 4) [.v 115]) <|
 .node (.op (.cell 8 5) [.v 115]) <|
 .node (.op (.cell 8 6) [.v 115]) <|
 .node (.op (.cell 8 7) [.v 115]) <|
 .node (.op .mkagg [.v 99]) <|
 .node (.op .mkagg [.v 18, .v 19, .v 20, .v 21, .v 22, .v 23, .v 24, .v 25]) <|
 .node (.op .mkagg [.v 66, .v 67, .v 68, .v 69, .v 70, .v 71, .v 72, .v 73]) <|
 .node (.call tadd [.v 124, .v 125, .v 126] false) <|
 .node (.op (.cell 8 0) [.v 127]) <|
 .node (.op (.cell 8 1) [.v 127]) <|
 .node (.op (.cell 8 2) [.v 127]) <|
 .node (.op (.cell 8 3) [.v 127]) <|
 .node (.op (.cell 8 4) [.v 127]) <|
 .node (.op (.cell 8 5) [.v 127]) <|
 .node (.op (.cell 8 6) [.v 127]) <|
 .node (.op (.cell 8 7) [.v 127]) <|
 .node (.op .mkagg [.v 99]) <|
 .node (.op .mkagg [.v 26, .v 27, .v 28, .v 29, .v 30, .v 31, .v 32, .v 33]) <|
 .node (.op .mkagg [.v 74, .v 75, .v 76, .v 77, .v 78, .v 79, .v 80, .v 81]) <|
 .node (.call tadd [.v 136, .v 137, .v 138] false) <|
 .node (.op (.cell 8 0) [.v 139]) <|
 .node (.op (.cell 8 1) [.v 139]) <|
 .node (.op (.cell 8 2) [.v 139]) <|
 .node (.op (.cell 8 3) [.v 139]) <|
 .node (.op (.cell 8 4) [.v 139]) <|
 .node (.op (.cell 8 5) [.v 139]) <|
 .node (.op (.cell 8 6) [.v 139]) <|
 .node (.op (.cell 8 7) [.v 139]) <|
 .node (.op .mkagg [.v 99]) <|
 .node (.op .mkagg [.v 34, .v 35, .v 36, .v 37, .v 38, .v 39, .v 40, .v 41]) <|
 .node (.op .mkagg [.v 82, .v 83, .v 84, .v 85, .v 86, .v 87, .v 88, .v 89]) <|
 .node (.call tadd [.v 148, .v 149, .v 150] false) <|
 .node (.op (.cell 8 0) [.v 151]) <|
 .node (.op (.cell 8 1) [.v 151]) <|
 .node (.op (.cell 8 2) [.v 151]) <|
 .node (.op (.cell 8 3) [.v 151]) <|
 .node (.op (.cell 8 4) [.v 151]) <|
 .node (.op (.cell 8 5) [.v 151]) <|
 .node (.op (.cell 8 6) [.v 151]) <|
 .node (.op (.cell 8 7) [.v 151]) <|
 .node (.op .mkagg [.v 99]) <|
 .node (.op .mkagg [.v 42, .v 43, .v 44, .v 45, .v 46, .v 47, .v 48, .v 49]) <|
 .node (.op .mkagg [.v 90, .v 91, .v 92, .v 93, .v 94, .v 95, .v 96, .v 97]) <|
 .node (.call tadd [.v 160, .v 161, .v 162] false) <|
 .node (.op (.cell 8 0) [.v 163]) <|
 .node (.op (.cell 8 1) [.v 163]) <|
 .node (.op (.cell 8 2) [.v 163]) <|
 .node (.op (.cell 8 3) [.v 163]) <|
 .node (.op (.cell 8 4) [.v 163]) <|
 .node (.op (.cell 8 5) [.v 163]) <|
 .node (.op (.cell 8 6) [.v 163]) <|
 .node (.op (.cell 8 7) [.v 163]) <|
 .node (.op .mkagg [.v 104, .v 105, .v 106, .v 107, .v 108, .v 109, .v 110, .v 111, .v 116, .v 117, .v 118, .v 119, .v 120, .v 121, .v 122, .v 123, .v 128, .v 129, .v 130, .v 131, .v 132, .v 133, .v 134, .v 135, .v 140, .v 141, .v 142, .v 143, .v 144, .v 145, .v 146, .v 147, .v 152, .v 153, .v 154, .v 155, .v 156, .v 157, .v 158, .v 159, .v 164, .v 165, .v 166, .v 167, .v 168, .v 169, .v 170, .v 171]) <|
 .ret (.v 172)
theorem Add12_den {tof tadd : FuncId} (ht : Ct P tof [] (fun e => e = .ret TT)) (ha : T2C P tadd (· + ·)) {g h : Nat → Nat × Nat} (hg : Wok g) (hh : Wok h) :
    D P (fun e => e = .ret (w6 (Six.add (r6 g) (r6 h)))) [] 2 [W6 h, W6 g] (t_Add12 tof tadd) := by
  have c : ∀ j, Ct P tadd [TT, WW (g j).1 (g j).2, WW (h j).1 (h j).2] (fun e => e = .ret (w2 (cg g j + cg h j))) := fun j => ha _ _ _ _ (hg j).1 (hg j).2 (hh j).1 (hh j).2
  obtain ⟨G, eG⟩ : ∃ G : Nat → Cx pBase, G = fun j => cg g j + cg h j := ⟨_, rfl⟩
  have c' : ∀ j, Ct P tadd [TT, WW (g j).1 (g j).2, WW (h j).1 (h j).2] (fun e => e = .ret (w2 (G j))) := by rw [eG]; exact c
  have e : Six.add (r6 g) (r6 h) = s6 G := by rw [eG]; rfl
  rw [e]
  clear c e eG
  refine d_expl (N := 48) (i := 0) rfl rfl rfl rfl (d_expl (N := 48) (i := 1) rfl rfl rfl rfl ?_)
  refine d_call ht (fun h => by cases h) (d_op (v := fBase) rfl ?_)
  refine d_op (v := TT) rfl (d_op (v := WW (g 0).1 (g 0).2) rfl (d_op (v := WW (h 0).1 (h 0).2) rfl (d_call (c' 0) (fun h => by cases h) (d_expl (N := 8) (i := 103) rfl rfl rfl rfl ?_))))
  refine d_op (v := TT) rfl (d_op (v := WW (g 1).1 (g 1).2) rfl (d_op (v := WW (h 1).1 (h 1).2) rfl (d_call (c' 1) (fun h => by cases h) (d_expl (N := 8) (i := 115) rfl rfl rfl rfl ?_))))
  refine d_op (v := TT) rfl (d_op (v := WW (g 2).1 (g 2).2) rfl (d_op (v := WW (h 2).1 (h 2).2) rfl (d_call (c' 2) (fun h => by cases h) (d_expl (N := 8) (i := 127) rfl rfl rfl rfl ?_))))
  refine d_op (v := TT) rfl (d_op (v := WW (g 3).1 (g 3).2) rfl (d_op (v := WW (h 3).1 (h 3).2) rfl (d_call (c' 3) (fun h => by cases h) (d_expl (N := 8) (i := 139) rfl rfl rfl rfl ?_))))
  refine d_op (v := TT) rfl (d_op (v := WW (g 4).1 (g 4).2) rfl (d_op (v := WW (h 4).1 (h 4).2) rfl (d_call (c' 4) (fun h => by cases h) (d_expl (N := 8) (i := 151) rfl rfl rfl rfl ?_))))
  refine d_op (v := TT) rfl (d_op (v := WW (g 5).1 (g 5).2) rfl (d_op (v := WW (h 5).1 (h 5).2) rfl (d_call (c' 5) (fun h => by cases h) (d_expl (N := 8) (i := 163) rfl rfl rfl rfl ?_))))
  exact d_op (v := w6 (s6 G)) rfl (d_ret rfl)
def E2C (P : Program) (f : FuncId) (s : Cx pBase → Cx pBase → Cx pBase) : Prop := ∀ x y z w, x < W256 → y < W256 → z < W256 → w < W256 → Ct P f [WW x y, WW z w] (fun e => e = .ret (w2 (s (c2 x y) (c2 z w))))
def t_Mul2 (tof tmul : FuncId) : T :=
 .node (.op (.cell 8 0) [.v 0]) <|
 .node (.op (.cell 8 1) [.v 0]) <|
 .node (.op (.cell 8 2) [.v 0]) <|
 .node (.op (.cell 8 3) [.v 0]) <|
 .node (.op (.cell 8 4) [.v 0]) <|
 .node (.op (.cell 8 5) [.v 0]) <|
 .node (.op (.cell 8 6) [.v 0]) <|
 .node (.op (.cell 8 7) [.v 0]) <|
 .node (.op (.cell 8 0) [.v 1]) <|
 .node (.op (.cell 8 1) [.v 1]) <|
 .node (.op (.cell 8 2) [.v 1]) <|
 .node (.op (.cell 8 3) [.v 1]) <|
 .node (.op (.cell 8 4) [.v 1]) <|
 .node (.op (.cell 8 5) [.v 1]) <|
 .node (.op (.cell 8 6) [.v 1]) <|
 .node (.op (.cell 8 7) [.v 1]) <|
 .node (.call tof [] false) <|
 .node (.op .mkagg [.v 2, .v 3, .v 4, .v 5, .v 6, .v 7, .v 8, .v 9]) <|
 .node (.op .mkagg [.v 10, .v 11, .v 12, .v 13, .v 14, .v 15, .v 16, .v 17]) <|
 .node (.call tmul [.v 18, .v 19, .v 20] false) <|
 .node (.op (.cell 8 0) [.v 21]) <|
 .node (.op (.cell 8 1) [.v 21]) <|
 .node (.op (.cell 8 2) [.v 21]) <|
 .node (.op (.cell 8 3) [.v 21]) <|
 .node (.op (.cell 8 4) [.v 21]) <|
 .node (.op (.cell 8 5) [.v 21]) <|
 .node (.op (.cell 8 6) [.v 21]) <|
 .node (.op (.cell 8 7) [.v 21]) <|
 .node (.op .mkagg [.v 22, .v 23, .v 24, .v 25, .v 26, .v 27, .v 28, .v 29]) <|
 .ret (.v 30)
def t_Add2 (tof tadd : FuncId) : T :=
 .node (.op (.cell 8 0) [.v 0]) <|
 .node (.op (.cell 8 1) [.v 0]) <|
 .node (.op (.cell 8 2) [.v 0]) <|
 .node (.op (.cell 8 3) [.v 0]) <|
 .node (.op (.cell 8 4) [.v 0]) <|
 .node (.op (.cell 8 5) [.v 0]) <|
 .node (.op (.cell 8 6) [.v 0]) <|
 .node (.op (.cell 8 7) [.v 0]) <|
 .node (.op (.cell 8 0) [.v 1]) <|
 .node (.op (.cell 8 1) [.v 1]) <|
 .node (.op (.cell 8 2) [.v 1]) <|
 .node (.op (.cell 8 3) [.v 1]) <|
 .node (.op (.cell 8 4) [.v 1]) <|
 .node (.op (.cell 8 5) [.v 1]) <|
 .node (.op (.cell 8 6) [.v 1]) <|
 .node (.op (.cell 8 7) [.v 1]) <|
 .node (.call tof [] false) <|
 .node (.op .mkagg [.v 2, .v 3, .v 4, .v 5, .v 6, .v 7, .v 8, .v 9]) <|
 .node (.op .mkagg [.v 10, .v 11, .v 12, .v 13, .v 14, .v 15, .v 16, .v 17]) <|
 .node (.call tadd [.v 18, .v 19, .v 20] false) <|
 .node (.op (.cell 8 0) [.v 21]) <|
 .node (.op (.cell 8 1) [.v 21]) <|
 .node (.op (.cell 8 2) [.v 21]) <|
 .node (.op (.cell 8 3) [.v 21]) <|
 .node (.op (.cell 8 4) [.v 21]) <|
 .node (.op (.cell 8 5) [.v 21]) <|
 .node (.op (.cell 8 6) [.v 21]) <|
 .node (.op (.cell 8 7) [.v 21]) <|
 .node (.op .mkagg [.v 22, .v 23, .v 24, .v 25, .v 26, .v 27, .v 28, .v 29]) <|
 .ret (.v 30)
theorem Mul2_den {tof tmul : FuncId} {s : Cx pBase → Cx pBase → Cx pBase} (ht : Ct P tof [] (fun e => e = .ret TT)) (hm : T2C P tmul s) {x y z w : Nat} (hx : x < W256) (hy : y < W256) (hz : z < W256) (hw : w < W256) :
    D P (fun e => e = .ret (w2 (s (c2 x y) (c2 z w)))) [] 2 [WW z w, WW x y] (t_Mul2 tof tmul) := by
  have c := hm x y z w hx hy hz hw
  generalize s (c2 x y) (c2 z w) = o at *
  refine d_expl (N := 8) (i := 0) rfl rfl rfl rfl (d_expl (N := 8) (i := 1) rfl rfl rfl rfl (d_call ht (fun h => by cases h) ?_))
  refine d_op (v := WW x y) rfl (d_op (v := WW z w) rfl (d_call c (fun h => by cases h) (d_expl (N := 8) (i := 21) rfl rfl rfl rfl ?_)))
  exact d_op (v := w2 o) rfl (d_ret rfl)
def one6 : AV := w6 ⟨.one, .zero, .zero, .zero, .zero, .zero⟩
def t_one : T :=
 .ret (.c (.agg [.int .u64 1, .int .u64 0, .int .u64 0, .int .u64 0, .int .u64 0, .int .u64 0, .int .u64 0, .int .u64 0, .int .u64 0, .int .u64 0, .int .u64 0, .int .u64 0, .int .u64 0, .int .u64 0, .int .u64 0, .int .u64 0, .int .u64 0, .int .u64 0, .int .u64 0, .int .u64 0, .int .u64 0, .int .u64 0, .int .u64 0, .int .u64 0, .int .u64 0, .int .u64 0, .int .u64 0, .int .u64 0, .int .u64 0, .int .u64 0, .int .u64 0, .int .u64 0, .int .u64 0, .int .u64 0, .int .u64 0, .int .u64 0, .int .u64 0, .int .u64 0, .int .u64 0, .int .u64 0, .int .u64 0, .int .u64 0, .int .u64 0, .int .u64 0, .int .u64 0, .int .u64 0, .int .u64 0, .int .u64 0]))
theorem one6_eq : one6 = .agg (.int .u64 1 :: List.replicate 47 (.int .u64 0)) := by decide +kernel
theorem one_den : D P (fun e => e = .ret one6) [] 0 [] t_one := d_ret (by rw [one6_eq]; rfl)
def t_One (one : FuncId) : T :=
 .node (.call one [] false) <|
 .node (.op (.cell 48 0) [.v 0]) <|
 .node (.op (.cell 48 1) [.v 0]) <|
 .node (.op (.cell 48 2) [.v 0]) <|
 .node (.op (.cell 48 3) [.v 0]) <|
 .node (.op (.cell 48 4) [.v 0]) <|
 .node (.op (.cell 48 5) [.v 0]) <|
 .node (.op (.cell 48 6) [.v 0]) <|
 .node (.op (.cell 48 7) [.v 0]) <|
 .node (.op (.cell 48 8) [.v 0]) <|
 .node (.op (.cell 48 9) [.v 0]) <|
 .node (.op (.cell 48 10) [.v 0]) <|
 .node (.op (.cell 48 11) [.v 0]) <|
 .node (.op (.cell 48 12) [.v 0]) <|
 .node (.op (.cell 48 13) [.v 0]) <|
 .node (.op (.cell 48 14) [.v 0]) <|
 .node (.op (.cell 48 15) [.v 0]) <|
 .node (.op (.cell 48 16) [.v 0]) <|
 .node (.op (.cell 48 17) [.v 0]) <|
 .node (.op (.cell 48 18) [.v 0]) <|
 .node (.op (.cell 48 19) [.v 0]) <|
 .node (.op (.cell 48 20) [.v 0]) <|
 .node (.op (.cell 48 21) [.v 0]) <|
 .node (.op (.cell 48 22) [.v 0]) <|
 .node (.op (.cell 48 23) [.v 0]) <|
 .node (.op (.cell 48 24) [.v 0]) <|
 .node (.op (.cell 48 25) [.v 0]) <|
 .node (.op (.cell 48 26) [.v 0]) <|
 .node (.op (.cell 48 27) [.v 0]) <|
 .node (.op (.cell 48 28) [.v 0]) <|
 .node (.op (.cell 48 29) [.v 0]) <|
 .node (.op (.cell 48 30) [.v 0]) <|
 .node (.op (.cell 48 31) [.v 0]) <|
 .node (.op (.cell 48 32) [.v 0]) <|
 .node (.op (.cell 48 33) [.v 0]) <|
 .node (.op (.cell 48 34) [.v 0]) <|
 .node (.op (.cell 48 35) [.v 0]) <|
 .node (.op (.cell 48 36) [.v 0]) <|
 .node (.op (.cell 48 37) [.v 0]) <|
 .node (.op (.cell 48 38) [.v 0]) <|
 .node (.op (.cell 48 39) [.v 0]) <|
 .node (.op (.cell 48 40) [.v 0]) <|
 .node (.op (.cell 48 41) [.v 0]) <|
 .node (.op (.cell 48 42) [.v 0]) <|
 .node (.op (.cell 48 43) [.v 0]) <|
 .node (.op (.cell 48 44) [.v 0]) <|
 .node (.op (.cell 48 45) [.v 0]) <|
 .node (.op (.cell 48 46) [.v 0]) <|
 .node (.op (.cell 48 47) [.v 0]) <|
 .node (.op .mkagg [.v 1, .v 2, .v 3, .v 4, .v 5, .v 6, .v 7, .v 8, .v 9, .v 10, .v 11, .v 12, .v 13, .v 14, .v 15, .v 16, .v 17, .v 18, .v 19, .v 20, .v 21, .v 22, .v 23, .v 24, .v 25, .v 26, .v 27, .v 28, .v 29, .v 30, .v 31, .v 32, .v 33, .v 34, .v 35, .v 36, .v 37, .v 38, .v 39, .v 40, .v 41, .v 42, .v 43, .v 44, .v 45, .v 46, .v 47, .v 48]) <|
 .ret (.v 49)
theorem One_den {one : FuncId} (h : Ct P one [] (fun e => e = .ret one6)) : D P (fun e => e = .ret one6) [] 0 [] (t_One one) :=
  d_call h (fun h => by cases h) (d_expl (N := 48) (i := 0) rfl rfl rfl rfl (d_op (v := one6) rfl (d_ret rfl)))
def t_tlives (mul2 add2 mul12 one rone : FuncId) : T :=
 .node (.call mul2 [.c (.agg [.int .u64 0, .int .u64 0, .int .u64 0, .int .u64 0, .int .u64 1, .int .u64 0, .int .u64 0, .int .u64 0]), .c (.agg [.int .u64 0, .int .u64 0, .int .u64 0, .int .u64 0, .int .u64 1, .int .u64 0, .int .u64 0, .int .u64 0])] false) <|
 .node (.call add2 [.v 0, .c (.agg [.int .u64 1, .int .u64 0, .int .u64 0, .int .u64 0, .int .u64 0, .int .u64 0, .int .u64 0, .int .u64 0])] false) <|
 .node (.op (.eqv false [.int .u64, .int .u64, .int .u64, .int .u64, .int .u64, .int .u64, .int .u64, .int .u64]) [.v 1, .c (.agg [.int .u64 0, .int .u64 0, .int .u64 0, .int .u64 0, .int .u64 0, .int .u64 0, .int .u64 0, .int .u64 0])]) <|
 .br (.v 2) (
 .node (.call mul12 [.c (.agg [.int .u64 0, .int .u64 0, .int .u64 0, .int .u64 0, .int .u64 0, .int .u64 0, .int .u64 0, .int .u64 0, .int .u64 1, .int .u64 0, .int .u64 0, .int .u64 0, .int .u64 0, .int .u64 0, .int .u64 0, .int .u64 0, .int .u64 0, .int .u64 0, .int .u64 0, .int .u64 0, .int .u64 0, .int .u64 0, .int .u64 0, .int .u64 0, .int .u64 0, .int .u64 0, .int .u64 0, .int .u64 0, .int .u64 0, .int .u64 0, .int .u64 0, .int .u64 0, .int .u64 0, .int .u64 0, .int .u64 0, .int .u64 0, .int .u64 0, .int .u64 0, .int .u64 0, .int .u64 0, .int .u64 0, .int .u64 0, .int .u64 0, .int .u64 0, .int .u64 0, .int .u64 0, .int .u64 0, .int .u64 0]), .c (.agg [.int .u64 0, .int .u64 0, .int .u64 0, .int .u64 0, .int .u64 0, .int .u64 0, .int .u64 0, .int .u64 0, .int .u64 0, .int .u64 0, .int .u64 0, .int .u64 0, .int .u64 0, .int .u64 0, .int .u64 0, .int .u64 0, .int .u64 0, .int .u64 0, .int .u64 0, .int .u64 0, .int .u64 0, .int .u64 0, .int .u64 0, .int .u64 0, .int .u64 0, .int .u64 0, .int .u64 0, .int .u64 0, .int .u64 0, .int .u64 0, .int .u64 0, .int .u64 0, .int .u64 0, .int .u64 0, .int .u64 0, .int .u64 0, .int .u64 0, .int .u64 0, .int .u64 0, .int .u64 0, .int .u64 1, .int .u64 0, .int .u64 0, .int .u64 0, .int .u64 0, .int .u64 0, .int .u64 0, .int .u64 0])] false) <|
 .node (.op (.eqv false [.int .u64, .int .u64, .int .u64, .int .u64, .int .u64, .int .u64, .int .u64, .int .u64, .int .u64, .int .u64, .int .u64, .int .u64, .int .u64, .int .u64, .int .u64, .int .u64, .int .u64, .int .u64, .int .u64, .int .u64, .int .u64, .int .u64, .int .u64, .int .u64, .int .u64, .int .u64, .int .u64, .int .u64, .int .u64, .int .u64, .int .u64, .int .u64, .int .u64, .int .u64, .int .u64, .int .u64, .int .u64, .int .u64, .int .u64, .int .u64, .int .u64, .int .u64, .int .u64, .int .u64, .int .u64, .int .u64, .int .u64, .int .u64]) [.v 3, .c (.agg [.int .u64 9, .int .u64 0, .int .u64 0, .int .u64 0, .int .u64 1, .int .u64 0, .int .u64 0, .int .u64 0, .int .u64 0, .int .u64 0, .int .u64 0, .int .u64 0, .int .u64 0, .int .u64 0, .int .u64 0, .int .u64 0, .int .u64 0, .int .u64 0, .int .u64 0, .int .u64 0, .int .u64 0, .int .u64 0, .int .u64 0, .int .u64 0, .int .u64 0, .int .u64 0, .int .u64 0, .int .u64 0, .int .u64 0, .int .u64 0, .int .u64 0, .int .u64 0, .int .u64 0, .int .u64 0, .int .u64 0, .int .u64 0, .int .u64 0, .int .u64 0, .int .u64 0, .int .u64 0, .int .u64 0, .int .u64 0, .int .u64 0, .int .u64 0, .int .u64 0, .int .u64 0, .int .u64 0, .int .u64 0])]) <|
 .br (.v 4) (
 .node (.call one [] false) <|
 .node (.call rone [] false) <|
 .node (.op (.eqv false [.int .u64, .int .u64, .int .u64, .int .u64, .int .u64, .int .u64, .int .u64, .int .u64, .int .u64, .int .u64, .int .u64, .int .u64, .int .u64, .int .u64, .int .u64, .int .u64, .int .u64, .int .u64, .int .u64, .int .u64, .int .u64, .int .u64, .int .u64, .int .u64, .int .u64, .int .u64, .int .u64, .int .u64, .int .u64, .int .u64, .int .u64, .int .u64, .int .u64, .int .u64, .int .u64, .int .u64, .int .u64, .int .u64, .int .u64, .int .u64, .int .u64, .int .u64, .int .u64, .int .u64, .int .u64, .int .u64, .int .u64, .int .u64]) [.v 5, .v 6]) <|
 .ret (.v 7)) (
 .ret (.c (.bool false)))) (
 .ret (.c (.bool false)))
theorem tlives_den {mul2 add2 mul12 one rone : FuncId} (hm : E2C P mul2 (· * ·)) (ha : E2C P add2 (· + ·)) (hM : S12C P mul12 (Six.mul xi)) (h1 : Ct P one [] (fun e => e = .ret one6)) (h2 : Ct P rone [] (fun e => e = .ret one6)) :
    D P (fun e => e = .ret (.bool true)) [] 0 [] (t_tlives mul2 add2 mul12 one rone) := by
  have c1 : Ct P mul2 [WW 0 1, WW 0 1] (fun e => e = .ret (WW (pBase - 1) 0)) := by
    have := hm 0 1 0 1 (by decide) (by decide) (by decide) (by decide)
    have e : w2 (c2 0 1 * c2 0 1) = WW (pBase - 1) 0 := by decide +kernel
    rwa [e] at this
  have c2 : Ct P add2 [WW (pBase - 1) 0, WW 1 0] (fun e => e = .ret (WW 0 0)) := by
    have := ha (pBase - 1) 0 1 0 (by decide) (by decide) (by decide) (by decide)
    have e : w2 (c2 (pBase - 1) 0 + c2 1 0) = WW 0 0 := by decide +kernel
    rwa [e] at this
  have c3 := hM (fun j => if j = 1 then (1, 0) else (0, 0)) (fun j => if j = 5 then (1, 0) else (0, 0)) (fun j => by dsimp only; split <;> exact ⟨by decide, by decide⟩) (fun j => by dsimp only; split <;> exact ⟨by decide, by decide⟩)
  have e3 : w6 (Six.mul xi (r6 (fun j => if j = 1 then (1, 0) else (0, 0))) (r6 (fun j => if j = 5 then (1, 0) else (0, 0)))) = W6 (fun j => if j = 0 then (9, 1) else (0, 0)) := by decide +kernel
  rw [e3] at c3
  refine d_call c1 (fun h => by cases h) (d_call c2 (fun h => by cases h) (d_op (ev_eqw (l := [0, 0]) (m := [0, 0]) (by decide) (by decide) rfl rfl) (f_yes rfl rfl ?_)))
  refine d_call c3 (fun h => by cases h) (d_op (ev_eqw (l := gl (fun j => if j = 0 then (9, 1) else (0, 0))) (m := [9, 1, 0, 0, 0, 0, 0, 0, 0, 0, 0, 0]) (by decide) (by decide) rfl rfl) (f_yes rfl rfl ?_))
  refine d_call h1 (fun h => by cases h) (d_call h2 (fun h => by cases h) (d_op ev_eq6 (d_ret ?_)))
  show AEnd.ret (.bool (decide (_ = _))) = _
  rw [decide_eq_true rfl]
theorem six_of {l : List Nat} (hl : l.length = 12) (hw : ∀ n ∈ l, n < W256) : ∃ g, Wok g ∧ WS l = W6 g := by
  match l, hl, hw with
  | [a0, a1, a2, a3, a4, a5, a6, a7, a8, a9, a10, a11], _, hw =>
    refine ⟨fun j => match j with | 0 => (a0, a1) | 1 => (a2, a3) | 2 => (a4, a5) | 3 => (a6, a7) | 4 => (a8, a9) | _ => (a10, a11), ?_, rfl⟩
    intro j
    dsimp only
    split <;> exact ⟨hw _ (by simp), hw _ (by simp)⟩
end Go.SE
