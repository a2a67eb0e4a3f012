/- Nothing of the statement is proved here: this text lays generic laws: FG; no conditions. -/
import Derived.Test.YtomjfjncfodmhaaFD
set_option linter.all false
set_option autoImplicit false
set_option maxRecDepth 4000
set_option maxHeartbeats 2000000
set_option exponentiation.threshold 5000
namespace Go.SE
open Go
variable {P : Program} {R : AEnd → Prop}
end Go.SE
set_option autoImplicit false
set_option maxRecDepth 4000
set_option maxHeartbeats 2000000
set_option exponentiation.threshold 5000
namespace Go.SE
open Go
variable {P : Program} {R : AEnd → Prop}
theorem f_yes {H : List (List AV → Prop)} {n : Nat} {ρ : List AV} {a : Atom} {t e : T} {p : Prop} [Decidable p] (hp : p) (h : a.at n ρ = .bool (decide p)) (ht : D P R H n ρ t) : D P R H n ρ (.br a t e) :=
  d_if h (fun _ => ht) (fun hn => absurd hp hn)
def FWC (P : Program) (f : FuncId) (s : Nat → Nat → Nat → Nat) : Prop := ∀ m iv sq a b, Fok m iv sq → a < W256 → b < W256 → Ct P f [FP m iv sq, WV a, WV b] (fun e => e = .ret (WV (s m a b)))
def aAdd (m a b : Nat) : Nat := (a + b) % m
def aMul (m a b : Nat) : Nat := a * b % m
def aSub (m a b : Nat) : Nat := (a % m + m - b % m) % m
section
variable {m iv sq a b : Nat}
def t_Add (ofM add : FuncId) : T :=
 .node (.op (.cell 4 0) [.v 1]) <|
 .node (.op (.cell 4 1) [.v 1]) <|
 .node (.op (.cell 4 2) [.v 1]) <|
 .node (.op (.cell 4 3) [.v 1]) <|
 .node (.op (.cell 4 0) [.v 2]) <|
 .node (.op (.cell 4 1) [.v 2]) <|
 .node (.op (.cell 4 2) [.v 2]) <|
 .node (.op (.cell 4 3) [.v 2]) <|
 .node (.op .mkagg [.v 3, .v 4, .v 5, .v 6]) <|
 .node (.call ofM [.v 0, .v 11] false) <|
 .node (.op .mkagg [.v 7, .v 8, .v 9, .v 10]) <|
 .node (.call ofM [.v 0, .v 13] false) <|
 .node (.call add [.v 0, .v 12, .v 14] false) <|
 .node (.op (.cell 4 0) [.v 15]) <|
 .node (.op (.cell 4 1) [.v 15]) <|
 .node (.op (.cell 4 2) [.v 15]) <|
 .node (.op (.cell 4 3) [.v 15]) <|
 .node (.op .mkagg [.v 16, .v 17, .v 18, .v 19]) <|
 .ret (.v 20)
theorem Add_den {ofM add : FuncId} (ho : OfMC P ofM) (ha : F2C P add addM) (hF : Fok m iv sq) (h1 : a < W256) (h2 : b < W256) : D P (fun e => e = .ret (WV (aAdd m a b))) [] 3 [WV b, WV a, FP m iv sq] (t_Add ofM add) := by
  have hm0 : 0 < m := by have := hF.1; omega
  have h := ha m iv sq (a % m) (b % m) hF.2.1 hF.sq_lt' (Nat.mod_lt _ hm0) (Nat.mod_lt _ hm0)
  have e : addM m (a % m) (b % m) = aAdd m a b := by unfold addM aAdd; rw [← Nat.add_mod]
  rw [e] at h
  refine d_cells rfl rfl rfl rfl (d_cells rfl rfl rfl rfl (d_op (v := WV a) ev_wl (d_call (ho m iv sq a hm0 hF.2.1 hF.sq_lt' h1) (fun h => by cases h) (d_op (v := WV b) ev_wl (d_call (ho m iv sq b hm0 hF.2.1 hF.sq_lt' h2) (fun h => by cases h) (d_call h (fun h => by cases h) ?_))))))
  exact d_cells rfl rfl rfl rfl (d_op ev_wl (d_ret rfl))
def t_Mul (ofM mul : FuncId) : T :=
 .node (.op (.cell 4 0) [.v 1]) <|
 .node (.op (.cell 4 1) [.v 1]) <|
 .node (.op (.cell 4 2) [.v 1]) <|
 .node (.op (.cell 4 3) [.v 1]) <|
 .node (.op (.cell 4 0) [.v 2]) <|
 .node (.op (.cell 4 1) [.v 2]) <|
 .node (.op (.cell 4 2) [.v 2]) <|
 .node (.op (.cell 4 3) [.v 2]) <|
 .node (.op .mkagg [.v 3, .v 4, .v 5, .v 6]) <|
 .node (.call ofM [.v 0, .v 11] false) <|
 .node (.op .mkagg [.v 7, .v 8, .v 9, .v 10]) <|
 .node (.call ofM [.v 0, .v 13] false) <|
 .node (.call mul [.v 0, .v 12, .v 14] false) <|
 .node (.op (.cell 4 0) [.v 15]) <|
 .node (.op (.cell 4 1) [.v 15]) <|
 .node (.op (.cell 4 2) [.v 15]) <|
 .node (.op (.cell 4 3) [.v 15]) <|
 .node (.op .mkagg [.v 16, .v 17, .v 18, .v 19]) <|
 .ret (.v 20)
theorem Mul_den {ofM mul : FuncId} (ho : OfMC P ofM) (ha : FmC P mul mulM) (hF : Fok m iv sq) (h1 : a < W256) (h2 : b < W256) : D P (fun e => e = .ret (WV (aMul m a b))) [] 3 [WV b, WV a, FP m iv sq] (t_Mul ofM mul) := by
  have hm0 : 0 < m := by have := hF.1; omega
  have h := ha m iv sq (a % m) (b % m) hF (Nat.mod_lt _ hm0) (Nat.mod_lt _ hm0)
  have e : mulM m (a % m) (b % m) = aMul m a b := by unfold mulM aMul; rw [← Nat.mul_mod]
  rw [e] at h
  refine d_cells rfl rfl rfl rfl (d_cells rfl rfl rfl rfl (d_op (v := WV a) ev_wl (d_call (ho m iv sq a hm0 hF.2.1 hF.sq_lt' h1) (fun h => by cases h) (d_op (v := WV b) ev_wl (d_call (ho m iv sq b hm0 hF.2.1 hF.sq_lt' h2) (fun h => by cases h) (d_call h (fun h => by cases h) ?_))))))
  exact d_cells rfl rfl rfl rfl (d_op ev_wl (d_ret rfl))
def t_Sub (ofM sub : FuncId) : T :=
 .node (.op (.cell 4 0) [.v 1]) <|
 .node (.op (.cell 4 1) [.v 1]) <|
 .node (.op (.cell 4 2) [.v 1]) <|
 .node (.op (.cell 4 3) [.v 1]) <|
 .node (.op (.cell 4 0) [.v 2]) <|
 .node (.op (.cell 4 1) [.v 2]) <|
 .node (.op (.cell 4 2) [.v 2]) <|
 .node (.op (.cell 4 3) [.v 2]) <|
 .node (.op .mkagg [.v 3, .v 4, .v 5, .v 6]) <|
 .node (.call ofM [.v 0, .v 11] false) <|
 .node (.op .mkagg [.v 7, .v 8, .v 9, .v 10]) <|
 .node (.call ofM [.v 0, .v 13] false) <|
 .node (.call sub [.v 0, .v 12, .v 14] false) <|
 .node (.op (.cell 4 0) [.v 15]) <|
 .node (.op (.cell 4 1) [.v 15]) <|
 .node (.op (.cell 4 2) [.v 15]) <|
 .node (.op (.cell 4 3) [.v 15]) <|
 .node (.op .mkagg [.v 16, .v 17, .v 18, .v 19]) <|
 .ret (.v 20)
theorem Sub_den {ofM sub : FuncId} (ho : OfMC P ofM) (ha : F2C P sub subM) (hF : Fok m iv sq) (h1 : a < W256) (h2 : b < W256) : D P (fun e => e = .ret (WV (aSub m a b))) [] 3 [WV b, WV a, FP m iv sq] (t_Sub ofM sub) := by
  have hm0 : 0 < m := by have := hF.1; omega
  have h := ha m iv sq (a % m) (b % m) hF.2.1 hF.sq_lt' (Nat.mod_lt _ hm0) (Nat.mod_lt _ hm0)
  refine d_cells rfl rfl rfl rfl (d_cells rfl rfl rfl rfl (d_op (v := WV a) ev_wl (d_call (ho m iv sq a hm0 hF.2.1 hF.sq_lt' h1) (fun h => by cases h) (d_op (v := WV b) ev_wl (d_call (ho m iv sq b hm0 hF.2.1 hF.sq_lt' h2) (fun h => by cases h) (d_call h (fun h => by cases h) ?_))))))
  exact d_cells rfl rfl rfl rfl (d_op ev_wl (d_ret rfl))
def wb (p : Nat × Bool) : AV := .tup [WV p.1, .bool p.2]
def t_at : T :=
 .node (.op (.bin .geq) [.v 0, .c (.int .i64 4)]) <|
 .br (.v 3) (
 .node (.op (.rld false 1) [.v 1]) <|
 .ret (.v 4)) (
 .node (.op (.ridx 4 1) [.v 2, .v 0]) <|
 .node (.op (.rld false 1) [.v 4]) <|
 .ret (.v 5))
theorem at_den {i a0 a1 a2 a3 : Nat} : D P (fun e => e = .ret (.int .u64 (([a0, a1, a2, a3].getD i 0 : Nat) : Int))) [] 3 [.rp [.int .u64 (a0 : Int), .int .u64 (a1 : Int), .int .u64 (a2 : Int), .int .u64 (a3 : Int)], .rp [.int .u64 0], .int .i64 (i : Int)] t_at := by
  refine d_op ev_geq (d_if rfl (fun h => ?_) (fun h => ?_))
  · refine d_op (ev_rld1 rfl) (d_ret ?_)
    have : [a0, a1, a2, a3].getD i 0 = 0 := getD_ge (by simp; omega)
    rw [this]; rfl
  · match i, h with
    | 0, _ => exact d_op (v := .rp _) rfl (d_op (ev_rld1 rfl) (d_ret rfl))
    | 1, _ => exact d_op (v := .rp _) rfl (d_op (ev_rld1 rfl) (d_ret rfl))
    | 2, _ => exact d_op (v := .rp _) rfl (d_op (ev_rld1 rfl) (d_ret rfl))
    | 3, _ => exact d_op (v := .rp _) rfl (d_op (ev_rld1 rfl) (d_ret rfl))
    | n + 4, h => exact absurd (by omega) h
end
end Go.SE
set_option autoImplicit false
set_option maxRecDepth 4000
set_option maxHeartbeats 2000000
set_option exponentiation.threshold 5000
namespace Go.SE
open Go
variable {P : Program} {R : AEnd → Prop}
def WW (a b : Nat) : AV := .agg [.int .u64 ((a % 18446744073709551616 : Nat) : Int), .int .u64 ((a / 18446744073709551616 % 18446744073709551616 : Nat) : Int), .int .u64 ((a / 340282366920938463463374607431768211456 % 18446744073709551616 : Nat) : Int), .int .u64 ((a / 6277101735386680763835789423207666416102355444464034512896 % 18446744073709551616 : Nat) : Int),
  .int .u64 ((b % 18446744073709551616 : Nat) : Int), .int .u64 ((b / 18446744073709551616 % 18446744073709551616 : Nat) : Int), .int .u64 ((b / 340282366920938463463374607431768211456 % 18446744073709551616 : Nat) : Int), .int .u64 ((b / 6277101735386680763835789423207666416102355444464034512896 % 18446744073709551616 : Nat) : Int)]
end Go.SE
