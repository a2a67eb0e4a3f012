/- Nothing of the statement is proved here: this text lays generic laws: FB; no conditions. -/
import Derived.Test.YtdpcehjiicfpdaaFA
set_option linter.all false
set_option autoImplicit false
set_option maxRecDepth 4000
namespace Go.SE
open Go
variable {P : Program} {R : AEnd → Prop}
def FLs (m0 m1 m2 m3 iv s0 s1 s2 s3 : Nat) : List AV :=
  [.int .u64 (m0 : Int), .int .u64 (m1 : Int), .int .u64 (m2 : Int), .int .u64 (m3 : Int), .int .u64 (iv : Int), .int .u64 (s0 : Int), .int .u64 (s1 : Int), .int .u64 (s2 : Int), .int .u64 (s3 : Int)]
def FL (m0 m1 m2 m3 iv s0 s1 s2 s3 : Nat) : AV := .rp (FLs m0 m1 m2 m3 iv s0 s1 s2 s3)
def fcells (m iv sq : Nat) : List AV :=
  FLs (m % 18446744073709551616) (m / 18446744073709551616 % 18446744073709551616) (m / 340282366920938463463374607431768211456 % 18446744073709551616) (m / 6277101735386680763835789423207666416102355444464034512896 % 18446744073709551616) iv
    (sq % 18446744073709551616) (sq / 18446744073709551616 % 18446744073709551616) (sq / 340282366920938463463374607431768211456 % 18446744073709551616) (sq / 6277101735386680763835789423207666416102355444464034512896 % 18446744073709551616)
def FP (m iv sq : Nat) : AV := .rp (fcells m iv sq)
theorem fcells_eq {m0 m1 m2 m3 iv s0 s1 s2 s3 : Nat} (h0 : m0 < B64) (h1 : m1 < B64) (h2 : m2 < B64) (h3 : m3 < B64) (g0 : s0 < B64) (g1 : s1 < B64) (g2 : s2 < B64) (g3 : s3 < B64) :
    fcells (V4 m0 m1 m2 m3) iv (V4 s0 s1 s2 s3) = FLs m0 m1 m2 m3 iv s0 s1 s2 s3 := by
  have : m0 < 18446744073709551616 := h0
  have : m1 < 18446744073709551616 := h1
  have : m2 < 18446744073709551616 := h2
  have : m3 < 18446744073709551616 := h3
  have : s0 < 18446744073709551616 := g0
  have : s1 < 18446744073709551616 := g1
  have : s2 < 18446744073709551616 := g2
  have : s3 < 18446744073709551616 := g3
  unfold fcells V4
  congr 1 <;> omega
theorem fcells_limbs {m iv sq : Nat} (hm : m < W256) (hs : sq < W256) : ∃ m0 m1 m2 m3 s0 s1 s2 s3, m0 < B64 ∧ m1 < B64 ∧ m2 < B64 ∧ m3 < B64 ∧ s0 < B64 ∧ s1 < B64 ∧ s2 < B64 ∧ s3 < B64 ∧ m = V4 m0 m1 m2 m3 ∧ sq = V4 s0 s1 s2 s3 ∧
    fcells m iv sq = FLs m0 m1 m2 m3 iv s0 s1 s2 s3 := by
  obtain ⟨m0, m1, m2, m3, h0, h1, h2, h3, em⟩ := limbs hm
  obtain ⟨s0, s1, s2, s3, g0, g1, g2, g3, es⟩ := limbs hs
  exact ⟨m0, m1, m2, m3, s0, s1, s2, s3, h0, h1, h2, h3, g0, g1, g2, g3, em, es, by rw [em, es, fcells_eq h0 h1 h2 h3 g0 g1 g2 g3]⟩
theorem FP_limbs {m iv sq : Nat} (hm : m < W256) (hs : sq < W256) : ∃ m0 m1 m2 m3 s0 s1 s2 s3, m0 < B64 ∧ m1 < B64 ∧ m2 < B64 ∧ m3 < B64 ∧ s0 < B64 ∧ s1 < B64 ∧ s2 < B64 ∧ s3 < B64 ∧ m = V4 m0 m1 m2 m3 ∧ sq = V4 s0 s1 s2 s3 ∧
    FP m iv sq = FL m0 m1 m2 m3 iv s0 s1 s2 s3 := by
  obtain ⟨m0, m1, m2, m3, s0, s1, s2, s3, h0, h1, h2, h3, g0, g1, g2, g3, em, es, e⟩ := fcells_limbs (iv := iv) hm hs
  exact ⟨m0, m1, m2, m3, s0, s1, s2, s3, h0, h1, h2, h3, g0, g1, g2, g3, em, es, by unfold FP; rw [e]; rfl⟩
section
variable {m0 m1 m2 m3 iv s0 s1 s2 s3 : Nat}
theorem ev_fnil : evalO .nilchk [FL m0 m1 m2 m3 iv s0 s1 s2 s3] = some (FL m0 m1 m2 m3 iv s0 s1 s2 s3) := rfl
theorem ev_froff : evalO (.roff 0) [FL m0 m1 m2 m3 iv s0 s1 s2 s3] = some (FL m0 m1 m2 m3 iv s0 s1 s2 s3) := rfl
theorem ev_froff4 : evalO (.roff 4) [FL m0 m1 m2 m3 iv s0 s1 s2 s3] = some (.rp ((FLs m0 m1 m2 m3 iv s0 s1 s2 s3).drop 4)) := rfl
theorem ev_froff5 : evalO (.roff 5) [FL m0 m1 m2 m3 iv s0 s1 s2 s3] = some (.rp ((FLs m0 m1 m2 m3 iv s0 s1 s2 s3).drop 5)) := rfl
theorem ev_fridx0 : evalO (.ridx 4 1) [FL m0 m1 m2 m3 iv s0 s1 s2 s3, .int .i64 0] = some (FL m0 m1 m2 m3 iv s0 s1 s2 s3) := rfl
theorem ev_fridx1 : evalO (.ridx 4 1) [FL m0 m1 m2 m3 iv s0 s1 s2 s3, .int .i64 1] = some (.rp ((FLs m0 m1 m2 m3 iv s0 s1 s2 s3).drop 1)) := rfl
theorem ev_fridx2 : evalO (.ridx 4 1) [FL m0 m1 m2 m3 iv s0 s1 s2 s3, .int .i64 2] = some (.rp ((FLs m0 m1 m2 m3 iv s0 s1 s2 s3).drop 2)) := rfl
theorem ev_fridx3 : evalO (.ridx 4 1) [FL m0 m1 m2 m3 iv s0 s1 s2 s3, .int .i64 3] = some (.rp ((FLs m0 m1 m2 m3 iv s0 s1 s2 s3).drop 3)) := rfl
theorem ev_frld0 : evalO (.rld false 1) [FL m0 m1 m2 m3 iv s0 s1 s2 s3] = some (.int .u64 (m0 : Int)) := rfl
theorem ev_frld1 : evalO (.rld false 1) [.rp ((FLs m0 m1 m2 m3 iv s0 s1 s2 s3).drop 1)] = some (.int .u64 (m1 : Int)) := rfl
theorem ev_frld2 : evalO (.rld false 1) [.rp ((FLs m0 m1 m2 m3 iv s0 s1 s2 s3).drop 2)] = some (.int .u64 (m2 : Int)) := rfl
theorem ev_frld3 : evalO (.rld false 1) [.rp ((FLs m0 m1 m2 m3 iv s0 s1 s2 s3).drop 3)] = some (.int .u64 (m3 : Int)) := rfl
theorem ev_frldiv : evalO (.rld false 1) [.rp ((FLs m0 m1 m2 m3 iv s0 s1 s2 s3).drop 4)] = some (.int .u64 (iv : Int)) := rfl
theorem ev_frldm : evalO (.rld true 4) [FL m0 m1 m2 m3 iv s0 s1 s2 s3] = some (WL m0 m1 m2 m3) := rfl
theorem ev_frlds : evalO (.rld true 4) [.rp ((FLs m0 m1 m2 m3 iv s0 s1 s2 s3).drop 5)] = some (WL s0 s1 s2 s3) := rfl
theorem ev_fget0 : evalO (.lget false 1) [.lst (FLs m0 m1 m2 m3 iv s0 s1 s2 s3), .int .i64 0] = some (.int .u64 (m0 : Int)) := rfl
theorem ev_fget1 : evalO (.lget false 1) [.lst (FLs m0 m1 m2 m3 iv s0 s1 s2 s3), .int .i64 1] = some (.int .u64 (m1 : Int)) := rfl
theorem ev_fget2 : evalO (.lget false 1) [.lst (FLs m0 m1 m2 m3 iv s0 s1 s2 s3), .int .i64 2] = some (.int .u64 (m2 : Int)) := rfl
theorem ev_fget3 : evalO (.lget false 1) [.lst (FLs m0 m1 m2 m3 iv s0 s1 s2 s3), .int .i64 3] = some (.int .u64 (m3 : Int)) := rfl
end
theorem mod_two {A m : Nat} (h : A < 2 * m) : A % m = if A < m then A else A - m := by
  split
  · rename_i h1; exact Nat.mod_eq_of_lt h1
  · rename_i h1
    rw [Nat.mod_eq_sub_mod (by omega), Nat.mod_eq_of_lt (by omega)]
def FLessC (P : Program) (f : FuncId) : Prop := ∀ m iv sq a over, m < W256 → sq < W256 → a < W256 → over ≤ 1 → over * W256 + a < 2 * m →
  Ct P f [FP m iv sq, WV a, .int .u64 (over : Int)] (fun e => e = .ret (WV ((over * W256 + a) % m)))
def FLessH (P : Program) (f : FuncId) : Prop := ∀ m iv sq a over, m < W256 → sq < W256 → a < W256 → over ≤ 1 → over * W256 + a < 2 * m →
  CtH P f [.ptr 0 (.int .i64 0), .val (WV a), .val (.int .u64 (over : Int))] [.lst (fcells m iv sq)] ⟨false, [.val false], 1⟩ (fun e => e = .ret (.tup [WV ((over * W256 + a) % m), .lst (fcells m iv sq)]))
theorem fless_out {m a over S c3 : Nat} (hm : m < W256) (ha : a < W256) (ho : over ≤ 1) (hlt : over * W256 + a < 2 * m) (hS : S < W256) (hc3 : c3 ≤ 1) (hsum : a + W256 * c3 = S + m) :
    (over * W256 + a) % m = if over = 0 ∧ c3 = 1 then a else S := by
  rw [mod_two hlt]
  unfold W256 at *
  split <;> split <;> omega
def t_fless : T :=
 .node (.op (.cell 4 0) [.v 1]) <|
 .node (.op (.cell 4 1) [.v 1]) <|
 .node (.op (.cell 4 2) [.v 1]) <|
 .node (.op (.cell 4 3) [.v 1]) <|
 .node (.op .nilchk [.v 0]) <|
 .node (.op (.roff 0) [.v 7]) <|
 .node (.op (.ridx 4 1) [.v 8, .c (.int .i64 0)]) <|
 .node (.op (.rld false 1) [.v 9]) <|
 .node (.op .sub64 [.v 3, .v 10, .c (.int .u64 0)]) <|
 .node (.op (.ext 0 true) [.v 11]) <|
 .node (.op (.ext 1 true) [.v 11]) <|
 .node (.op .nilchk [.v 0]) <|
 .node (.op (.roff 0) [.v 14]) <|
 .node (.op (.ridx 4 1) [.v 15, .c (.int .i64 1)]) <|
 .node (.op (.rld false 1) [.v 16]) <|
 .node (.op .sub64 [.v 4, .v 17, .v 13]) <|
 .node (.op (.ext 0 true) [.v 18]) <|
 .node (.op (.ext 1 true) [.v 18]) <|
 .node (.op .nilchk [.v 0]) <|
 .node (.op (.roff 0) [.v 21]) <|
 .node (.op (.ridx 4 1) [.v 22, .c (.int .i64 2)]) <|
 .node (.op (.rld false 1) [.v 23]) <|
 .node (.op .sub64 [.v 5, .v 24, .v 20]) <|
 .node (.op (.ext 0 true) [.v 25]) <|
 .node (.op (.ext 1 true) [.v 25]) <|
 .node (.op .nilchk [.v 0]) <|
 .node (.op (.roff 0) [.v 28]) <|
 .node (.op (.ridx 4 1) [.v 29, .c (.int .i64 3)]) <|
 .node (.op (.rld false 1) [.v 30]) <|
 .node (.op .sub64 [.v 6, .v 31, .v 27]) <|
 .node (.op (.ext 0 true) [.v 32]) <|
 .node (.op (.ext 1 true) [.v 32]) <|
 .node (.op (.bin .eql) [.v 2, .c (.int .u64 0)]) <|
 .br (.v 35) (
 .node (.op (.bin .eql) [.v 34, .c (.int .u64 1)]) <|
 .br (.v 36) (
 .node (.op .mkagg [.v 3, .v 4, .v 5, .v 6]) <|
 .ret (.v 37)) (
 .node (.op .mkagg [.v 12, .v 19, .v 26, .v 33]) <|
 .ret (.v 37))) (
 .node (.op .mkagg [.v 12, .v 19, .v 26, .v 33]) <|
 .ret (.v 36))
theorem fless_den {m iv sq a over : Nat} (hm : m < W256) (hsq : sq < W256) (ha : a < W256) (ho : over ≤ 1) (hlt : over * W256 + a < 2 * m) :
    D P (fun e => e = .ret (WV ((over * W256 + a) % m))) [] 3 [.int .u64 (over : Int), WV a, FP m iv sq] t_fless := by
  obtain ⟨m0, m1, m2, m3, q0, q1, q2, q3, hm0, hm1, hm2, hm3, _, _, _, _, em, _, eF⟩ := FP_limbs (iv := iv) hm hsq
  obtain ⟨a0, a1, a2, a3, ha0, ha1, ha2, ha3, eA, ea⟩ := WV_limbs ha
  obtain ⟨s0, c0, hs0, hc0, e0⟩ := sub_parts ha0 hm0 (Nat.zero_le 1)
  obtain ⟨s1, c1, hs1, hc1, e1⟩ := sub_parts ha1 hm1 hc0
  obtain ⟨s2, c2, hs2, hc2, e2⟩ := sub_parts ha2 hm2 hc1
  obtain ⟨s3, c3, hs3, hc3, e3⟩ := sub_parts ha3 hm3 hc2
  have hS := V4_lt hs0 hs1 hs2 hs3
  have hsum : a + W256 * c3 = V4 s0 s1 s2 s3 + m := by subst ea; subst em; unfold V4 W256; omega
  rw [fless_out hm ha ho hlt hS hc3 hsum, eF, eA]
  refine d_cells rfl rfl rfl rfl ?_
  refine d_op ev_fnil (d_op ev_froff (d_op ev_fridx0 (d_op ev_frld0 ?_)))
  refine d_op (ev_sub64 e0 hs0 hm0 (by omega) hc0 ha0 rfl rfl rfl) (d_op (ev_ext rfl (fun _ => rfl)) (d_op (ev_ext rfl (fun _ => rfl)) ?_))
  refine d_op ev_fnil (d_op ev_froff (d_op ev_fridx1 (d_op ev_frld1 ?_)))
  refine d_op (ev_sub64 e1 hs1 hm1 hc0 hc1 ha1 rfl rfl rfl) (d_op (ev_ext rfl (fun _ => rfl)) (d_op (ev_ext rfl (fun _ => rfl)) ?_))
  refine d_op ev_fnil (d_op ev_froff (d_op ev_fridx2 (d_op ev_frld2 ?_)))
  refine d_op (ev_sub64 e2 hs2 hm2 hc1 hc2 ha2 rfl rfl rfl) (d_op (ev_ext rfl (fun _ => rfl)) (d_op (ev_ext rfl (fun _ => rfl)) ?_))
  refine d_op ev_fnil (d_op ev_froff (d_op ev_fridx3 (d_op ev_frld3 ?_)))
  refine d_op (ev_sub64 e3 hs3 hm3 hc2 hc3 ha3 rfl rfl rfl) (d_op (ev_ext rfl (fun _ => rfl)) (d_op (ev_ext rfl (fun _ => rfl)) ?_))
  refine d_op ev_eql (d_if rfl (fun h1 => ?_) (fun h1 => ?_))
  · refine d_op ev_eql (d_if rfl (fun h2 => ?_) (fun h2 => ?_))
    · rw [if_pos (by omega)]
      exact d_op ev_wl (d_ret (by rw [eA]; rfl))
    · rw [if_neg (by omega)]
      exact d_op ev_wl (d_ret (by rw [WV_eq hs0 hs1 hs2 hs3]; rfl))
  · rw [if_neg (by omega)]
    exact d_op ev_wl (d_ret (by rw [WV_eq hs0 hs1 hs2 hs3]; rfl))
def t_flessH : T :=
 .node (.op (.cell 4 0) [.v 1]) <|
 .node (.op (.cell 4 1) [.v 1]) <|
 .node (.op (.cell 4 2) [.v 1]) <|
 .node (.op (.cell 4 3) [.v 1]) <|
 .node (.op (.lget false 1) [.v 0, .c (.int .i64 0)]) <|
 .node (.op .sub64 [.v 3, .v 7, .c (.int .u64 0)]) <|
 .node (.op (.ext 0 true) [.v 8]) <|
 .node (.op (.ext 1 true) [.v 8]) <|
 .node (.op (.lget false 1) [.v 0, .c (.int .i64 1)]) <|
 .node (.op .sub64 [.v 4, .v 11, .v 10]) <|
 .node (.op (.ext 0 true) [.v 12]) <|
 .node (.op (.ext 1 true) [.v 12]) <|
 .node (.op (.lget false 1) [.v 0, .c (.int .i64 2)]) <|
 .node (.op .sub64 [.v 5, .v 15, .v 14]) <|
 .node (.op (.ext 0 true) [.v 16]) <|
 .node (.op (.ext 1 true) [.v 16]) <|
 .node (.op (.lget false 1) [.v 0, .c (.int .i64 3)]) <|
 .node (.op .sub64 [.v 6, .v 19, .v 18]) <|
 .node (.op (.ext 0 true) [.v 20]) <|
 .node (.op (.ext 1 true) [.v 20]) <|
 .node (.op (.bin .eql) [.v 2, .c (.int .u64 0)]) <|
 .br (.v 23) (
 .node (.op (.bin .eql) [.v 22, .c (.int .u64 1)]) <|
 .br (.v 24) (
 .node (.op .mkagg [.v 3, .v 4, .v 5, .v 6]) <|
 .node (.op .mktup [.v 25, .v 0]) <|
 .ret (.v 26)) (
 .node (.op .mkagg [.v 9, .v 13, .v 17, .v 21]) <|
 .node (.op .mktup [.v 25, .v 0]) <|
 .ret (.v 26))) (
 .node (.op .mkagg [.v 9, .v 13, .v 17, .v 21]) <|
 .node (.op .mktup [.v 24, .v 0]) <|
 .ret (.v 25))
theorem flessH_den {m iv sq a over : Nat} (hm : m < W256) (hsq : sq < W256) (ha : a < W256) (ho : over ≤ 1) (hlt : over * W256 + a < 2 * m) :
    D P (fun e => e = .ret (.tup [WV ((over * W256 + a) % m), .lst (fcells m iv sq)])) [] 3 [.int .u64 (over : Int), WV a, .lst (fcells m iv sq)] t_flessH := by
  obtain ⟨m0, m1, m2, m3, q0, q1, q2, q3, hm0, hm1, hm2, hm3, _, _, _, _, em, _, eF⟩ := fcells_limbs (iv := iv) hm hsq
  obtain ⟨a0, a1, a2, a3, ha0, ha1, ha2, ha3, eA, ea⟩ := WV_limbs ha
  obtain ⟨s0, c0, hs0, hc0, e0⟩ := sub_parts ha0 hm0 (Nat.zero_le 1)
  obtain ⟨s1, c1, hs1, hc1, e1⟩ := sub_parts ha1 hm1 hc0
  obtain ⟨s2, c2, hs2, hc2, e2⟩ := sub_parts ha2 hm2 hc1
  obtain ⟨s3, c3, hs3, hc3, e3⟩ := sub_parts ha3 hm3 hc2
  have hS := V4_lt hs0 hs1 hs2 hs3
  have hsum : a + W256 * c3 = V4 s0 s1 s2 s3 + m := by subst ea; subst em; unfold V4 W256; omega
  rw [fless_out hm ha ho hlt hS hc3 hsum, eF, eA]
  refine d_cells rfl rfl rfl rfl ?_
  refine d_op ev_fget0 (d_op (ev_sub64 e0 hs0 hm0 (by omega) hc0 ha0 rfl rfl rfl) (d_op (ev_ext rfl (fun _ => rfl)) (d_op (ev_ext rfl (fun _ => rfl)) ?_)))
  refine d_op ev_fget1 (d_op (ev_sub64 e1 hs1 hm1 hc0 hc1 ha1 rfl rfl rfl) (d_op (ev_ext rfl (fun _ => rfl)) (d_op (ev_ext rfl (fun _ => rfl)) ?_)))
  refine d_op ev_fget2 (d_op (ev_sub64 e2 hs2 hm2 hc1 hc2 ha2 rfl rfl rfl) (d_op (ev_ext rfl (fun _ => rfl)) (d_op (ev_ext rfl (fun _ => rfl)) ?_)))
  refine d_op ev_fget3 (d_op (ev_sub64 e3 hs3 hm3 hc2 hc3 ha3 rfl rfl rfl) (d_op (ev_ext rfl (fun _ => rfl)) (d_op (ev_ext rfl (fun _ => rfl)) ?_)))
  refine d_op ev_eql (d_if rfl (fun h1 => ?_) (fun h1 => ?_))
  · refine d_op ev_eql (d_if rfl (fun h2 => ?_) (fun h2 => ?_))
    · rw [if_pos (by omega)]
      exact d_op ev_wl (d_op ev_mktup (d_ret (by rw [eA]; rfl)))
    · rw [if_neg (by omega)]
      exact d_op ev_wl (d_op ev_mktup (d_ret (by rw [WV_eq hs0 hs1 hs2 hs3]; rfl)))
  · rw [if_neg (by omega)]
    exact d_op ev_wl (d_op ev_mktup (d_ret (by rw [WV_eq hs0 hs1 hs2 hs3]; rfl)))
def F2H (P : Program) (f : FuncId) (s : Nat → Nat → Nat → Nat) : Prop := ∀ m iv sq a b, m < W256 → sq < W256 → a < m → b < m →
  CtH P f [.ptr 0 (.int .i64 0), .val (WV a), .val (WV b)] [.lst (fcells m iv sq)] ⟨false, [.val false], 1⟩ (fun e => e = .ret (.tup [WV (s m a b), .lst (fcells m iv sq)]))
def addM (m a b : Nat) : Nat := (a + b) % m
def t_faddH (less : FuncId) : T :=
 .node (.op (.cell 4 0) [.v 1]) <|
 .node (.op (.cell 4 1) [.v 1]) <|
 .node (.op (.cell 4 2) [.v 1]) <|
 .node (.op (.cell 4 3) [.v 1]) <|
 .node (.op (.cell 4 0) [.v 2]) <|
 .node (.op (.cell 4 1) [.v 2]) <|
 .node (.op (.cell 4 2) [.v 2]) <|
 .node (.op (.cell 4 3) [.v 2]) <|
 .node (.op .add64 [.v 3, .v 7, .c (.int .u64 0)]) <|
 .node (.op (.ext 0 true) [.v 11]) <|
 .node (.op (.ext 1 true) [.v 11]) <|
 .node (.op .add64 [.v 4, .v 8, .v 13]) <|
 .node (.op (.ext 0 true) [.v 14]) <|
 .node (.op (.ext 1 true) [.v 14]) <|
 .node (.op .add64 [.v 5, .v 9, .v 16]) <|
 .node (.op (.ext 0 true) [.v 17]) <|
 .node (.op (.ext 1 true) [.v 17]) <|
 .node (.op .add64 [.v 6, .v 10, .v 19]) <|
 .node (.op (.ext 0 true) [.v 20]) <|
 .node (.op (.ext 1 true) [.v 20]) <|
 .node (.op .mkagg [.v 12, .v 15, .v 18, .v 21]) <|
 .node (.callH less [.ptr 0 (.c (.int .i64 0)), .val (.v 23), .val (.v 22)] [.v 0] (.mk false [.val false] 1)) <|
 .node (.op (.ext 0 false) [.v 24]) <|
 .node (.op (.ext 1 false) [.v 24]) <|
 .node (.op (.cell 4 0) [.v 25]) <|
 .node (.op (.cell 4 1) [.v 25]) <|
 .node (.op (.cell 4 2) [.v 25]) <|
 .node (.op (.cell 4 3) [.v 25]) <|
 .node (.op .mkagg [.v 27, .v 28, .v 29, .v 30]) <|
 .node (.op .mktup [.v 31, .v 26]) <|
 .ret (.v 32)
theorem faddH_den {less : FuncId} {m iv sq a b : Nat} (hl : FLessH P less) (hm : m < W256) (hsq : sq < W256) (ha : a < m) (hb : b < m) :
    D P (fun e => e = .ret (.tup [WV (addM m a b), .lst (fcells m iv sq)])) [] 3 [WV b, WV a, .lst (fcells m iv sq)] (t_faddH less) := by
  obtain ⟨a0, a1, a2, a3, ha0, ha1, ha2, ha3, eA, ea⟩ := WV_limbs (Nat.lt_trans ha hm)
  obtain ⟨b0, b1, b2, b3, hb0, hb1, hb2, hb3, eB, eb⟩ := WV_limbs (Nat.lt_trans hb hm)
  obtain ⟨s0, c0, hs0, hc0, e0⟩ := add_parts ha0 hb0 (Nat.zero_le 1)
  obtain ⟨s1, c1, hs1, hc1, e1⟩ := add_parts ha1 hb1 hc0
  obtain ⟨s2, c2, hs2, hc2, e2⟩ := add_parts ha2 hb2 hc1
  obtain ⟨s3, c3, hs3, hc3, e3⟩ := add_parts ha3 hb3 hc2
  have hS := V4_lt hs0 hs1 hs2 hs3
  have hsum : c3 * W256 + V4 s0 s1 s2 s3 = a + b := by subst ea; subst eb; unfold V4 W256; omega
  have h := hl m iv sq (V4 s0 s1 s2 s3) c3 hm hsq hS hc3 (by omega)
  obtain ⟨r0, r1, r2, r3, _, _, _, _, er, _⟩ := WV_limbs (a := (a + b) % m) (Nat.lt_trans (Nat.mod_lt _ (by omega)) hm)
  rw [hsum, er, WV_eq hs0 hs1 hs2 hs3] at h
  unfold addM
  rw [er, eA, eB]
  refine d_cells rfl rfl rfl rfl (d_cells rfl rfl rfl rfl ?_)
  refine d_op (ev_add64 e0 hs0 (by omega) rfl rfl rfl) (d_op (ev_ext rfl (fun _ => rfl)) (d_op (ev_ext rfl (fun _ => rfl)) ?_))
  refine d_op (ev_add64 e1 hs1 hc0 rfl rfl rfl) (d_op (ev_ext rfl (fun _ => rfl)) (d_op (ev_ext rfl (fun _ => rfl)) ?_))
  refine d_op (ev_add64 e2 hs2 hc1 rfl rfl rfl) (d_op (ev_ext rfl (fun _ => rfl)) (d_op (ev_ext rfl (fun _ => rfl)) ?_))
  refine d_op (ev_add64 e3 hs3 hc2 rfl rfl rfl) (d_op (ev_ext rfl (fun _ => rfl)) (d_op (ev_ext rfl (fun _ => rfl)) ?_))
  refine d_op ev_wl (d_callH h (d_op (ev_ext rfl (fun h => by cases h)) (d_op (ev_ext rfl (fun h => by cases h)) ?_)))
  exact d_cells rfl rfl rfl rfl (d_op ev_wl (d_op ev_mktup (d_ret rfl)))
def Mul64C (P : Program) (f : FuncId) : Prop := ∀ x y, x < B64 → y < B64 → Ct P f [.int .u64 (x : Int), .int .u64 (y : Int)] (fun e => e = .ret (.tup [.int .u64 ((x * y / B64 : Nat) : Int), .int .u64 ((x * y % B64 : Nat) : Int)]))
def MulAddC (P : Program) (f : FuncId) : Prop := ∀ x y z w, x < B64 → y < B64 → z < B64 → w < B64 →
  Ct P f [.int .u64 (x : Int), .int .u64 (y : Int), .int .u64 (z : Int), .int .u64 (w : Int)] (fun e => e = .ret (.tup [.int .u64 (((x * y + z + w) / B64 : Nat) : Int), .int .u64 (((x * y + z + w) % B64 : Nat) : Int)]))
def t_mul64 : T :=
 .node (.op (.bin .and) [.v 0, .c (.int .u64 4294967295)]) <|
 .node (.op (.bin .shr) [.v 0, .c (.int .u64 32)]) <|
 .node (.op (.bin .and) [.v 1, .c (.int .u64 4294967295)]) <|
 .node (.op (.bin .shr) [.v 1, .c (.int .u64 32)]) <|
 .node (.op (.bin .mul) [.v 2, .v 4]) <|
 .node (.op (.bin .mul) [.v 3, .v 4]) <|
 .node (.op (.bin .shr) [.v 6, .c (.int .u64 32)]) <|
 .node (.op (.bin .add) [.v 7, .v 8]) <|
 .node (.op (.bin .and) [.v 9, .c (.int .u64 4294967295)]) <|
 .node (.op (.bin .shr) [.v 9, .c (.int .u64 32)]) <|
 .node (.op (.bin .mul) [.v 2, .v 5]) <|
 .node (.op (.bin .add) [.v 10, .v 12]) <|
 .node (.op (.bin .mul) [.v 3, .v 5]) <|
 .node (.op (.bin .add) [.v 14, .v 11]) <|
 .node (.op (.bin .shr) [.v 13, .c (.int .u64 32)]) <|
 .node (.op (.bin .add) [.v 15, .v 16]) <|
 .node (.op (.bin .mul) [.v 0, .v 1]) <|
 .node (.op .mktup [.v 17, .v 18]) <|
 .ret (.v 19)
theorem mul64_den {x y : Nat} (hx : x < B64) (hy : y < B64) : D P (fun e => e = .ret (.tup [.int .u64 ((x * y / B64 : Nat) : Int), .int .u64 ((x * y % B64 : Nat) : Int)])) [] 2 [.int .u64 (y : Int), .int .u64 (x : Int)] t_mul64 := by
  have hx' : x < 18446744073709551616 := hx
  have hy' : y < 18446744073709551616 := hy
  obtain ⟨x0, ex0⟩ : ∃ x0, x0 = x % 4294967296 := ⟨_, rfl⟩
  obtain ⟨x1, ex1⟩ : ∃ x1, x1 = x / 4294967296 := ⟨_, rfl⟩
  obtain ⟨y0, ey0⟩ : ∃ y0, y0 = y % 4294967296 := ⟨_, rfl⟩
  obtain ⟨y1, ey1⟩ : ∃ y1, y1 = y / 4294967296 := ⟨_, rfl⟩
  have hx0 : x0 ≤ 4294967295 := by omega
  have hx1 : x1 ≤ 4294967295 := by omega
  have hy0 : y0 ≤ 4294967295 := by omega
  have hy1 : y1 ≤ 4294967295 := by omega
  have p := Nat.mul_le_mul hx0 hy0
  have q := Nat.mul_le_mul hx1 hy0
  have r := Nat.mul_le_mul hx0 hy1
  have s := Nat.mul_le_mul hx1 hy1
  have hxy : x * y = x0 * y0 + 4294967296 * (x1 * y0) + 4294967296 * (x0 * y1) + 18446744073709551616 * (x1 * y1) := by
    have e1 : x = x0 + 4294967296 * x1 := by omega
    have e2 : y = y0 + 4294967296 * y1 := by omega
    rw [e1, e2]; grind
  have a0 : x &&& 4294967295 = x0 := by rw [ex0]; exact Nat.and_two_pow_sub_one_eq_mod x 32
  have a1 : y &&& 4294967295 = y0 := by rw [ey0]; exact Nat.and_two_pow_sub_one_eq_mod y 32
  refine d_op (ev_and (by constructor <;> omega) (y := 4294967295) (by decide)) ?_
  rw [a0]
  refine d_op (ev_shr (y := 32) rfl (by decide) ex1.symm) (d_op (ev_and (by constructor <;> omega) (y := 4294967295) (by decide)) ?_)
  rw [a1]
  refine d_op (ev_shr (y := 32) rfl (by decide) ey1.symm) ?_
  have c : ∀ u v : Nat, (u : Int) * (v : Int) = ((u * v : Nat) : Int) := fun u v => by simp
  have hw : IntKind.u64.wrap ((x : Int) * (y : Int)) = ((x * y % B64 : Nat) : Int) := by rw [c, wrap_u rfl]; rfl
  obtain ⟨p', ep⟩ : ∃ p', p' = x0 * y0 := ⟨_, rfl⟩
  obtain ⟨q', eq⟩ : ∃ q', q' = x1 * y0 := ⟨_, rfl⟩
  obtain ⟨r', er⟩ : ∃ r', r' = x0 * y1 := ⟨_, rfl⟩
  obtain ⟨s', es⟩ : ∃ s', s' = x1 * y1 := ⟨_, rfl⟩
  rw [← ep, ← eq, ← er, ← es] at hxy
  rw [← ep] at p; rw [← eq] at q; rw [← er] at r; rw [← es] at s
  refine d_op (ev_mul (by rw [c, ← ep]; constructor <;> omega)) (d_op (ev_mul (by rw [c, ← eq]; constructor <;> omega)) ?_)
  rw [c x0 y0, c x1 y0, ← ep, ← eq]
  refine d_op (ev_shr (y := 32) rfl (by decide) rfl) (d_op (ev_add (by constructor <;> omega)) ?_)
  have et : (q' : Int) + ((p' / 2 ^ 32 : Nat) : Int) = ((q' + p' / 4294967296 : Nat) : Int) := by omega
  rw [et]
  obtain ⟨t, ett⟩ : ∃ t, t = q' + p' / 4294967296 := ⟨_, rfl⟩
  rw [← ett]
  refine d_op (ev_and (by constructor <;> omega) (y := 4294967295) (by decide)) ?_
  rw [Nat.and_two_pow_sub_one_eq_mod t 32]
  refine d_op (ev_shr (y := 32) rfl (by decide) rfl) (d_op (ev_mul (by rw [c, ← er]; constructor <;> omega)) ?_)
  rw [c x0 y1, ← er]
  refine d_op (ev_add (by constructor <;> omega)) (d_op (ev_mul (by rw [c, ← es]; constructor <;> omega)) ?_)
  rw [c x1 y1, ← es]
  have e3 : ((t % 2 ^ 32 : Nat) : Int) + (r' : Int) = ((t % 4294967296 + r' : Nat) : Int) := by omega
  rw [e3]
  refine d_op (ev_add (by constructor <;> omega)) (d_op (ev_shr (y := 32) rfl (by decide) rfl) (d_op (ev_add (by constructor <;> omega)) (d_op ev_mulw ?_)))
  rw [hw]
  refine d_op ev_mktup (d_ret ?_)
  have : (s' : Int) + ((t / 2 ^ 32 : Nat) : Int) + (((t % 4294967296 + r') / 2 ^ 32 : Nat) : Int) = ((x * y / B64 : Nat) : Int) := by
    show _ = ((x * y / 18446744073709551616 : Nat) : Int)
    omega
  rw [this]; rfl
def t_mulAdd (mul : FuncId) : T :=
 .node (.call mul [.v 0, .v 1] false) <|
 .node (.op (.ext 0 true) [.v 4]) <|
 .node (.op (.ext 1 true) [.v 4]) <|
 .node (.op .add64 [.v 6, .v 2, .c (.int .u64 0)]) <|
 .node (.op (.ext 0 true) [.v 7]) <|
 .node (.op (.ext 1 true) [.v 7]) <|
 .node (.op (.bin .add) [.v 5, .v 9]) <|
 .node (.op .add64 [.v 8, .v 3, .c (.int .u64 0)]) <|
 .node (.op (.ext 0 true) [.v 11]) <|
 .node (.op (.ext 1 true) [.v 11]) <|
 .node (.op (.bin .add) [.v 10, .v 13]) <|
 .node (.op .mktup [.v 14, .v 12]) <|
 .ret (.v 15)
theorem mulAdd_den {mul : FuncId} {x y z w : Nat} (hm : Mul64C P mul) (hx : x < B64) (hy : y < B64) (hz : z < B64) (hw : w < B64) :
    D P (fun e => e = .ret (.tup [.int .u64 (((x * y + z + w) / B64 : Nat) : Int), .int .u64 (((x * y + z + w) % B64 : Nat) : Int)])) [] 4 [.int .u64 (w : Int), .int .u64 (z : Int), .int .u64 (y : Int), .int .u64 (x : Int)] (t_mulAdd mul) := by
  have hx' : x ≤ 18446744073709551615 := Nat.le_of_lt_succ hx
  have hy' : y ≤ 18446744073709551615 := Nat.le_of_lt_succ hy
  have hp := Nat.mul_le_mul hx' hy'
  have h := hm x y hx hy
  obtain ⟨p, ep⟩ : ∃ p, p = x * y := ⟨_, rfl⟩
  rw [← ep] at hp h ⊢
  obtain ⟨h0, eh⟩ : ∃ h0, h0 = p / 18446744073709551616 := ⟨_, rfl⟩
  obtain ⟨l0, el⟩ : ∃ l0, l0 = p % 18446744073709551616 := ⟨_, rfl⟩
  have hl0 : l0 < B64 := by rw [el]; exact Nat.mod_lt _ (by decide)
  obtain ⟨l1, c1, hl1, hc1, e1⟩ := add_parts hl0 hz (Nat.zero_le 1)
  obtain ⟨l2, c2, hl2, hc2, e2⟩ := add_parts hl1 hw (Nat.zero_le 1)
  have hl2' : l2 < 18446744073709551616 := hl2
  have hz' : z < 18446744073709551616 := hz
  have hw' : w < 18446744073709551616 := hw
  have f1 : (p + z + w) / B64 = h0 + c1 + c2 := by show _ / 18446744073709551616 = _; omega
  have f2 : (p + z + w) % B64 = l2 := by show _ % 18446744073709551616 = _; omega
  rw [f1, f2]
  have h' : Ct P mul [.int .u64 (x : Int), .int .u64 (y : Int)] (fun e => e = .ret (.tup [.int .u64 (h0 : Int), .int .u64 (l0 : Int)])) := by rw [eh, el]; exact h
  have hb : h0 + c1 + c2 < 18446744073709551616 := by omega
  refine d_call h' (fun h => by cases h) (d_op (ev_ext rfl (fun _ => rfl)) (d_op (ev_ext rfl (fun _ => rfl)) ?_))
  refine d_op (ev_add64 e1 hl1 (by omega) rfl rfl rfl) (d_op (ev_ext rfl (fun _ => rfl)) (d_op (ev_ext rfl (fun _ => rfl)) (d_op (ev_add (by constructor <;> omega)) ?_)))
  refine d_op (ev_add64 e2 hl2 (by omega) rfl rfl rfl) (d_op (ev_ext rfl (fun _ => rfl)) (d_op (ev_ext rfl (fun _ => rfl)) (d_op (ev_add (by constructor <;> omega)) ?_)))
  refine d_op ev_mktup (d_ret ?_)
  have : (h0 : Int) + (c1 : Int) + (c2 : Int) = ((h0 + c1 + c2 : Nat) : Int) := by omega
  rw [this]; rfl
end Go.SE
