/- Nothing of the statement is proved here: this text lays generic laws: FA; no conditions. -/
import Derived.Test.YtomjfjncfodmhaaNA
set_option linter.all false
set_option autoImplicit false
set_option maxRecDepth 4000
namespace Go.SE
open Go
variable {P : Program} {R : AEnd → Prop}
def WL (a b c d : Nat) : AV := .agg [.int .u64 (a : Int), .int .u64 (b : Int), .int .u64 (c : Int), .int .u64 (d : Int)]
def V4 (a b c d : Nat) : Nat := a + 18446744073709551616 * b + 340282366920938463463374607431768211456 * c + 6277101735386680763835789423207666416102355444464034512896 * d
def W256 : Nat := 115792089237316195423570985008687907853269984665640564039457584007913129639936
def WV (n : Nat) : AV := WL (n % 18446744073709551616) (n / 18446744073709551616 % 18446744073709551616) (n / 340282366920938463463374607431768211456 % 18446744073709551616) (n / 6277101735386680763835789423207666416102355444464034512896 % 18446744073709551616)
abbrev B64 : Nat := 18446744073709551616
theorem limbs {n : Nat} (h : n < W256) : ∃ a b c d, a < B64 ∧ b < B64 ∧ c < B64 ∧ d < B64 ∧ n = V4 a b c d := by
  unfold W256 at h
  exact ⟨n % 18446744073709551616, n / 18446744073709551616 % 18446744073709551616, n / 340282366920938463463374607431768211456 % 18446744073709551616, n / 6277101735386680763835789423207666416102355444464034512896, by show _ < 18446744073709551616; omega, by show _ < 18446744073709551616; omega, by show _ < 18446744073709551616; omega, by show _ < 18446744073709551616; omega, by unfold V4; omega⟩
theorem V4_lt {a b c d : Nat} (ha : a < B64) (hb : b < B64) (hc : c < B64) (hd : d < B64) : V4 a b c d < W256 := by
  unfold V4 W256
  have : a < 18446744073709551616 := ha
  have : b < 18446744073709551616 := hb
  have : c < 18446744073709551616 := hc
  have : d < 18446744073709551616 := hd
  omega
theorem WV_eq {a b c d : Nat} (ha : a < B64) (hb : b < B64) (hc : c < B64) (hd : d < B64) : WV (V4 a b c d) = WL a b c d := by
  have : a < 18446744073709551616 := ha
  have : b < 18446744073709551616 := hb
  have : c < 18446744073709551616 := hc
  have : d < 18446744073709551616 := hd
  unfold WV V4
  congr 1 <;> omega
theorem ev_c0 {a b c d : Nat} : evalO (.cell 4 0) [WL a b c d] = some (.int .u64 (a : Int)) := rfl
theorem ev_c1 {a b c d : Nat} : evalO (.cell 4 1) [WL a b c d] = some (.int .u64 (b : Int)) := rfl
theorem ev_c2 {a b c d : Nat} : evalO (.cell 4 2) [WL a b c d] = some (.int .u64 (c : Int)) := rfl
theorem ev_c3 {a b c d : Nat} : evalO (.cell 4 3) [WL a b c d] = some (.int .u64 (d : Int)) := rfl
theorem ev_wl {a b c d : Nat} : evalO .mkagg [.int .u64 (a : Int), .int .u64 (b : Int), .int .u64 (c : Int), .int .u64 (d : Int)] = some (WL a b c d) := rfl
theorem d_cells {H : List (List AV → Prop)} {n : Nat} {ρ : List AV} {x : Atom} {a b c d : Nat} {t : T}
    (h0 : x.at n ρ = WL a b c d) (h1 : x.at (n + 1) (.int .u64 (a : Int) :: ρ) = WL a b c d) (h2 : x.at (n + 1 + 1) (.int .u64 (b : Int) :: .int .u64 (a : Int) :: ρ) = WL a b c d)
    (h3 : x.at (n + 1 + 1 + 1) (.int .u64 (c : Int) :: .int .u64 (b : Int) :: .int .u64 (a : Int) :: ρ) = WL a b c d)
    (k : D P R H (n + 1 + 1 + 1 + 1) (.int .u64 (d : Int) :: .int .u64 (c : Int) :: .int .u64 (b : Int) :: .int .u64 (a : Int) :: ρ) t) :
    D P R H n ρ (.node (.op (.cell 4 0) [x]) (.node (.op (.cell 4 1) [x]) (.node (.op (.cell 4 2) [x]) (.node (.op (.cell 4 3) [x]) t)))) :=
  d_op (by show evalO _ [x.at n ρ] = _; rw [h0]; exact ev_c0) (d_op (by show evalO _ [x.at _ _] = _; rw [h1]; exact ev_c1) (d_op (by show evalO _ [x.at _ _] = _; rw [h2]; exact ev_c2) (d_op (by show evalO _ [x.at _ _] = _; rw [h3]; exact ev_c3) k)))
theorem add_parts {x y c : Nat} (hx : x < B64) (hy : y < B64) (hc : c ≤ 1) : ∃ s c', s < B64 ∧ c' ≤ 1 ∧ x + y + c = s + 18446744073709551616 * c' := by
  have : x < 18446744073709551616 := hx
  have : y < 18446744073709551616 := hy
  exact ⟨(x + y + c) % 18446744073709551616, (x + y + c) / 18446744073709551616, by show _ < 18446744073709551616; omega, by omega, by omega⟩
theorem sub_parts {x y c : Nat} (hx : x < B64) (hy : y < B64) (hc : c ≤ 1) : ∃ s c', s < B64 ∧ c' ≤ 1 ∧ x + 18446744073709551616 * c' = s + y + c := by
  have : x < 18446744073709551616 := hx
  have : y < 18446744073709551616 := hy
  by_cases h : x < y + c
  · exact ⟨x + 18446744073709551616 - y - c, 1, by show _ < 18446744073709551616; omega, by omega, by omega⟩
  · exact ⟨x - y - c, 0, by show _ < 18446744073709551616; omega, by omega, by omega⟩
theorem ev_add64 {x y c s c' : Nat} {a b d : Int} (h : x + y + c = s + 18446744073709551616 * c') (hs : s < B64) (hc : c ≤ 1) (ha : a = (x : Int)) (hb : b = (y : Int)) (hd : d = (c : Int)) :
    evalO .add64 [.int .u64 a, .int .u64 b, .int .u64 d] = some (.tup [.int .u64 (s : Int), .int .u64 (c' : Int)]) := by
  have : s < 18446744073709551616 := hs
  subst ha; subst hb; subst hd
  simp only [evalO]
  have e1 : ((x : Int) + (y : Int) + (c : Int)) % 18446744073709551616 = (s : Int) := by omega
  have e2 : ((x : Int) + (y : Int) + (c : Int)) / 18446744073709551616 = (c' : Int) := by omega
  rw [if_pos (by omega), e1, e2]
theorem ev_sub64 {x y c s c' : Nat} {a b d : Int} (h : x + 18446744073709551616 * c' = s + y + c) (hs : s < B64) (hy : y < B64) (hc : c ≤ 1) (hc' : c' ≤ 1) (hx : x < B64) (ha : a = (x : Int)) (hb : b = (y : Int)) (hd : d = (c : Int)) :
    evalO .sub64 [.int .u64 a, .int .u64 b, .int .u64 d] = some (.tup [.int .u64 (s : Int), .int .u64 (c' : Int)]) := by
  have : s < 18446744073709551616 := hs
  have : y < 18446744073709551616 := hy
  have : x < 18446744073709551616 := hx
  subst ha; subst hb; subst hd
  simp only [evalO]
  have e1 : ((x : Int) - (y : Int) - (c : Int)) % 18446744073709551616 = (s : Int) := by omega
  have e2 : (if (x : Int) < (y : Int) + (c : Int) then (1 : Int) else 0) = (c' : Int) := by split <;> omega
  rw [if_pos (by omega), e1, e2]
def WSubC (P : Program) (f : FuncId) : Prop := ∀ a b, a < W256 → b < W256 → Ct P f [WV a, WV b] (fun e => e = .ret (.tup [WV ((a + W256 - b) % W256), .int .u64 ((if a < b then 1 else 0 : Nat) : Int)]))
def W2 (P : Program) (f : FuncId) (s : Nat → Nat → Nat) : Prop := ∀ a b, a < W256 → b < W256 → Ct P f [WV a, WV b] (fun e => e = .ret (WV (s a b)))
def t_wsub : T :=
 .node (.op (.cell 4 0) [.v 0]) <|
 .node (.op (.cell 4 1) [.v 0]) <|
 .node (.op (.cell 4 2) [.v 0]) <|
 .node (.op (.cell 4 3) [.v 0]) <|
 .node (.op (.cell 4 0) [.v 1]) <|
 .node (.op (.cell 4 1) [.v 1]) <|
 .node (.op (.cell 4 2) [.v 1]) <|
 .node (.op (.cell 4 3) [.v 1]) <|
 .node (.op .sub64 [.v 2, .v 6, .c (.int .u64 0)]) <|
 .node (.op (.ext 0 true) [.v 10]) <|
 .node (.op (.ext 1 true) [.v 10]) <|
 .node (.op .sub64 [.v 3, .v 7, .v 12]) <|
 .node (.op (.ext 0 true) [.v 13]) <|
 .node (.op (.ext 1 true) [.v 13]) <|
 .node (.op .sub64 [.v 4, .v 8, .v 15]) <|
 .node (.op (.ext 0 true) [.v 16]) <|
 .node (.op (.ext 1 true) [.v 16]) <|
 .node (.op .sub64 [.v 5, .v 9, .v 18]) <|
 .node (.op (.ext 0 true) [.v 19]) <|
 .node (.op (.ext 1 true) [.v 19]) <|
 .node (.op .mkagg [.v 11, .v 14, .v 17, .v 20]) <|
 .node (.op .mktup [.v 22, .v 21]) <|
 .ret (.v 23)
theorem wsub_den {a b : Nat} (ha : a < W256) (hb : b < W256) : D P (fun e => e = .ret (.tup [WV ((a + W256 - b) % W256), .int .u64 ((if a < b then 1 else 0 : Nat) : Int)])) [] 2 [WV b, WV a] t_wsub := by
  obtain ⟨a0, a1, a2, a3, ha0, ha1, ha2, ha3, ea⟩ := limbs ha
  obtain ⟨b0, b1, b2, b3, hb0, hb1, hb2, hb3, eb⟩ := limbs hb
  obtain ⟨s0, c0, hs0, hc0, e0⟩ := sub_parts ha0 hb0 (Nat.zero_le 1)
  obtain ⟨s1, c1, hs1, hc1, e1⟩ := sub_parts ha1 hb1 hc0
  obtain ⟨s2, c2, hs2, hc2, e2⟩ := sub_parts ha2 hb2 hc1
  obtain ⟨s3, c3, hs3, hc3, e3⟩ := sub_parts ha3 hb3 hc2
  have hS := V4_lt hs0 hs1 hs2 hs3
  have hsum : a + W256 * c3 = V4 s0 s1 s2 s3 + b := by subst ea; subst eb; unfold V4 W256; omega
  have hr : (a + W256 - b) % W256 = V4 s0 s1 s2 s3 := by unfold W256 at *; omega
  have hc : (if a < b then 1 else 0 : Nat) = c3 := by unfold W256 at *; split <;> omega
  rw [hr, hc, WV_eq hs0 hs1 hs2 hs3, ea, eb, WV_eq ha0 ha1 ha2 ha3, WV_eq hb0 hb1 hb2 hb3]
  refine d_cells rfl rfl rfl rfl (d_cells rfl rfl rfl rfl ?_)
  refine d_op (ev_sub64 e0 hs0 hb0 (by omega) hc0 ha0 rfl rfl rfl) (d_op (ev_ext rfl (fun _ => rfl)) (d_op (ev_ext rfl (fun _ => rfl)) ?_))
  refine d_op (ev_sub64 e1 hs1 hb1 hc0 hc1 ha1 rfl rfl rfl) (d_op (ev_ext rfl (fun _ => rfl)) (d_op (ev_ext rfl (fun _ => rfl)) ?_))
  refine d_op (ev_sub64 e2 hs2 hb2 hc1 hc2 ha2 rfl rfl rfl) (d_op (ev_ext rfl (fun _ => rfl)) (d_op (ev_ext rfl (fun _ => rfl)) ?_))
  refine d_op (ev_sub64 e3 hs3 hb3 hc2 hc3 ha3 rfl rfl rfl) (d_op (ev_ext rfl (fun _ => rfl)) (d_op (ev_ext rfl (fun _ => rfl)) ?_))
  exact d_op ev_wl (d_op ev_mktup (d_ret rfl))
theorem WV_limbs {a : Nat} (ha : a < W256) : ∃ a0 a1 a2 a3, a0 < B64 ∧ a1 < B64 ∧ a2 < B64 ∧ a3 < B64 ∧ WV a = WL a0 a1 a2 a3 ∧ a = V4 a0 a1 a2 a3 := by
  obtain ⟨a0, a1, a2, a3, ha0, ha1, ha2, ha3, ea⟩ := limbs ha
  exact ⟨a0, a1, a2, a3, ha0, ha1, ha2, ha3, by rw [ea, WV_eq ha0 ha1 ha2 ha3], ea⟩
def t_wSub (sub : FuncId) : T :=
 .node (.op (.cell 4 0) [.v 0]) <|
 .node (.op (.cell 4 1) [.v 0]) <|
 .node (.op (.cell 4 2) [.v 0]) <|
 .node (.op (.cell 4 3) [.v 0]) <|
 .node (.op (.cell 4 0) [.v 1]) <|
 .node (.op (.cell 4 1) [.v 1]) <|
 .node (.op (.cell 4 2) [.v 1]) <|
 .node (.op (.cell 4 3) [.v 1]) <|
 .node (.op .mkagg [.v 2, .v 3, .v 4, .v 5]) <|
 .node (.op .mkagg [.v 6, .v 7, .v 8, .v 9]) <|
 .node (.call sub [.v 10, .v 11] false) <|
 .node (.op (.ext 0 false) [.v 12]) <|
 .node (.op (.ext 1 true) [.v 12]) <|
 .node (.op (.cell 4 0) [.v 13]) <|
 .node (.op (.cell 4 1) [.v 13]) <|
 .node (.op (.cell 4 2) [.v 13]) <|
 .node (.op (.cell 4 3) [.v 13]) <|
 .node (.op .mkagg [.v 15, .v 16, .v 17, .v 18]) <|
 .ret (.v 19)
theorem wSub_den {sub : FuncId} {a b : Nat} (hs : WSubC P sub) (ha : a < W256) (hb : b < W256) : D P (fun e => e = .ret (WV ((a + W256 - b) % W256))) [] 2 [WV b, WV a] (t_wSub sub) := by
  have h := hs a b ha hb
  obtain ⟨r0, r1, r2, r3, _, _, _, _, er, _⟩ := WV_limbs (a := (a + W256 - b) % W256) (Nat.mod_lt _ (by decide))
  obtain ⟨a0, a1, a2, a3, _, _, _, _, ea, _⟩ := WV_limbs ha
  obtain ⟨b0, b1, b2, b3, _, _, _, _, eb, _⟩ := WV_limbs hb
  rw [ea, eb, er] at h
  rw [ea, eb, er]
  refine d_cells rfl rfl rfl rfl (d_cells rfl rfl rfl rfl (d_op ev_wl (d_op ev_wl (d_call h (fun h => by cases h) ?_))))
  refine d_op (ev_ext rfl (fun h => by cases h)) (d_op (ev_ext rfl (fun _ => rfl)) (d_cells rfl rfl rfl rfl (d_op ev_wl (d_ret rfl))))
end Go.SE
set_option autoImplicit false
set_option maxRecDepth 4000
namespace Go.SE
open Go
variable {P : Program} {R : AEnd → Prop}
def FLs (m0 m1 m2 m3 iv s0 s1 s2 s3 : Nat) : List AV :=
  [.int .u64 (m0 : Int), .int .u64 (m1 : Int), .int .u64 (m2 : Int), .int .u64 (m3 : Int), .int .u64 (iv : Int), .int .u64 (s0 : Int), .int .u64 (s1 : Int), .int .u64 (s2 : Int), .int .u64 (s3 : Int)]
def FL (m0 m1 m2 m3 iv s0 s1 s2 s3 : Nat) : AV := .rp (FLs m0 m1 m2 m3 iv s0 s1 s2 s3)
def fcells (m iv sq : Nat) : List AV :=
  FLs (m % 18446744073709551616) (m / 18446744073709551616 % 18446744073709551616) (m / 340282366920938463463374607431768211456 % 18446744073709551616) (m / 6277101735386680763835789423207666416102355444464034512896 % 18446744073709551616) iv
    (sq % 18446744073709551616) (sq / 18446744073709551616 % 18446744073709551616) (sq / 340282366920938463463374607431768211456 % 18446744073709551616) (sq / 6277101735386680763835789423207666416102355444464034512896 % 18446744073709551616)
def FP (m iv sq : Nat) : AV := .rp (fcells m iv sq)
theorem fcells_eq {m0 m1 m2 m3 iv s0 s1 s2 s3 : Nat} (h0 : m0 < B64) (h1 : m1 < B64) (h2 : m2 < B64) (h3 : m3 < B64) (g0 : s0 < B64) (g1 : s1 < B64) (g2 : s2 < B64) (g3 : s3 < B64) :
    fcells (V4 m0 m1 m2 m3) iv (V4 s0 s1 s2 s3) = FLs m0 m1 m2 m3 iv s0 s1 s2 s3 := by
  have : m0 < 18446744073709551616 := h0
  have : m1 < 18446744073709551616 := h1
  have : m2 < 18446744073709551616 := h2
  have : m3 < 18446744073709551616 := h3
  have : s0 < 18446744073709551616 := g0
  have : s1 < 18446744073709551616 := g1
  have : s2 < 18446744073709551616 := g2
  have : s3 < 18446744073709551616 := g3
  unfold fcells V4
  congr 1 <;> omega
theorem fcells_limbs {m iv sq : Nat} (hm : m < W256) (hs : sq < W256) : ∃ m0 m1 m2 m3 s0 s1 s2 s3, m0 < B64 ∧ m1 < B64 ∧ m2 < B64 ∧ m3 < B64 ∧ s0 < B64 ∧ s1 < B64 ∧ s2 < B64 ∧ s3 < B64 ∧ m = V4 m0 m1 m2 m3 ∧ sq = V4 s0 s1 s2 s3 ∧
    fcells m iv sq = FLs m0 m1 m2 m3 iv s0 s1 s2 s3 := by
  obtain ⟨m0, m1, m2, m3, h0, h1, h2, h3, em⟩ := limbs hm
  obtain ⟨s0, s1, s2, s3, g0, g1, g2, g3, es⟩ := limbs hs
  exact ⟨m0, m1, m2, m3, s0, s1, s2, s3, h0, h1, h2, h3, g0, g1, g2, g3, em, es, by rw [em, es, fcells_eq h0 h1 h2 h3 g0 g1 g2 g3]⟩
theorem FP_limbs {m iv sq : Nat} (hm : m < W256) (hs : sq < W256) : ∃ m0 m1 m2 m3 s0 s1 s2 s3, m0 < B64 ∧ m1 < B64 ∧ m2 < B64 ∧ m3 < B64 ∧ s0 < B64 ∧ s1 < B64 ∧ s2 < B64 ∧ s3 < B64 ∧ m = V4 m0 m1 m2 m3 ∧ sq = V4 s0 s1 s2 s3 ∧
    FP m iv sq = FL m0 m1 m2 m3 iv s0 s1 s2 s3 := by
  obtain ⟨m0, m1, m2, m3, s0, s1, s2, s3, h0, h1, h2, h3, g0, g1, g2, g3, em, es, e⟩ := fcells_limbs (iv := iv) hm hs
  exact ⟨m0, m1, m2, m3, s0, s1, s2, s3, h0, h1, h2, h3, g0, g1, g2, g3, em, es, by unfold FP; rw [e]; rfl⟩
section
variable {m0 m1 m2 m3 iv s0 s1 s2 s3 : Nat}
theorem ev_fnil : evalO .nilchk [FL m0 m1 m2 m3 iv s0 s1 s2 s3] = some (FL m0 m1 m2 m3 iv s0 s1 s2 s3) := rfl
theorem ev_froff : evalO (.roff 0) [FL m0 m1 m2 m3 iv s0 s1 s2 s3] = some (FL m0 m1 m2 m3 iv s0 s1 s2 s3) := rfl
theorem ev_froff4 : evalO (.roff 4) [FL m0 m1 m2 m3 iv s0 s1 s2 s3] = some (.rp ((FLs m0 m1 m2 m3 iv s0 s1 s2 s3).drop 4)) := rfl
theorem ev_froff5 : evalO (.roff 5) [FL m0 m1 m2 m3 iv s0 s1 s2 s3] = some (.rp ((FLs m0 m1 m2 m3 iv s0 s1 s2 s3).drop 5)) := rfl
theorem ev_fridx0 : evalO (.ridx 4 1) [FL m0 m1 m2 m3 iv s0 s1 s2 s3, .int .i64 0] = some (FL m0 m1 m2 m3 iv s0 s1 s2 s3) := rfl
theorem ev_fridx1 : evalO (.ridx 4 1) [FL m0 m1 m2 m3 iv s0 s1 s2 s3, .int .i64 1] = some (.rp ((FLs m0 m1 m2 m3 iv s0 s1 s2 s3).drop 1)) := rfl
theorem ev_fridx2 : evalO (.ridx 4 1) [FL m0 m1 m2 m3 iv s0 s1 s2 s3, .int .i64 2] = some (.rp ((FLs m0 m1 m2 m3 iv s0 s1 s2 s3).drop 2)) := rfl
theorem ev_fridx3 : evalO (.ridx 4 1) [FL m0 m1 m2 m3 iv s0 s1 s2 s3, .int .i64 3] = some (.rp ((FLs m0 m1 m2 m3 iv s0 s1 s2 s3).drop 3)) := rfl
theorem ev_frld0 : evalO (.rld false 1) [FL m0 m1 m2 m3 iv s0 s1 s2 s3] = some (.int .u64 (m0 : Int)) := rfl
theorem ev_frld1 : evalO (.rld false 1) [.rp ((FLs m0 m1 m2 m3 iv s0 s1 s2 s3).drop 1)] = some (.int .u64 (m1 : Int)) := rfl
theorem ev_frld2 : evalO (.rld false 1) [.rp ((FLs m0 m1 m2 m3 iv s0 s1 s2 s3).drop 2)] = some (.int .u64 (m2 : Int)) := rfl
theorem ev_frld3 : evalO (.rld false 1) [.rp ((FLs m0 m1 m2 m3 iv s0 s1 s2 s3).drop 3)] = some (.int .u64 (m3 : Int)) := rfl
theorem ev_frldiv : evalO (.rld false 1) [.rp ((FLs m0 m1 m2 m3 iv s0 s1 s2 s3).drop 4)] = some (.int .u64 (iv : Int)) := rfl
theorem ev_frldm : evalO (.rld true 4) [FL m0 m1 m2 m3 iv s0 s1 s2 s3] = some (WL m0 m1 m2 m3) := rfl
theorem ev_frlds : evalO (.rld true 4) [.rp ((FLs m0 m1 m2 m3 iv s0 s1 s2 s3).drop 5)] = some (WL s0 s1 s2 s3) := rfl
end
theorem mod_two {A m : Nat} (h : A < 2 * m) : A % m = if A < m then A else A - m := by
  split
  · rename_i h1; exact Nat.mod_eq_of_lt h1
  · rename_i h1
    rw [Nat.mod_eq_sub_mod (by omega), Nat.mod_eq_of_lt (by omega)]
def FLessC (P : Program) (f : FuncId) : Prop := ∀ m iv sq a over, m < W256 → sq < W256 → a < W256 → over ≤ 1 → over * W256 + a < 2 * m →
  Ct P f [FP m iv sq, WV a, .int .u64 (over : Int)] (fun e => e = .ret (WV ((over * W256 + a) % m)))
theorem fless_out {m a over S c3 : Nat} (hm : m < W256) (ha : a < W256) (ho : over ≤ 1) (hlt : over * W256 + a < 2 * m) (hS : S < W256) (hc3 : c3 ≤ 1) (hsum : a + W256 * c3 = S + m) :
    (over * W256 + a) % m = if over = 0 ∧ c3 = 1 then a else S := by
  rw [mod_two hlt]
  unfold W256 at *
  split <;> split <;> omega
def t_fless : T :=
 .node (.op (.cell 4 0) [.v 1]) <|
 .node (.op (.cell 4 1) [.v 1]) <|
 .node (.op (.cell 4 2) [.v 1]) <|
 .node (.op (.cell 4 3) [.v 1]) <|
 .node (.op .nilchk [.v 0]) <|
 .node (.op (.roff 0) [.v 7]) <|
 .node (.op (.ridx 4 1) [.v 8, .c (.int .i64 0)]) <|
 .node (.op (.rld false 1) [.v 9]) <|
 .node (.op .sub64 [.v 3, .v 10, .c (.int .u64 0)]) <|
 .node (.op (.ext 0 true) [.v 11]) <|
 .node (.op (.ext 1 true) [.v 11]) <|
 .node (.op .nilchk [.v 0]) <|
 .node (.op (.roff 0) [.v 14]) <|
 .node (.op (.ridx 4 1) [.v 15, .c (.int .i64 1)]) <|
 .node (.op (.rld false 1) [.v 16]) <|
 .node (.op .sub64 [.v 4, .v 17, .v 13]) <|
 .node (.op (.ext 0 true) [.v 18]) <|
 .node (.op (.ext 1 true) [.v 18]) <|
 .node (.op .nilchk [.v 0]) <|
 .node (.op (.roff 0) [.v 21]) <|
 .node (.op (.ridx 4 1) [.v 22, .c (.int .i64 2)]) <|
 .node (.op (.rld false 1) [.v 23]) <|
 .node (.op .sub64 [.v 5, .v 24, .v 20]) <|
 .node (.op (.ext 0 true) [.v 25]) <|
 .node (.op (.ext 1 true) [.v 25]) <|
 .node (.op .nilchk [.v 0]) <|
 .node (.op (.roff 0) [.v 28]) <|
 .node (.op (.ridx 4 1) [.v 29, .c (.int .i64 3)]) <|
 .node (.op (.rld false 1) [.v 30]) <|
 .node (.op .sub64 [.v 6, .v 31, .v 27]) <|
 .node (.op (.ext 0 true) [.v 32]) <|
 .node (.op (.ext 1 true) [.v 32]) <|
 .node (.op (.bin .eql) [.v 2, .c (.int .u64 0)]) <|
 .br (.v 35) (
 .node (.op (.bin .eql) [.v 34, .c (.int .u64 1)]) <|
 .br (.v 36) (
 .node (.op .mkagg [.v 3, .v 4, .v 5, .v 6]) <|
 .ret (.v 37)) (
 .node (.op .mkagg [.v 12, .v 19, .v 26, .v 33]) <|
 .ret (.v 37))) (
 .node (.op .mkagg [.v 12, .v 19, .v 26, .v 33]) <|
 .ret (.v 36))
theorem fless_den {m iv sq a over : Nat} (hm : m < W256) (hsq : sq < W256) (ha : a < W256) (ho : over ≤ 1) (hlt : over * W256 + a < 2 * m) :
    D P (fun e => e = .ret (WV ((over * W256 + a) % m))) [] 3 [.int .u64 (over : Int), WV a, FP m iv sq] t_fless := by
  obtain ⟨m0, m1, m2, m3, q0, q1, q2, q3, hm0, hm1, hm2, hm3, _, _, _, _, em, _, eF⟩ := FP_limbs (iv := iv) hm hsq
  obtain ⟨a0, a1, a2, a3, ha0, ha1, ha2, ha3, eA, ea⟩ := WV_limbs ha
  obtain ⟨s0, c0, hs0, hc0, e0⟩ := sub_parts ha0 hm0 (Nat.zero_le 1)
  obtain ⟨s1, c1, hs1, hc1, e1⟩ := sub_parts ha1 hm1 hc0
  obtain ⟨s2, c2, hs2, hc2, e2⟩ := sub_parts ha2 hm2 hc1
  obtain ⟨s3, c3, hs3, hc3, e3⟩ := sub_parts ha3 hm3 hc2
  have hS := V4_lt hs0 hs1 hs2 hs3
  have hsum : a + W256 * c3 = V4 s0 s1 s2 s3 + m := by subst ea; subst em; unfold V4 W256; omega
  rw [fless_out hm ha ho hlt hS hc3 hsum, eF, eA]
  refine d_cells rfl rfl rfl rfl ?_
  refine d_op ev_fnil (d_op ev_froff (d_op ev_fridx0 (d_op ev_frld0 ?_)))
  refine d_op (ev_sub64 e0 hs0 hm0 (by omega) hc0 ha0 rfl rfl rfl) (d_op (ev_ext rfl (fun _ => rfl)) (d_op (ev_ext rfl (fun _ => rfl)) ?_))
  refine d_op ev_fnil (d_op ev_froff (d_op ev_fridx1 (d_op ev_frld1 ?_)))
  refine d_op (ev_sub64 e1 hs1 hm1 hc0 hc1 ha1 rfl rfl rfl) (d_op (ev_ext rfl (fun _ => rfl)) (d_op (ev_ext rfl (fun _ => rfl)) ?_))
  refine d_op ev_fnil (d_op ev_froff (d_op ev_fridx2 (d_op ev_frld2 ?_)))
  refine d_op (ev_sub64 e2 hs2 hm2 hc1 hc2 ha2 rfl rfl rfl) (d_op (ev_ext rfl (fun _ => rfl)) (d_op (ev_ext rfl (fun _ => rfl)) ?_))
  refine d_op ev_fnil (d_op ev_froff (d_op ev_fridx3 (d_op ev_frld3 ?_)))
  refine d_op (ev_sub64 e3 hs3 hm3 hc2 hc3 ha3 rfl rfl rfl) (d_op (ev_ext rfl (fun _ => rfl)) (d_op (ev_ext rfl (fun _ => rfl)) ?_))
  refine d_op ev_eql (d_if rfl (fun h1 => ?_) (fun h1 => ?_))
  · refine d_op ev_eql (d_if rfl (fun h2 => ?_) (fun h2 => ?_))
    · rw [if_pos (by omega)]
      exact d_op ev_wl (d_ret (by rw [eA]; rfl))
    · rw [if_neg (by omega)]
      exact d_op ev_wl (d_ret (by rw [WV_eq hs0 hs1 hs2 hs3]; rfl))
  · rw [if_neg (by omega)]
    exact d_op ev_wl (d_ret (by rw [WV_eq hs0 hs1 hs2 hs3]; rfl))
def F2C (P : Program) (f : FuncId) (s : Nat → Nat → Nat → Nat) : Prop := ∀ m iv sq a b, m < W256 → sq < W256 → a < m → b < m → Ct P f [FP m iv sq, WV a, WV b] (fun e => e = .ret (WV (s m a b)))
def addM (m a b : Nat) : Nat := (a + b) % m
def subM (m a b : Nat) : Nat := (a + m - b) % m
def t_fadd (less : FuncId) : T :=
 .node (.op (.cell 4 0) [.v 1]) <|
 .node (.op (.cell 4 1) [.v 1]) <|
 .node (.op (.cell 4 2) [.v 1]) <|
 .node (.op (.cell 4 3) [.v 1]) <|
 .node (.op (.cell 4 0) [.v 2]) <|
 .node (.op (.cell 4 1) [.v 2]) <|
 .node (.op (.cell 4 2) [.v 2]) <|
 .node (.op (.cell 4 3) [.v 2]) <|
 .node (.op .add64 [.v 3, .v 7, .c (.int .u64 0)]) <|
 .node (.op (.ext 0 true) [.v 11]) <|
 .node (.op (.ext 1 true) [.v 11]) <|
 .node (.op .add64 [.v 4, .v 8, .v 13]) <|
 .node (.op (.ext 0 true) [.v 14]) <|
 .node (.op (.ext 1 true) [.v 14]) <|
 .node (.op .add64 [.v 5, .v 9, .v 16]) <|
 .node (.op (.ext 0 true) [.v 17]) <|
 .node (.op (.ext 1 true) [.v 17]) <|
 .node (.op .add64 [.v 6, .v 10, .v 19]) <|
 .node (.op (.ext 0 true) [.v 20]) <|
 .node (.op (.ext 1 true) [.v 20]) <|
 .node (.op .mkagg [.v 12, .v 15, .v 18, .v 21]) <|
 .node (.call less [.v 0, .v 23, .v 22] false) <|
 .node (.op (.cell 4 0) [.v 24]) <|
 .node (.op (.cell 4 1) [.v 24]) <|
 .node (.op (.cell 4 2) [.v 24]) <|
 .node (.op (.cell 4 3) [.v 24]) <|
 .node (.op .mkagg [.v 25, .v 26, .v 27, .v 28]) <|
 .ret (.v 29)
theorem fadd_den {less : FuncId} {m iv sq a b : Nat} (hl : FLessC P less) (hm : m < W256) (hsq : sq < W256) (ha : a < m) (hb : b < m) :
    D P (fun e => e = .ret (WV (addM m a b))) [] 3 [WV b, WV a, FP m iv sq] (t_fadd less) := by
  obtain ⟨a0, a1, a2, a3, ha0, ha1, ha2, ha3, eA, ea⟩ := WV_limbs (Nat.lt_trans ha hm)
  obtain ⟨b0, b1, b2, b3, hb0, hb1, hb2, hb3, eB, eb⟩ := WV_limbs (Nat.lt_trans hb hm)
  obtain ⟨s0, c0, hs0, hc0, e0⟩ := add_parts ha0 hb0 (Nat.zero_le 1)
  obtain ⟨s1, c1, hs1, hc1, e1⟩ := add_parts ha1 hb1 hc0
  obtain ⟨s2, c2, hs2, hc2, e2⟩ := add_parts ha2 hb2 hc1
  obtain ⟨s3, c3, hs3, hc3, e3⟩ := add_parts ha3 hb3 hc2
  have hS := V4_lt hs0 hs1 hs2 hs3
  have hsum : c3 * W256 + V4 s0 s1 s2 s3 = a + b := by subst ea; subst eb; unfold V4 W256; omega
  have h := hl m iv sq (V4 s0 s1 s2 s3) c3 hm hsq hS hc3 (by omega)
  obtain ⟨r0, r1, r2, r3, _, _, _, _, er, _⟩ := WV_limbs (a := (a + b) % m) (Nat.lt_trans (Nat.mod_lt _ (by omega)) hm)
  rw [hsum, er, WV_eq hs0 hs1 hs2 hs3] at h
  unfold addM
  rw [er, eA, eB]
  refine d_cells rfl rfl rfl rfl (d_cells rfl rfl rfl rfl ?_)
  refine d_op (ev_add64 e0 hs0 (by omega) rfl rfl rfl) (d_op (ev_ext rfl (fun _ => rfl)) (d_op (ev_ext rfl (fun _ => rfl)) ?_))
  refine d_op (ev_add64 e1 hs1 hc0 rfl rfl rfl) (d_op (ev_ext rfl (fun _ => rfl)) (d_op (ev_ext rfl (fun _ => rfl)) ?_))
  refine d_op (ev_add64 e2 hs2 hc1 rfl rfl rfl) (d_op (ev_ext rfl (fun _ => rfl)) (d_op (ev_ext rfl (fun _ => rfl)) ?_))
  refine d_op (ev_add64 e3 hs3 hc2 rfl rfl rfl) (d_op (ev_ext rfl (fun _ => rfl)) (d_op (ev_ext rfl (fun _ => rfl)) ?_))
  exact d_op ev_wl (d_call h (fun h => by cases h) (d_cells rfl rfl rfl rfl (d_op ev_wl (d_ret rfl))))
def t_fsub : T :=
 .node (.op (.cell 4 0) [.v 1]) <|
 .node (.op (.cell 4 1) [.v 1]) <|
 .node (.op (.cell 4 2) [.v 1]) <|
 .node (.op (.cell 4 3) [.v 1]) <|
 .node (.op (.cell 4 0) [.v 2]) <|
 .node (.op (.cell 4 1) [.v 2]) <|
 .node (.op (.cell 4 2) [.v 2]) <|
 .node (.op (.cell 4 3) [.v 2]) <|
 .node (.op .sub64 [.v 3, .v 7, .c (.int .u64 0)]) <|
 .node (.op (.ext 0 true) [.v 11]) <|
 .node (.op (.ext 1 true) [.v 11]) <|
 .node (.op .sub64 [.v 4, .v 8, .v 13]) <|
 .node (.op (.ext 0 true) [.v 14]) <|
 .node (.op (.ext 1 true) [.v 14]) <|
 .node (.op .sub64 [.v 5, .v 9, .v 16]) <|
 .node (.op (.ext 0 true) [.v 17]) <|
 .node (.op (.ext 1 true) [.v 17]) <|
 .node (.op .sub64 [.v 6, .v 10, .v 19]) <|
 .node (.op (.ext 0 true) [.v 20]) <|
 .node (.op (.ext 1 true) [.v 20]) <|
 .node (.op (.bin .eql) [.v 22, .c (.int .u64 1)]) <|
 .br (.v 23) (
 .node (.op .nilchk [.v 0]) <|
 .node (.op (.roff 0) [.v 24]) <|
 .node (.op (.ridx 4 1) [.v 25, .c (.int .i64 0)]) <|
 .node (.op (.rld false 1) [.v 26]) <|
 .node (.op .add64 [.v 12, .v 27, .c (.int .u64 0)]) <|
 .node (.op (.ext 0 true) [.v 28]) <|
 .node (.op (.ext 1 true) [.v 28]) <|
 .node (.op .nilchk [.v 0]) <|
 .node (.op (.roff 0) [.v 31]) <|
 .node (.op (.ridx 4 1) [.v 32, .c (.int .i64 1)]) <|
 .node (.op (.rld false 1) [.v 33]) <|
 .node (.op .add64 [.v 15, .v 34, .v 30]) <|
 .node (.op (.ext 0 true) [.v 35]) <|
 .node (.op (.ext 1 true) [.v 35]) <|
 .node (.op .nilchk [.v 0]) <|
 .node (.op (.roff 0) [.v 38]) <|
 .node (.op (.ridx 4 1) [.v 39, .c (.int .i64 2)]) <|
 .node (.op (.rld false 1) [.v 40]) <|
 .node (.op .add64 [.v 18, .v 41, .v 37]) <|
 .node (.op (.ext 0 true) [.v 42]) <|
 .node (.op (.ext 1 true) [.v 42]) <|
 .node (.op .nilchk [.v 0]) <|
 .node (.op (.roff 0) [.v 45]) <|
 .node (.op (.ridx 4 1) [.v 46, .c (.int .i64 3)]) <|
 .node (.op (.rld false 1) [.v 47]) <|
 .node (.op .add64 [.v 21, .v 48, .v 44]) <|
 .node (.op (.ext 0 true) [.v 49]) <|
 .node (.op (.ext 1 true) [.v 49]) <|
 .node (.op .mkagg [.v 29, .v 36, .v 43, .v 50]) <|
 .ret (.v 52)) (
 .node (.op .mkagg [.v 12, .v 15, .v 18, .v 21]) <|
 .ret (.v 24))
theorem fsub_den {m iv sq a b : Nat} (hm : m < W256) (hsq : sq < W256) (ha : a < m) (hb : b < m) :
    D P (fun e => e = .ret (WV (subM m a b))) [] 3 [WV b, WV a, FP m iv sq] t_fsub := by
  obtain ⟨m0, m1, m2, m3, q0, q1, q2, q3, hm0, hm1, hm2, hm3, _, _, _, _, em, _, eF⟩ := FP_limbs (iv := iv) hm hsq
  obtain ⟨a0, a1, a2, a3, ha0, ha1, ha2, ha3, eA, ea⟩ := WV_limbs (Nat.lt_trans ha hm)
  obtain ⟨b0, b1, b2, b3, hb0, hb1, hb2, hb3, eB, eb⟩ := WV_limbs (Nat.lt_trans hb hm)
  obtain ⟨s0, c0, hs0, hc0, e0⟩ := sub_parts ha0 hb0 (Nat.zero_le 1)
  obtain ⟨s1, c1, hs1, hc1, e1⟩ := sub_parts ha1 hb1 hc0
  obtain ⟨s2, c2, hs2, hc2, e2⟩ := sub_parts ha2 hb2 hc1
  obtain ⟨s3, c3, hs3, hc3, e3⟩ := sub_parts ha3 hb3 hc2
  have hS := V4_lt hs0 hs1 hs2 hs3
  have hsum : a + W256 * c3 = V4 s0 s1 s2 s3 + b := by subst ea; subst eb; unfold V4 W256; omega
  obtain ⟨t0, d0, ht0, hd0, f0⟩ := add_parts hs0 hm0 (Nat.zero_le 1)
  obtain ⟨t1, d1, ht1, hd1, f1⟩ := add_parts hs1 hm1 hd0
  obtain ⟨t2, d2, ht2, hd2, f2⟩ := add_parts hs2 hm2 hd1
  obtain ⟨t3, d3, ht3, hd3, f3⟩ := add_parts hs3 hm3 hd2
  have hT := V4_lt ht0 ht1 ht2 ht3
  have hsum2 : V4 s0 s1 s2 s3 + m = V4 t0 t1 t2 t3 + W256 * d3 := by subst em; unfold V4 W256; omega
  have hr : subM m a b = if c3 = 1 then V4 t0 t1 t2 t3 else V4 s0 s1 s2 s3 := by
    unfold subM
    rw [mod_two (by omega)]
    unfold W256 at *
    split <;> split <;> omega
  rw [hr, eF, eA, eB]
  refine d_cells rfl rfl rfl rfl (d_cells rfl rfl rfl rfl ?_)
  refine d_op (ev_sub64 e0 hs0 hb0 (by omega) hc0 ha0 rfl rfl rfl) (d_op (ev_ext rfl (fun _ => rfl)) (d_op (ev_ext rfl (fun _ => rfl)) ?_))
  refine d_op (ev_sub64 e1 hs1 hb1 hc0 hc1 ha1 rfl rfl rfl) (d_op (ev_ext rfl (fun _ => rfl)) (d_op (ev_ext rfl (fun _ => rfl)) ?_))
  refine d_op (ev_sub64 e2 hs2 hb2 hc1 hc2 ha2 rfl rfl rfl) (d_op (ev_ext rfl (fun _ => rfl)) (d_op (ev_ext rfl (fun _ => rfl)) ?_))
  refine d_op (ev_sub64 e3 hs3 hb3 hc2 hc3 ha3 rfl rfl rfl) (d_op (ev_ext rfl (fun _ => rfl)) (d_op (ev_ext rfl (fun _ => rfl)) ?_))
  refine d_op ev_eql (d_if rfl (fun h1 => ?_) (fun h1 => ?_))
  · rw [if_pos (by omega)]
    refine d_op ev_fnil (d_op ev_froff (d_op ev_fridx0 (d_op ev_frld0 ?_)))
    refine d_op (ev_add64 f0 ht0 (by omega) rfl rfl rfl) (d_op (ev_ext rfl (fun _ => rfl)) (d_op (ev_ext rfl (fun _ => rfl)) ?_))
    refine d_op ev_fnil (d_op ev_froff (d_op ev_fridx1 (d_op ev_frld1 ?_)))
    refine d_op (ev_add64 f1 ht1 hd0 rfl rfl rfl) (d_op (ev_ext rfl (fun _ => rfl)) (d_op (ev_ext rfl (fun _ => rfl)) ?_))
    refine d_op ev_fnil (d_op ev_froff (d_op ev_fridx2 (d_op ev_frld2 ?_)))
    refine d_op (ev_add64 f2 ht2 hd1 rfl rfl rfl) (d_op (ev_ext rfl (fun _ => rfl)) (d_op (ev_ext rfl (fun _ => rfl)) ?_))
    refine d_op ev_fnil (d_op ev_froff (d_op ev_fridx3 (d_op ev_frld3 ?_)))
    refine d_op (ev_add64 f3 ht3 hd2 rfl rfl rfl) (d_op (ev_ext rfl (fun _ => rfl)) (d_op (ev_ext rfl (fun _ => rfl)) ?_))
    exact d_op ev_wl (d_ret (by rw [WV_eq ht0 ht1 ht2 ht3]; rfl))
  · rw [if_neg (by omega)]
    exact d_op ev_wl (d_ret (by rw [WV_eq hs0 hs1 hs2 hs3]; rfl))
def Mul64C (P : Program) (f : FuncId) : Prop := ∀ x y, x < B64 → y < B64 → Ct P f [.int .u64 (x : Int), .int .u64 (y : Int)] (fun e => e = .ret (.tup [.int .u64 ((x * y / B64 : Nat) : Int), .int .u64 ((x * y % B64 : Nat) : Int)]))
def MulAddC (P : Program) (f : FuncId) : Prop := ∀ x y z w, x < B64 → y < B64 → z < B64 → w < B64 →
  Ct P f [.int .u64 (x : Int), .int .u64 (y : Int), .int .u64 (z : Int), .int .u64 (w : Int)] (fun e => e = .ret (.tup [.int .u64 (((x * y + z + w) / B64 : Nat) : Int), .int .u64 (((x * y + z + w) % B64 : Nat) : Int)]))
def t_mul64 : T :=
 .node (.op (.bin .and) [.v 0, .c (.int .u64 4294967295)]) <|
 .node (.op (.bin .shr) [.v 0, .c (.int .u64 32)]) <|
 .node (.op (.bin .and) [.v 1, .c (.int .u64 4294967295)]) <|
 .node (.op (.bin .shr) [.v 1, .c (.int .u64 32)]) <|
 .node (.op (.bin .mul) [.v 2, .v 4]) <|
 .node (.op (.bin .mul) [.v 3, .v 4]) <|
 .node (.op (.bin .shr) [.v 6, .c (.int .u64 32)]) <|
 .node (.op (.bin .add) [.v 7, .v 8]) <|
 .node (.op (.bin .and) [.v 9, .c (.int .u64 4294967295)]) <|
 .node (.op (.bin .shr) [.v 9, .c (.int .u64 32)]) <|
 .node (.op (.bin .mul) [.v 2, .v 5]) <|
 .node (.op (.bin .add) [.v 10, .v 12]) <|
 .node (.op (.bin .mul) [.v 3, .v 5]) <|
 .node (.op (.bin .add) [.v 14, .v 11]) <|
 .node (.op (.bin .shr) [.v 13, .c (.int .u64 32)]) <|
 .node (.op (.bin .add) [.v 15, .v 16]) <|
 .node (.op (.bin .mul) [.v 0, .v 1]) <|
 .node (.op .mktup [.v 17, .v 18]) <|
 .ret (.v 19)
theorem mul64_den {x y : Nat} (hx : x < B64) (hy : y < B64) : D P (fun e => e = .ret (.tup [.int .u64 ((x * y / B64 : Nat) : Int), .int .u64 ((x * y % B64 : Nat) : Int)])) [] 2 [.int .u64 (y : Int), .int .u64 (x : Int)] t_mul64 := by
  have hx' : x < 18446744073709551616 := hx
  have hy' : y < 18446744073709551616 := hy
  obtain ⟨x0, ex0⟩ : ∃ x0, x0 = x % 4294967296 := ⟨_, rfl⟩
  obtain ⟨x1, ex1⟩ : ∃ x1, x1 = x / 4294967296 := ⟨_, rfl⟩
  obtain ⟨y0, ey0⟩ : ∃ y0, y0 = y % 4294967296 := ⟨_, rfl⟩
  obtain ⟨y1, ey1⟩ : ∃ y1, y1 = y / 4294967296 := ⟨_, rfl⟩
  have hx0 : x0 ≤ 4294967295 := by omega
  have hx1 : x1 ≤ 4294967295 := by omega
  have hy0 : y0 ≤ 4294967295 := by omega
  have hy1 : y1 ≤ 4294967295 := by omega
  have p := Nat.mul_le_mul hx0 hy0
  have q := Nat.mul_le_mul hx1 hy0
  have r := Nat.mul_le_mul hx0 hy1
  have s := Nat.mul_le_mul hx1 hy1
  have hxy : x * y = x0 * y0 + 4294967296 * (x1 * y0) + 4294967296 * (x0 * y1) + 18446744073709551616 * (x1 * y1) := by
    have e1 : x = x0 + 4294967296 * x1 := by omega
    have e2 : y = y0 + 4294967296 * y1 := by omega
    rw [e1, e2]; grind
  have a0 : x &&& 4294967295 = x0 := by rw [ex0]; exact Nat.and_two_pow_sub_one_eq_mod x 32
  have a1 : y &&& 4294967295 = y0 := by rw [ey0]; exact Nat.and_two_pow_sub_one_eq_mod y 32
  refine d_op (ev_and (by constructor <;> omega) (y := 4294967295) (by decide)) ?_
  rw [a0]
  refine d_op (ev_shr (y := 32) rfl (by decide) ex1.symm) (d_op (ev_and (by constructor <;> omega) (y := 4294967295) (by decide)) ?_)
  rw [a1]
  refine d_op (ev_shr (y := 32) rfl (by decide) ey1.symm) ?_
  have c : ∀ u v : Nat, (u : Int) * (v : Int) = ((u * v : Nat) : Int) := fun u v => by simp
  have hw : IntKind.u64.wrap ((x : Int) * (y : Int)) = ((x * y % B64 : Nat) : Int) := by rw [c, wrap_u rfl]; rfl
  obtain ⟨p', ep⟩ : ∃ p', p' = x0 * y0 := ⟨_, rfl⟩
  obtain ⟨q', eq⟩ : ∃ q', q' = x1 * y0 := ⟨_, rfl⟩
  obtain ⟨r', er⟩ : ∃ r', r' = x0 * y1 := ⟨_, rfl⟩
  obtain ⟨s', es⟩ : ∃ s', s' = x1 * y1 := ⟨_, rfl⟩
  rw [← ep, ← eq, ← er, ← es] at hxy
  rw [← ep] at p; rw [← eq] at q; rw [← er] at r; rw [← es] at s
  refine d_op (ev_mul (by rw [c, ← ep]; constructor <;> omega)) (d_op (ev_mul (by rw [c, ← eq]; constructor <;> omega)) ?_)
  rw [c x0 y0, c x1 y0, ← ep, ← eq]
  refine d_op (ev_shr (y := 32) rfl (by decide) rfl) (d_op (ev_add (by constructor <;> omega)) ?_)
  have et : (q' : Int) + ((p' / 2 ^ 32 : Nat) : Int) = ((q' + p' / 4294967296 : Nat) : Int) := by omega
  rw [et]
  obtain ⟨t, ett⟩ : ∃ t, t = q' + p' / 4294967296 := ⟨_, rfl⟩
  rw [← ett]
  refine d_op (ev_and (by constructor <;> omega) (y := 4294967295) (by decide)) ?_
  rw [Nat.and_two_pow_sub_one_eq_mod t 32]
  refine d_op (ev_shr (y := 32) rfl (by decide) rfl) (d_op (ev_mul (by rw [c, ← er]; constructor <;> omega)) ?_)
  rw [c x0 y1, ← er]
  refine d_op (ev_add (by constructor <;> omega)) (d_op (ev_mul (by rw [c, ← es]; constructor <;> omega)) ?_)
  rw [c x1 y1, ← es]
  have e3 : ((t % 2 ^ 32 : Nat) : Int) + (r' : Int) = ((t % 4294967296 + r' : Nat) : Int) := by omega
  rw [e3]
  refine d_op (ev_add (by constructor <;> omega)) (d_op (ev_shr (y := 32) rfl (by decide) rfl) (d_op (ev_add (by constructor <;> omega)) (d_op ev_mulw ?_)))
  rw [hw]
  refine d_op ev_mktup (d_ret ?_)
  have : (s' : Int) + ((t / 2 ^ 32 : Nat) : Int) + (((t % 4294967296 + r') / 2 ^ 32 : Nat) : Int) = ((x * y / B64 : Nat) : Int) := by
    show _ = ((x * y / 18446744073709551616 : Nat) : Int)
    omega
  rw [this]; rfl
def t_mulAdd (mul : FuncId) : T :=
 .node (.call mul [.v 0, .v 1] false) <|
 .node (.op (.ext 0 true) [.v 4]) <|
 .node (.op (.ext 1 true) [.v 4]) <|
 .node (.op .add64 [.v 6, .v 2, .c (.int .u64 0)]) <|
 .node (.op (.ext 0 true) [.v 7]) <|
 .node (.op (.ext 1 true) [.v 7]) <|
 .node (.op (.bin .add) [.v 5, .v 9]) <|
 .node (.op .add64 [.v 8, .v 3, .c (.int .u64 0)]) <|
 .node (.op (.ext 0 true) [.v 11]) <|
 .node (.op (.ext 1 true) [.v 11]) <|
 .node (.op (.bin .add) [.v 10, .v 13]) <|
 .node (.op .mktup [.v 14, .v 12]) <|
 .ret (.v 15)
theorem mulAdd_den {mul : FuncId} {x y z w : Nat} (hm : Mul64C P mul) (hx : x < B64) (hy : y < B64) (hz : z < B64) (hw : w < B64) :
    D P (fun e => e = .ret (.tup [.int .u64 (((x * y + z + w) / B64 : Nat) : Int), .int .u64 (((x * y + z + w) % B64 : Nat) : Int)])) [] 4 [.int .u64 (w : Int), .int .u64 (z : Int), .int .u64 (y : Int), .int .u64 (x : Int)] (t_mulAdd mul) := by
  have hx' : x ≤ 18446744073709551615 := Nat.le_of_lt_succ hx
  have hy' : y ≤ 18446744073709551615 := Nat.le_of_lt_succ hy
  have hp := Nat.mul_le_mul hx' hy'
  have h := hm x y hx hy
  obtain ⟨p, ep⟩ : ∃ p, p = x * y := ⟨_, rfl⟩
  rw [← ep] at hp h ⊢
  obtain ⟨h0, eh⟩ : ∃ h0, h0 = p / 18446744073709551616 := ⟨_, rfl⟩
  obtain ⟨l0, el⟩ : ∃ l0, l0 = p % 18446744073709551616 := ⟨_, rfl⟩
  have hl0 : l0 < B64 := by rw [el]; exact Nat.mod_lt _ (by decide)
  obtain ⟨l1, c1, hl1, hc1, e1⟩ := add_parts hl0 hz (Nat.zero_le 1)
  obtain ⟨l2, c2, hl2, hc2, e2⟩ := add_parts hl1 hw (Nat.zero_le 1)
  have hl2' : l2 < 18446744073709551616 := hl2
  have hz' : z < 18446744073709551616 := hz
  have hw' : w < 18446744073709551616 := hw
  have f1 : (p + z + w) / B64 = h0 + c1 + c2 := by show _ / 18446744073709551616 = _; omega
  have f2 : (p + z + w) % B64 = l2 := by show _ % 18446744073709551616 = _; omega
  rw [f1, f2]
  have h' : Ct P mul [.int .u64 (x : Int), .int .u64 (y : Int)] (fun e => e = .ret (.tup [.int .u64 (h0 : Int), .int .u64 (l0 : Int)])) := by rw [eh, el]; exact h
  have hb : h0 + c1 + c2 < 18446744073709551616 := by omega
  refine d_call h' (fun h => by cases h) (d_op (ev_ext rfl (fun _ => rfl)) (d_op (ev_ext rfl (fun _ => rfl)) ?_))
  refine d_op (ev_add64 e1 hl1 (by omega) rfl rfl rfl) (d_op (ev_ext rfl (fun _ => rfl)) (d_op (ev_ext rfl (fun _ => rfl)) (d_op (ev_add (by constructor <;> omega)) ?_)))
  refine d_op (ev_add64 e2 hl2 (by omega) rfl rfl rfl) (d_op (ev_ext rfl (fun _ => rfl)) (d_op (ev_ext rfl (fun _ => rfl)) (d_op (ev_add (by constructor <;> omega)) ?_)))
  refine d_op ev_mktup (d_ret ?_)
  have : (h0 : Int) + (c1 : Int) + (c2 : Int) = ((h0 + c1 + c2 : Nat) : Int) := by omega
  rw [this]; rfl
end Go.SE
set_option autoImplicit false
set_option maxRecDepth 4000
set_option maxHeartbeats 2000000
set_option exponentiation.threshold 5000
namespace Go.SE
open Go
variable {P : Program} {R : AEnd → Prop}
def rinv (m : Nat) : Nat := ((m + 1) / 2) ^ 256 % m
def montS (m a b : Nat) : Nat := a * b * rinv m % m
theorem rinv_spec {m : Nat} (h : m % 2 = 1) : W256 * rinv m % m = 1 % m := by
  have e : W256 = 2 ^ 256 := rfl
  have e2 : 2 * ((m + 1) / 2) = m + 1 := by omega
  rw [rinv, e, Nat.mul_mod, Nat.mod_mod, ← Nat.mul_mod, ← Nat.mul_pow, e2, Nat.pow_mod, Nat.add_mod_left, ← Nat.pow_mod, Nat.one_pow]
theorem mont_of {m a b t : Nat} (h : m % 2 = 1) (ht : t * W256 % m = a * b % m) : t % m = montS m a b := by
  unfold montS
  have h1 : t * (W256 * rinv m) % m = t % m := by
    rw [Nat.mul_mod, rinv_spec h, ← Nat.mul_mod, Nat.mul_one]
  rw [← h1, ← Nat.mul_assoc, Nat.mul_mod, ht, ← Nat.mul_mod]
def Fok (m iv sq : Nat) : Prop := m % 2 = 1 ∧ m < W256 ∧ iv < B64 ∧ iv * m % B64 = 18446744073709551615 ∧ sq = W256 * W256 % m
theorem Fok.sq_lt {m iv sq : Nat} (h : Fok m iv sq) : sq < m := by rw [h.2.2.2.2]; exact Nat.mod_lt _ (by have := h.1; omega)
theorem Fok.sq_lt' {m iv sq : Nat} (h : Fok m iv sq) : sq < W256 := Nat.lt_trans h.sq_lt h.2.1
def MontC (P : Program) (f : FuncId) : Prop := ∀ m iv sq a b, Fok m iv sq → a < m → b < W256 → Ct P f [FP m iv sq, WV a, WV b] (fun e => e = .ret (WV (montS m a b)))
theorem MulAddC.at {f : FuncId} (h : MulAddC P f) {x y z w : Nat} (hx : x < B64) (hy : y < B64) (hz : z < B64) (hw : w < B64) :
    ∃ c u, u < B64 ∧ c < B64 ∧ x * y + z + w = u + 18446744073709551616 * c ∧
      ∀ {a b c' d : Int}, a = (x : Int) → b = (y : Int) → c' = (z : Int) → d = (w : Int) → Ct P f [.int .u64 a, .int .u64 b, .int .u64 c', .int .u64 d] (fun e => e = .ret (.tup [.int .u64 (c : Int), .int .u64 (u : Int)])) := by
  have hx' : x ≤ 18446744073709551615 := Nat.le_of_lt_succ hx
  have hy' : y ≤ 18446744073709551615 := Nat.le_of_lt_succ hy
  have hz' : z < 18446744073709551616 := hz
  have hw' : w < 18446744073709551616 := hw
  have hp := Nat.mul_le_mul hx' hy'
  refine ⟨(x * y + z + w) / 18446744073709551616, (x * y + z + w) % 18446744073709551616, Nat.mod_lt _ (by decide), ?_, by omega, fun e1 e2 e3 e4 => ?_⟩
  · show _ < 18446744073709551616; omega
  · subst e1; subst e2; subst e3; subst e4; exact h x y z w hx hy hz hw
theorem ev_waidx {b0 b1 b2 b3 i : Nat} (h : i < 4) : evalO (.aidx 4 1 false) [WL b0 b1 b2 b3, .int .i64 (i : Int)] = some (.int .u64 (([b0, b1, b2, b3].getD i 0 : Nat) : Int)) := by
  match i, h with
  | 0, _ => rfl
  | 1, _ => rfl
  | 2, _ => rfl
  | 3, _ => rfl
theorem limb_at {b0 b1 b2 b3 i : Nat} (h0 : b0 < B64) (h1 : b1 < B64) (h2 : b2 < B64) (h3 : b3 < B64) (h : i < 4) : [b0, b1, b2, b3].getD i 0 < B64 ∧ V4 b0 b1 b2 b3 % B64 ^ (i + 1) = V4 b0 b1 b2 b3 % B64 ^ i + B64 ^ i * [b0, b1, b2, b3].getD i 0 := by
  have h0' : b0 < 18446744073709551616 := h0
  have h1' : b1 < 18446744073709551616 := h1
  have h2' : b2 < 18446744073709551616 := h2
  have h3' : b3 < 18446744073709551616 := h3
  match i, h with
  | 0, _ => exact ⟨h0, by show V4 b0 b1 b2 b3 % 18446744073709551616 = V4 b0 b1 b2 b3 % 1 + 1 * b0; unfold V4; omega⟩
  | 1, _ => exact ⟨h1, by show V4 b0 b1 b2 b3 % 340282366920938463463374607431768211456 = V4 b0 b1 b2 b3 % 18446744073709551616 + 18446744073709551616 * b1; unfold V4; omega⟩
  | 2, _ => exact ⟨h2, by show V4 b0 b1 b2 b3 % 6277101735386680763835789423207666416102355444464034512896 = V4 b0 b1 b2 b3 % 340282366920938463463374607431768211456 + 340282366920938463463374607431768211456 * b2; unfold V4; omega⟩
  | 3, _ => exact ⟨h3, by show V4 b0 b1 b2 b3 % 115792089237316195423570985008687907853269984665640564039457584007913129639936 = V4 b0 b1 b2 b3 % 6277101735386680763835789423207666416102355444464034512896 + 6277101735386680763835789423207666416102355444464034512896 * b3; unfold V4; omega⟩
def V5 (t0 t1 t2 t3 t4 : Nat) : Nat := V4 t0 t1 t2 t3 + W256 * t4
theorem mont_low {u0 iv m0 m k low d0 : Nat} (hk : k = u0 * iv % 18446744073709551616) (hm : m % 18446744073709551616 = m0) (hiv : iv * m % 18446744073709551616 = 18446744073709551615) (h : k * m0 + u0 + 0 = low + 18446744073709551616 * d0) (hl : low < 18446744073709551616) : low = 0 := by
  have h1 : (k * m0 + u0) % 18446744073709551616 = 0 := by
    have e1 : k * m0 % 18446744073709551616 = u0 * (iv * m) % 18446744073709551616 := by
      rw [hk, ← hm, ← Nat.mul_mod, Nat.mul_assoc]
    rw [Nat.add_mod, e1, Nat.mul_mod, hiv]
    have h2 : u0 % 18446744073709551616 * 18446744073709551615 + u0 % 18446744073709551616 = 18446744073709551616 * (u0 % 18446744073709551616) := by omega
    rw [← Nat.add_mod_mod, Nat.add_mod, Nat.mod_mod, Nat.mod_mod, ← Nat.add_mod, h2, Nat.mul_mod_right]
  omega
theorem mont_round {T T' x a k m i b' : Nat} (hT : T' * 18446744073709551616 = T + x * a + k * m) (hI : T * B64 ^ i % m = a * b' % m) : T' * B64 ^ (i + 1) % m = a * (b' + B64 ^ i * x) % m := by
  have e : T' * B64 ^ (i + 1) = T * B64 ^ i + a * (B64 ^ i * x) + m * (k * B64 ^ i) := by
    have e1 : T' * B64 ^ (i + 1) = (T' * 18446744073709551616) * B64 ^ i := by rw [Nat.pow_succ, Nat.mul_comm (B64 ^ i) B64, Nat.mul_assoc]
    rw [e1, hT]
    generalize B64 ^ i = p
    grind
  rw [e, Nat.add_mul_mod_self_left, Nat.add_mod, hI, ← Nat.add_mod, Nat.mul_add]
theorem mont_bound {T T' x a k m : Nat} (hT : T' * 18446744073709551616 = T + x * a + k * m) (hx : x ≤ 18446744073709551615) (hk : k ≤ 18446744073709551615) (ha : a < m) (hI : T < 2 * m) : T' < 2 * m := by
  have h1 : x * a ≤ 18446744073709551615 * m := Nat.mul_le_mul hx (Nat.le_of_lt ha)
  have h2 : k * m ≤ 18446744073709551615 * m := Nat.mul_le_mul_right _ hk
  omega
def t_mont (mulAdd less : FuncId) : T :=
 .node (.op (.cell 4 0) [.v 1]) <|
 .node (.op (.cell 4 1) [.v 1]) <|
 .node (.op (.cell 4 2) [.v 1]) <|
 .node (.op (.cell 4 3) [.v 1]) <|
 .node (.op (.cell 4 0) [.v 2]) <|
 .node (.op (.cell 4 1) [.v 2]) <|
 .node (.op (.cell 4 2) [.v 2]) <|
 .node (.op (.cell 4 3) [.v 2]) <|
 .loop [.c (.int .i64 0), .c (.int .u64 0), .c (.int .u64 0), .c (.int .u64 0), .c (.int .u64 0), .c (.int .u64 0), .c (.int .u64 0)] [true, true, true, true, true, true, true] <|
 .node (.op (.bin .lss) [.v 11, .c (.int .i64 4)]) <|
 .br (.v 18) (
 .node (.op .mkagg [.v 7, .v 8, .v 9, .v 10]) <|
 .node (.op (.aidx 4 1 false) [.v 19, .v 11]) <|
 .node (.call mulAdd [.v 20, .v 3, .v 12, .c (.int .u64 0)] false) <|
 .node (.op (.ext 0 true) [.v 21]) <|
 .node (.op (.ext 1 true) [.v 21]) <|
 .node (.call mulAdd [.v 20, .v 4, .v 13, .v 22] false) <|
 .node (.op (.ext 0 true) [.v 24]) <|
 .node (.op (.ext 1 true) [.v 24]) <|
 .node (.call mulAdd [.v 20, .v 5, .v 14, .v 25] false) <|
 .node (.op (.ext 0 true) [.v 27]) <|
 .node (.op (.ext 1 true) [.v 27]) <|
 .node (.call mulAdd [.v 20, .v 6, .v 15, .v 28] false) <|
 .node (.op (.ext 0 true) [.v 30]) <|
 .node (.op (.ext 1 true) [.v 30]) <|
 .node (.op .add64 [.v 16, .v 31, .c (.int .u64 0)]) <|
 .node (.op (.ext 0 true) [.v 33]) <|
 .node (.op (.ext 1 true) [.v 33]) <|
 .node (.op .nilchk [.v 0]) <|
 .node (.op (.roff 4) [.v 36]) <|
 .node (.op (.rld false 1) [.v 37]) <|
 .node (.op (.bin .mul) [.v 23, .v 38]) <|
 .node (.op .nilchk [.v 0]) <|
 .node (.op (.roff 0) [.v 40]) <|
 .node (.op (.ridx 4 1) [.v 41, .c (.int .i64 0)]) <|
 .node (.op (.rld false 1) [.v 42]) <|
 .node (.call mulAdd [.v 39, .v 43, .v 23, .c (.int .u64 0)] false) <|
 .node (.op (.ext 0 true) [.v 44]) <|
 .node (.op (.ext 1 true) [.v 44]) <|
 .node (.op .nilchk [.v 0]) <|
 .node (.op (.roff 0) [.v 47]) <|
 .node (.op (.ridx 4 1) [.v 48, .c (.int .i64 1)]) <|
 .node (.op (.rld false 1) [.v 49]) <|
 .node (.call mulAdd [.v 39, .v 50, .v 26, .v 45] false) <|
 .node (.op (.ext 0 true) [.v 51]) <|
 .node (.op (.ext 1 true) [.v 51]) <|
 .node (.op .nilchk [.v 0]) <|
 .node (.op (.roff 0) [.v 54]) <|
 .node (.op (.ridx 4 1) [.v 55, .c (.int .i64 2)]) <|
 .node (.op (.rld false 1) [.v 56]) <|
 .node (.call mulAdd [.v 39, .v 57, .v 29, .v 52] false) <|
 .node (.op (.ext 0 true) [.v 58]) <|
 .node (.op (.ext 1 true) [.v 58]) <|
 .node (.op .nilchk [.v 0]) <|
 .node (.op (.roff 0) [.v 61]) <|
 .node (.op (.ridx 4 1) [.v 62, .c (.int .i64 3)]) <|
 .node (.op (.rld false 1) [.v 63]) <|
 .node (.call mulAdd [.v 39, .v 64, .v 32, .v 59] false) <|
 .node (.op (.ext 0 true) [.v 65]) <|
 .node (.op (.ext 1 true) [.v 65]) <|
 .node (.op .add64 [.v 34, .v 66, .c (.int .u64 0)]) <|
 .node (.op (.ext 0 true) [.v 68]) <|
 .node (.op (.ext 1 true) [.v 68]) <|
 .node (.op (.bin .add) [.v 35, .v 70]) <|
 .node (.op (.bin .add) [.v 11, .c (.int .i64 1)]) <|
 .back 0 [.v 72, .v 53, .v 60, .v 67, .v 69, .v 71, .v 35]) (
 .node (.op .mkagg [.v 12, .v 13, .v 14, .v 15]) <|
 .node (.call less [.v 0, .v 19, .v 16] false) <|
 .node (.op (.cell 4 0) [.v 20]) <|
 .node (.op (.cell 4 1) [.v 20]) <|
 .node (.op (.cell 4 2) [.v 20]) <|
 .node (.op (.cell 4 3) [.v 20]) <|
 .node (.op .mkagg [.v 21, .v 22, .v 23, .v 24]) <|
 .ret (.v 25))
theorem mont_den {mulAdd less : FuncId} {m iv sq a b : Nat} (hma : MulAddC P mulAdd) (hle : FLessC P less) (hF : Fok m iv sq) (ha : a < m) (hb : b < W256) :
    D P (fun e => e = .ret (WV (montS m a b))) [] 3 [WV b, WV a, FP m iv sq] (t_mont mulAdd less) := by
  have hm := hF.2.1
  have hiv := hF.2.2.1
  obtain ⟨m0, m1, m2, m3, q0, q1, q2, q3, hm0, hm1, hm2, hm3, _, _, _, _, em, _, eF⟩ := FP_limbs (iv := iv) hm hF.sq_lt'
  obtain ⟨a0, a1, a2, a3, ha0, ha1, ha2, ha3, eA, ea⟩ := WV_limbs (Nat.lt_trans ha hm)
  obtain ⟨b0, b1, b2, b3, hb0, hb1, hb2, hb3, eB, eb⟩ := WV_limbs hb
  rw [eF, eA, eB]
  have hmm : m % 18446744073709551616 = m0 := by
    have : m0 < 18446744073709551616 := hm0
    subst em; unfold V4; omega
  refine d_cells rfl rfl rfl rfl (d_cells rfl rfl rfl rfl ?_)
  refine d_while (fun s : Nat × Nat × Nat × Nat × Nat × Nat × Nat => [.int .i64 (s.1 : Int), .int .u64 (s.2.1 : Int), .int .u64 (s.2.2.1 : Int), .int .u64 (s.2.2.2.1 : Int), .int .u64 (s.2.2.2.2.1 : Int), .int .u64 (s.2.2.2.2.2.1 : Int), .int .u64 (s.2.2.2.2.2.2 : Int)])
    (fun s => s.1 ≤ 4 ∧ s.2.1 < B64 ∧ s.2.2.1 < B64 ∧ s.2.2.2.1 < B64 ∧ s.2.2.2.2.1 < B64 ∧ s.2.2.2.2.2.1 < B64 ∧ V5 s.2.1 s.2.2.1 s.2.2.2.1 s.2.2.2.2.1 s.2.2.2.2.2.1 < 2 * m ∧
      V5 s.2.1 s.2.2.1 s.2.2.2.1 s.2.2.2.2.1 s.2.2.2.2.2.1 * B64 ^ s.1 % m = a * (b % B64 ^ s.1) % m) (fun s => 4 - s.1) (0, 0, 0, 0, 0, 0, 0)
    ⟨by decide, by decide, by decide, by decide, by decide, by decide, by show 0 < 2 * m; omega, by show 0 * 1 % m = a * (b % 1) % m; rw [Nat.mod_one]; simp⟩ rfl ?_
  rintro ⟨i, t0, t1, t2, t3, t4, t5⟩ ⟨hi, ht0, ht1, ht2, ht3, ht4, hT, hI⟩
  dsimp only at hi ht0 ht1 ht2 ht3 ht4 hT hI ⊢
  refine d_op ev_lss (d_if rfl (fun h1 => ?_) (fun h1 => ?_))
  · have hi4 : i < 4 := by omega
    obtain ⟨hx, hbs⟩ := limb_at hb0 hb1 hb2 hb3 hi4
    rw [← eb] at hbs
    refine d_op ev_wl (d_op (ev_waidx hi4) ?_)
    obtain ⟨x, ex⟩ : ∃ x, x = [b0, b1, b2, b3].getD i 0 := ⟨_, rfl⟩
    rw [← ex] at hx hbs ⊢
    obtain ⟨c0, u0, hu0, hc0, e0, k0⟩ := hma.at hx ha0 ht0 (w := 0) (by decide)
    obtain ⟨c1, u1, hu1, hc1, e1, k1⟩ := hma.at hx ha1 ht1 hc0
    obtain ⟨c2, u2, hu2, hc2, e2, k2⟩ := hma.at hx ha2 ht2 hc1
    obtain ⟨c3, u3, hu3, hc3, e3, k3⟩ := hma.at hx ha3 ht3 hc2
    obtain ⟨u4, c4, hu4, hc4, e4⟩ := add_parts ht4 hc3 (Nat.zero_le 1)
    obtain ⟨k, ek⟩ : ∃ k, k = u0 * iv % 18446744073709551616 := ⟨_, rfl⟩
    have hk : k < B64 := by rw [ek]; exact Nat.mod_lt _ (by decide)
    obtain ⟨d0, low, hlow, hd0, f0, l0⟩ := hma.at hk hm0 hu0 (w := 0) (by decide)
    obtain ⟨d1, v0, hv0, hd1, f1, l1⟩ := hma.at hk hm1 hu1 hd0
    obtain ⟨d2, v1, hv1, hd2, f2, l2⟩ := hma.at hk hm2 hu2 hd1
    obtain ⟨d3, v2, hv2, hd3, f3, l3⟩ := hma.at hk hm3 hu3 hd2
    obtain ⟨v3, c5, hv3, hc5, f4⟩ := add_parts hu4 hd3 (Nat.zero_le 1)
    have hlow0 := mont_low ek hmm hF.2.2.2.1 f0 hlow
    have hsum : V5 v0 v1 v2 v3 (c4 + c5) * 18446744073709551616 = V5 t0 t1 t2 t3 t4 + x * a + k * m := by
      have g1 : x * a = x * a0 + 18446744073709551616 * (x * a1) + 340282366920938463463374607431768211456 * (x * a2) + 6277101735386680763835789423207666416102355444464034512896 * (x * a3) := by rw [ea]; unfold V4; grind
      have g2 : k * m = k * m0 + 18446744073709551616 * (k * m1) + 340282366920938463463374607431768211456 * (k * m2) + 6277101735386680763835789423207666416102355444464034512896 * (k * m3) := by rw [em]; unfold V4; grind
      rw [g1, g2]
      unfold V5 V4 W256
      omega
    have hT' := mont_bound hsum (Nat.le_of_lt_succ hx) (Nat.le_of_lt_succ hk) ha hT
    have hI' := mont_round hsum hI
    rw [← hbs] at hI'
    have hw : IntKind.u64.wrap ((u0 : Int) * (iv : Int)) = (k : Int) := by
      rw [wrap_u rfl, ek]
      show ((u0 : Int) * (iv : Int)) % 18446744073709551616 = _
      simp
    refine d_call (k0 rfl rfl rfl rfl) (fun h => by cases h) (d_op (ev_ext rfl (fun _ => rfl)) (d_op (ev_ext rfl (fun _ => rfl)) ?_))
    refine d_call (k1 rfl rfl rfl rfl) (fun h => by cases h) (d_op (ev_ext rfl (fun _ => rfl)) (d_op (ev_ext rfl (fun _ => rfl)) ?_))
    refine d_call (k2 rfl rfl rfl rfl) (fun h => by cases h) (d_op (ev_ext rfl (fun _ => rfl)) (d_op (ev_ext rfl (fun _ => rfl)) ?_))
    refine d_call (k3 rfl rfl rfl rfl) (fun h => by cases h) (d_op (ev_ext rfl (fun _ => rfl)) (d_op (ev_ext rfl (fun _ => rfl)) ?_))
    refine d_op (ev_add64 e4 hu4 (by omega) rfl rfl rfl) (d_op (ev_ext rfl (fun _ => rfl)) (d_op (ev_ext rfl (fun _ => rfl)) ?_))
    refine d_op ev_fnil (d_op ev_froff4 (d_op ev_frldiv (d_op ev_mulw ?_)))
    rw [hw]
    refine d_op ev_fnil (d_op ev_froff (d_op ev_fridx0 (d_op ev_frld0 ?_)))
    refine d_call (l0 rfl rfl rfl rfl) (fun h => by cases h) (d_op (ev_ext rfl (fun _ => rfl)) (d_op (ev_ext rfl (fun _ => rfl)) ?_))
    refine d_op ev_fnil (d_op ev_froff (d_op ev_fridx1 (d_op ev_frld1 ?_)))
    refine d_call (l1 rfl rfl rfl rfl) (fun h => by cases h) (d_op (ev_ext rfl (fun _ => rfl)) (d_op (ev_ext rfl (fun _ => rfl)) ?_))
    refine d_op ev_fnil (d_op ev_froff (d_op ev_fridx2 (d_op ev_frld2 ?_)))
    refine d_call (l2 rfl rfl rfl rfl) (fun h => by cases h) (d_op (ev_ext rfl (fun _ => rfl)) (d_op (ev_ext rfl (fun _ => rfl)) ?_))
    refine d_op ev_fnil (d_op ev_froff (d_op ev_fridx3 (d_op ev_frld3 ?_)))
    refine d_call (l3 rfl rfl rfl rfl) (fun h => by cases h) (d_op (ev_ext rfl (fun _ => rfl)) (d_op (ev_ext rfl (fun _ => rfl)) ?_))
    refine d_op (ev_add64 f4 hv3 (by omega) rfl rfl rfl) (d_op (ev_ext rfl (fun _ => rfl)) (d_op (ev_ext rfl (fun _ => rfl)) ?_))
    refine d_op (ev_add (by constructor <;> omega)) (d_op (ev_add (by constructor <;> omega)) ?_)
    exact d_back rfl ⟨(i + 1, v0, v1, v2, v3, c4 + c5, c4), rfl, ⟨by show i + 1 ≤ 4; omega, hv0, hv1, hv2, hv3, by show c4 + c5 < 18446744073709551616; omega, hT', hI'⟩, by show 4 - (i + 1) < 4 - i; omega⟩
  · have : i = 4 := by omega
    subst this
    have hb4 : b % B64 ^ 4 = b := Nat.mod_eq_of_lt hb
    rw [hb4] at hI
    have hS := V4_lt ht0 ht1 ht2 ht3
    have ht41 : t4 ≤ 1 := by
      have : W256 * t4 < 2 * W256 := by unfold V5 at hT; omega
      unfold W256 at this; omega
    have hv : t4 * W256 + V4 t0 t1 t2 t3 = V5 t0 t1 t2 t3 t4 := by unfold V5; rw [Nat.mul_comm, Nat.add_comm]
    have h := hle m iv sq (V4 t0 t1 t2 t3) t4 hm hF.sq_lt' hS ht41 (by rw [hv]; exact hT)
    rw [hv, mont_of hF.1 hI, eF, WV_eq ht0 ht1 ht2 ht3] at h
    obtain ⟨r0, r1, r2, r3, _, _, _, _, er, _⟩ := WV_limbs (a := montS m a b) (Nat.lt_trans (Nat.mod_lt _ (by omega)) hm)
    rw [er] at h ⊢
    exact d_op ev_wl (d_call h (fun h => by cases h) (d_cells rfl rfl rfl rfl (d_op ev_wl (d_ret rfl))))
theorem montS_lt {m a b : Nat} (h : 0 < m) : montS m a b < m := Nat.mod_lt _ h
theorem mont_sq {m iv sq a b : Nat} (hF : Fok m iv sq) : montS m (montS m a sq) b = a * b % m := by
  have h := rinv_spec hF.1
  unfold montS
  rw [hF.2.2.2.2]
  have e1 : a * (W256 * W256 % m) * rinv m % m = a * W256 % m := by
    have : a * (W256 * W256 % m) * rinv m % m = a * (W256 * W256) * rinv m % m := by
      rw [Nat.mul_mod, Nat.mul_mod a, Nat.mod_mod, ← Nat.mul_mod a, ← Nat.mul_mod]
    rw [this]
    have : a * (W256 * W256) * rinv m = a * W256 * (W256 * rinv m) := by grind
    rw [this, Nat.mul_mod, h, ← Nat.mul_mod, Nat.mul_one]
  rw [e1]
  have e2 : a * W256 % m * b * rinv m % m = a * W256 * b * rinv m % m := by
    rw [Nat.mul_mod, Nat.mul_mod (a * W256 % m), Nat.mod_mod, ← Nat.mul_mod (a * W256), ← Nat.mul_mod]
  rw [e2]
  have : a * W256 * b * rinv m = a * b * (W256 * rinv m) := by grind
  rw [this, Nat.mul_mod, h, ← Nat.mul_mod, Nat.mul_one]
def FmC (P : Program) (f : FuncId) (s : Nat → Nat → Nat → Nat) : Prop := ∀ m iv sq a b, Fok m iv sq → a < m → b < m → Ct P f [FP m iv sq, WV a, WV b] (fun e => e = .ret (WV (s m a b)))
def mulM (m a b : Nat) : Nat := a * b % m
def t_fmul (mont : FuncId) : T :=
 .node (.op (.cell 4 0) [.v 1]) <|
 .node (.op (.cell 4 1) [.v 1]) <|
 .node (.op (.cell 4 2) [.v 1]) <|
 .node (.op (.cell 4 3) [.v 1]) <|
 .node (.op (.cell 4 0) [.v 2]) <|
 .node (.op (.cell 4 1) [.v 2]) <|
 .node (.op (.cell 4 2) [.v 2]) <|
 .node (.op (.cell 4 3) [.v 2]) <|
 .node (.op .nilchk [.v 0]) <|
 .node (.op (.roff 5) [.v 11]) <|
 .node (.op (.rld true 4) [.v 12]) <|
 .node (.op .mkagg [.v 3, .v 4, .v 5, .v 6]) <|
 .node (.call mont [.v 0, .v 14, .v 13] false) <|
 .node (.op .mkagg [.v 7, .v 8, .v 9, .v 10]) <|
 .node (.call mont [.v 0, .v 15, .v 16] false) <|
 .node (.op (.cell 4 0) [.v 17]) <|
 .node (.op (.cell 4 1) [.v 17]) <|
 .node (.op (.cell 4 2) [.v 17]) <|
 .node (.op (.cell 4 3) [.v 17]) <|
 .node (.op .mkagg [.v 18, .v 19, .v 20, .v 21]) <|
 .ret (.v 22)
theorem fmul_den {mont : FuncId} {m iv sq a b : Nat} (hmo : MontC P mont) (hF : Fok m iv sq) (ha : a < m) (hb : b < m) :
    D P (fun e => e = .ret (WV (mulM m a b))) [] 3 [WV b, WV a, FP m iv sq] (t_fmul mont) := by
  have hm := hF.2.1
  have h1 := hmo m iv sq a sq hF ha hF.sq_lt'
  have h2 := hmo m iv sq (montS m a sq) b hF (montS_lt (by omega)) (Nat.lt_trans hb hm)
  rw [mont_sq hF] at h2
  obtain ⟨m0, m1, m2, m3, q0, q1, q2, q3, hm0, hm1, hm2, hm3, hq0, hq1, hq2, hq3, em, es, eF⟩ := FP_limbs (iv := iv) hm hF.sq_lt'
  obtain ⟨a0, a1, a2, a3, ha0, ha1, ha2, ha3, eA, ea⟩ := WV_limbs (Nat.lt_trans ha hm)
  obtain ⟨b0, b1, b2, b3, hb0, hb1, hb2, hb3, eB, eb⟩ := WV_limbs (Nat.lt_trans hb hm)
  obtain ⟨r0, r1, r2, r3, _, _, _, _, er, _⟩ := WV_limbs (a := a * b % m) (Nat.lt_trans (Nat.mod_lt _ (by omega)) hm)
  have eS : WV sq = WL q0 q1 q2 q3 := by rw [es, WV_eq hq0 hq1 hq2 hq3]
  rw [eF, eA, eS] at h1
  rw [eF, eB, er] at h2
  unfold mulM
  rw [eF, eA, eB, er]
  refine d_cells rfl rfl rfl rfl (d_cells rfl rfl rfl rfl ?_)
  refine d_op ev_fnil (d_op ev_froff5 (d_op ev_frlds (d_op ev_wl (d_call h1 (fun h => by cases h) (d_op ev_wl (d_call h2 (fun h => by cases h) ?_))))))
  exact d_cells rfl rfl rfl rfl (d_op ev_wl (d_ret rfl))
end Go.SE
