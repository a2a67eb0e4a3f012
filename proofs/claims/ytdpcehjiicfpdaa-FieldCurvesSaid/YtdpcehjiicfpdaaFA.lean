/- Nothing of the statement is proved here: this text lays generic laws: FA; no conditions. -/
import Derived.Test.YtdpcehjiicfpdaaNA
set_option linter.all false
set_option autoImplicit false
set_option maxRecDepth 4000
namespace Go.SE
open Go
variable {P : Program} {R : AEnd → Prop}
def WL (a b c d : Nat) : AV := .agg [.int .u64 (a : Int), .int .u64 (b : Int), .int .u64 (c : Int), .int .u64 (d : Int)]
def V4 (a b c d : Nat) : Nat := a + 18446744073709551616 * b + 340282366920938463463374607431768211456 * c + 6277101735386680763835789423207666416102355444464034512896 * d
def W256 : Nat := 115792089237316195423570985008687907853269984665640564039457584007913129639936
def WV (n : Nat) : AV := WL (n % 18446744073709551616) (n / 18446744073709551616 % 18446744073709551616) (n / 340282366920938463463374607431768211456 % 18446744073709551616) (n / 6277101735386680763835789423207666416102355444464034512896 % 18446744073709551616)
abbrev B64 : Nat := 18446744073709551616
theorem limbs {n : Nat} (h : n < W256) : ∃ a b c d, a < B64 ∧ b < B64 ∧ c < B64 ∧ d < B64 ∧ n = V4 a b c d := by
  unfold W256 at h
  exact ⟨n % 18446744073709551616, n / 18446744073709551616 % 18446744073709551616, n / 340282366920938463463374607431768211456 % 18446744073709551616, n / 6277101735386680763835789423207666416102355444464034512896, by show _ < 18446744073709551616; omega, by show _ < 18446744073709551616; omega, by show _ < 18446744073709551616; omega, by show _ < 18446744073709551616; omega, by unfold V4; omega⟩
theorem V4_lt {a b c d : Nat} (ha : a < B64) (hb : b < B64) (hc : c < B64) (hd : d < B64) : V4 a b c d < W256 := by
  unfold V4 W256
  have : a < 18446744073709551616 := ha
  have : b < 18446744073709551616 := hb
  have : c < 18446744073709551616 := hc
  have : d < 18446744073709551616 := hd
  omega
theorem WV_eq {a b c d : Nat} (ha : a < B64) (hb : b < B64) (hc : c < B64) (hd : d < B64) : WV (V4 a b c d) = WL a b c d := by
  have : a < 18446744073709551616 := ha
  have : b < 18446744073709551616 := hb
  have : c < 18446744073709551616 := hc
  have : d < 18446744073709551616 := hd
  unfold WV V4
  congr 1 <;> omega
theorem ev_c0 {a b c d : Nat} : evalO (.cell 4 0) [WL a b c d] = some (.int .u64 (a : Int)) := rfl
theorem ev_c1 {a b c d : Nat} : evalO (.cell 4 1) [WL a b c d] = some (.int .u64 (b : Int)) := rfl
theorem ev_c2 {a b c d : Nat} : evalO (.cell 4 2) [WL a b c d] = some (.int .u64 (c : Int)) := rfl
theorem ev_c3 {a b c d : Nat} : evalO (.cell 4 3) [WL a b c d] = some (.int .u64 (d : Int)) := rfl
theorem ev_wl {a b c d : Nat} : evalO .mkagg [.int .u64 (a : Int), .int .u64 (b : Int), .int .u64 (c : Int), .int .u64 (d : Int)] = some (WL a b c d) := rfl
theorem d_cells {H : List (List AV → Prop)} {n : Nat} {ρ : List AV} {x : Atom} {a b c d : Nat} {t : T}
    (h0 : x.at n ρ = WL a b c d) (h1 : x.at (n + 1) (.int .u64 (a : Int) :: ρ) = WL a b c d) (h2 : x.at (n + 1 + 1) (.int .u64 (b : Int) :: .int .u64 (a : Int) :: ρ) = WL a b c d)
    (h3 : x.at (n + 1 + 1 + 1) (.int .u64 (c : Int) :: .int .u64 (b : Int) :: .int .u64 (a : Int) :: ρ) = WL a b c d)
    (k : D P R H (n + 1 + 1 + 1 + 1) (.int .u64 (d : Int) :: .int .u64 (c : Int) :: .int .u64 (b : Int) :: .int .u64 (a : Int) :: ρ) t) :
    D P R H n ρ (.node (.op (.cell 4 0) [x]) (.node (.op (.cell 4 1) [x]) (.node (.op (.cell 4 2) [x]) (.node (.op (.cell 4 3) [x]) t)))) :=
  d_op (by show evalO _ [x.at n ρ] = _; rw [h0]; exact ev_c0) (d_op (by show evalO _ [x.at _ _] = _; rw [h1]; exact ev_c1) (d_op (by show evalO _ [x.at _ _] = _; rw [h2]; exact ev_c2) (d_op (by show evalO _ [x.at _ _] = _; rw [h3]; exact ev_c3) k)))
theorem add_parts {x y c : Nat} (hx : x < B64) (hy : y < B64) (hc : c ≤ 1) : ∃ s c', s < B64 ∧ c' ≤ 1 ∧ x + y + c = s + 18446744073709551616 * c' := by
  have : x < 18446744073709551616 := hx
  have : y < 18446744073709551616 := hy
  exact ⟨(x + y + c) % 18446744073709551616, (x + y + c) / 18446744073709551616, by show _ < 18446744073709551616; omega, by omega, by omega⟩
theorem sub_parts {x y c : Nat} (hx : x < B64) (hy : y < B64) (hc : c ≤ 1) : ∃ s c', s < B64 ∧ c' ≤ 1 ∧ x + 18446744073709551616 * c' = s + y + c := by
  have : x < 18446744073709551616 := hx
  have : y < 18446744073709551616 := hy
  by_cases h : x < y + c
  · exact ⟨x + 18446744073709551616 - y - c, 1, by show _ < 18446744073709551616; omega, by omega, by omega⟩
  · exact ⟨x - y - c, 0, by show _ < 18446744073709551616; omega, by omega, by omega⟩
theorem ev_add64 {x y c s c' : Nat} {a b d : Int} (h : x + y + c = s + 18446744073709551616 * c') (hs : s < B64) (hc : c ≤ 1) (ha : a = (x : Int)) (hb : b = (y : Int)) (hd : d = (c : Int)) :
    evalO .add64 [.int .u64 a, .int .u64 b, .int .u64 d] = some (.tup [.int .u64 (s : Int), .int .u64 (c' : Int)]) := by
  have : s < 18446744073709551616 := hs
  subst ha; subst hb; subst hd
  simp only [evalO]
  have e1 : ((x : Int) + (y : Int) + (c : Int)) % 18446744073709551616 = (s : Int) := by omega
  have e2 : ((x : Int) + (y : Int) + (c : Int)) / 18446744073709551616 = (c' : Int) := by omega
  rw [if_pos (by omega), e1, e2]
theorem ev_sub64 {x y c s c' : Nat} {a b d : Int} (h : x + 18446744073709551616 * c' = s + y + c) (hs : s < B64) (hy : y < B64) (hc : c ≤ 1) (hc' : c' ≤ 1) (hx : x < B64) (ha : a = (x : Int)) (hb : b = (y : Int)) (hd : d = (c : Int)) :
    evalO .sub64 [.int .u64 a, .int .u64 b, .int .u64 d] = some (.tup [.int .u64 (s : Int), .int .u64 (c' : Int)]) := by
  have : s < 18446744073709551616 := hs
  have : y < 18446744073709551616 := hy
  have : x < 18446744073709551616 := hx
  subst ha; subst hb; subst hd
  simp only [evalO]
  have e1 : ((x : Int) - (y : Int) - (c : Int)) % 18446744073709551616 = (s : Int) := by omega
  have e2 : (if (x : Int) < (y : Int) + (c : Int) then (1 : Int) else 0) = (c' : Int) := by split <;> omega
  rw [if_pos (by omega), e1, e2]
def WSubC (P : Program) (f : FuncId) : Prop := ∀ a b, a < W256 → b < W256 → Ct P f [WV a, WV b] (fun e => e = .ret (.tup [WV ((a + W256 - b) % W256), .int .u64 ((if a < b then 1 else 0 : Nat) : Int)]))
def WAddC (P : Program) (f : FuncId) : Prop := ∀ a b, a < W256 → b < W256 → Ct P f [WV a, WV b] (fun e => e = .ret (.tup [WV ((a + b) % W256), .int .u64 (((a + b) / W256 : Nat) : Int)]))
def W2 (P : Program) (f : FuncId) (s : Nat → Nat → Nat) : Prop := ∀ a b, a < W256 → b < W256 → Ct P f [WV a, WV b] (fun e => e = .ret (WV (s a b)))
def t_wsub : T :=
 .node (.op (.cell 4 0) [.v 0]) <|
 .node (.op (.cell 4 1) [.v 0]) <|
 .node (.op (.cell 4 2) [.v 0]) <|
 .node (.op (.cell 4 3) [.v 0]) <|
 .node (.op (.cell 4 0) [.v 1]) <|
 .node (.op (.cell 4 1) [.v 1]) <|
 .node (.op (.cell 4 2) [.v 1]) <|
 .node (.op (.cell 4 3) [.v 1]) <|
 .node (.op .sub64 [.v 2, .v 6, .c (.int .u64 0)]) <|
 .node (.op (.ext 0 true) [.v 10]) <|
 .node (.op (.ext 1 true) [.v 10]) <|
 .node (.op .sub64 [.v 3, .v 7, .v 12]) <|
 .node (.op (.ext 0 true) [.v 13]) <|
 .node (.op (.ext 1 true) [.v 13]) <|
 .node (.op .sub64 [.v 4, .v 8, .v 15]) <|
 .node (.op (.ext 0 true) [.v 16]) <|
 .node (.op (.ext 1 true) [.v 16]) <|
 .node (.op .sub64 [.v 5, .v 9, .v 18]) <|
 .node (.op (.ext 0 true) [.v 19]) <|
 .node (.op (.ext 1 true) [.v 19]) <|
 .node (.op .mkagg [.v 11, .v 14, .v 17, .v 20]) <|
 .node (.op .mktup [.v 22, .v 21]) <|
 .ret (.v 23)
theorem wsub_den {a b : Nat} (ha : a < W256) (hb : b < W256) : D P (fun e => e = .ret (.tup [WV ((a + W256 - b) % W256), .int .u64 ((if a < b then 1 else 0 : Nat) : Int)])) [] 2 [WV b, WV a] t_wsub := by
  obtain ⟨a0, a1, a2, a3, ha0, ha1, ha2, ha3, ea⟩ := limbs ha
  obtain ⟨b0, b1, b2, b3, hb0, hb1, hb2, hb3, eb⟩ := limbs hb
  obtain ⟨s0, c0, hs0, hc0, e0⟩ := sub_parts ha0 hb0 (Nat.zero_le 1)
  obtain ⟨s1, c1, hs1, hc1, e1⟩ := sub_parts ha1 hb1 hc0
  obtain ⟨s2, c2, hs2, hc2, e2⟩ := sub_parts ha2 hb2 hc1
  obtain ⟨s3, c3, hs3, hc3, e3⟩ := sub_parts ha3 hb3 hc2
  have hS := V4_lt hs0 hs1 hs2 hs3
  have hsum : a + W256 * c3 = V4 s0 s1 s2 s3 + b := by subst ea; subst eb; unfold V4 W256; omega
  have hr : (a + W256 - b) % W256 = V4 s0 s1 s2 s3 := by unfold W256 at *; omega
  have hc : (if a < b then 1 else 0 : Nat) = c3 := by unfold W256 at *; split <;> omega
  rw [hr, hc, WV_eq hs0 hs1 hs2 hs3, ea, eb, WV_eq ha0 ha1 ha2 ha3, WV_eq hb0 hb1 hb2 hb3]
  refine d_cells rfl rfl rfl rfl (d_cells rfl rfl rfl rfl ?_)
  refine d_op (ev_sub64 e0 hs0 hb0 (by omega) hc0 ha0 rfl rfl rfl) (d_op (ev_ext rfl (fun _ => rfl)) (d_op (ev_ext rfl (fun _ => rfl)) ?_))
  refine d_op (ev_sub64 e1 hs1 hb1 hc0 hc1 ha1 rfl rfl rfl) (d_op (ev_ext rfl (fun _ => rfl)) (d_op (ev_ext rfl (fun _ => rfl)) ?_))
  refine d_op (ev_sub64 e2 hs2 hb2 hc1 hc2 ha2 rfl rfl rfl) (d_op (ev_ext rfl (fun _ => rfl)) (d_op (ev_ext rfl (fun _ => rfl)) ?_))
  refine d_op (ev_sub64 e3 hs3 hb3 hc2 hc3 ha3 rfl rfl rfl) (d_op (ev_ext rfl (fun _ => rfl)) (d_op (ev_ext rfl (fun _ => rfl)) ?_))
  exact d_op ev_wl (d_op ev_mktup (d_ret rfl))
def t_wadd : T :=
 .node (.op (.cell 4 0) [.v 0]) <|
 .node (.op (.cell 4 1) [.v 0]) <|
 .node (.op (.cell 4 2) [.v 0]) <|
 .node (.op (.cell 4 3) [.v 0]) <|
 .node (.op (.cell 4 0) [.v 1]) <|
 .node (.op (.cell 4 1) [.v 1]) <|
 .node (.op (.cell 4 2) [.v 1]) <|
 .node (.op (.cell 4 3) [.v 1]) <|
 .node (.op .add64 [.v 2, .v 6, .c (.int .u64 0)]) <|
 .node (.op (.ext 0 true) [.v 10]) <|
 .node (.op (.ext 1 true) [.v 10]) <|
 .node (.op .add64 [.v 3, .v 7, .v 12]) <|
 .node (.op (.ext 0 true) [.v 13]) <|
 .node (.op (.ext 1 true) [.v 13]) <|
 .node (.op .add64 [.v 4, .v 8, .v 15]) <|
 .node (.op (.ext 0 true) [.v 16]) <|
 .node (.op (.ext 1 true) [.v 16]) <|
 .node (.op .add64 [.v 5, .v 9, .v 18]) <|
 .node (.op (.ext 0 true) [.v 19]) <|
 .node (.op (.ext 1 true) [.v 19]) <|
 .node (.op .mkagg [.v 11, .v 14, .v 17, .v 20]) <|
 .node (.op .mktup [.v 22, .v 21]) <|
 .ret (.v 23)
theorem wadd_den {a b : Nat} (ha : a < W256) (hb : b < W256) : D P (fun e => e = .ret (.tup [WV ((a + b) % W256), .int .u64 (((a + b) / W256 : Nat) : Int)])) [] 2 [WV b, WV a] t_wadd := by
  obtain ⟨a0, a1, a2, a3, ha0, ha1, ha2, ha3, ea⟩ := limbs ha
  obtain ⟨b0, b1, b2, b3, hb0, hb1, hb2, hb3, eb⟩ := limbs hb
  obtain ⟨s0, c0, hs0, hc0, e0⟩ := add_parts ha0 hb0 (Nat.zero_le 1)
  obtain ⟨s1, c1, hs1, hc1, e1⟩ := add_parts ha1 hb1 hc0
  obtain ⟨s2, c2, hs2, hc2, e2⟩ := add_parts ha2 hb2 hc1
  obtain ⟨s3, c3, hs3, hc3, e3⟩ := add_parts ha3 hb3 hc2
  have hS := V4_lt hs0 hs1 hs2 hs3
  have hsum : a + b = V4 s0 s1 s2 s3 + W256 * c3 := by subst ea; subst eb; unfold V4 W256; omega
  have hr : (a + b) % W256 = V4 s0 s1 s2 s3 := by unfold W256 at *; omega
  have hc : (a + b) / W256 = c3 := by unfold W256 at *; omega
  rw [hr, hc, WV_eq hs0 hs1 hs2 hs3, ea, eb, WV_eq ha0 ha1 ha2 ha3, WV_eq hb0 hb1 hb2 hb3]
  refine d_cells rfl rfl rfl rfl (d_cells rfl rfl rfl rfl ?_)
  refine d_op (ev_add64 e0 hs0 (by omega) rfl rfl rfl) (d_op (ev_ext rfl (fun _ => rfl)) (d_op (ev_ext rfl (fun _ => rfl)) ?_))
  refine d_op (ev_add64 e1 hs1 hc0 rfl rfl rfl) (d_op (ev_ext rfl (fun _ => rfl)) (d_op (ev_ext rfl (fun _ => rfl)) ?_))
  refine d_op (ev_add64 e2 hs2 hc1 rfl rfl rfl) (d_op (ev_ext rfl (fun _ => rfl)) (d_op (ev_ext rfl (fun _ => rfl)) ?_))
  refine d_op (ev_add64 e3 hs3 hc2 rfl rfl rfl) (d_op (ev_ext rfl (fun _ => rfl)) (d_op (ev_ext rfl (fun _ => rfl)) ?_))
  exact d_op ev_wl (d_op ev_mktup (d_ret rfl))
theorem WV_limbs {a : Nat} (ha : a < W256) : ∃ a0 a1 a2 a3, a0 < B64 ∧ a1 < B64 ∧ a2 < B64 ∧ a3 < B64 ∧ WV a = WL a0 a1 a2 a3 ∧ a = V4 a0 a1 a2 a3 := by
  obtain ⟨a0, a1, a2, a3, ha0, ha1, ha2, ha3, ea⟩ := limbs ha
  exact ⟨a0, a1, a2, a3, ha0, ha1, ha2, ha3, by rw [ea, WV_eq ha0 ha1 ha2 ha3], ea⟩
def t_wSub (sub : FuncId) : T :=
 .node (.op (.cell 4 0) [.v 0]) <|
 .node (.op (.cell 4 1) [.v 0]) <|
 .node (.op (.cell 4 2) [.v 0]) <|
 .node (.op (.cell 4 3) [.v 0]) <|
 .node (.op (.cell 4 0) [.v 1]) <|
 .node (.op (.cell 4 1) [.v 1]) <|
 .node (.op (.cell 4 2) [.v 1]) <|
 .node (.op (.cell 4 3) [.v 1]) <|
 .node (.op .mkagg [.v 2, .v 3, .v 4, .v 5]) <|
 .node (.op .mkagg [.v 6, .v 7, .v 8, .v 9]) <|
 .node (.call sub [.v 10, .v 11] false) <|
 .node (.op (.ext 0 false) [.v 12]) <|
 .node (.op (.ext 1 true) [.v 12]) <|
 .node (.op (.cell 4 0) [.v 13]) <|
 .node (.op (.cell 4 1) [.v 13]) <|
 .node (.op (.cell 4 2) [.v 13]) <|
 .node (.op (.cell 4 3) [.v 13]) <|
 .node (.op .mkagg [.v 15, .v 16, .v 17, .v 18]) <|
 .ret (.v 19)
theorem wSub_den {sub : FuncId} {a b : Nat} (hs : WSubC P sub) (ha : a < W256) (hb : b < W256) : D P (fun e => e = .ret (WV ((a + W256 - b) % W256))) [] 2 [WV b, WV a] (t_wSub sub) := by
  have h := hs a b ha hb
  obtain ⟨r0, r1, r2, r3, _, _, _, _, er, _⟩ := WV_limbs (a := (a + W256 - b) % W256) (Nat.mod_lt _ (by decide))
  obtain ⟨a0, a1, a2, a3, _, _, _, _, ea, _⟩ := WV_limbs ha
  obtain ⟨b0, b1, b2, b3, _, _, _, _, eb, _⟩ := WV_limbs hb
  rw [ea, eb, er] at h
  rw [ea, eb, er]
  refine d_cells rfl rfl rfl rfl (d_cells rfl rfl rfl rfl (d_op ev_wl (d_op ev_wl (d_call h (fun h => by cases h) ?_))))
  refine d_op (ev_ext rfl (fun h => by cases h)) (d_op (ev_ext rfl (fun _ => rfl)) (d_cells rfl rfl rfl rfl (d_op ev_wl (d_ret rfl))))
def t_wAdd (add : FuncId) : T :=
 .node (.op (.cell 4 0) [.v 0]) <|
 .node (.op (.cell 4 1) [.v 0]) <|
 .node (.op (.cell 4 2) [.v 0]) <|
 .node (.op (.cell 4 3) [.v 0]) <|
 .node (.op (.cell 4 0) [.v 1]) <|
 .node (.op (.cell 4 1) [.v 1]) <|
 .node (.op (.cell 4 2) [.v 1]) <|
 .node (.op (.cell 4 3) [.v 1]) <|
 .node (.op .mkagg [.v 2, .v 3, .v 4, .v 5]) <|
 .node (.op .mkagg [.v 6, .v 7, .v 8, .v 9]) <|
 .node (.call add [.v 10, .v 11] false) <|
 .node (.op (.ext 0 false) [.v 12]) <|
 .node (.op (.ext 1 true) [.v 12]) <|
 .node (.op (.cell 4 0) [.v 13]) <|
 .node (.op (.cell 4 1) [.v 13]) <|
 .node (.op (.cell 4 2) [.v 13]) <|
 .node (.op (.cell 4 3) [.v 13]) <|
 .node (.op .mkagg [.v 15, .v 16, .v 17, .v 18]) <|
 .ret (.v 19)
theorem wAdd_den {add : FuncId} {a b : Nat} (hs : WAddC P add) (ha : a < W256) (hb : b < W256) : D P (fun e => e = .ret (WV ((a + b) % W256))) [] 2 [WV b, WV a] (t_wAdd add) := by
  have h := hs a b ha hb
  obtain ⟨r0, r1, r2, r3, _, _, _, _, er, _⟩ := WV_limbs (a := (a + b) % W256) (Nat.mod_lt _ (by decide))
  obtain ⟨a0, a1, a2, a3, _, _, _, _, ea, _⟩ := WV_limbs ha
  obtain ⟨b0, b1, b2, b3, _, _, _, _, eb, _⟩ := WV_limbs hb
  rw [ea, eb, er] at h
  rw [ea, eb, er]
  refine d_cells rfl rfl rfl rfl (d_cells rfl rfl rfl rfl (d_op ev_wl (d_op ev_wl (d_call h (fun h => by cases h) ?_))))
  refine d_op (ev_ext rfl (fun h => by cases h)) (d_op (ev_ext rfl (fun _ => rfl)) (d_cells rfl rfl rfl rfl (d_op ev_wl (d_ret rfl))))
end Go.SE
