/- Nothing of the statement is proved here: this text lays generic laws: FE; no conditions. -/
import Derived.Test.YtdpcehjiicfpdaaFD
set_option linter.all false
set_option autoImplicit false
set_option maxRecDepth 4000
set_option maxHeartbeats 2000000
set_option exponentiation.threshold 5000
namespace Go.SE
open Go
variable {P : Program} {R : AEnd → Prop}
def WCmpC (P : Program) (f : FuncId) : Prop := ∀ a b, a < W256 → b < W256 → Ct P f [WV a, WV b] (fun e => e = .ret (.int .i64 (cmpN a b)))
theorem cmpN_3 {a0 a1 a2 a3 b0 b1 b2 b3 : Nat} (ha0 : a0 < B64) (ha1 : a1 < B64) (ha2 : a2 < B64) (ha3 : a3 < B64) (hb0 : b0 < B64) (hb1 : b1 < B64) (hb2 : b2 < B64) (hb3 : b3 < B64) :
    cmpN (V4 a0 a1 a2 a3) (V4 b0 b1 b2 b3) = if cmpN a3 b3 ≠ 0 then cmpN a3 b3 else if cmpN a2 b2 ≠ 0 then cmpN a2 b2 else if cmpN a1 b1 ≠ 0 then cmpN a1 b1 else cmpN a0 b0 := by
  have : a0 < 18446744073709551616 := ha0
  have : a1 < 18446744073709551616 := ha1
  have : a2 < 18446744073709551616 := ha2
  have : a3 < 18446744073709551616 := ha3
  have : b0 < 18446744073709551616 := hb0
  have : b1 < 18446744073709551616 := hb1
  have : b2 < 18446744073709551616 := hb2
  have : b3 < 18446744073709551616 := hb3
  have key : ∀ {x y : Nat} {u v : Nat}, (x < y → u < v) → (y < x → v < u) → x ≠ y → cmpN u v = cmpN x y := fun {x y u v} h1 h2 hne => by
    unfold cmpN
    rcases Nat.lt_or_gt_of_ne hne with h | h
    · rw [if_pos (h1 h), if_pos h]
    · have := h2 h
      rw [if_neg (show ¬ u < v by omega), if_pos this, if_neg (show ¬ x < y by omega), if_pos h]
  simp only [ne_eq, cmpN_zero, ite_not]
  by_cases e3 : a3 = b3
  · rw [if_pos e3]
    by_cases e2 : a2 = b2
    · rw [if_pos e2]
      by_cases e1 : a1 = b1
      · rw [if_pos e1]
        by_cases e0 : a0 = b0
        · rw [e0, e1, e2, e3, cmpN_zero.2 rfl, cmpN_zero.2 rfl]
        · exact key (by unfold V4; omega) (by unfold V4; omega) e0
      · rw [if_neg e1]; exact key (by unfold V4; omega) (by unfold V4; omega) e1
    · rw [if_neg e2]; exact key (by unfold V4; omega) (by unfold V4; omega) e2
  · rw [if_neg e3]; exact key (by unfold V4; omega) (by unfold V4; omega) e3
def t_cmpr (cmp : FuncId) : T :=
 .node (.op (.cell 4 0) [.v 0]) <|
 .node (.op (.cell 4 1) [.v 0]) <|
 .node (.op (.cell 4 2) [.v 0]) <|
 .node (.op (.cell 4 3) [.v 0]) <|
 .node (.op (.cell 4 0) [.v 1]) <|
 .node (.op (.cell 4 1) [.v 1]) <|
 .node (.op (.cell 4 2) [.v 1]) <|
 .node (.op (.cell 4 3) [.v 1]) <|
 .node (.call cmp [.v 5, .v 9] true) <|
 .node (.op (.bin .neq) [.v 10, .c (.int .i64 0)]) <|
 .br (.v 11) (
 .ret (.v 10)) (
 .node (.call cmp [.v 4, .v 8] true) <|
 .node (.op (.bin .neq) [.v 12, .c (.int .i64 0)]) <|
 .br (.v 13) (
 .ret (.v 12)) (
 .node (.call cmp [.v 3, .v 7] true) <|
 .node (.op (.bin .neq) [.v 14, .c (.int .i64 0)]) <|
 .br (.v 15) (
 .ret (.v 14)) (
 .node (.call cmp [.v 2, .v 6] true) <|
 .node (.op (.bin .neq) [.v 16, .c (.int .i64 0)]) <|
 .br (.v 17) (
 .ret (.v 16)) (
 .ret (.c (.int .i64 0))))))
theorem cmpr_den {cmp : FuncId} {a b : Nat} (hc : CmpC P cmp .u64) (ha : a < W256) (hb : b < W256) : D P (fun e => e = .ret (.int .i64 (cmpN a b))) [] 2 [WV b, WV a] (t_cmpr cmp) := by
  obtain ⟨a0, a1, a2, a3, ha0, ha1, ha2, ha3, eA, ea⟩ := WV_limbs ha
  obtain ⟨b0, b1, b2, b3, hb0, hb1, hb2, hb3, eB, eb⟩ := WV_limbs hb
  rw [eA, eB, ea, eb, cmpN_3 ha0 ha1 ha2 ha3 hb0 hb1 hb2 hb3]
  refine d_cells rfl rfl rfl rfl (d_cells rfl rfl rfl rfl ?_)
  refine d_call (hc _ _) (fun _ => rfl) (d_op ev_neq (d_if rfl (fun h => ?_) (fun h => ?_)))
  · rw [if_pos h]; exact d_ret rfl
  rw [if_neg h]
  refine d_call (hc _ _) (fun _ => rfl) (d_op ev_neq (d_if rfl (fun h => ?_) (fun h => ?_)))
  · rw [if_pos h]; exact d_ret rfl
  rw [if_neg h]
  refine d_call (hc _ _) (fun _ => rfl) (d_op ev_neq (d_if rfl (fun h => ?_) (fun h => ?_)))
  · rw [if_pos h]; exact d_ret rfl
  rw [if_neg h]
  refine d_call (hc _ _) (fun _ => rfl) (d_op ev_neq (d_if rfl (fun h => ?_) (fun h => ?_)))
  · exact d_ret rfl
  · refine d_ret ?_
    have : cmpN a0 b0 = 0 := Classical.byContradiction h
    show AEnd.ret (.int .i64 0) = _
    rw [this]
def t_wCmp (cmpr : FuncId) : T :=
 .node (.op (.cell 4 0) [.v 0]) <|
 .node (.op (.cell 4 1) [.v 0]) <|
 .node (.op (.cell 4 2) [.v 0]) <|
 .node (.op (.cell 4 3) [.v 0]) <|
 .node (.op (.cell 4 0) [.v 1]) <|
 .node (.op (.cell 4 1) [.v 1]) <|
 .node (.op (.cell 4 2) [.v 1]) <|
 .node (.op (.cell 4 3) [.v 1]) <|
 .node (.op .mkagg [.v 2, .v 3, .v 4, .v 5]) <|
 .node (.op .mkagg [.v 6, .v 7, .v 8, .v 9]) <|
 .node (.call cmpr [.v 10, .v 11] true) <|
 .ret (.v 12)
theorem wCmp_den {cmpr : FuncId} {a b : Nat} (hc : WCmpC P cmpr) (ha : a < W256) (hb : b < W256) : D P (fun e => e = .ret (.int .i64 (cmpN a b))) [] 2 [WV b, WV a] (t_wCmp cmpr) := by
  have h := hc a b ha hb
  obtain ⟨a0, a1, a2, a3, _, _, _, _, eA, _⟩ := WV_limbs ha
  obtain ⟨b0, b1, b2, b3, _, _, _, _, eB, _⟩ := WV_limbs hb
  rw [eA, eB] at h ⊢
  exact d_cells rfl rfl rfl rfl (d_cells rfl rfl rfl rfl (d_op ev_wl (d_op ev_wl (d_call h (fun _ => rfl) (d_ret rfl)))))
def DoubleC (P : Program) (f : FuncId) : Prop := ∀ a bit : Nat, a < W256 → bit ≤ 1 → Ct P f [WV a, .int .u64 (bit : Int)] (fun e => e = .ret (.tup [WV ((2 * a + bit) % W256), .int .u64 (((2 * a + bit) / W256 : Nat) : Int)]))
theorem shl1 {x o : Nat} (_ : x < 18446744073709551616) (ho : o ≤ 1) : x * 2 ^ 1 % 18446744073709551616 ||| o = x * 2 % 18446744073709551616 + o := by
  have e : x * 2 ^ 1 % 18446744073709551616 = (x % 9223372036854775808) * 2 ^ 1 := by omega
  rw [e, or_at64 (by omega)]
def t_double : T :=
 .node (.op (.cell 4 0) [.v 0]) <|
 .node (.op (.cell 4 1) [.v 0]) <|
 .node (.op (.cell 4 2) [.v 0]) <|
 .node (.op (.cell 4 3) [.v 0]) <|
 .node (.op (.bin .shr) [.v 5, .c (.int .u64 63)]) <|
 .node (.op (.bin .shl) [.v 5, .c (.int .u64 1)]) <|
 .node (.op (.bin .shr) [.v 4, .c (.int .u64 63)]) <|
 .node (.op (.bin .or) [.v 7, .v 8]) <|
 .node (.op (.bin .shl) [.v 4, .c (.int .u64 1)]) <|
 .node (.op (.bin .shr) [.v 3, .c (.int .u64 63)]) <|
 .node (.op (.bin .or) [.v 10, .v 11]) <|
 .node (.op (.bin .shl) [.v 3, .c (.int .u64 1)]) <|
 .node (.op (.bin .shr) [.v 2, .c (.int .u64 63)]) <|
 .node (.op (.bin .or) [.v 13, .v 14]) <|
 .node (.op (.bin .shl) [.v 2, .c (.int .u64 1)]) <|
 .node (.op (.bin .or) [.v 16, .v 1]) <|
 .node (.op .mkagg [.v 17, .v 15, .v 12, .v 9]) <|
 .node (.op .mktup [.v 18, .v 6]) <|
 .ret (.v 19)
theorem double_den {a bit : Nat} (ha : a < W256) (hb : bit ≤ 1) : D P (fun e => e = .ret (.tup [WV ((2 * a + bit) % W256), .int .u64 (((2 * a + bit) / W256 : Nat) : Int)])) [] 2 [.int .u64 (bit : Int), WV a] t_double := by
  obtain ⟨a0, a1, a2, a3, ha0, ha1, ha2, ha3, eA, ea⟩ := WV_limbs ha
  have h0 : a0 < 18446744073709551616 := ha0
  have h1 : a1 < 18446744073709551616 := ha1
  have h2 : a2 < 18446744073709551616 := ha2
  have h3 : a3 < 18446744073709551616 := ha3
  have hw : ∀ x : Nat, IntKind.u64.wrap ((x * 2 ^ 1 : Nat) : Int) = ((x * 2 ^ 1 % 18446744073709551616 : Nat) : Int) := fun x => by rw [wrap_u rfl]; rfl
  have sh : ∀ x : Nat, x / 2 ^ 63 = x / 9223372036854775808 := fun x => rfl
  have r0 : a0 * 2 % 18446744073709551616 + bit < B64 := by show _ < 18446744073709551616; omega
  have r1 : a1 * 2 % 18446744073709551616 + a0 / 9223372036854775808 < B64 := by show _ < 18446744073709551616; omega
  have r2 : a2 * 2 % 18446744073709551616 + a1 / 9223372036854775808 < B64 := by show _ < 18446744073709551616; omega
  have r3 : a3 * 2 % 18446744073709551616 + a2 / 9223372036854775808 < B64 := by show _ < 18446744073709551616; omega
  have hr : (2 * a + bit) % W256 = V4 (a0 * 2 % 18446744073709551616 + bit) (a1 * 2 % 18446744073709551616 + a0 / 9223372036854775808) (a2 * 2 % 18446744073709551616 + a1 / 9223372036854775808) (a3 * 2 % 18446744073709551616 + a2 / 9223372036854775808) := by
    rw [ea]; unfold V4 W256; omega
  have hq : (2 * a + bit) / W256 = a3 / 9223372036854775808 := by rw [ea]; unfold V4 W256; omega
  rw [hr, hq, WV_eq r0 r1 r2 r3, eA]
  refine d_cells rfl rfl rfl rfl ?_
  refine d_op (ev_shr (y := 63) rfl (by decide) rfl) (d_op (ev_shl (y := 1) rfl (by decide) rfl) (d_op (ev_shr (y := 63) rfl (by decide) rfl) ?_))
  rw [hw, sh, sh]
  refine d_op (ev_or (by constructor <;> omega) (by constructor <;> omega)) ?_
  rw [shl1 h3 (by omega)]
  refine d_op (ev_shl (y := 1) rfl (by decide) rfl) (d_op (ev_shr (y := 63) rfl (by decide) rfl) ?_)
  rw [hw, sh]
  refine d_op (ev_or (by constructor <;> omega) (by constructor <;> omega)) ?_
  rw [shl1 h2 (by omega)]
  refine d_op (ev_shl (y := 1) rfl (by decide) rfl) (d_op (ev_shr (y := 63) rfl (by decide) rfl) ?_)
  rw [hw, sh]
  refine d_op (ev_or (by constructor <;> omega) (by constructor <;> omega)) ?_
  rw [shl1 h1 (by omega)]
  refine d_op (ev_shl (y := 1) rfl (by decide) rfl) ?_
  rw [hw]
  refine d_op (ev_or (by constructor <;> omega) (by constructor <;> omega)) ?_
  rw [shl1 h0 (by omega)]
  exact d_op ev_wl (d_op ev_mktup (d_ret rfl))
theorem fd_getD {b n q v : Nat} (h : q < n) : (fdigs b n v).getD q 0 = v / b ^ q % b := by
  induction n generalizing q v with
  | zero => omega
  | succ n ih =>
    cases q with
    | zero => simp [fdigs]
    | succ q => rw [fdigs, List.getD_cons_succ, ih (by omega), Nat.div_div_eq_div_mul, Nat.pow_succ, Nat.mul_comm b]
theorem fd_set {b n q v d x : Nat} (hb : 0 < b) (hq : q < n) (hx : x = v / b ^ q % b + d) (hlt : x < b) (hv : v + b ^ q * d < b ^ n) : (fdigs b n v).set q x = fdigs b n (v + b ^ q * d) := by
  refine eq_fdigs hb ((fdigs_lt hb _ _).set hlt q) (by simp) ?_
  have h := val_set (b := b) (L := fdigs b n v) (i := q) (by simp; omega) x
  rw [fd_getD hq, val_fdigs_lt (by omega), hx, Nat.mul_add] at h
  rw [hx]; omega
theorem pow64 (i : Nat) : 2 ^ i = B64 ^ (i / 64) * 2 ^ (i % 64) := by
  have h : 2 ^ i = 2 ^ (64 * (i / 64) + i % 64) := by rw [Nat.div_add_mod]
  rw [h, Nat.pow_add, Nat.pow_mul]
theorem bit_set {n t i x : Nat} (hi : i / 64 < n) (ht : t * 2 ^ (i + 1) + 2 ^ i < B64 ^ n) (hx : x = t * 2 ^ (i + 1) / B64 ^ (i / 64) % B64) :
    x ||| 2 ^ (i % 64) = x + 2 ^ (i % 64) ∧ x < B64 ∧ (fdigs B64 n (t * 2 ^ (i + 1))).set (i / 64) (x + 2 ^ (i % 64)) = fdigs B64 n ((2 * t + 1) * 2 ^ i) := by
  have hp : 0 < B64 ^ (i / 64) := Nat.pow_pos (by decide)
  have e1 : t * 2 ^ (i + 1) / B64 ^ (i / 64) = t * 2 ^ (i % 64 + 1) := by
    rw [Nat.pow_succ, pow64 i, Nat.pow_succ]
    have : t * (B64 ^ (i / 64) * 2 ^ (i % 64) * 2) = t * (2 ^ (i % 64) * 2) * B64 ^ (i / 64) := by generalize B64 ^ (i / 64) = p; generalize 2 ^ (i % 64) = r; grind
    rw [this, Nat.mul_div_cancel _ hp]
  rw [e1] at hx
  have hr : i % 64 < 64 := Nat.mod_lt _ (by decide)
  have e64 : B64 = 2 ^ (i % 64 + 1) * 2 ^ (63 - i % 64) := by rw [← Nat.pow_add, show i % 64 + 1 + (63 - i % 64) = 64 by omega]
  have e2 : x = (t % 2 ^ (63 - i % 64)) * 2 ^ (i % 64 + 1) := by
    rw [hx, e64, Nat.mul_comm t, Nat.mul_mod_mul_left, Nat.mul_comm]
  have e3 : x = (t % 2 ^ (63 - i % 64)) * 2 * 2 ^ (i % 64) := by rw [e2, Nat.pow_succ, Nat.mul_comm (2 ^ (i % 64)), Nat.mul_assoc]
  have hor : x ||| 2 ^ (i % 64) = x + 2 ^ (i % 64) := by
    have h := Nat.two_pow_add_eq_or_of_lt (i := i % 64 + 1) (b := 2 ^ (i % 64)) (Nat.pow_lt_pow_right (by decide) (by omega)) (t % 2 ^ (63 - i % 64))
    rw [Nat.mul_comm, ← e2] at h
    exact h.symm
  have hxl : x < B64 := by rw [hx]; exact Nat.mod_lt _ (by decide)
  have hlt : x + 2 ^ (i % 64) < B64 := by
    rw [← hor]
    exact Nat.or_lt_two_pow (n := 64) hxl (Nat.pow_lt_pow_right (by decide) hr)
  have e4 : (2 * t + 1) * 2 ^ i = t * 2 ^ (i + 1) + B64 ^ (i / 64) * 2 ^ (i % 64) := by rw [← pow64, Nat.pow_succ]; generalize 2 ^ i = p; grind
  refine ⟨hor, hxl, ?_⟩
  rw [e4]
  exact fd_set (by decide) hi (by rw [e1, hx]) hlt (by rw [← pow64]; exact ht)
theorem bit_of64 {L : List Nat} (h : LtAll B64 L) (i : Nat) : L.getD (i / 64) 0 / 2 ^ (i % 64) % 2 = val B64 L / 2 ^ i % 2 := by
  rw [getD_digit (by decide) h, pow64 i, ← Nat.div_div_eq_div_mul]
  generalize val B64 L / B64 ^ (i / 64) = w
  have hr : i % 64 < 64 := Nat.mod_lt _ (by decide)
  have e64 : B64 = 2 ^ (i % 64) * 2 ^ (64 - i % 64) := by rw [← Nat.pow_add, show i % 64 + (64 - i % 64) = 64 by omega]
  rw [e64, Nat.mod_mul_right_div_self]
  exact Nat.mod_mod_of_dvd _ (Nat.pow_dvd_pow 2 (show 1 ≤ 64 - i % 64 by omega))
def DivideWC (P : Program) (f : FuncId) : Prop := ∀ L m, LtAll B64 L → 0 < L.length → L.length ≤ 1048576 → 0 < m → m < W256 →
  Ct P f [SN .u64 L, WV m] (fun e => e = .ret (.tup [SN .u64 (fdigs B64 L.length (val B64 L / m)), WV (val B64 L % m)]))
theorem wdiv_step {N m i : Nat} (hm : 0 < m) : 2 * (N / 2 ^ (i + 1) % m) + N / 2 ^ i % 2 < 2 * m ∧
    N / 2 ^ i % m = (if m ≤ 2 * (N / 2 ^ (i + 1) % m) + N / 2 ^ i % 2 then 2 * (N / 2 ^ (i + 1) % m) + N / 2 ^ i % 2 - m else 2 * (N / 2 ^ (i + 1) % m) + N / 2 ^ i % 2) ∧
    N / 2 ^ i / m = (if m ≤ 2 * (N / 2 ^ (i + 1) % m) + N / 2 ^ i % 2 then 2 * (N / 2 ^ (i + 1) / m) + 1 else 2 * (N / 2 ^ (i + 1) / m)) := by
  have e : N / 2 ^ (i + 1) = N / 2 ^ i / 2 := by rw [Nat.pow_succ, Nat.div_div_eq_div_mul]
  rw [e]
  generalize N / 2 ^ i = x
  have h1 := Nat.div_add_mod (x / 2) m
  have h2 := Nat.mod_lt (x / 2) hm
  obtain ⟨Q, eQ⟩ : ∃ Q, Q = x / 2 / m := ⟨_, rfl⟩
  obtain ⟨r, er⟩ : ∃ r, r = x / 2 % m := ⟨_, rfl⟩
  rw [← eQ, ← er] at h1
  rw [← er] at h2
  rw [← eQ, ← er]
  have hb : x % 2 < 2 := Nat.mod_lt _ (by decide)
  have hx : x = m * (2 * Q) + (2 * r + x % 2) := by
    have : m * (2 * Q) = 2 * (m * Q) := by grind
    omega
  refine ⟨by omega, ?_, ?_⟩
  · split
    · rename_i hc
      have hx2 : x = m * (2 * Q + 1) + (2 * r + x % 2 - m) := by rw [Nat.mul_add]; omega
      rw [hx2, Nat.mul_add_mod, Nat.mod_eq_of_lt (by omega), ← hx2]
    · rename_i hc
      rw [hx, Nat.mul_add_mod, Nat.mod_eq_of_lt (by omega), ← hx]
  · split
    · rename_i hc
      have hx2 : x = m * (2 * Q + 1) + (2 * r + x % 2 - m) := by rw [Nat.mul_add]; omega
      rw [hx2, Nat.mul_add_div hm, Nat.div_eq_of_lt (by omega), Nat.add_zero]
    · rename_i hc
      rw [hx, Nat.mul_add_div hm, Nat.div_eq_of_lt (by omega), Nat.add_zero]
def t_divideW (double sub : FuncId) : T :=
 .node (.op (.cell 4 0) [.v 1]) <|
 .node (.op (.cell 4 1) [.v 1]) <|
 .node (.op (.cell 4 2) [.v 1]) <|
 .node (.op (.cell 4 3) [.v 1]) <|
 .node (.op .len [.v 0]) <|
 .node (.op (.chkmk 8) [.v 6, .v 6]) <|
 .node (.op (.lzero 8 [.int .u64 0]) [.v 6]) <|
 .node (.op .len [.v 0]) <|
 .node (.op (.bin .mul) [.v 9, .c (.int .i64 64)]) <|
 .node (.op (.bin .sub) [.v 10, .c (.int .i64 1)]) <|
 .loop [.v 11, .v 8, .c (.int .u64 0), .c (.int .u64 0), .c (.int .u64 0), .c (.int .u64 0)] [true, false, true, true, true, true] <|
 .node (.op (.bin .geq) [.v 12, .c (.int .i64 0)]) <|
 .br (.v 18) (
 .node (.op (.bin .quo) [.v 12, .c (.int .i64 64)]) <|
 .node (.op (.eaddr 1) [.v 0, .v 19]) <|
 .node (.op (.rld false 1) [.v 20]) <|
 .node (.op (.bin .rem) [.v 12, .c (.int .i64 64)]) <|
 .node (.op (.bin .shr) [.v 21, .v 22]) <|
 .node (.op (.bin .and) [.v 23, .c (.int .u64 1)]) <|
 .node (.op .mkagg [.v 14, .v 15, .v 16, .v 17]) <|
 .node (.call double [.v 25, .v 24] false) <|
 .node (.op (.ext 0 false) [.v 26]) <|
 .node (.op (.ext 1 true) [.v 26]) <|
 .node (.op (.cell 4 0) [.v 27]) <|
 .node (.op (.cell 4 1) [.v 27]) <|
 .node (.op (.cell 4 2) [.v 27]) <|
 .node (.op (.cell 4 3) [.v 27]) <|
 .node (.op .mkagg [.v 29, .v 30, .v 31, .v 32]) <|
 .node (.op .mkagg [.v 2, .v 3, .v 4, .v 5]) <|
 .node (.call sub [.v 33, .v 34] false) <|
 .node (.op (.ext 0 false) [.v 35]) <|
 .node (.op (.ext 1 true) [.v 35]) <|
 .node (.op (.cell 4 0) [.v 36]) <|
 .node (.op (.cell 4 1) [.v 36]) <|
 .node (.op (.cell 4 2) [.v 36]) <|
 .node (.op (.cell 4 3) [.v 36]) <|
 .node (.op (.bin .eql) [.v 28, .c (.int .u64 1)]) <|
 .br (.v 42) (
 .node (.op (.bin .quo) [.v 12, .c (.int .i64 64)]) <|
 .node (.op .chki [.v 43, .v 6]) <|
 .node (.op (.ofs 1) [.c (.int .i64 0), .v 43]) <|
 .node (.op (.lget false 1) [.v 13, .v 45]) <|
 .node (.op (.bin .rem) [.v 12, .c (.int .i64 64)]) <|
 .node (.op (.bin .shl) [.c (.int .u64 1), .v 47]) <|
 .node (.op (.bin .or) [.v 46, .v 48]) <|
 .node (.op .chki [.v 43, .v 6]) <|
 .node (.op (.ofs 1) [.c (.int .i64 0), .v 43]) <|
 .node (.op .lset [.v 13, .v 51, .v 49]) <|
 .node (.op (.bin .sub) [.v 12, .c (.int .i64 1)]) <|
 .back 0 [.v 53, .v 52, .v 38, .v 39, .v 40, .v 41]) (
 .node (.op (.bin .eql) [.v 37, .c (.int .u64 0)]) <|
 .br (.v 43) (
 .node (.op (.bin .quo) [.v 12, .c (.int .i64 64)]) <|
 .node (.op .chki [.v 44, .v 6]) <|
 .node (.op (.ofs 1) [.c (.int .i64 0), .v 44]) <|
 .node (.op (.lget false 1) [.v 13, .v 46]) <|
 .node (.op (.bin .rem) [.v 12, .c (.int .i64 64)]) <|
 .node (.op (.bin .shl) [.c (.int .u64 1), .v 48]) <|
 .node (.op (.bin .or) [.v 47, .v 49]) <|
 .node (.op .chki [.v 44, .v 6]) <|
 .node (.op (.ofs 1) [.c (.int .i64 0), .v 44]) <|
 .node (.op .lset [.v 13, .v 52, .v 50]) <|
 .node (.op (.bin .sub) [.v 12, .c (.int .i64 1)]) <|
 .back 0 [.v 54, .v 53, .v 38, .v 39, .v 40, .v 41]) (
 .node (.op (.bin .sub) [.v 12, .c (.int .i64 1)]) <|
 .back 0 [.v 44, .v 13, .v 29, .v 30, .v 31, .v 32]))) (
 .node (.op (.mksl 1) [.v 13, .c (.int .i64 0), .v 6]) <|
 .node (.op .mkagg [.v 14, .v 15, .v 16, .v 17]) <|
 .node (.op .mktup [.v 19, .v 20]) <|
 .ret (.v 21))
theorem divideW_den {double sub : FuncId} {L : List Nat} {m : Nat} (hdb : DoubleC P double) (hsb : WSubC P sub) (hL : LtAll B64 L) (h0 : 0 < L.length) (hl : L.length ≤ 1048576) (hm : 0 < m) (hmW : m < W256) :
    D P (fun e => e = .ret (.tup [SN .u64 (fdigs B64 L.length (val B64 L / m)), WV (val B64 L % m)])) [] 2 [WV m, SN .u64 L] (t_divideW double sub) := by
  obtain ⟨N, eN⟩ : ∃ N, N = val B64 L := ⟨_, rfl⟩
  obtain ⟨n, en⟩ : ∃ n, n = L.length := ⟨_, rfl⟩
  have hN : N < 2 ^ (64 * n) := by rw [eN, en, Nat.pow_mul]; exact val_lt (by decide) hL
  rw [← eN, ← en]
  rw [← en] at h0 hl
  obtain ⟨m0, m1, m2, m3, _, _, _, _, eM, _⟩ := WV_limbs hmW
  rw [eM]
  refine d_cells rfl rfl rfl rfl ?_
  refine d_op ev_len ?_
  rw [← en]
  refine d_op (ev_chkmk rfl rfl (Nat.le_refl _) (by omega)) (d_op (ev_lzeroN (k := .u64) (n := n) rfl (by omega)) (d_op ev_len ?_))
  rw [← en]
  refine d_op (ev_mul (by constructor <;> omega)) (d_op (ev_sub (by constructor <;> omega)) ?_)
  have lim : ∀ x : Nat, ∃ r : Nat × Nat × Nat × Nat, WV x = WL r.1 r.2.1 r.2.2.1 r.2.2.2 := fun x => ⟨(_, _, _, _), rfl⟩
  refine d_while (fun j : Nat => [.int .i64 ((j : Int) - 1), .lst (CN .u64 (fdigs B64 n (N / 2 ^ j / m * 2 ^ j))), .int .u64 ((N / 2 ^ j % m % 18446744073709551616 : Nat) : Int), .int .u64 ((N / 2 ^ j % m / 18446744073709551616 % 18446744073709551616 : Nat) : Int),
      .int .u64 ((N / 2 ^ j % m / 340282366920938463463374607431768211456 % 18446744073709551616 : Nat) : Int), .int .u64 ((N / 2 ^ j % m / 6277101735386680763835789423207666416102355444464034512896 % 18446744073709551616 : Nat) : Int)])
    (fun j => j ≤ 64 * n) (fun j => j) (64 * n) (Nat.le_refl _) ?_ ?_
  · have e1 : N / 2 ^ (64 * n) = 0 := Nat.div_eq_of_lt hN
    rw [e1, Nat.zero_div, Nat.zero_mod, Nat.zero_mul]
    have e2 : List.replicate n 0 = fdigs B64 n 0 := eq_fdigs (by decide) (LtAll.replicate (by decide) n) (by simp) (val_replicate n)
    rw [e2]
    have e3 : ((64 * n : Nat) : Int) - 1 = (n : Int) * 64 - 1 := by omega
    rw [e3]
    rfl
  · intro j hj
    refine d_op ev_geq (d_if rfl (fun h1 => ?_) (fun h1 => ?_))
    · obtain ⟨i, rfl⟩ : ∃ i, j = i + 1 := ⟨j - 1, by omega⟩
      have ei : ((i + 1 : Nat) : Int) - 1 = (i : Int) := by omega
      rw [ei]
      have hq : (i : Int) / 64 = ((i / 64 : Nat) : Int) := by omega
      have hin : i / 64 < n := by omega
      obtain ⟨x, ex⟩ : ∃ x, x = L.getD (i / 64) 0 := ⟨_, rfl⟩
      have hx : x < 18446744073709551616 := ex ▸ hL.getD (by decide) _
      have hbit : x / 2 ^ (i % 64) % 2 = N / 2 ^ i % 2 := by rw [ex, eN]; exact bit_of64 hL i
      refine d_op (ev_quo (by omega) (by omega) (by constructor <;> omega)) ?_
      rw [hq]
      refine d_op (ev_eaddrN (i := i / 64) rfl (by omega)) (d_op (ev_rldN' (by omega) ex.symm) (d_op (ev_rem (by omega) (by omega)) (d_op (ev_shr (y := i % 64) (by omega) (by show _ ≤ 64; omega) rfl) ?_)))
      have hxs : x / 2 ^ (i % 64) ≤ x := Nat.div_le_self _ _
      generalize x / 2 ^ (i % 64) = xx at *
      have hxx : xx < 18446744073709551616 := by clear hbit; omega
      refine d_op (ev_and (by clear hbit; constructor <;> omega) (y := 1) (by decide)) ?_
      rw [Nat.and_one_is_mod, hbit]
      obtain ⟨s1, s2, s3⟩ := wdiv_step (N := N) (i := i) hm
      obtain ⟨bt, ebt⟩ : ∃ bt, bt = N / 2 ^ i % 2 := ⟨_, rfl⟩
      have hbt : bt ≤ 1 := by omega
      obtain ⟨r, er⟩ : ∃ r, r = N / 2 ^ (i + 1) % m := ⟨_, rfl⟩
      have hr : r < m := er ▸ Nat.mod_lt _ hm
      obtain ⟨Q, eQ⟩ : ∃ Q, Q = N / 2 ^ (i + 1) / m := ⟨_, rfl⟩
      rw [← ebt, ← er] at s1 s2 s3
      rw [← eQ] at s3
      rw [← ebt, ← er, ← eQ]
      have hd := hdb r bt (by omega) hbt
      refine d_op ev_wl ?_
      show D P _ _ _ (WV r :: _) _
      refine d_call hd (fun h => by cases h) (d_op (ev_ext rfl (fun h => by cases h)) (d_op (ev_ext rfl (fun _ => rfl)) ?_))
      obtain ⟨X, eX⟩ : ∃ X, X = (2 * r + bt) % W256 := ⟨_, rfl⟩
      have hXl : X < W256 := eX ▸ Nat.mod_lt _ (by decide)
      have hs := hsb X m hXl hmW
      rw [← eX]
      obtain ⟨x0, x1, x2, x3, _, _, _, _, eXl, _⟩ := WV_limbs hXl
      obtain ⟨Z, eZ⟩ : ∃ Z, Z = (X + W256 - m) % W256 := ⟨_, rfl⟩
      rw [← eZ] at hs
      refine d_cells rfl rfl rfl rfl (d_op ev_wl (d_op ev_wl ?_))
      show D P _ _ _ (WL m0 m1 m2 m3 :: WV X :: _) _
      rw [eM] at hs
      refine d_call hs (fun h => by cases h) (d_op (ev_ext rfl (fun h => by cases h)) (d_op (ev_ext rfl (fun _ => rfl)) ?_))
      refine d_cells rfl rfl rfl rfl ?_
      have hnew : m ≤ 2 * r + bt → Z = N / 2 ^ i % m ∧ N / 2 ^ i / m = 2 * Q + 1 := fun h => by
        rw [if_pos h] at s2 s3
        refine ⟨?_, s3⟩
        rw [s2, eZ, eX]; unfold W256 at *; omega
      have hold : ¬ m ≤ 2 * r + bt → X = N / 2 ^ i % m ∧ N / 2 ^ i / m = 2 * Q := fun h => by
        rw [if_neg h] at s2 s3
        refine ⟨?_, s3⟩
        rw [s2, eX]; unfold W256 at *; omega
      have hQb : (2 * Q + 1) * 2 ^ i ≤ N → Q * 2 ^ (i + 1) + 2 ^ i < B64 ^ n := fun h => by
        have : (2 * Q + 1) * 2 ^ i = Q * 2 ^ (i + 1) + 2 ^ i := by rw [Nat.pow_succ]; generalize 2 ^ i = p; grind
        rw [← this]
        rw [Nat.pow_mul] at hN
        exact Nat.lt_of_le_of_lt h hN
      have hset : m ≤ 2 * r + bt → Q * 2 ^ (i + 1) + 2 ^ i < B64 ^ n := fun h => hQb (by
        have h1 := (hnew h).2
        have h2 : N / 2 ^ i / m ≤ N / 2 ^ i := Nat.div_le_self _ _
        rw [h1] at h2
        exact Nat.le_trans (Nat.mul_le_mul_right _ h2) (Nat.div_mul_le_self _ _))
      refine d_op ev_eql (d_if rfl (fun h2 => ?_) (fun h2 => ?_))
      · have hge : m ≤ 2 * r + bt := by unfold W256 at *; omega
        obtain ⟨z1, z2⟩ := hnew hge
        obtain ⟨y, ey⟩ : ∃ y, y = Q * 2 ^ (i + 1) / B64 ^ (i / 64) % B64 := ⟨_, rfl⟩
        obtain ⟨g1, g2, g3⟩ := bit_set hin (hset hge) ey
        have g2' : y < 18446744073709551616 := g2
        have eg : (fdigs B64 n (Q * 2 ^ (i + 1))).getD (i / 64) 0 = y := by rw [ey]; exact fd_getD hin
        have hpw : 2 ^ (i % 64) < 18446744073709551616 := Nat.pow_lt_pow_right (by decide) (show i % 64 < 64 by omega)
        obtain ⟨pw, epw⟩ : ∃ pw, 2 ^ (i % 64) = pw := ⟨_, rfl⟩
        rw [epw] at g1 g3 hpw
        have hw : IntKind.u64.wrap ((pw : Nat) : Int) = ((pw : Nat) : Int) := wrap_in (by constructor <;> omega)
        refine d_op (ev_quo (by omega) (by omega) (by constructor <;> omega)) ?_
        rw [hq]
        refine d_op (ev_chki (by omega) (by omega) rfl) (d_op (ev_ofs (o := 0) rfl rfl) (d_op (ev_lgetN' (i := i / 64) (by simp) (by simp; omega) eg) ?_))
        refine d_op (ev_rem (by omega) (by omega)) (d_op (ev_shl (x := 1) (y := i % 64) (p := pw) (by omega) (by show _ ≤ 64; omega) (by rw [Nat.one_mul]; exact epw)) ?_)
        rw [hw]
        refine d_op (ev_or (by constructor <;> omega) (by constructor <;> omega)) ?_
        rw [g1]
        refine d_op (ev_chki (by omega) (by omega) rfl) (d_op (ev_ofs (o := 0) rfl rfl) (d_op (ev_lsetN (i := i / 64) (by simp) (by simp; omega) rfl) ?_))
        rw [g3]
        refine d_op (ev_sub (by constructor <;> omega)) ?_
        exact d_back rfl ⟨i, by rw [z2, ← z1]; rfl, by omega, by omega⟩
      · refine d_op ev_eql (d_if rfl (fun h3 => ?_) (fun h3 => ?_))
        · have hge : m ≤ 2 * r + bt := by
            have : ¬ X < m := fun hc => by rw [if_pos hc] at h3; exact absurd h3 (by decide)
            unfold W256 at *; omega
          obtain ⟨z1, z2⟩ := hnew hge
          obtain ⟨y, ey⟩ : ∃ y, y = Q * 2 ^ (i + 1) / B64 ^ (i / 64) % B64 := ⟨_, rfl⟩
          obtain ⟨g1, g2, g3⟩ := bit_set hin (hset hge) ey
          have g2' : y < 18446744073709551616 := g2
          have eg : (fdigs B64 n (Q * 2 ^ (i + 1))).getD (i / 64) 0 = y := by rw [ey]; exact fd_getD hin
          have hpw : 2 ^ (i % 64) < 18446744073709551616 := Nat.pow_lt_pow_right (by decide) (show i % 64 < 64 by omega)
          obtain ⟨pw, epw⟩ : ∃ pw, 2 ^ (i % 64) = pw := ⟨_, rfl⟩
          rw [epw] at g1 g3 hpw
          have hw : IntKind.u64.wrap ((pw : Nat) : Int) = ((pw : Nat) : Int) := wrap_in (by constructor <;> omega)
          refine d_op (ev_quo (by omega) (by omega) (by constructor <;> omega)) ?_
          rw [hq]
          refine d_op (ev_chki (by omega) (by omega) rfl) (d_op (ev_ofs (o := 0) rfl rfl) (d_op (ev_lgetN' (i := i / 64) (by simp) (by simp; omega) eg) ?_))
          refine d_op (ev_rem (by omega) (by omega)) (d_op (ev_shl (x := 1) (y := i % 64) (p := pw) (by omega) (by show _ ≤ 64; omega) (by rw [Nat.one_mul]; exact epw)) ?_)
          rw [hw]
          refine d_op (ev_or (by constructor <;> omega) (by constructor <;> omega)) ?_
          rw [g1]
          refine d_op (ev_chki (by omega) (by omega) rfl) (d_op (ev_ofs (o := 0) rfl rfl) (d_op (ev_lsetN (i := i / 64) (by simp) (by simp; omega) rfl) ?_))
          rw [g3]
          refine d_op (ev_sub (by constructor <;> omega)) ?_
          exact d_back rfl ⟨i, by rw [z2, ← z1]; rfl, by omega, by omega⟩
        · have hlt : ¬ m ≤ 2 * r + bt := by
            have : X < m := Classical.byContradiction fun hc => h3 (by rw [if_neg hc]; rfl)
            unfold W256 at *; omega
          obtain ⟨z1, z2⟩ := hold hlt
          refine d_op (ev_sub (by constructor <;> omega)) ?_
          exact d_back rfl ⟨i, by rw [z2, ← z1, show 2 * Q * 2 ^ i = Q * 2 ^ (i + 1) by rw [Nat.pow_succ]; generalize 2 ^ i = p; grind]; rfl, by omega, by omega⟩
    · have : j = 0 := by omega
      subst this
      rw [Nat.pow_zero, Nat.div_one, Nat.mul_one]
      refine d_op (ev_mkslN rfl (by simp)) (d_op ev_wl (d_op ev_mktup (d_ret rfl)))
end Go.SE
