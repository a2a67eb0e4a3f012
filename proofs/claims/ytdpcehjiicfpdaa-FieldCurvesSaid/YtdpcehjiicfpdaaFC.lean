/- Nothing of the statement is proved here: this text lays generic laws: FC; no conditions. -/
import Derived.Test.YtdpcehjiicfpdaaFB
set_option linter.all false
set_option autoImplicit false
set_option maxRecDepth 4000
set_option maxHeartbeats 2000000
set_option exponentiation.threshold 5000
namespace Go.SE
open Go
variable {P : Program} {R : AEnd → Prop}
def rinv (m : Nat) : Nat := ((m + 1) / 2) ^ 256 % m
def montS (m a b : Nat) : Nat := a * b * rinv m % m
theorem rinv_spec {m : Nat} (h : m % 2 = 1) : W256 * rinv m % m = 1 % m := by
  have e : W256 = 2 ^ 256 := rfl
  have e2 : 2 * ((m + 1) / 2) = m + 1 := by omega
  rw [rinv, e, Nat.mul_mod, Nat.mod_mod, ← Nat.mul_mod, ← Nat.mul_pow, e2, Nat.pow_mod, Nat.add_mod_left, ← Nat.pow_mod, Nat.one_pow]
theorem mont_of {m a b t : Nat} (h : m % 2 = 1) (ht : t * W256 % m = a * b % m) : t % m = montS m a b := by
  unfold montS
  have h1 : t * (W256 * rinv m) % m = t % m := by
    rw [Nat.mul_mod, rinv_spec h, ← Nat.mul_mod, Nat.mul_one]
  rw [← h1, ← Nat.mul_assoc, Nat.mul_mod, ht, ← Nat.mul_mod]
def Fok (m iv sq : Nat) : Prop := m % 2 = 1 ∧ m < W256 ∧ iv < B64 ∧ iv * m % B64 = 18446744073709551615 ∧ sq = W256 * W256 % m
theorem Fok.sq_lt {m iv sq : Nat} (h : Fok m iv sq) : sq < m := by rw [h.2.2.2.2]; exact Nat.mod_lt _ (by have := h.1; omega)
theorem Fok.sq_lt' {m iv sq : Nat} (h : Fok m iv sq) : sq < W256 := Nat.lt_trans h.sq_lt h.2.1
def MontC (P : Program) (f : FuncId) : Prop := ∀ m iv sq a b, Fok m iv sq → a < m → b < W256 → Ct P f [FP m iv sq, WV a, WV b] (fun e => e = .ret (WV (montS m a b)))
theorem MulAddC.at {f : FuncId} (h : MulAddC P f) {x y z w : Nat} (hx : x < B64) (hy : y < B64) (hz : z < B64) (hw : w < B64) :
    ∃ c u, u < B64 ∧ c < B64 ∧ x * y + z + w = u + 18446744073709551616 * c ∧
      ∀ {a b c' d : Int}, a = (x : Int) → b = (y : Int) → c' = (z : Int) → d = (w : Int) → Ct P f [.int .u64 a, .int .u64 b, .int .u64 c', .int .u64 d] (fun e => e = .ret (.tup [.int .u64 (c : Int), .int .u64 (u : Int)])) := by
  have hx' : x ≤ 18446744073709551615 := Nat.le_of_lt_succ hx
  have hy' : y ≤ 18446744073709551615 := Nat.le_of_lt_succ hy
  have hz' : z < 18446744073709551616 := hz
  have hw' : w < 18446744073709551616 := hw
  have hp := Nat.mul_le_mul hx' hy'
  refine ⟨(x * y + z + w) / 18446744073709551616, (x * y + z + w) % 18446744073709551616, Nat.mod_lt _ (by decide), ?_, by omega, fun e1 e2 e3 e4 => ?_⟩
  · show _ < 18446744073709551616; omega
  · subst e1; subst e2; subst e3; subst e4; exact h x y z w hx hy hz hw
theorem ev_waidx {b0 b1 b2 b3 i : Nat} (h : i < 4) : evalO (.aidx 4 1 false) [WL b0 b1 b2 b3, .int .i64 (i : Int)] = some (.int .u64 (([b0, b1, b2, b3].getD i 0 : Nat) : Int)) := by
  match i, h with
  | 0, _ => rfl
  | 1, _ => rfl
  | 2, _ => rfl
  | 3, _ => rfl
theorem limb_at {b0 b1 b2 b3 i : Nat} (h0 : b0 < B64) (h1 : b1 < B64) (h2 : b2 < B64) (h3 : b3 < B64) (h : i < 4) : [b0, b1, b2, b3].getD i 0 < B64 ∧ V4 b0 b1 b2 b3 % B64 ^ (i + 1) = V4 b0 b1 b2 b3 % B64 ^ i + B64 ^ i * [b0, b1, b2, b3].getD i 0 := by
  have h0' : b0 < 18446744073709551616 := h0
  have h1' : b1 < 18446744073709551616 := h1
  have h2' : b2 < 18446744073709551616 := h2
  have h3' : b3 < 18446744073709551616 := h3
  match i, h with
  | 0, _ => exact ⟨h0, by show V4 b0 b1 b2 b3 % 18446744073709551616 = V4 b0 b1 b2 b3 % 1 + 1 * b0; unfold V4; omega⟩
  | 1, _ => exact ⟨h1, by show V4 b0 b1 b2 b3 % 340282366920938463463374607431768211456 = V4 b0 b1 b2 b3 % 18446744073709551616 + 18446744073709551616 * b1; unfold V4; omega⟩
  | 2, _ => exact ⟨h2, by show V4 b0 b1 b2 b3 % 6277101735386680763835789423207666416102355444464034512896 = V4 b0 b1 b2 b3 % 340282366920938463463374607431768211456 + 340282366920938463463374607431768211456 * b2; unfold V4; omega⟩
  | 3, _ => exact ⟨h3, by show V4 b0 b1 b2 b3 % 115792089237316195423570985008687907853269984665640564039457584007913129639936 = V4 b0 b1 b2 b3 % 6277101735386680763835789423207666416102355444464034512896 + 6277101735386680763835789423207666416102355444464034512896 * b3; unfold V4; omega⟩
def V5 (t0 t1 t2 t3 t4 : Nat) : Nat := V4 t0 t1 t2 t3 + W256 * t4
theorem mont_low {u0 iv m0 m k low d0 : Nat} (hk : k = u0 * iv % 18446744073709551616) (hm : m % 18446744073709551616 = m0) (hiv : iv * m % 18446744073709551616 = 18446744073709551615) (h : k * m0 + u0 + 0 = low + 18446744073709551616 * d0) (hl : low < 18446744073709551616) : low = 0 := by
  have h1 : (k * m0 + u0) % 18446744073709551616 = 0 := by
    have e1 : k * m0 % 18446744073709551616 = u0 * (iv * m) % 18446744073709551616 := by
      rw [hk, ← hm, ← Nat.mul_mod, Nat.mul_assoc]
    rw [Nat.add_mod, e1, Nat.mul_mod, hiv]
    have h2 : u0 % 18446744073709551616 * 18446744073709551615 + u0 % 18446744073709551616 = 18446744073709551616 * (u0 % 18446744073709551616) := by omega
    rw [← Nat.add_mod_mod, Nat.add_mod, Nat.mod_mod, Nat.mod_mod, ← Nat.add_mod, h2, Nat.mul_mod_right]
  omega
theorem mont_round {T T' x a k m i b' : Nat} (hT : T' * 18446744073709551616 = T + x * a + k * m) (hI : T * B64 ^ i % m = a * b' % m) : T' * B64 ^ (i + 1) % m = a * (b' + B64 ^ i * x) % m := by
  have e : T' * B64 ^ (i + 1) = T * B64 ^ i + a * (B64 ^ i * x) + m * (k * B64 ^ i) := by
    have e1 : T' * B64 ^ (i + 1) = (T' * 18446744073709551616) * B64 ^ i := by rw [Nat.pow_succ, Nat.mul_comm (B64 ^ i) B64, Nat.mul_assoc]
    rw [e1, hT]
    generalize B64 ^ i = p
    grind
  rw [e, Nat.add_mul_mod_self_left, Nat.add_mod, hI, ← Nat.add_mod, Nat.mul_add]
theorem mont_bound {T T' x a k m : Nat} (hT : T' * 18446744073709551616 = T + x * a + k * m) (hx : x ≤ 18446744073709551615) (hk : k ≤ 18446744073709551615) (ha : a < m) (hI : T < 2 * m) : T' < 2 * m := by
  have h1 : x * a ≤ 18446744073709551615 * m := Nat.mul_le_mul hx (Nat.le_of_lt ha)
  have h2 : k * m ≤ 18446744073709551615 * m := Nat.mul_le_mul_right _ hk
  omega
def t_mont (mulAdd less : FuncId) : T :=
 .node (.op (.cell 4 0) [.v 1]) <|
 .node (.op (.cell 4 1) [.v 1]) <|
 .node (.op (.cell 4 2) [.v 1]) <|
 .node (.op (.cell 4 3) [.v 1]) <|
 .node (.op (.cell 4 0) [.v 2]) <|
 .node (.op (.cell 4 1) [.v 2]) <|
 .node (.op (.cell 4 2) [.v 2]) <|
 .node (.op (.cell 4 3) [.v 2]) <|
 .loop [.c (.int .i64 0), .c (.int .u64 0), .c (.int .u64 0), .c (.int .u64 0), .c (.int .u64 0), .c (.int .u64 0), .c (.int .u64 0)] [true, true, true, true, true, true, true] <|
 .node (.op (.bin .lss) [.v 11, .c (.int .i64 4)]) <|
 .br (.v 18) (
 .node (.op .mkagg [.v 7, .v 8, .v 9, .v 10]) <|
 .node (.op (.aidx 4 1 false) [.v 19, .v 11]) <|
 .node (.call mulAdd [.v 20, .v 3, .v 12, .c (.int .u64 0)] false) <|
 .node (.op (.ext 0 true) [.v 21]) <|
 .node (.op (.ext 1 true) [.v 21]) <|
 .node (.call mulAdd [.v 20, .v 4, .v 13, .v 22] false) <|
 .node (.op (.ext 0 true) [.v 24]) <|
 .node (.op (.ext 1 true) [.v 24]) <|
 .node (.call mulAdd [.v 20, .v 5, .v 14, .v 25] false) <|
 .node (.op (.ext 0 true) [.v 27]) <|
 .node (.op (.ext 1 true) [.v 27]) <|
 .node (.call mulAdd [.v 20, .v 6, .v 15, .v 28] false) <|
 .node (.op (.ext 0 true) [.v 30]) <|
 .node (.op (.ext 1 true) [.v 30]) <|
 .node (.op .add64 [.v 16, .v 31, .c (.int .u64 0)]) <|
 .node (.op (.ext 0 true) [.v 33]) <|
 .node (.op (.ext 1 true) [.v 33]) <|
 .node (.op .nilchk [.v 0]) <|
 .node (.op (.roff 4) [.v 36]) <|
 .node (.op (.rld false 1) [.v 37]) <|
 .node (.op (.bin .mul) [.v 23, .v 38]) <|
 .node (.op .nilchk [.v 0]) <|
 .node (.op (.roff 0) [.v 40]) <|
 .node (.op (.ridx 4 1) [.v 41, .c (.int .i64 0)]) <|
 .node (.op (.rld false 1) [.v 42]) <|
 .node (.call mulAdd [.v 39, .v 43, .v 23, .c (.int .u64 0)] false) <|
 .node (.op (.ext 0 true) [.v 44]) <|
 .node (.op (.ext 1 true) [.v 44]) <|
 .node (.op .nilchk [.v 0]) <|
 .node (.op (.roff 0) [.v 47]) <|
 .node (.op (.ridx 4 1) [.v 48, .c (.int .i64 1)]) <|
 .node (.op (.rld false 1) [.v 49]) <|
 .node (.call mulAdd [.v 39, .v 50, .v 26, .v 45] false) <|
 .node (.op (.ext 0 true) [.v 51]) <|
 .node (.op (.ext 1 true) [.v 51]) <|
 .node (.op .nilchk [.v 0]) <|
 .node (.op (.roff 0) [.v 54]) <|
 .node (.op (.ridx 4 1) [.v 55, .c (.int .i64 2)]) <|
 .node (.op (.rld false 1) [.v 56]) <|
 .node (.call mulAdd [.v 39, .v 57, .v 29, .v 52] false) <|
 .node (.op (.ext 0 true) [.v 58]) <|
 .node (.op (.ext 1 true) [.v 58]) <|
 .node (.op .nilchk [.v 0]) <|
 .node (.op (.roff 0) [.v 61]) <|
 .node (.op (.ridx 4 1) [.v 62, .c (.int .i64 3)]) <|
 .node (.op (.rld false 1) [.v 63]) <|
 .node (.call mulAdd [.v 39, .v 64, .v 32, .v 59] false) <|
 .node (.op (.ext 0 true) [.v 65]) <|
 .node (.op (.ext 1 true) [.v 65]) <|
 .node (.op .add64 [.v 34, .v 66, .c (.int .u64 0)]) <|
 .node (.op (.ext 0 true) [.v 68]) <|
 .node (.op (.ext 1 true) [.v 68]) <|
 .node (.op (.bin .add) [.v 35, .v 70]) <|
 .node (.op (.bin .add) [.v 11, .c (.int .i64 1)]) <|
 .back 0 [.v 72, .v 53, .v 60, .v 67, .v 69, .v 71, .v 35]) (
 .node (.op .mkagg [.v 12, .v 13, .v 14, .v 15]) <|
 .node (.call less [.v 0, .v 19, .v 16] false) <|
 .node (.op (.cell 4 0) [.v 20]) <|
 .node (.op (.cell 4 1) [.v 20]) <|
 .node (.op (.cell 4 2) [.v 20]) <|
 .node (.op (.cell 4 3) [.v 20]) <|
 .node (.op .mkagg [.v 21, .v 22, .v 23, .v 24]) <|
 .ret (.v 25))
theorem mont_den {mulAdd less : FuncId} {m iv sq a b : Nat} (hma : MulAddC P mulAdd) (hle : FLessC P less) (hF : Fok m iv sq) (ha : a < m) (hb : b < W256) :
    D P (fun e => e = .ret (WV (montS m a b))) [] 3 [WV b, WV a, FP m iv sq] (t_mont mulAdd less) := by
  have hm := hF.2.1
  have hiv := hF.2.2.1
  obtain ⟨m0, m1, m2, m3, q0, q1, q2, q3, hm0, hm1, hm2, hm3, _, _, _, _, em, _, eF⟩ := FP_limbs (iv := iv) hm hF.sq_lt'
  obtain ⟨a0, a1, a2, a3, ha0, ha1, ha2, ha3, eA, ea⟩ := WV_limbs (Nat.lt_trans ha hm)
  obtain ⟨b0, b1, b2, b3, hb0, hb1, hb2, hb3, eB, eb⟩ := WV_limbs hb
  rw [eF, eA, eB]
  have hmm : m % 18446744073709551616 = m0 := by
    have : m0 < 18446744073709551616 := hm0
    subst em; unfold V4; omega
  refine d_cells rfl rfl rfl rfl (d_cells rfl rfl rfl rfl ?_)
  refine d_while (fun s : Nat × Nat × Nat × Nat × Nat × Nat × Nat => [.int .i64 (s.1 : Int), .int .u64 (s.2.1 : Int), .int .u64 (s.2.2.1 : Int), .int .u64 (s.2.2.2.1 : Int), .int .u64 (s.2.2.2.2.1 : Int), .int .u64 (s.2.2.2.2.2.1 : Int), .int .u64 (s.2.2.2.2.2.2 : Int)])
    (fun s => s.1 ≤ 4 ∧ s.2.1 < B64 ∧ s.2.2.1 < B64 ∧ s.2.2.2.1 < B64 ∧ s.2.2.2.2.1 < B64 ∧ s.2.2.2.2.2.1 < B64 ∧ V5 s.2.1 s.2.2.1 s.2.2.2.1 s.2.2.2.2.1 s.2.2.2.2.2.1 < 2 * m ∧
      V5 s.2.1 s.2.2.1 s.2.2.2.1 s.2.2.2.2.1 s.2.2.2.2.2.1 * B64 ^ s.1 % m = a * (b % B64 ^ s.1) % m) (fun s => 4 - s.1) (0, 0, 0, 0, 0, 0, 0)
    ⟨by decide, by decide, by decide, by decide, by decide, by decide, by show 0 < 2 * m; omega, by show 0 * 1 % m = a * (b % 1) % m; rw [Nat.mod_one]; simp⟩ rfl ?_
  rintro ⟨i, t0, t1, t2, t3, t4, t5⟩ ⟨hi, ht0, ht1, ht2, ht3, ht4, hT, hI⟩
  dsimp only at hi ht0 ht1 ht2 ht3 ht4 hT hI ⊢
  refine d_op ev_lss (d_if rfl (fun h1 => ?_) (fun h1 => ?_))
  · have hi4 : i < 4 := by omega
    obtain ⟨hx, hbs⟩ := limb_at hb0 hb1 hb2 hb3 hi4
    rw [← eb] at hbs
    refine d_op ev_wl (d_op (ev_waidx hi4) ?_)
    obtain ⟨x, ex⟩ : ∃ x, x = [b0, b1, b2, b3].getD i 0 := ⟨_, rfl⟩
    rw [← ex] at hx hbs ⊢
    obtain ⟨c0, u0, hu0, hc0, e0, k0⟩ := hma.at hx ha0 ht0 (w := 0) (by decide)
    obtain ⟨c1, u1, hu1, hc1, e1, k1⟩ := hma.at hx ha1 ht1 hc0
    obtain ⟨c2, u2, hu2, hc2, e2, k2⟩ := hma.at hx ha2 ht2 hc1
    obtain ⟨c3, u3, hu3, hc3, e3, k3⟩ := hma.at hx ha3 ht3 hc2
    obtain ⟨u4, c4, hu4, hc4, e4⟩ := add_parts ht4 hc3 (Nat.zero_le 1)
    obtain ⟨k, ek⟩ : ∃ k, k = u0 * iv % 18446744073709551616 := ⟨_, rfl⟩
    have hk : k < B64 := by rw [ek]; exact Nat.mod_lt _ (by decide)
    obtain ⟨d0, low, hlow, hd0, f0, l0⟩ := hma.at hk hm0 hu0 (w := 0) (by decide)
    obtain ⟨d1, v0, hv0, hd1, f1, l1⟩ := hma.at hk hm1 hu1 hd0
    obtain ⟨d2, v1, hv1, hd2, f2, l2⟩ := hma.at hk hm2 hu2 hd1
    obtain ⟨d3, v2, hv2, hd3, f3, l3⟩ := hma.at hk hm3 hu3 hd2
    obtain ⟨v3, c5, hv3, hc5, f4⟩ := add_parts hu4 hd3 (Nat.zero_le 1)
    have hlow0 := mont_low ek hmm hF.2.2.2.1 f0 hlow
    have hsum : V5 v0 v1 v2 v3 (c4 + c5) * 18446744073709551616 = V5 t0 t1 t2 t3 t4 + x * a + k * m := by
      have g1 : x * a = x * a0 + 18446744073709551616 * (x * a1) + 340282366920938463463374607431768211456 * (x * a2) + 6277101735386680763835789423207666416102355444464034512896 * (x * a3) := by rw [ea]; unfold V4; grind
      have g2 : k * m = k * m0 + 18446744073709551616 * (k * m1) + 340282366920938463463374607431768211456 * (k * m2) + 6277101735386680763835789423207666416102355444464034512896 * (k * m3) := by rw [em]; unfold V4; grind
      rw [g1, g2]
      unfold V5 V4 W256
      omega
    have hT' := mont_bound hsum (Nat.le_of_lt_succ hx) (Nat.le_of_lt_succ hk) ha hT
    have hI' := mont_round hsum hI
    rw [← hbs] at hI'
    have hw : IntKind.u64.wrap ((u0 : Int) * (iv : Int)) = (k : Int) := by
      rw [wrap_u rfl, ek]
      show ((u0 : Int) * (iv : Int)) % 18446744073709551616 = _
      simp
    refine d_call (k0 rfl rfl rfl rfl) (fun h => by cases h) (d_op (ev_ext rfl (fun _ => rfl)) (d_op (ev_ext rfl (fun _ => rfl)) ?_))
    refine d_call (k1 rfl rfl rfl rfl) (fun h => by cases h) (d_op (ev_ext rfl (fun _ => rfl)) (d_op (ev_ext rfl (fun _ => rfl)) ?_))
    refine d_call (k2 rfl rfl rfl rfl) (fun h => by cases h) (d_op (ev_ext rfl (fun _ => rfl)) (d_op (ev_ext rfl (fun _ => rfl)) ?_))
    refine d_call (k3 rfl rfl rfl rfl) (fun h => by cases h) (d_op (ev_ext rfl (fun _ => rfl)) (d_op (ev_ext rfl (fun _ => rfl)) ?_))
    refine d_op (ev_add64 e4 hu4 (by omega) rfl rfl rfl) (d_op (ev_ext rfl (fun _ => rfl)) (d_op (ev_ext rfl (fun _ => rfl)) ?_))
    refine d_op ev_fnil (d_op ev_froff4 (d_op ev_frldiv (d_op ev_mulw ?_)))
    rw [hw]
    refine d_op ev_fnil (d_op ev_froff (d_op ev_fridx0 (d_op ev_frld0 ?_)))
    refine d_call (l0 rfl rfl rfl rfl) (fun h => by cases h) (d_op (ev_ext rfl (fun _ => rfl)) (d_op (ev_ext rfl (fun _ => rfl)) ?_))
    refine d_op ev_fnil (d_op ev_froff (d_op ev_fridx1 (d_op ev_frld1 ?_)))
    refine d_call (l1 rfl rfl rfl rfl) (fun h => by cases h) (d_op (ev_ext rfl (fun _ => rfl)) (d_op (ev_ext rfl (fun _ => rfl)) ?_))
    refine d_op ev_fnil (d_op ev_froff (d_op ev_fridx2 (d_op ev_frld2 ?_)))
    refine d_call (l2 rfl rfl rfl rfl) (fun h => by cases h) (d_op (ev_ext rfl (fun _ => rfl)) (d_op (ev_ext rfl (fun _ => rfl)) ?_))
    refine d_op ev_fnil (d_op ev_froff (d_op ev_fridx3 (d_op ev_frld3 ?_)))
    refine d_call (l3 rfl rfl rfl rfl) (fun h => by cases h) (d_op (ev_ext rfl (fun _ => rfl)) (d_op (ev_ext rfl (fun _ => rfl)) ?_))
    refine d_op (ev_add64 f4 hv3 (by omega) rfl rfl rfl) (d_op (ev_ext rfl (fun _ => rfl)) (d_op (ev_ext rfl (fun _ => rfl)) ?_))
    refine d_op (ev_add (by constructor <;> omega)) (d_op (ev_add (by constructor <;> omega)) ?_)
    exact d_back rfl ⟨(i + 1, v0, v1, v2, v3, c4 + c5, c4), rfl, ⟨by show i + 1 ≤ 4; omega, hv0, hv1, hv2, hv3, by show c4 + c5 < 18446744073709551616; omega, hT', hI'⟩, by show 4 - (i + 1) < 4 - i; omega⟩
  · have : i = 4 := by omega
    subst this
    have hb4 : b % B64 ^ 4 = b := Nat.mod_eq_of_lt hb
    rw [hb4] at hI
    have hS := V4_lt ht0 ht1 ht2 ht3
    have ht41 : t4 ≤ 1 := by
      have : W256 * t4 < 2 * W256 := by unfold V5 at hT; omega
      unfold W256 at this; omega
    have hv : t4 * W256 + V4 t0 t1 t2 t3 = V5 t0 t1 t2 t3 t4 := by unfold V5; rw [Nat.mul_comm, Nat.add_comm]
    have h := hle m iv sq (V4 t0 t1 t2 t3) t4 hm hF.sq_lt' hS ht41 (by rw [hv]; exact hT)
    rw [hv, mont_of hF.1 hI, eF, WV_eq ht0 ht1 ht2 ht3] at h
    obtain ⟨r0, r1, r2, r3, _, _, _, _, er, _⟩ := WV_limbs (a := montS m a b) (Nat.lt_trans (Nat.mod_lt _ (by omega)) hm)
    rw [er] at h ⊢
    exact d_op ev_wl (d_call h (fun h => by cases h) (d_cells rfl rfl rfl rfl (d_op ev_wl (d_ret rfl))))
theorem montS_lt {m a b : Nat} (h : 0 < m) : montS m a b < m := Nat.mod_lt _ h
theorem mont_sq {m iv sq a b : Nat} (hF : Fok m iv sq) : montS m (montS m a sq) b = a * b % m := by
  have h := rinv_spec hF.1
  unfold montS
  rw [hF.2.2.2.2]
  have e1 : a * (W256 * W256 % m) * rinv m % m = a * W256 % m := by
    have : a * (W256 * W256 % m) * rinv m % m = a * (W256 * W256) * rinv m % m := by
      rw [Nat.mul_mod, Nat.mul_mod a, Nat.mod_mod, ← Nat.mul_mod a, ← Nat.mul_mod]
    rw [this]
    have : a * (W256 * W256) * rinv m = a * W256 * (W256 * rinv m) := by grind
    rw [this, Nat.mul_mod, h, ← Nat.mul_mod, Nat.mul_one]
  rw [e1]
  have e2 : a * W256 % m * b * rinv m % m = a * W256 * b * rinv m % m := by
    rw [Nat.mul_mod, Nat.mul_mod (a * W256 % m), Nat.mod_mod, ← Nat.mul_mod (a * W256), ← Nat.mul_mod]
  rw [e2]
  have : a * W256 * b * rinv m = a * b * (W256 * rinv m) := by grind
  rw [this, Nat.mul_mod, h, ← Nat.mul_mod, Nat.mul_one]
def FmC (P : Program) (f : FuncId) (s : Nat → Nat → Nat → Nat) : Prop := ∀ m iv sq a b, Fok m iv sq → a < m → b < m → Ct P f [FP m iv sq, WV a, WV b] (fun e => e = .ret (WV (s m a b)))
def mulM (m a b : Nat) : Nat := a * b % m
def t_fmul (mont : FuncId) : T :=
 .node (.op (.cell 4 0) [.v 1]) <|
 .node (.op (.cell 4 1) [.v 1]) <|
 .node (.op (.cell 4 2) [.v 1]) <|
 .node (.op (.cell 4 3) [.v 1]) <|
 .node (.op (.cell 4 0) [.v 2]) <|
 .node (.op (.cell 4 1) [.v 2]) <|
 .node (.op (.cell 4 2) [.v 2]) <|
 .node (.op (.cell 4 3) [.v 2]) <|
 .node (.op .nilchk [.v 0]) <|
 .node (.op (.roff 5) [.v 11]) <|
 .node (.op (.rld true 4) [.v 12]) <|
 .node (.op .mkagg [.v 3, .v 4, .v 5, .v 6]) <|
 .node (.call mont [.v 0, .v 14, .v 13] false) <|
 .node (.op .mkagg [.v 7, .v 8, .v 9, .v 10]) <|
 .node (.call mont [.v 0, .v 15, .v 16] false) <|
 .node (.op (.cell 4 0) [.v 17]) <|
 .node (.op (.cell 4 1) [.v 17]) <|
 .node (.op (.cell 4 2) [.v 17]) <|
 .node (.op (.cell 4 3) [.v 17]) <|
 .node (.op .mkagg [.v 18, .v 19, .v 20, .v 21]) <|
 .ret (.v 22)
theorem fmul_den {mont : FuncId} {m iv sq a b : Nat} (hmo : MontC P mont) (hF : Fok m iv sq) (ha : a < m) (hb : b < m) :
    D P (fun e => e = .ret (WV (mulM m a b))) [] 3 [WV b, WV a, FP m iv sq] (t_fmul mont) := by
  have hm := hF.2.1
  have h1 := hmo m iv sq a sq hF ha hF.sq_lt'
  have h2 := hmo m iv sq (montS m a sq) b hF (montS_lt (by omega)) (Nat.lt_trans hb hm)
  rw [mont_sq hF] at h2
  obtain ⟨m0, m1, m2, m3, q0, q1, q2, q3, hm0, hm1, hm2, hm3, hq0, hq1, hq2, hq3, em, es, eF⟩ := FP_limbs (iv := iv) hm hF.sq_lt'
  obtain ⟨a0, a1, a2, a3, ha0, ha1, ha2, ha3, eA, ea⟩ := WV_limbs (Nat.lt_trans ha hm)
  obtain ⟨b0, b1, b2, b3, hb0, hb1, hb2, hb3, eB, eb⟩ := WV_limbs (Nat.lt_trans hb hm)
  obtain ⟨r0, r1, r2, r3, _, _, _, _, er, _⟩ := WV_limbs (a := a * b % m) (Nat.lt_trans (Nat.mod_lt _ (by omega)) hm)
  have eS : WV sq = WL q0 q1 q2 q3 := by rw [es, WV_eq hq0 hq1 hq2 hq3]
  rw [eF, eA, eS] at h1
  rw [eF, eB, er] at h2
  unfold mulM
  rw [eF, eA, eB, er]
  refine d_cells rfl rfl rfl rfl (d_cells rfl rfl rfl rfl ?_)
  refine d_op ev_fnil (d_op ev_froff5 (d_op ev_frlds (d_op ev_wl (d_call h1 (fun h => by cases h) (d_op ev_wl (d_call h2 (fun h => by cases h) ?_))))))
  exact d_cells rfl rfl rfl rfl (d_op ev_wl (d_ret rfl))
end Go.SE
