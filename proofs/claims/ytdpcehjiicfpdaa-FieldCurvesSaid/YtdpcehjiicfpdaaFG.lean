/- Nothing of the statement is proved here: this text lays generic laws: FG; no conditions. -/
import Derived.Test.YtdpcehjiicfpdaaFF
set_option linter.all false
set_option autoImplicit false
set_option maxRecDepth 4000
set_option maxHeartbeats 2000000
set_option exponentiation.threshold 5000
namespace Go.SE
open Go
variable {P : Program} {R : AEnd → Prop}
def monM (m x : Nat) : Nat := x * W256 % m
theorem montS_sq {m iv sq x : Nat} (hF : Fok m iv sq) : montS m x sq = monM m x := by
  have h := mont_sq (a := x) (b := 1) hF
  have h2 : montS m (montS m x sq) 1 = montS m (monM m x) 1 := by
    unfold montS monM
    rw [hF.2.2.2.2]
    have e1 : x * (W256 * W256 % m) * rinv m % m = x * W256 % m := by
      have : x * (W256 * W256 % m) * rinv m % m = x * (W256 * W256) * rinv m % m := by
        rw [Nat.mul_mod, Nat.mul_mod x, Nat.mod_mod, ← Nat.mul_mod x, ← Nat.mul_mod]
      rw [this]
      have : x * (W256 * W256) * rinv m = x * W256 * (W256 * rinv m) := by grind
      rw [this, Nat.mul_mod, rinv_spec hF.1, ← Nat.mul_mod, Nat.mul_one]
    rw [e1]
  unfold montS monM
  rw [hF.2.2.2.2]
  have : x * (W256 * W256 % m) * rinv m % m = x * (W256 * W256) * rinv m % m := by
    rw [Nat.mul_mod, Nat.mul_mod x, Nat.mod_mod, ← Nat.mul_mod x, ← Nat.mul_mod]
  rw [this]
  have : x * (W256 * W256) * rinv m = x * W256 * (W256 * rinv m) := by grind
  rw [this, Nat.mul_mod, rinv_spec hF.1, ← Nat.mul_mod, Nat.mul_one]
theorem mul_mod3 {a b c m : Nat} : a % m * (b % m) * c % m = a * b * c % m := by
  rw [Nat.mul_mod (a % m * (b % m)), Nat.mul_mod (a % m), Nat.mod_mod, Nat.mod_mod, ← Nat.mul_mod a, ← Nat.mul_mod]
theorem montS_mon {m x y : Nat} (h : m % 2 = 1) : montS m (monM m x) (monM m y) = monM m (x * y) := by
  unfold montS monM
  rw [mul_mod3]
  have : x * W256 * (y * W256) * rinv m = x * y * W256 * (W256 * rinv m) := by grind
  rw [this, Nat.mul_mod, rinv_spec h, ← Nat.mul_mod, Nat.mul_one]
theorem montS_one {m x : Nat} (h : m % 2 = 1) : montS m (monM m x) (1 % m) = x % m := by
  unfold montS monM
  rw [mul_mod3]
  have : x * W256 * 1 * rinv m = x * (W256 * rinv m) := by grind
  rw [this, Nat.mul_mod, rinv_spec h, ← Nat.mul_mod, Nat.mul_one]
theorem monM_mod {m x : Nat} : monM m (x % m) = monM m x := by
  unfold monM; rw [Nat.mul_mod, Nat.mod_mod, ← Nat.mul_mod]
theorem monM_lt {m x : Nat} (h : 0 < m) : monM m x < m := Nat.mod_lt _ h
def FExpC (P : Program) (f : FuncId) : Prop := ∀ m iv sq a e, Fok m iv sq → a < m → e < W256 → Ct P f [FP m iv sq, WV a, WV e] (fun r => r = .ret (WV (a ^ e % m)))
theorem pow_bit {a e i : Nat} : a ^ (e / 2 ^ i) = if e / 2 ^ i % 2 = 1 then a ^ (e / 2 ^ (i + 1)) * a ^ (e / 2 ^ (i + 1)) * a else a ^ (e / 2 ^ (i + 1)) * a ^ (e / 2 ^ (i + 1)) := by
  have h : e / 2 ^ (i + 1) = e / 2 ^ i / 2 := by rw [Nat.pow_succ, Nat.div_div_eq_div_mul]
  rw [h, ← Nat.pow_add]
  generalize e / 2 ^ i = x
  split
  · rw [← Nat.pow_succ]; congr 1; omega
  · congr 1; omega
def t_fexp (ofM mont len : FuncId) : T :=
 .node (.op (.cell 4 0) [.v 1]) <|
 .node (.op (.cell 4 1) [.v 1]) <|
 .node (.op (.cell 4 2) [.v 1]) <|
 .node (.op (.cell 4 3) [.v 1]) <|
 .node (.op (.cell 4 0) [.v 2]) <|
 .node (.op (.cell 4 1) [.v 2]) <|
 .node (.op (.cell 4 2) [.v 2]) <|
 .node (.op (.cell 4 3) [.v 2]) <|
 .node (.call ofM [.v 0, .c (.agg [.int .u64 1, .int .u64 0, .int .u64 0, .int .u64 0])] false) <|
 .node (.op (.cell 4 0) [.v 11]) <|
 .node (.op (.cell 4 1) [.v 11]) <|
 .node (.op (.cell 4 2) [.v 11]) <|
 .node (.op (.cell 4 3) [.v 11]) <|
 .node (.op .nilchk [.v 0]) <|
 .node (.op (.roff 5) [.v 16]) <|
 .node (.op (.rld true 4) [.v 17]) <|
 .node (.op .mkagg [.v 12, .v 13, .v 14, .v 15]) <|
 .node (.call mont [.v 0, .v 19, .v 18] false) <|
 .node (.op .nilchk [.v 0]) <|
 .node (.op (.roff 5) [.v 21]) <|
 .node (.op (.rld true 4) [.v 22]) <|
 .node (.op .mkagg [.v 3, .v 4, .v 5, .v 6]) <|
 .node (.call mont [.v 0, .v 24, .v 23] false) <|
 .node (.op (.cell 4 0) [.v 20]) <|
 .node (.op (.cell 4 1) [.v 20]) <|
 .node (.op (.cell 4 2) [.v 20]) <|
 .node (.op (.cell 4 3) [.v 20]) <|
 .node (.op (.cell 4 0) [.v 25]) <|
 .node (.op (.cell 4 1) [.v 25]) <|
 .node (.op (.cell 4 2) [.v 25]) <|
 .node (.op (.cell 4 3) [.v 25]) <|
 .node (.op .mkagg [.v 7, .v 8, .v 9, .v 10]) <|
 .node (.call len [.v 34] true) <|
 .node (.op (.bin .sub) [.v 35, .c (.int .i64 1)]) <|
 .loop [.v 36, .v 26, .v 27, .v 28, .v 29] [true, true, true, true, true] <|
 .node (.op (.bin .geq) [.v 37, .c (.int .i64 0)]) <|
 .br (.v 42) (
 .node (.op .mkagg [.v 38, .v 39, .v 40, .v 41]) <|
 .node (.op .mkagg [.v 38, .v 39, .v 40, .v 41]) <|
 .node (.call mont [.v 0, .v 43, .v 44] false) <|
 .node (.op (.cell 4 0) [.v 45]) <|
 .node (.op (.cell 4 1) [.v 45]) <|
 .node (.op (.cell 4 2) [.v 45]) <|
 .node (.op (.cell 4 3) [.v 45]) <|
 .node (.op (.bin .quo) [.v 37, .c (.int .i64 64)]) <|
 .node (.op .chki [.v 50, .c (.int .i64 4)]) <|
 .node (.op (.ofs 1) [.c (.int .i64 0), .v 50]) <|
 .node (.op .mklst [.v 7, .v 8, .v 9, .v 10]) <|
 .node (.op (.lget false 1) [.v 53, .v 52]) <|
 .node (.op (.bin .rem) [.v 37, .c (.int .i64 64)]) <|
 .node (.op (.bin .shr) [.v 54, .v 55]) <|
 .node (.op (.bin .and) [.v 56, .c (.int .u64 1)]) <|
 .node (.op (.bin .eql) [.v 57, .c (.int .u64 1)]) <|
 .br (.v 58) (
 .node (.op .mkagg [.v 46, .v 47, .v 48, .v 49]) <|
 .node (.op .mkagg [.v 30, .v 31, .v 32, .v 33]) <|
 .node (.call mont [.v 0, .v 59, .v 60] false) <|
 .node (.op (.cell 4 0) [.v 61]) <|
 .node (.op (.cell 4 1) [.v 61]) <|
 .node (.op (.cell 4 2) [.v 61]) <|
 .node (.op (.cell 4 3) [.v 61]) <|
 .node (.op (.bin .sub) [.v 37, .c (.int .i64 1)]) <|
 .back 0 [.v 66, .v 62, .v 63, .v 64, .v 65]) (
 .node (.op (.bin .sub) [.v 37, .c (.int .i64 1)]) <|
 .back 0 [.v 59, .v 46, .v 47, .v 48, .v 49])) (
 .node (.op .mkagg [.v 38, .v 39, .v 40, .v 41]) <|
 .node (.op .mkagg [.v 12, .v 13, .v 14, .v 15]) <|
 .node (.call mont [.v 0, .v 43, .v 44] false) <|
 .node (.op (.cell 4 0) [.v 45]) <|
 .node (.op (.cell 4 1) [.v 45]) <|
 .node (.op (.cell 4 2) [.v 45]) <|
 .node (.op (.cell 4 3) [.v 45]) <|
 .node (.op .mkagg [.v 46, .v 47, .v 48, .v 49]) <|
 .ret (.v 50))
theorem fexp_den {ofM mont len : FuncId} {m iv sq a e : Nat} (hof : OfMC P ofM) (hmo : MontC P mont) (hln : WLenC P len) (hF : Fok m iv sq) (ha : a < m) (he : e < W256) :
    D P (fun r => r = .ret (WV (a ^ e % m))) [] 3 [WV e, WV a, FP m iv sq] (t_fexp ofM mont len) := by
  have hm := hF.2.1
  have hodd := hF.1
  have hm0 : 0 < m := by omega
  have lt : ∀ x, x % m < W256 := fun x => Nat.lt_trans (Nat.mod_lt _ hm0) hm
  have ltM : ∀ x, monM m x < W256 := fun x => lt _
  have h1 := hof m iv sq 1 hm0 hm hF.sq_lt' (by decide)
  have hM1 := hmo m iv sq (1 % m) sq hF (Nat.mod_lt _ hm0) hF.sq_lt'
  have hMa := hmo m iv sq a sq hF ha hF.sq_lt'
  rw [montS_sq hF] at hM1 hMa
  rw [monM_mod] at hM1
  have hlen := hln e he
  have hblen : blen e ≤ 256 := blen_le.2 he
  obtain ⟨m0, m1, m2, m3, q0, q1, q2, q3, _, _, _, _, hq0, hq1, hq2, hq3, _, es, eF⟩ := FP_limbs (iv := iv) hm hF.sq_lt'
  have eS : WV sq = WL q0 q1 q2 q3 := by rw [es, WV_eq hq0 hq1 hq2 hq3]
  obtain ⟨a0, a1, a2, a3, _, _, _, _, eA, _⟩ := WV_limbs (Nat.lt_trans ha hm)
  obtain ⟨e0, e1, e2, e3, he0, he1, he2, he3, eE, ee⟩ := WV_limbs he
  obtain ⟨o0, o1, o2, o3, _, _, _, _, eO, _⟩ := WV_limbs (lt 1)
  obtain ⟨n0, n1, n2, n3, _, _, _, _, eN, _⟩ := WV_limbs (ltM a)
  have hL : LtAll B64 [e0, e1, e2, e3] := fun x hx => by
    simp only [List.mem_cons, List.not_mem_nil, or_false] at hx
    rcases hx with rfl | rfl | rfl | rfl
    · exact he0
    · exact he1
    · exact he2
    · exact he3
  have hsq : ∀ x, Ct P mont [FL m0 m1 m2 m3 iv q0 q1 q2 q3, WV (monM m x), WV (monM m x)] (fun r => r = .ret (WV (monM m (x * x)))) := fun x => by
    have := hmo m iv sq (monM m x) (monM m x) hF (monM_lt hm0) (ltM x)
    rwa [montS_mon hodd, eF] at this
  have hmu : ∀ x, Ct P mont [FL m0 m1 m2 m3 iv q0 q1 q2 q3, WV (monM m x), WL n0 n1 n2 n3] (fun r => r = .ret (WV (monM m (x * a)))) := fun x => by
    have := hmo m iv sq (monM m x) (monM m a) hF (monM_lt hm0) (ltM a)
    rwa [montS_mon hodd, eF, eN] at this
  have hou : ∀ x, Ct P mont [FL m0 m1 m2 m3 iv q0 q1 q2 q3, WV (monM m x), WL o0 o1 o2 o3] (fun r => r = .ret (WV (x % m))) := fun x => by
    have := hmo m iv sq (monM m x) (1 % m) hF (monM_lt hm0) (lt 1)
    rwa [montS_one hodd, eF, eO] at this
  rw [eF, eO] at h1
  rw [eF, eO, eS] at hM1
  rw [eF, eA, eS, eN] at hMa
  rw [eE] at hlen
  rw [eF, eA, eE]
  refine d_cells rfl rfl rfl rfl (d_cells rfl rfl rfl rfl (d_call h1 (fun h => by cases h) (d_cells rfl rfl rfl rfl ?_)))
  refine d_op ev_fnil (d_op ev_froff5 (d_op ev_frlds (d_op ev_wl (d_call hM1 (fun h => by cases h) ?_))))
  refine d_op ev_fnil (d_op ev_froff5 (d_op ev_frlds (d_op ev_wl (d_call hMa (fun h => by cases h) ?_))))
  refine d_cells rfl rfl rfl rfl (d_cells rfl rfl rfl rfl (d_op ev_wl (d_call hlen (fun _ => rfl) (d_op (ev_sub (by constructor <;> omega)) ?_))))
  refine d_while (fun j : Nat => [.int .i64 ((j : Int) - 1), .int .u64 ((monM m (a ^ (e / 2 ^ j)) % 18446744073709551616 : Nat) : Int), .int .u64 ((monM m (a ^ (e / 2 ^ j)) / 18446744073709551616 % 18446744073709551616 : Nat) : Int),
      .int .u64 ((monM m (a ^ (e / 2 ^ j)) / 340282366920938463463374607431768211456 % 18446744073709551616 : Nat) : Int), .int .u64 ((monM m (a ^ (e / 2 ^ j)) / 6277101735386680763835789423207666416102355444464034512896 % 18446744073709551616 : Nat) : Int)])
    (fun j => j ≤ 256) (fun j => j) (blen e) hblen ?_ ?_
  · have hz : e / 2 ^ blen e = 0 := Nat.div_eq_of_lt (blen_le.1 (Nat.le_refl _))
    rw [hz, Nat.pow_zero]
    rfl
  · intro j hj
    refine d_op ev_geq (d_if rfl (fun g1 => ?_) (fun g1 => ?_))
    · obtain ⟨i, rfl⟩ : ∃ i, j = i + 1 := ⟨j - 1, by omega⟩
      have ei : ((i + 1 : Nat) : Int) - 1 = (i : Int) := by omega
      rw [ei]
      have hq : (i : Int) / 64 = ((i / 64 : Nat) : Int) := by omega
      obtain ⟨x, ex⟩ : ∃ x, x = [e0, e1, e2, e3].getD (i / 64) 0 := ⟨_, rfl⟩
      have hx : x < 18446744073709551616 := ex ▸ hL.getD (by decide) _
      have hbit : x / 2 ^ (i % 64) % 2 = e / 2 ^ i % 2 := by rw [ex, ee, ← val4]; exact bit_of64 hL i
      have hpb := pow_bit (a := a) (e := e) (i := i)
      generalize a ^ (e / 2 ^ (i + 1)) = y at *
      refine d_op (v := WV (monM m y)) ev_wl (d_op (v := WV (monM m y)) ev_wl (d_call (hsq y) (fun h => by cases h) (d_cells rfl rfl rfl rfl ?_)))
      refine d_op (ev_quo (by omega) (by omega) (by constructor <;> omega)) ?_
      rw [hq]
      refine d_op (ev_chki (n := 4) (by omega) (by omega) rfl) (d_op (ev_ofs (o := 0) rfl rfl) (d_op (v := .lst (CN .u64 [e0, e1, e2, e3])) rfl (d_op (ev_lgetN' (i := i / 64) (by simp) (by simp; omega) ex.symm) ?_)))
      refine d_op (ev_rem (by omega) (by omega)) (d_op (ev_shr (y := i % 64) (by omega) (by show _ ≤ 64; omega) rfl) ?_)
      have hxs : x / 2 ^ (i % 64) ≤ x := Nat.div_le_self _ _
      generalize x / 2 ^ (i % 64) = xx at *
      have hxx : xx < 18446744073709551616 := by clear hbit; omega
      refine d_op (ev_and (by clear hbit; constructor <;> omega) (y := 1) (by decide)) ?_
      rw [Nat.and_one_is_mod, hbit]
      refine d_op ev_eql (d_if rfl (fun g2 => ?_) (fun g2 => ?_))
      · rw [if_pos (by omega)] at hpb
        refine d_op (v := WV (monM m (y * y))) ev_wl (d_op ev_wl (d_call (hmu (y * y)) (fun h => by cases h) (d_cells rfl rfl rfl rfl (d_op (ev_sub (by constructor <;> omega)) ?_))))
        exact d_back rfl ⟨i, by rw [hpb]; rfl, by omega, by omega⟩
      · rw [if_neg (by omega)] at hpb
        refine d_op (ev_sub (by constructor <;> omega)) ?_
        exact d_back rfl ⟨i, by rw [hpb]; rfl, by omega, by omega⟩
    · have : j = 0 := by omega
      subst this
      rw [Nat.pow_zero, Nat.div_one]
      refine d_op (v := WV (monM m (a ^ e))) ev_wl (d_op ev_wl (d_call (hou (a ^ e)) (fun h => by cases h) (d_cells rfl rfl rfl rfl (d_op ev_wl (d_ret rfl)))))
def nw (m : Nat) : Nat → Nat
  | 0 => 1
  | k + 1 => nw m k * ((2 + 18446744073709551616 - m * nw m k % 18446744073709551616) % 18446744073709551616) % 18446744073709551616
def minv (m : Nat) : Nat := (18446744073709551616 - nw (m % 18446744073709551616) 6) % 18446744073709551616
theorem nw_lt {m k : Nat} : nw m k < 18446744073709551616 := by
  cases k with
  | zero => show 1 < 18446744073709551616; decide
  | succ k => exact Nat.mod_lt _ (by decide)
theorem nw_ok {m : Nat} (h : m % 2 = 1) : ∀ k, k ≤ 6 → ((2 : Int) ^ 2 ^ k) ∣ (m : Int) * (nw m k : Int) - 1
  | 0, _ => by
    show (2 : Int) ∣ (m : Int) * 1 - 1
    omega
  | k + 1, hk => by
    have ih := nw_ok h k (by omega)
    obtain ⟨c, hc⟩ := ih
    obtain ⟨x, ex⟩ : ∃ x, x = nw m k := ⟨_, rfl⟩
    rw [← ex] at hc
    have e1 : nw m (k + 1) = x * ((2 + 18446744073709551616 - m * x % 18446744073709551616) % 18446744073709551616) % 18446744073709551616 := by rw [ex]; rfl
    obtain ⟨y, ey⟩ : ∃ y, y = (2 + 18446744073709551616 - m * x % 18446744073709551616) % 18446744073709551616 := ⟨_, rfl⟩
    obtain ⟨u, eu⟩ : ∃ u : Int, (y : Int) = 2 - (m : Int) * (x : Int) + 18446744073709551616 * u := by
      refine ⟨((y : Int) - 2 + (m : Int) * (x : Int)) / 18446744073709551616, ?_⟩
      have : ((m * x : Nat) : Int) = (m : Int) * (x : Int) := by simp
      rw [← this]
      generalize m * x = z at *
      omega
    obtain ⟨v, ev⟩ : ∃ v : Int, ((nw m (k + 1) : Nat) : Int) = (x : Int) * (y : Int) + 18446744073709551616 * v := by
      refine ⟨-(((x * y : Nat) : Int) / 18446744073709551616), ?_⟩
      rw [e1, ← ey]
      have : ((x * y : Nat) : Int) = (x : Int) * (y : Int) := by simp
      rw [← this]
      generalize x * y = z
      omega
    have hp : (2 : Int) ^ 2 ^ (k + 1) = (2 : Int) ^ 2 ^ k * (2 : Int) ^ 2 ^ k := by rw [← Int.pow_add]; congr 1; rw [Nat.pow_succ]; omega
    have hd : ((2 : Int) ^ 2 ^ (k + 1)) ∣ 18446744073709551616 := by
      have : (18446744073709551616 : Int) = 2 ^ 2 ^ (k + 1) * 2 ^ (64 - 2 ^ (k + 1)) := by
        rw [← Int.pow_add]
        have : 2 ^ (k + 1) ≤ 2 ^ 6 := Nat.pow_le_pow_right (by decide) hk
        rw [show 2 ^ (k + 1) + (64 - 2 ^ (k + 1)) = 64 by omega]
        rfl
      exact ⟨_, this⟩
    have key : (m : Int) * ((nw m (k + 1) : Nat) : Int) - 1 = -(((m : Int) * (x : Int) - 1) * ((m : Int) * (x : Int) - 1)) + 18446744073709551616 * ((m : Int) * (x : Int) * u + (m : Int) * v) := by
      rw [ev, eu]; grind
    rw [key, hc]
    refine Int.dvd_add ?_ (Int.dvd_trans hd (Int.dvd_mul_right _ _))
    rw [hp]
    exact Int.dvd_neg.2 ⟨c * c, by grind⟩
theorem minv_ok1 {r x : Nat} (hx : x < 18446744073709551616) (hr : r % 2 = 1) (hd : (18446744073709551616 : Int) ∣ (r : Int) * (x : Int) - 1) : (18446744073709551616 - x) % 18446744073709551616 * r % 18446744073709551616 = 18446744073709551615 := by
  obtain ⟨c, hc⟩ := hd
  have e2 : (r : Int) * (x : Int) = ((r * x : Nat) : Int) := by simp
  rw [e2] at hc
  have h0 : 0 < x := by
    refine Nat.pos_of_ne_zero fun h0 => ?_
    subst h0
    rw [Nat.mul_zero] at hc
    omega
  have e4 : (18446744073709551616 - x) % 18446744073709551616 * r + r * x = 18446744073709551616 * r := by
    rw [Nat.mod_eq_of_lt (by omega), Nat.mul_comm r x, ← Nat.add_mul, Nat.sub_add_cancel (Nat.le_of_lt hx)]
  generalize r * x = z at *
  generalize (18446744073709551616 - x) % 18446744073709551616 * r = w at *
  omega
theorem minv_ok {m : Nat} (h : m % 2 = 1) : minv m < 18446744073709551616 ∧ minv m * m % 18446744073709551616 = 18446744073709551615 := by
  refine ⟨Nat.mod_lt _ (by decide), ?_⟩
  have hd := nw_ok (m := m % 18446744073709551616) (by omega) 6 (Nat.le_refl _)
  have hp : (2 : Int) ^ 2 ^ 6 = 18446744073709551616 := rfl
  rw [hp] at hd
  have := minv_ok1 nw_lt (by omega) hd
  unfold minv
  rw [Nat.mul_mod, Nat.mod_mod]
  rwa [Nat.mul_mod, Nat.mod_mod, Nat.mod_mod] at this
theorem nw_step {m x : Nat} {X M : Int} (hX : X = (x : Int)) (hM : M = (m : Int)) : IntKind.u64.wrap (X * IntKind.u64.wrap (2 - IntKind.u64.wrap (M * X))) = ((x * ((2 + 18446744073709551616 - m * x % 18446744073709551616) % 18446744073709551616) % 18446744073709551616 : Nat) : Int) := by
  subst hX; subst hM
  have e1 : (m : Int) * (x : Int) = ((m * x : Nat) : Int) := by simp
  rw [e1, wrap_u rfl, wrap_u rfl, wrap_u rfl]
  show ((x : Int) * ((2 - ((m * x : Nat) : Int) % 18446744073709551616) % 18446744073709551616)) % 18446744073709551616 = _
  have e2 : (2 - ((m * x : Nat) : Int) % 18446744073709551616) % 18446744073709551616 = (((2 + 18446744073709551616 - m * x % 18446744073709551616) % 18446744073709551616 : Nat) : Int) := by
    generalize m * x = z
    omega
  rw [e2]
  generalize (2 + 18446744073709551616 - m * x % 18446744073709551616) % 18446744073709551616 = y
  have e3 : (x : Int) * (y : Int) = ((x * y : Nat) : Int) := by simp
  rw [e3]; rfl
theorem nw_at {m k : Nat} {X : Int} (hX : X = ((nw m k : Nat) : Int)) : IntKind.u64.wrap (X * IntKind.u64.wrap (2 - IntKind.u64.wrap ((m : Int) * X))) = ((nw m (k + 1) : Nat) : Int) := nw_step hX rfl
theorem ev_negw {k : IntKind} {a : Int} : evalO (.un .neg) [.int k a] = some (.int k (k.wrap (0 - a))) := by
  simp [evalO, aUn, ibin]
theorem minv_Fok {m : Nat} (h : m % 2 = 1) (hm : m < W256) : Fok m (minv m) (W256 * W256 % m) := ⟨h, hm, (minv_ok h).1, (minv_ok h).2, rfl⟩
def MadeC (P : Program) (f : FuncId) : Prop := ∀ m, m % 2 = 1 → m < W256 → Ct P f [WV m] (fun e => e = .ret (FP m (minv m) (W256 * W256 % m)))
def t_made (sub mod add : FuncId) : T :=
 .node (.op (.cell 4 0) [.v 0]) <|
 .node (.op (.cell 4 1) [.v 0]) <|
 .node (.op (.cell 4 2) [.v 0]) <|
 .node (.op (.cell 4 3) [.v 0]) <|
 .node (.op (.bin .mul) [.v 1, .c (.int .u64 1)]) <|
 .node (.op (.bin .sub) [.c (.int .u64 2), .v 5]) <|
 .node (.op (.bin .mul) [.c (.int .u64 1), .v 6]) <|
 .node (.op (.bin .mul) [.v 1, .v 7]) <|
 .node (.op (.bin .sub) [.c (.int .u64 2), .v 8]) <|
 .node (.op (.bin .mul) [.v 7, .v 9]) <|
 .node (.op (.bin .mul) [.v 1, .v 10]) <|
 .node (.op (.bin .sub) [.c (.int .u64 2), .v 11]) <|
 .node (.op (.bin .mul) [.v 10, .v 12]) <|
 .node (.op (.bin .mul) [.v 1, .v 13]) <|
 .node (.op (.bin .sub) [.c (.int .u64 2), .v 14]) <|
 .node (.op (.bin .mul) [.v 13, .v 15]) <|
 .node (.op (.bin .mul) [.v 1, .v 16]) <|
 .node (.op (.bin .sub) [.c (.int .u64 2), .v 17]) <|
 .node (.op (.bin .mul) [.v 16, .v 18]) <|
 .node (.op (.bin .mul) [.v 1, .v 19]) <|
 .node (.op (.bin .sub) [.c (.int .u64 2), .v 20]) <|
 .node (.op (.bin .mul) [.v 19, .v 21]) <|
 .node (.op (.un .neg) [.v 22]) <|
 .node (.op .mkagg [.v 1, .v 2, .v 3, .v 4]) <|
 .node (.call sub [.c (.agg [.int .u64 0, .int .u64 0, .int .u64 0, .int .u64 0]), .v 24] false) <|
 .node (.op .mkagg [.v 1, .v 2, .v 3, .v 4]) <|
 .node (.call mod [.v 25, .v 26] false) <|
 .node (.op (.cell 4 0) [.v 27]) <|
 .node (.op (.cell 4 1) [.v 27]) <|
 .node (.op (.cell 4 2) [.v 27]) <|
 .node (.op (.cell 4 3) [.v 27]) <|
 .node (.op .mklst [.v 1, .v 2, .v 3, .v 4, .v 23, .c (.int .u64 0), .c (.int .u64 0), .c (.int .u64 0), .c (.int .u64 0)]) <|
 .loop [.c (.int .i64 0), .v 32, .v 28, .v 29, .v 30, .v 31] [true, false, true, true, true, true] <|
 .node (.op (.bin .lss) [.v 33, .c (.int .i64 256)]) <|
 .br (.v 39) (
 .node (.op .mkagg [.v 35, .v 36, .v 37, .v 38]) <|
 .node (.op .mkagg [.v 35, .v 36, .v 37, .v 38]) <|
 .node (.callH add [.ptr 0 (.c (.int .i64 0)), .val (.v 40), .val (.v 41)] [.v 34] (.mk false [.val false] 1)) <|
 .node (.op (.ext 0 false) [.v 42]) <|
 .node (.op (.ext 1 false) [.v 42]) <|
 .node (.op (.cell 4 0) [.v 43]) <|
 .node (.op (.cell 4 1) [.v 43]) <|
 .node (.op (.cell 4 2) [.v 43]) <|
 .node (.op (.cell 4 3) [.v 43]) <|
 .node (.op (.bin .add) [.v 33, .c (.int .i64 1)]) <|
 .back 0 [.v 49, .v 44, .v 45, .v 46, .v 47, .v 48]) (
 .node (.op .lset [.v 34, .c (.int .i64 5), .v 35, .v 36, .v 37, .v 38]) <|
 .node (.op .mkrp [.v 40, .c (.int .i64 0)]) <|
 .ret (.v 41))
theorem made_den {sub mod add : FuncId} {m : Nat} (hs : W2 P sub (fun a b => (a + W256 - b) % W256)) (hmo : WModC P mod) (ha : F2H P add addM) (h : m % 2 = 1) (hm : m < W256) :
    D P (fun e => e = .ret (FP m (minv m) (W256 * W256 % m))) [] 1 [WV m] (t_made sub mod add) := by
  have hm0 : 0 < m := by omega
  have hsub : Ct P sub [WV 0, WV m] (fun e => e = .ret (WV ((0 + W256 - m) % W256))) := hs 0 m (by decide) hm
  have e0 : (0 + W256 - m) % W256 = W256 - m := by rw [Nat.zero_add, Nat.mod_eq_of_lt]; unfold W256 at *; omega
  rw [e0] at hsub
  have hmod := hmo (W256 - m) m (by unfold W256 at *; omega) hm hm0
  have e1 : (W256 - m) % m = W256 % m := by rw [Nat.mod_eq_sub_mod (a := W256) (by omega)]
  rw [e1] at hmod
  obtain ⟨m0, m1, m2, m3, hm0', hm1, hm2, hm3, eM, em⟩ := WV_limbs hm
  have hmm : m % 18446744073709551616 = m0 := by
    have : m0 < 18446744073709551616 := hm0'
    rw [em]; unfold V4; omega
  obtain ⟨d0, d1, d2, d3, _, _, _, _, eD, _⟩ := WV_limbs (a := W256 - m) (by unfold W256 at *; omega)
  obtain ⟨iv, eiv⟩ : ∃ iv, iv = minv m := ⟨_, rfl⟩
  have hiv : ∀ {z : Int}, z = ((nw m0 6 : Nat) : Int) → IntKind.u64.wrap (0 - z) = (iv : Int) := fun {z} hz => by
    subst hz
    rw [wrap_u rfl, eiv]
    show (0 - ((nw m0 6 : Nat) : Int)) % 18446744073709551616 = _
    unfold minv
    rw [hmm]
    have := nw_lt (m := m0) (k := 6)
    omega
  rw [← eiv]
  rw [eM, eD] at hsub
  rw [eM, eD] at hmod
  rw [eM]
  refine d_cells rfl rfl rfl rfl ?_
  refine d_op ev_mulw (d_op ev_subw (d_op ev_mulw ?_))
  rw [nw_at (m := m0) (k := 0) (X := 1) rfl]
  refine d_op ev_mulw (d_op ev_subw (d_op ev_mulw ?_))
  rw [nw_at (m := m0) (k := 1) rfl]
  refine d_op ev_mulw (d_op ev_subw (d_op ev_mulw ?_))
  rw [nw_at (m := m0) (k := 2) rfl]
  refine d_op ev_mulw (d_op ev_subw (d_op ev_mulw ?_))
  rw [nw_at (m := m0) (k := 3) rfl]
  refine d_op ev_mulw (d_op ev_subw (d_op ev_mulw ?_))
  rw [nw_at (m := m0) (k := 4) rfl]
  refine d_op ev_mulw (d_op ev_subw (d_op ev_mulw ?_))
  rw [nw_at (m := m0) (k := 5) rfl]
  refine d_op ev_negw ?_
  rw [hiv rfl]
  refine d_op ev_wl (d_call hsub (fun h => by cases h) (d_op ev_wl (d_call hmod (fun h => by cases h) (d_cells rfl rfl rfl rfl ?_))))
  have lt : ∀ x, x % m < W256 := fun x => Nat.lt_trans (Nat.mod_lt _ hm0) hm
  have hfc : fcells m iv 0 = FLs m0 m1 m2 m3 iv 0 0 0 0 := by rw [em, show (0 : Nat) = V4 0 0 0 0 from rfl, fcells_eq hm0' hm1 hm2 hm3 (by decide) (by decide) (by decide) (by decide)]; rfl
  have hadd : ∀ x, CtH P add [.ptr 0 (.int .i64 0), .val (WV (x % m)), .val (WV (x % m))] [.lst (FLs m0 m1 m2 m3 iv 0 0 0 0)] ⟨false, [.val false], 1⟩ (fun e => e = .ret (.tup [WV (2 * x % m), .lst (FLs m0 m1 m2 m3 iv 0 0 0 0)])) := fun x => by
    have := ha m iv 0 (x % m) (x % m) hm (by decide) (Nat.mod_lt _ hm0) (Nat.mod_lt _ hm0)
    have e : addM m (x % m) (x % m) = 2 * x % m := by unfold addM; rw [← Nat.add_mod]; congr 1; omega
    rwa [e, hfc] at this
  refine d_op (v := .lst (FLs m0 m1 m2 m3 iv 0 0 0 0)) rfl ?_
  refine d_while (fun j : Nat => [.int .i64 (j : Int), .lst (FLs m0 m1 m2 m3 iv 0 0 0 0), .int .u64 ((2 ^ j * W256 % m % 18446744073709551616 : Nat) : Int), .int .u64 ((2 ^ j * W256 % m / 18446744073709551616 % 18446744073709551616 : Nat) : Int),
      .int .u64 ((2 ^ j * W256 % m / 340282366920938463463374607431768211456 % 18446744073709551616 : Nat) : Int), .int .u64 ((2 ^ j * W256 % m / 6277101735386680763835789423207666416102355444464034512896 % 18446744073709551616 : Nat) : Int)])
    (fun j => j ≤ 256) (fun j => 256 - j) 0 (Nat.zero_le _) (by rw [Nat.pow_zero, Nat.one_mul]; rfl) ?_
  intro j hj
  refine d_op ev_lss (d_if rfl (fun g1 => ?_) (fun g1 => ?_))
  · refine d_op (v := WV (2 ^ j * W256 % m)) ev_wl (d_op (v := WV (2 ^ j * W256 % m)) ev_wl (d_callH (hadd (2 ^ j * W256)) (d_op (ev_ext rfl (fun h => by cases h)) (d_op (ev_ext rfl (fun h => by cases h)) ?_))))
    have e2 : 2 * (2 ^ j * W256) = 2 ^ (j + 1) * W256 := by rw [Nat.pow_succ]; generalize 2 ^ j = p; rw [← Nat.mul_assoc, Nat.mul_comm 2 p]
    rw [e2]
    refine d_cells rfl rfl rfl rfl (d_op (ev_add (by constructor <;> omega)) ?_)
    exact d_back rfl ⟨j + 1, rfl, by omega, by omega⟩
  · have : j = 256 := by omega
    subst this
    have e3 : 2 ^ 256 * W256 % m = W256 * W256 % m := rfl
    rw [e3]
    have hl := lt (W256 * W256)
    have eF : FP m iv (W256 * W256 % m) = FL m0 m1 m2 m3 iv (W256 * W256 % m % 18446744073709551616) (W256 * W256 % m / 18446744073709551616 % 18446744073709551616) (W256 * W256 % m / 340282366920938463463374607431768211456 % 18446744073709551616) (W256 * W256 % m / 6277101735386680763835789423207666416102355444464034512896 % 18446744073709551616) := by
      generalize W256 * W256 % m = s at *
      obtain ⟨p0, p1, p2, p3, g0, g1, g2, g3, gs⟩ := limbs hl
      have hws := WV_eq g0 g1 g2 g3
      rw [← gs] at hws
      simp only [WV, WL, AV.agg.injEq, List.cons.injEq, AV.int.injEq, true_and, and_true] at hws
      obtain ⟨w0, w1, w2, w3⟩ := hws
      rw [Int.ofNat_inj.1 w0, Int.ofNat_inj.1 w1, Int.ofNat_inj.1 w2, Int.ofNat_inj.1 w3, em, gs]
      unfold FP FL
      rw [fcells_eq hm0' hm1 hm2 hm3 g0 g1 g2 g3]
    rw [eF]
    exact d_op (v := .lst (FLs _ _ _ _ _ _ _ _ _)) rfl (d_op (v := FL _ _ _ _ _ _ _ _ _) rfl (d_ret rfl))
def FNewC (P : Program) (f : FuncId) : Prop := ∀ m, m < W256 → Ct P f [WV m] (fun e => e = .ret (if m % 2 = 0 ∨ m = 1 then .tup [.nilp, .int .i64 1] else .tup [FP m (minv m) (W256 * W256 % m), .int .i64 0]))
theorem low_bit0 {m0 m1 m2 m3 : Nat} (_ : m0 < B64) : V4 m0 m1 m2 m3 % 2 = m0 % 2 := by unfold V4; omega
def t_fnew (made : FuncId) : T :=
 .node (.op (.cell 4 0) [.v 0]) <|
 .node (.op (.cell 4 1) [.v 0]) <|
 .node (.op (.cell 4 2) [.v 0]) <|
 .node (.op (.cell 4 3) [.v 0]) <|
 .node (.op (.bin .and) [.v 1, .c (.int .u64 1)]) <|
 .node (.op (.bin .eql) [.v 5, .c (.int .u64 0)]) <|
 .br (.v 6) (
 .ret (.c (.tup [.nilp, .int .i64 1]))) (
 .node (.op .mkagg [.v 1, .v 2, .v 3, .v 4]) <|
 .node (.op (.eqv false [.int .u64, .int .u64, .int .u64, .int .u64]) [.v 7, .c (.agg [.int .u64 1, .int .u64 0, .int .u64 0, .int .u64 0])]) <|
 .br (.v 8) (
 .ret (.c (.tup [.nilp, .int .i64 1]))) (
 .node (.op .mkagg [.v 1, .v 2, .v 3, .v 4]) <|
 .node (.call made [.v 9] true) <|
 .node (.op .mktup [.v 10, .c (.int .i64 0)]) <|
 .ret (.v 11)))
theorem fnew_den {made : FuncId} {m : Nat} (hma : MadeC P made) (hm : m < W256) : D P (fun e => e = .ret (if m % 2 = 0 ∨ m = 1 then .tup [.nilp, .int .i64 1] else .tup [FP m (minv m) (W256 * W256 % m), .int .i64 0])) [] 1 [WV m] (t_fnew made) := by
  obtain ⟨m0, m1, m2, m3, hm0, hm1, hm2, hm3, eM, em⟩ := WV_limbs hm
  have hlow : m % 2 = m0 % 2 := by rw [em]; exact low_bit0 hm0
  have h0 : m0 < 18446744073709551616 := hm0
  have heq : evalO (.eqv false [.int .u64, .int .u64, .int .u64, .int .u64]) [WL m0 m1 m2 m3, .agg [.int .u64 1, .int .u64 0, .int .u64 0, .int .u64 0]] = some (.bool (decide (m = 1))) := by
    rw [← eM]; exact ev_weq hm (b := 1) (by decide)
  have hcall : ¬ m % 2 = 0 → Ct P made [WL m0 m1 m2 m3] (fun e => e = .ret (FP m (minv m) (W256 * W256 % m))) := fun h => by
    have := hma m (by omega) hm
    rwa [eM] at this
  rw [eM]
  refine d_cells rfl rfl rfl rfl (d_op (ev_and (by constructor <;> omega) (y := 1) (by decide)) ?_)
  rw [Nat.and_one_is_mod]
  refine d_op ev_eql (d_if rfl (fun h => ?_) (fun h => ?_))
  · rw [if_pos (.inl (by omega))]; exact d_ret rfl
  · refine d_op ev_wl (d_op heq (d_if rfl (fun h2 => ?_) (fun h2 => ?_)))
    · rw [if_pos (.inr h2)]; exact d_ret rfl
    · rw [if_neg (by omega)]
      exact d_op ev_wl (d_call (hcall (by omega)) (fun _ => rfl) (d_op ev_mktup (d_ret rfl)))
end Go.SE
