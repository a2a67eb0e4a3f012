/- Nothing of the statement is proved here: this text lays generic laws: FG; no conditions. -/
import Derived.Test.YtomjfjncfodmhaaFD
set_option linter.all false
set_option autoImplicit false
set_option maxRecDepth 4000
set_option maxHeartbeats 2000000
set_option exponentiation.threshold 5000
namespace Go.SE
open Go
variable {P : Program} {R : AEnd → Prop}
def monM (m x : Nat) : Nat := x * W256 % m
theorem montS_sq {m iv sq x : Nat} (hF : Fok m iv sq) : montS m x sq = monM m x := by
  have h := mont_sq (a := x) (b := 1) hF
  have h2 : montS m (montS m x sq) 1 = montS m (monM m x) 1 := by
    unfold montS monM
    rw [hF.2.2.2.2]
    have e1 : x * (W256 * W256 % m) * rinv m % m = x * W256 % m := by
      have : x * (W256 * W256 % m) * rinv m % m = x * (W256 * W256) * rinv m % m := by
        rw [Nat.mul_mod, Nat.mul_mod x, Nat.mod_mod, ← Nat.mul_mod x, ← Nat.mul_mod]
      rw [this]
      have : x * (W256 * W256) * rinv m = x * W256 * (W256 * rinv m) := by grind
      rw [this, Nat.mul_mod, rinv_spec hF.1, ← Nat.mul_mod, Nat.mul_one]
    rw [e1]
  unfold montS monM
  rw [hF.2.2.2.2]
  have : x * (W256 * W256 % m) * rinv m % m = x * (W256 * W256) * rinv m % m := by
    rw [Nat.mul_mod, Nat.mul_mod x, Nat.mod_mod, ← Nat.mul_mod x, ← Nat.mul_mod]
  rw [this]
  have : x * (W256 * W256) * rinv m = x * W256 * (W256 * rinv m) := by grind
  rw [this, Nat.mul_mod, rinv_spec hF.1, ← Nat.mul_mod, Nat.mul_one]
theorem mul_mod3 {a b c m : Nat} : a % m * (b % m) * c % m = a * b * c % m := by
  rw [Nat.mul_mod (a % m * (b % m)), Nat.mul_mod (a % m), Nat.mod_mod, Nat.mod_mod, ← Nat.mul_mod a, ← Nat.mul_mod]
theorem montS_mon {m x y : Nat} (h : m % 2 = 1) : montS m (monM m x) (monM m y) = monM m (x * y) := by
  unfold montS monM
  rw [mul_mod3]
  have : x * W256 * (y * W256) * rinv m = x * y * W256 * (W256 * rinv m) := by grind
  rw [this, Nat.mul_mod, rinv_spec h, ← Nat.mul_mod, Nat.mul_one]
theorem montS_one {m x : Nat} (h : m % 2 = 1) : montS m (monM m x) (1 % m) = x % m := by
  unfold montS monM
  rw [mul_mod3]
  have : x * W256 * 1 * rinv m = x * (W256 * rinv m) := by grind
  rw [this, Nat.mul_mod, rinv_spec h, ← Nat.mul_mod, Nat.mul_one]
theorem monM_mod {m x : Nat} : monM m (x % m) = monM m x := by
  unfold monM; rw [Nat.mul_mod, Nat.mod_mod, ← Nat.mul_mod]
theorem monM_lt {m x : Nat} (h : 0 < m) : monM m x < m := Nat.mod_lt _ h
def FExpC (P : Program) (f : FuncId) : Prop := ∀ m iv sq a e, Fok m iv sq → a < m → e < W256 → Ct P f [FP m iv sq, WV a, WV e] (fun r => r = .ret (WV (a ^ e % m)))
theorem pow_bit {a e i : Nat} : a ^ (e / 2 ^ i) = if e / 2 ^ i % 2 = 1 then a ^ (e / 2 ^ (i + 1)) * a ^ (e / 2 ^ (i + 1)) * a else a ^ (e / 2 ^ (i + 1)) * a ^ (e / 2 ^ (i + 1)) := by
  have h : e / 2 ^ (i + 1) = e / 2 ^ i / 2 := by rw [Nat.pow_succ, Nat.div_div_eq_div_mul]
  rw [h, ← Nat.pow_add]
  generalize e / 2 ^ i = x
  split
  · rw [← Nat.pow_succ]; congr 1; omega
  · congr 1; omega
def t_fexp (ofM mont len : FuncId) : T :=
 .node (.op (.cell 4 0) [.v 1]) <|
 .node (.op (.cell 4 1) [.v 1]) <|
 .node (.op (.cell 4 2) [.v 1]) <|
 .node (.op (.cell 4 3) [.v 1]) <|
 .node (.op (.cell 4 0) [.v 2]) <|
 .node (.op (.cell 4 1) [.v 2]) <|
 .node (.op (.cell 4 2) [.v 2]) <|
 .node (.op (.cell 4 3) [.v 2]) <|
 .node (.call ofM [.v 0, .c (.agg [.int .u64 1, .int .u64 0, .int .u64 0, .int .u64 0])] false) <|
 .node (.op (.cell 4 0) [.v 11]) <|
 .node (.op (.cell 4 1) [.v 11]) <|
 .node (.op (.cell 4 2) [.v 11]) <|
 .node (.op (.cell 4 3) [.v 11]) <|
 .node (.op .nilchk [.v 0]) <|
 .node (.op (.roff 5) [.v 16]) <|
 .node (.op (.rld true 4) [.v 17]) <|
 .node (.op .mkagg [.v 12, .v 13, .v 14, .v 15]) <|
 .node (.call mont [.v 0, .v 19, .v 18] false) <|
 .node (.op .nilchk [.v 0]) <|
 .node (.op (.roff 5) [.v 21]) <|
 .node (.op (.rld true 4) [.v 22]) <|
 .node (.op .mkagg [.v 3, .v 4, .v 5, .v 6]) <|
 .node (.call mont [.v 0, .v 24, .v 23] false) <|
 .node (.op (.cell 4 0) [.v 20]) <|
 .node (.op (.cell 4 1) [.v 20]) <|
 .node (.op (.cell 4 2) [.v 20]) <|
 .node (.op (.cell 4 3) [.v 20]) <|
 .node (.op (.cell 4 0) [.v 25]) <|
 .node (.op (.cell 4 1) [.v 25]) <|
 .node (.op (.cell 4 2) [.v 25]) <|
 .node (.op (.cell 4 3) [.v 25]) <|
 .node (.op .mkagg [.v 7, .v 8, .v 9, .v 10]) <|
 .node (.call len [.v 34] true) <|
 .node (.op (.bin .sub) [.v 35, .c (.int .i64 1)]) <|
 .loop [.v 36, .v 26, .v 27, .v 28, .v 29] [true, true, true, true, true] <|
 .node (.op (.bin .geq) [.v 37, .c (.int .i64 0)]) <|
 .br (.v 42) (
 .node (.op .mkagg [.v 38, .v 39, .v 40, .v 41]) <|
 .node (.op .mkagg [.v 38, .v 39, .v 40, .v 41]) <|
 .node (.call mont [.v 0, .v 43, .v 44] false) <|
 .node (.op (.cell 4 0) [.v 45]) <|
 .node (.op (.cell 4 1) [.v 45]) <|
 .node (.op (.cell 4 2) [.v 45]) <|
 .node (.op (.cell 4 3) [.v 45]) <|
 .node (.op (.bin .quo) [.v 37, .c (.int .i64 64)]) <|
 .node (.op .chki [.v 50, .c (.int .i64 4)]) <|
 .node (.op (.ofs 1) [.c (.int .i64 0), .v 50]) <|
 .node (.op .mklst [.v 7, .v 8, .v 9, .v 10]) <|
 .node (.op (.lget false 1) [.v 53, .v 52]) <|
 .node (.op (.bin .rem) [.v 37, .c (.int .i64 64)]) <|
 .node (.op (.bin .shr) [.v 54, .v 55]) <|
 .node (.op (.bin .and) [.v 56, .c (.int .u64 1)]) <|
 .node (.op (.bin .eql) [.v 57, .c (.int .u64 1)]) <|
 .br (.v 58) (
 .node (.op .mkagg [.v 46, .v 47, .v 48, .v 49]) <|
 .node (.op .mkagg [.v 30, .v 31, .v 32, .v 33]) <|
 .node (.call mont [.v 0, .v 59, .v 60] false) <|
 .node (.op (.cell 4 0) [.v 61]) <|
 .node (.op (.cell 4 1) [.v 61]) <|
 .node (.op (.cell 4 2) [.v 61]) <|
 .node (.op (.cell 4 3) [.v 61]) <|
 .node (.op (.bin .sub) [.v 37, .c (.int .i64 1)]) <|
 .back 0 [.v 66, .v 62, .v 63, .v 64, .v 65]) (
 .node (.op (.bin .sub) [.v 37, .c (.int .i64 1)]) <|
 .back 0 [.v 59, .v 46, .v 47, .v 48, .v 49])) (
 .node (.op .mkagg [.v 38, .v 39, .v 40, .v 41]) <|
 .node (.op .mkagg [.v 12, .v 13, .v 14, .v 15]) <|
 .node (.call mont [.v 0, .v 43, .v 44] false) <|
 .node (.op (.cell 4 0) [.v 45]) <|
 .node (.op (.cell 4 1) [.v 45]) <|
 .node (.op (.cell 4 2) [.v 45]) <|
 .node (.op (.cell 4 3) [.v 45]) <|
 .node (.op .mkagg [.v 46, .v 47, .v 48, .v 49]) <|
 .ret (.v 50))
theorem fexp_den {ofM mont len : FuncId} {m iv sq a e : Nat} (hof : OfMC P ofM) (hmo : MontC P mont) (hln : WLenC P len) (hF : Fok m iv sq) (ha : a < m) (he : e < W256) :
    D P (fun r => r = .ret (WV (a ^ e % m))) [] 3 [WV e, WV a, FP m iv sq] (t_fexp ofM mont len) := by
  have hm := hF.2.1
  have hodd := hF.1
  have hm0 : 0 < m := by omega
  have lt : ∀ x, x % m < W256 := fun x => Nat.lt_trans (Nat.mod_lt _ hm0) hm
  have ltM : ∀ x, monM m x < W256 := fun x => lt _
  have h1 := hof m iv sq 1 hm0 hm hF.sq_lt' (by decide)
  have hM1 := hmo m iv sq (1 % m) sq hF (Nat.mod_lt _ hm0) hF.sq_lt'
  have hMa := hmo m iv sq a sq hF ha hF.sq_lt'
  rw [montS_sq hF] at hM1 hMa
  rw [monM_mod] at hM1
  have hlen := hln e he
  have hblen : blen e ≤ 256 := blen_le.2 he
  obtain ⟨m0, m1, m2, m3, q0, q1, q2, q3, _, _, _, _, hq0, hq1, hq2, hq3, _, es, eF⟩ := FP_limbs (iv := iv) hm hF.sq_lt'
  have eS : WV sq = WL q0 q1 q2 q3 := by rw [es, WV_eq hq0 hq1 hq2 hq3]
  obtain ⟨a0, a1, a2, a3, _, _, _, _, eA, _⟩ := WV_limbs (Nat.lt_trans ha hm)
  obtain ⟨e0, e1, e2, e3, he0, he1, he2, he3, eE, ee⟩ := WV_limbs he
  obtain ⟨o0, o1, o2, o3, _, _, _, _, eO, _⟩ := WV_limbs (lt 1)
  obtain ⟨n0, n1, n2, n3, _, _, _, _, eN, _⟩ := WV_limbs (ltM a)
  have hL : LtAll B64 [e0, e1, e2, e3] := fun x hx => by
    simp only [List.mem_cons, List.not_mem_nil, or_false] at hx
    rcases hx with rfl | rfl | rfl | rfl
    · exact he0
    · exact he1
    · exact he2
    · exact he3
  have hsq : ∀ x, Ct P mont [FL m0 m1 m2 m3 iv q0 q1 q2 q3, WV (monM m x), WV (monM m x)] (fun r => r = .ret (WV (monM m (x * x)))) := fun x => by
    have := hmo m iv sq (monM m x) (monM m x) hF (monM_lt hm0) (ltM x)
    rwa [montS_mon hodd, eF] at this
  have hmu : ∀ x, Ct P mont [FL m0 m1 m2 m3 iv q0 q1 q2 q3, WV (monM m x), WL n0 n1 n2 n3] (fun r => r = .ret (WV (monM m (x * a)))) := fun x => by
    have := hmo m iv sq (monM m x) (monM m a) hF (monM_lt hm0) (ltM a)
    rwa [montS_mon hodd, eF, eN] at this
  have hou : ∀ x, Ct P mont [FL m0 m1 m2 m3 iv q0 q1 q2 q3, WV (monM m x), WL o0 o1 o2 o3] (fun r => r = .ret (WV (x % m))) := fun x => by
    have := hmo m iv sq (monM m x) (1 % m) hF (monM_lt hm0) (lt 1)
    rwa [montS_one hodd, eF, eO] at this
  rw [eF, eO] at h1
  rw [eF, eO, eS] at hM1
  rw [eF, eA, eS, eN] at hMa
  rw [eE] at hlen
  rw [eF, eA, eE]
  refine d_cells rfl rfl rfl rfl (d_cells rfl rfl rfl rfl (d_call h1 (fun h => by cases h) (d_cells rfl rfl rfl rfl ?_)))
  refine d_op ev_fnil (d_op ev_froff5 (d_op ev_frlds (d_op ev_wl (d_call hM1 (fun h => by cases h) ?_))))
  refine d_op ev_fnil (d_op ev_froff5 (d_op ev_frlds (d_op ev_wl (d_call hMa (fun h => by cases h) ?_))))
  refine d_cells rfl rfl rfl rfl (d_cells rfl rfl rfl rfl (d_op ev_wl (d_call hlen (fun _ => rfl) (d_op (ev_sub (by constructor <;> omega)) ?_))))
  refine d_while (fun j : Nat => [.int .i64 ((j : Int) - 1), .int .u64 ((monM m (a ^ (e / 2 ^ j)) % 18446744073709551616 : Nat) : Int), .int .u64 ((monM m (a ^ (e / 2 ^ j)) / 18446744073709551616 % 18446744073709551616 : Nat) : Int),
      .int .u64 ((monM m (a ^ (e / 2 ^ j)) / 340282366920938463463374607431768211456 % 18446744073709551616 : Nat) : Int), .int .u64 ((monM m (a ^ (e / 2 ^ j)) / 6277101735386680763835789423207666416102355444464034512896 % 18446744073709551616 : Nat) : Int)])
    (fun j => j ≤ 256) (fun j => j) (blen e) hblen ?_ ?_
  · have hz : e / 2 ^ blen e = 0 := Nat.div_eq_of_lt (blen_le.1 (Nat.le_refl _))
    rw [hz, Nat.pow_zero]
    rfl
  · intro j hj
    refine d_op ev_geq (d_if rfl (fun g1 => ?_) (fun g1 => ?_))
    · obtain ⟨i, rfl⟩ : ∃ i, j = i + 1 := ⟨j - 1, by omega⟩
      have ei : ((i + 1 : Nat) : Int) - 1 = (i : Int) := by omega
      rw [ei]
      have hq : (i : Int) / 64 = ((i / 64 : Nat) : Int) := by omega
      obtain ⟨x, ex⟩ : ∃ x, x = [e0, e1, e2, e3].getD (i / 64) 0 := ⟨_, rfl⟩
      have hx : x < 18446744073709551616 := ex ▸ hL.getD (by decide) _
      have hbit : x / 2 ^ (i % 64) % 2 = e / 2 ^ i % 2 := by rw [ex, ee, ← val4]; exact bit_of64 hL i
      have hpb := pow_bit (a := a) (e := e) (i := i)
      generalize a ^ (e / 2 ^ (i + 1)) = y at *
      refine d_op (v := WV (monM m y)) ev_wl (d_op (v := WV (monM m y)) ev_wl (d_call (hsq y) (fun h => by cases h) (d_cells rfl rfl rfl rfl ?_)))
      refine d_op (ev_quo (by omega) (by omega) (by constructor <;> omega)) ?_
      rw [hq]
      refine d_op (ev_chki (n := 4) (by omega) (by omega) rfl) (d_op (ev_ofs (o := 0) rfl rfl) (d_op (v := .lst (CN .u64 [e0, e1, e2, e3])) rfl (d_op (ev_lgetN' (i := i / 64) (by simp) (by simp; omega) ex.symm) ?_)))
      refine d_op (ev_rem (by omega) (by omega)) (d_op (ev_shr (y := i % 64) (by omega) (by show _ ≤ 64; omega) rfl) ?_)
      have hxs : x / 2 ^ (i % 64) ≤ x := Nat.div_le_self _ _
      generalize x / 2 ^ (i % 64) = xx at *
      have hxx : xx < 18446744073709551616 := by clear hbit; omega
      refine d_op (ev_and (by clear hbit; constructor <;> omega) (y := 1) (by decide)) ?_
      rw [Nat.and_one_is_mod, hbit]
      refine d_op ev_eql (d_if rfl (fun g2 => ?_) (fun g2 => ?_))
      · rw [if_pos (by omega)] at hpb
        refine d_op (v := WV (monM m (y * y))) ev_wl (d_op ev_wl (d_call (hmu (y * y)) (fun h => by cases h) (d_cells rfl rfl rfl rfl (d_op (ev_sub (by constructor <;> omega)) ?_))))
        exact d_back rfl ⟨i, by rw [hpb]; rfl, by omega, by omega⟩
      · rw [if_neg (by omega)] at hpb
        refine d_op (ev_sub (by constructor <;> omega)) ?_
        exact d_back rfl ⟨i, by rw [hpb]; rfl, by omega, by omega⟩
    · have : j = 0 := by omega
      subst this
      rw [Nat.pow_zero, Nat.div_one]
      refine d_op (v := WV (monM m (a ^ e))) ev_wl (d_op ev_wl (d_call (hou (a ^ e)) (fun h => by cases h) (d_cells rfl rfl rfl rfl (d_op ev_wl (d_ret rfl)))))
def nw (m : Nat) : Nat → Nat
  | 0 => 1
  | k + 1 => nw m k * ((2 + 18446744073709551616 - m * nw m k % 18446744073709551616) % 18446744073709551616) % 18446744073709551616
def minv (m : Nat) : Nat := (18446744073709551616 - nw (m % 18446744073709551616) 6) % 18446744073709551616
theorem nw_lt {m k : Nat} : nw m k < 18446744073709551616 := by
  cases k with
  | zero => show 1 < 18446744073709551616; decide
  | succ k => exact Nat.mod_lt _ (by decide)
theorem nw_ok {m : Nat} (h : m % 2 = 1) : ∀ k, k ≤ 6 → ((2 : Int) ^ 2 ^ k) ∣ (m : Int) * (nw m k : Int) - 1
  | 0, _ => by
    show (2 : Int) ∣ (m : Int) * 1 - 1
    omega
  | k + 1, hk => by
    have ih := nw_ok h k (by omega)
    obtain ⟨c, hc⟩ := ih
    obtain ⟨x, ex⟩ : ∃ x, x = nw m k := ⟨_, rfl⟩
    rw [← ex] at hc
    have e1 : nw m (k + 1) = x * ((2 + 18446744073709551616 - m * x % 18446744073709551616) % 18446744073709551616) % 18446744073709551616 := by rw [ex]; rfl
    obtain ⟨y, ey⟩ : ∃ y, y = (2 + 18446744073709551616 - m * x % 18446744073709551616) % 18446744073709551616 := ⟨_, rfl⟩
    obtain ⟨u, eu⟩ : ∃ u : Int, (y : Int) = 2 - (m : Int) * (x : Int) + 18446744073709551616 * u := by
      refine ⟨((y : Int) - 2 + (m : Int) * (x : Int)) / 18446744073709551616, ?_⟩
      have : ((m * x : Nat) : Int) = (m : Int) * (x : Int) := by simp
      rw [← this]
      generalize m * x = z at *
      omega
    obtain ⟨v, ev⟩ : ∃ v : Int, ((nw m (k + 1) : Nat) : Int) = (x : Int) * (y : Int) + 18446744073709551616 * v := by
      refine ⟨-(((x * y : Nat) : Int) / 18446744073709551616), ?_⟩
      rw [e1, ← ey]
      have : ((x * y : Nat) : Int) = (x : Int) * (y : Int) := by simp
      rw [← this]
      generalize x * y = z
      omega
    have hp : (2 : Int) ^ 2 ^ (k + 1) = (2 : Int) ^ 2 ^ k * (2 : Int) ^ 2 ^ k := by rw [← Int.pow_add]; congr 1; rw [Nat.pow_succ]; omega
    have hd : ((2 : Int) ^ 2 ^ (k + 1)) ∣ 18446744073709551616 := by
      have : (18446744073709551616 : Int) = 2 ^ 2 ^ (k + 1) * 2 ^ (64 - 2 ^ (k + 1)) := by
        rw [← Int.pow_add]
        have : 2 ^ (k + 1) ≤ 2 ^ 6 := Nat.pow_le_pow_right (by decide) hk
        rw [show 2 ^ (k + 1) + (64 - 2 ^ (k + 1)) = 64 by omega]
        rfl
      exact ⟨_, this⟩
    have key : (m : Int) * ((nw m (k + 1) : Nat) : Int) - 1 = -(((m : Int) * (x : Int) - 1) * ((m : Int) * (x : Int) - 1)) + 18446744073709551616 * ((m : Int) * (x : Int) * u + (m : Int) * v) := by
      rw [ev, eu]; grind
    rw [key, hc]
    refine Int.dvd_add ?_ (Int.dvd_trans hd (Int.dvd_mul_right _ _))
    rw [hp]
    exact Int.dvd_neg.2 ⟨c * c, by grind⟩
theorem minv_ok1 {r x : Nat} (hx : x < 18446744073709551616) (hr : r % 2 = 1) (hd : (18446744073709551616 : Int) ∣ (r : Int) * (x : Int) - 1) : (18446744073709551616 - x) % 18446744073709551616 * r % 18446744073709551616 = 18446744073709551615 := by
  obtain ⟨c, hc⟩ := hd
  have e2 : (r : Int) * (x : Int) = ((r * x : Nat) : Int) := by simp
  rw [e2] at hc
  have h0 : 0 < x := by
    refine Nat.pos_of_ne_zero fun h0 => ?_
    subst h0
    rw [Nat.mul_zero] at hc
    omega
  have e4 : (18446744073709551616 - x) % 18446744073709551616 * r + r * x = 18446744073709551616 * r := by
    rw [Nat.mod_eq_of_lt (by omega), Nat.mul_comm r x, ← Nat.add_mul, Nat.sub_add_cancel (Nat.le_of_lt hx)]
  generalize r * x = z at *
  generalize (18446744073709551616 - x) % 18446744073709551616 * r = w at *
  omega
theorem minv_ok {m : Nat} (h : m % 2 = 1) : minv m < 18446744073709551616 ∧ minv m * m % 18446744073709551616 = 18446744073709551615 := by
  refine ⟨Nat.mod_lt _ (by decide), ?_⟩
  have hd := nw_ok (m := m % 18446744073709551616) (by omega) 6 (Nat.le_refl _)
  have hp : (2 : Int) ^ 2 ^ 6 = 18446744073709551616 := rfl
  rw [hp] at hd
  have := minv_ok1 nw_lt (by omega) hd
  unfold minv
  rw [Nat.mul_mod, Nat.mod_mod]
  rwa [Nat.mul_mod, Nat.mod_mod, Nat.mod_mod] at this
theorem ev_negw {k : IntKind} {a : Int} : evalO (.un .neg) [.int k a] = some (.int k (k.wrap (0 - a))) := by
  simp [evalO, aUn, ibin]
end Go.SE
set_option autoImplicit false
set_option maxRecDepth 4000
set_option maxHeartbeats 2000000
set_option exponentiation.threshold 5000
namespace Go.SE
open Go
variable {P : Program} {R : AEnd → Prop}
theorem f_yes {H : List (List AV → Prop)} {n : Nat} {ρ : List AV} {a : Atom} {t e : T} {p : Prop} [Decidable p] (hp : p) (h : a.at n ρ = .bool (decide p)) (ht : D P R H n ρ t) : D P R H n ρ (.br a t e) :=
  d_if h (fun _ => ht) (fun hn => absurd hp hn)
theorem f_no {H : List (List AV → Prop)} {n : Nat} {ρ : List AV} {a : Atom} {t e : T} {p : Prop} [Decidable p] (hp : ¬ p) (h : a.at n ρ = .bool (decide p)) (he : D P R H n ρ e) : D P R H n ρ (.br a t e) :=
  d_if h (fun h => absurd h hp) (fun _ => he)
def FWC (P : Program) (f : FuncId) (s : Nat → Nat → Nat → Nat) : Prop := ∀ m iv sq a b, Fok m iv sq → a < W256 → b < W256 → Ct P f [FP m iv sq, WV a, WV b] (fun e => e = .ret (WV (s m a b)))
def FW1 (P : Program) (f : FuncId) (s : Nat → Nat → Nat) : Prop := ∀ m iv sq a, Fok m iv sq → a < W256 → Ct P f [FP m iv sq, WV a] (fun e => e = .ret (WV (s m a)))
def aAdd (m a b : Nat) : Nat := (a + b) % m
def aMul (m a b : Nat) : Nat := a * b % m
def aSub (m a b : Nat) : Nat := (a % m + m - b % m) % m
def aOf (m a : Nat) : Nat := a % m
def aNeg (m a : Nat) : Nat := (0 + m - a % m) % m
section
variable {m iv sq a b : Nat}
def t_Add (ofM add : FuncId) : T :=
 .node (.op (.cell 4 0) [.v 1]) <|
 .node (.op (.cell 4 1) [.v 1]) <|
 .node (.op (.cell 4 2) [.v 1]) <|
 .node (.op (.cell 4 3) [.v 1]) <|
 .node (.op (.cell 4 0) [.v 2]) <|
 .node (.op (.cell 4 1) [.v 2]) <|
 .node (.op (.cell 4 2) [.v 2]) <|
 .node (.op (.cell 4 3) [.v 2]) <|
 .node (.op .mkagg [.v 3, .v 4, .v 5, .v 6]) <|
 .node (.call ofM [.v 0, .v 11] false) <|
 .node (.op .mkagg [.v 7, .v 8, .v 9, .v 10]) <|
 .node (.call ofM [.v 0, .v 13] false) <|
 .node (.call add [.v 0, .v 12, .v 14] false) <|
 .node (.op (.cell 4 0) [.v 15]) <|
 .node (.op (.cell 4 1) [.v 15]) <|
 .node (.op (.cell 4 2) [.v 15]) <|
 .node (.op (.cell 4 3) [.v 15]) <|
 .node (.op .mkagg [.v 16, .v 17, .v 18, .v 19]) <|
 .ret (.v 20)
theorem Add_den {ofM add : FuncId} (ho : OfMC P ofM) (ha : F2C P add addM) (hF : Fok m iv sq) (h1 : a < W256) (h2 : b < W256) : D P (fun e => e = .ret (WV (aAdd m a b))) [] 3 [WV b, WV a, FP m iv sq] (t_Add ofM add) := by
  have hm0 : 0 < m := by have := hF.1; omega
  have h := ha m iv sq (a % m) (b % m) hF.2.1 hF.sq_lt' (Nat.mod_lt _ hm0) (Nat.mod_lt _ hm0)
  have e : addM m (a % m) (b % m) = aAdd m a b := by unfold addM aAdd; rw [← Nat.add_mod]
  rw [e] at h
  refine d_cells rfl rfl rfl rfl (d_cells rfl rfl rfl rfl (d_op (v := WV a) ev_wl (d_call (ho m iv sq a hm0 hF.2.1 hF.sq_lt' h1) (fun h => by cases h) (d_op (v := WV b) ev_wl (d_call (ho m iv sq b hm0 hF.2.1 hF.sq_lt' h2) (fun h => by cases h) (d_call h (fun h => by cases h) ?_))))))
  exact d_cells rfl rfl rfl rfl (d_op ev_wl (d_ret rfl))
def t_Mul (ofM mul : FuncId) : T :=
 .node (.op (.cell 4 0) [.v 1]) <|
 .node (.op (.cell 4 1) [.v 1]) <|
 .node (.op (.cell 4 2) [.v 1]) <|
 .node (.op (.cell 4 3) [.v 1]) <|
 .node (.op (.cell 4 0) [.v 2]) <|
 .node (.op (.cell 4 1) [.v 2]) <|
 .node (.op (.cell 4 2) [.v 2]) <|
 .node (.op (.cell 4 3) [.v 2]) <|
 .node (.op .mkagg [.v 3, .v 4, .v 5, .v 6]) <|
 .node (.call ofM [.v 0, .v 11] false) <|
 .node (.op .mkagg [.v 7, .v 8, .v 9, .v 10]) <|
 .node (.call ofM [.v 0, .v 13] false) <|
 .node (.call mul [.v 0, .v 12, .v 14] false) <|
 .node (.op (.cell 4 0) [.v 15]) <|
 .node (.op (.cell 4 1) [.v 15]) <|
 .node (.op (.cell 4 2) [.v 15]) <|
 .node (.op (.cell 4 3) [.v 15]) <|
 .node (.op .mkagg [.v 16, .v 17, .v 18, .v 19]) <|
 .ret (.v 20)
theorem Mul_den {ofM mul : FuncId} (ho : OfMC P ofM) (ha : FmC P mul mulM) (hF : Fok m iv sq) (h1 : a < W256) (h2 : b < W256) : D P (fun e => e = .ret (WV (aMul m a b))) [] 3 [WV b, WV a, FP m iv sq] (t_Mul ofM mul) := by
  have hm0 : 0 < m := by have := hF.1; omega
  have h := ha m iv sq (a % m) (b % m) hF (Nat.mod_lt _ hm0) (Nat.mod_lt _ hm0)
  have e : mulM m (a % m) (b % m) = aMul m a b := by unfold mulM aMul; rw [← Nat.mul_mod]
  rw [e] at h
  refine d_cells rfl rfl rfl rfl (d_cells rfl rfl rfl rfl (d_op (v := WV a) ev_wl (d_call (ho m iv sq a hm0 hF.2.1 hF.sq_lt' h1) (fun h => by cases h) (d_op (v := WV b) ev_wl (d_call (ho m iv sq b hm0 hF.2.1 hF.sq_lt' h2) (fun h => by cases h) (d_call h (fun h => by cases h) ?_))))))
  exact d_cells rfl rfl rfl rfl (d_op ev_wl (d_ret rfl))
def t_Sub (ofM sub : FuncId) : T :=
 .node (.op (.cell 4 0) [.v 1]) <|
 .node (.op (.cell 4 1) [.v 1]) <|
 .node (.op (.cell 4 2) [.v 1]) <|
 .node (.op (.cell 4 3) [.v 1]) <|
 .node (.op (.cell 4 0) [.v 2]) <|
 .node (.op (.cell 4 1) [.v 2]) <|
 .node (.op (.cell 4 2) [.v 2]) <|
 .node (.op (.cell 4 3) [.v 2]) <|
 .node (.op .mkagg [.v 3, .v 4, .v 5, .v 6]) <|
 .node (.call ofM [.v 0, .v 11] false) <|
 .node (.op .mkagg [.v 7, .v 8, .v 9, .v 10]) <|
 .node (.call ofM [.v 0, .v 13] false) <|
 .node (.call sub [.v 0, .v 12, .v 14] false) <|
 .node (.op (.cell 4 0) [.v 15]) <|
 .node (.op (.cell 4 1) [.v 15]) <|
 .node (.op (.cell 4 2) [.v 15]) <|
 .node (.op (.cell 4 3) [.v 15]) <|
 .node (.op .mkagg [.v 16, .v 17, .v 18, .v 19]) <|
 .ret (.v 20)
theorem Sub_den {ofM sub : FuncId} (ho : OfMC P ofM) (ha : F2C P sub subM) (hF : Fok m iv sq) (h1 : a < W256) (h2 : b < W256) : D P (fun e => e = .ret (WV (aSub m a b))) [] 3 [WV b, WV a, FP m iv sq] (t_Sub ofM sub) := by
  have hm0 : 0 < m := by have := hF.1; omega
  have h := ha m iv sq (a % m) (b % m) hF.2.1 hF.sq_lt' (Nat.mod_lt _ hm0) (Nat.mod_lt _ hm0)
  refine d_cells rfl rfl rfl rfl (d_cells rfl rfl rfl rfl (d_op (v := WV a) ev_wl (d_call (ho m iv sq a hm0 hF.2.1 hF.sq_lt' h1) (fun h => by cases h) (d_op (v := WV b) ev_wl (d_call (ho m iv sq b hm0 hF.2.1 hF.sq_lt' h2) (fun h => by cases h) (d_call h (fun h => by cases h) ?_))))))
  exact d_cells rfl rfl rfl rfl (d_op ev_wl (d_ret rfl))
def t_Of (ofM : FuncId) : T :=
 .node (.op (.cell 4 0) [.v 1]) <|
 .node (.op (.cell 4 1) [.v 1]) <|
 .node (.op (.cell 4 2) [.v 1]) <|
 .node (.op (.cell 4 3) [.v 1]) <|
 .node (.op .mkagg [.v 2, .v 3, .v 4, .v 5]) <|
 .node (.call ofM [.v 0, .v 6] false) <|
 .node (.op (.cell 4 0) [.v 7]) <|
 .node (.op (.cell 4 1) [.v 7]) <|
 .node (.op (.cell 4 2) [.v 7]) <|
 .node (.op (.cell 4 3) [.v 7]) <|
 .node (.op .mkagg [.v 8, .v 9, .v 10, .v 11]) <|
 .ret (.v 12)
theorem Of_den {ofM : FuncId} (ho : OfMC P ofM) (hF : Fok m iv sq) (h1 : a < W256) : D P (fun e => e = .ret (WV (aOf m a))) [] 2 [WV a, FP m iv sq] (t_Of ofM) := by
  have hm0 : 0 < m := by have := hF.1; omega
  exact d_cells rfl rfl rfl rfl (d_op (v := WV a) ev_wl (d_call (ho m iv sq a hm0 hF.2.1 hF.sq_lt' h1) (fun h => by cases h) (d_cells rfl rfl rfl rfl (d_op ev_wl (d_ret rfl)))))
def t_Neg (ofM sub : FuncId) : T :=
 .node (.op (.cell 4 0) [.v 1]) <|
 .node (.op (.cell 4 1) [.v 1]) <|
 .node (.op (.cell 4 2) [.v 1]) <|
 .node (.op (.cell 4 3) [.v 1]) <|
 .node (.op .mkagg [.v 2, .v 3, .v 4, .v 5]) <|
 .node (.call ofM [.v 0, .v 6] false) <|
 .node (.call sub [.v 0, .c (.agg [.int .u64 0, .int .u64 0, .int .u64 0, .int .u64 0]), .v 7] false) <|
 .node (.op (.cell 4 0) [.v 8]) <|
 .node (.op (.cell 4 1) [.v 8]) <|
 .node (.op (.cell 4 2) [.v 8]) <|
 .node (.op (.cell 4 3) [.v 8]) <|
 .node (.op .mkagg [.v 9, .v 10, .v 11, .v 12]) <|
 .ret (.v 13)
theorem Neg_den {ofM sub : FuncId} (ho : OfMC P ofM) (ha : F2C P sub subM) (hF : Fok m iv sq) (h1 : a < W256) : D P (fun e => e = .ret (WV (aNeg m a))) [] 2 [WV a, FP m iv sq] (t_Neg ofM sub) := by
  have hm0 : 0 < m := by have := hF.1; omega
  have h := ha m iv sq 0 (a % m) hF.2.1 hF.sq_lt' hm0 (Nat.mod_lt _ hm0)
  refine d_cells rfl rfl rfl rfl (d_op (v := WV a) ev_wl (d_call (ho m iv sq a hm0 hF.2.1 hF.sq_lt' h1) (fun h => by cases h) (d_call h (fun h => by cases h) ?_)))
  exact d_cells rfl rfl rfl rfl (d_op ev_wl (d_ret rfl))
def invM (m a : Nat) : Nat := (a % m) ^ (m - 2) % m
def aInv (m a : Nat) : Nat × Bool := if a % m * invM m a % m = 1 then (invM m a, true) else (0, false)
def wb (p : Nat × Bool) : AV := .tup [WV p.1, .bool p.2]
def FInvC (P : Program) (f : FuncId) : Prop := ∀ m iv sq a, Fok m iv sq → 3 ≤ m → a < W256 → Ct P f [FP m iv sq, WV a] (fun e => e = .ret (wb (aInv m a)))
def t_Inv (ofM sub exp mul : FuncId) : T :=
 .node (.op (.cell 4 0) [.v 1]) <|
 .node (.op (.cell 4 1) [.v 1]) <|
 .node (.op (.cell 4 2) [.v 1]) <|
 .node (.op (.cell 4 3) [.v 1]) <|
 .node (.op .mkagg [.v 2, .v 3, .v 4, .v 5]) <|
 .node (.call ofM [.v 0, .v 6] false) <|
 .node (.op (.cell 4 0) [.v 7]) <|
 .node (.op (.cell 4 1) [.v 7]) <|
 .node (.op (.cell 4 2) [.v 7]) <|
 .node (.op (.cell 4 3) [.v 7]) <|
 .node (.op .nilchk [.v 0]) <|
 .node (.op (.roff 0) [.v 12]) <|
 .node (.op (.rld true 4) [.v 13]) <|
 .node (.call sub [.v 14, .c (.agg [.int .u64 2, .int .u64 0, .int .u64 0, .int .u64 0])] false) <|
 .node (.op .mkagg [.v 8, .v 9, .v 10, .v 11]) <|
 .node (.call exp [.v 0, .v 16, .v 15] false) <|
 .node (.op (.cell 4 0) [.v 17]) <|
 .node (.op (.cell 4 1) [.v 17]) <|
 .node (.op (.cell 4 2) [.v 17]) <|
 .node (.op (.cell 4 3) [.v 17]) <|
 .node (.op .mkagg [.v 8, .v 9, .v 10, .v 11]) <|
 .node (.op .mkagg [.v 18, .v 19, .v 20, .v 21]) <|
 .node (.call mul [.v 0, .v 22, .v 23] false) <|
 .node (.op (.eqv true [.int .u64, .int .u64, .int .u64, .int .u64]) [.v 24, .c (.agg [.int .u64 1, .int .u64 0, .int .u64 0, .int .u64 0])]) <|
 .br (.v 25) (
 .ret (.c (.tup [.agg [.int .u64 0, .int .u64 0, .int .u64 0, .int .u64 0], .bool false]))) (
 .node (.op .mkagg [.v 18, .v 19, .v 20, .v 21]) <|
 .node (.op .mktup [.v 26, .c (.bool true)]) <|
 .ret (.v 27))
theorem Inv_den {ofM sub exp mul : FuncId} (ho : OfMC P ofM) (hs : W2 P sub (fun a b => (a + W256 - b) % W256)) (he : FExpC P exp) (hmu : FmC P mul mulM) (hF : Fok m iv sq) (h3 : 3 ≤ m) (h1 : a < W256) :
    D P (fun e => e = .ret (wb (aInv m a))) [] 2 [WV a, FP m iv sq] (t_Inv ofM sub exp mul) := by
  have hm0 : 0 < m := by omega
  have hm := hF.2.1
  have hsub : Ct P sub [WV m, WV 2] (fun e => e = .ret (WV (m - 2))) := by
    have : Ct P sub [WV m, WV 2] (fun e => e = .ret (WV ((m + W256 - 2) % W256))) := hs m 2 hm (by decide)
    have e : (m + W256 - 2) % W256 = m - 2 := by unfold W256 at *; omega
    rwa [e] at this
  have hexp := he m iv sq (a % m) (m - 2) hF (Nat.mod_lt _ hm0) (by omega)
  have hx : invM m a < m := Nat.mod_lt _ hm0
  have hmul := hmu m iv sq (a % m) (invM m a) hF (Nat.mod_lt _ hm0) hx
  have hof := ho m iv sq a hm0 hm hF.sq_lt' h1
  have hne : evalO (.eqv true [.int .u64, .int .u64, .int .u64, .int .u64]) [WV (a % m * invM m a % m), .agg [.int .u64 1, .int .u64 0, .int .u64 0, .int .u64 0]] = some (.bool (decide (a % m * invM m a % m ≠ 1))) :=
    ev_wne (Nat.lt_trans (Nat.mod_lt _ hm0) hm) (b := 1) (by decide)
  obtain ⟨m0, m1, m2, m3, q0, q1, q2, q3, hm0', hm1, hm2, hm3, _, _, _, _, em, _, eF⟩ := FP_limbs (iv := iv) hm hF.sq_lt'
  have eM : WV m = WL m0 m1 m2 m3 := by rw [em, WV_eq hm0' hm1 hm2 hm3]
  rw [eF] at hexp hmul hof
  rw [eM] at hsub
  rw [eF]
  refine d_cells rfl rfl rfl rfl (d_op (v := WV a) ev_wl (d_call hof (fun h => by cases h) (d_cells rfl rfl rfl rfl ?_)))
  refine d_op ev_fnil (d_op ev_froff (d_op ev_frldm (d_call hsub (fun h => by cases h) (d_op (v := WV (a % m)) ev_wl (d_call hexp (fun h => by cases h) ?_)))))
  refine d_cells rfl rfl rfl rfl (d_op (v := WV (a % m)) ev_wl (d_op (v := WV (invM m a)) ev_wl (d_call hmul (fun h => by cases h) (d_op hne ?_))))
  unfold aInv
  refine d_if rfl (fun h => ?_) (fun h => ?_)
  · rw [if_neg h]; exact d_ret rfl
  · rw [if_pos (Classical.byContradiction fun hn => h hn)]
    exact d_op (v := WV (invM m a)) ev_wl (d_op ev_mktup (d_ret rfl))
def t_at : T :=
 .node (.op (.bin .geq) [.v 0, .c (.int .i64 4)]) <|
 .br (.v 3) (
 .node (.op (.rld false 1) [.v 1]) <|
 .ret (.v 4)) (
 .node (.op (.ridx 4 1) [.v 2, .v 0]) <|
 .node (.op (.rld false 1) [.v 4]) <|
 .ret (.v 5))
theorem at_den {i a0 a1 a2 a3 : Nat} : D P (fun e => e = .ret (.int .u64 (([a0, a1, a2, a3].getD i 0 : Nat) : Int))) [] 3 [.rp [.int .u64 (a0 : Int), .int .u64 (a1 : Int), .int .u64 (a2 : Int), .int .u64 (a3 : Int)], .rp [.int .u64 0], .int .i64 (i : Int)] t_at := by
  refine d_op ev_geq (d_if rfl (fun h => ?_) (fun h => ?_))
  · refine d_op (ev_rld1 rfl) (d_ret ?_)
    have : [a0, a1, a2, a3].getD i 0 = 0 := getD_ge (by simp; omega)
    rw [this]; rfl
  · match i, h with
    | 0, _ => exact d_op (v := .rp _) rfl (d_op (ev_rld1 rfl) (d_ret rfl))
    | 1, _ => exact d_op (v := .rp _) rfl (d_op (ev_rld1 rfl) (d_ret rfl))
    | 2, _ => exact d_op (v := .rp _) rfl (d_op (ev_rld1 rfl) (d_ret rfl))
    | 3, _ => exact d_op (v := .rp _) rfl (d_op (ev_rld1 rfl) (d_ret rfl))
    | n + 4, h => exact absurd (by omega) h
end
end Go.SE
set_option autoImplicit false
set_option maxRecDepth 4000
set_option maxHeartbeats 2000000
set_option exponentiation.threshold 5000
namespace Go.SE
open Go
variable {P : Program} {R : AEnd → Prop}
def WW (a b : Nat) : AV := .agg [.int .u64 ((a % 18446744073709551616 : Nat) : Int), .int .u64 ((a / 18446744073709551616 % 18446744073709551616 : Nat) : Int), .int .u64 ((a / 340282366920938463463374607431768211456 % 18446744073709551616 : Nat) : Int), .int .u64 ((a / 6277101735386680763835789423207666416102355444464034512896 % 18446744073709551616 : Nat) : Int),
  .int .u64 ((b % 18446744073709551616 : Nat) : Int), .int .u64 ((b / 18446744073709551616 % 18446744073709551616 : Nat) : Int), .int .u64 ((b / 340282366920938463463374607431768211456 % 18446744073709551616 : Nat) : Int), .int .u64 ((b / 6277101735386680763835789423207666416102355444464034512896 % 18446744073709551616 : Nat) : Int)]
end Go.SE
