/- Nothing of the statement is proved here: this text lays generic laws: FY; no conditions. -/
import Derived.Test.YtomjfjncfodmhaaFQ
import Derived.Test.YtomjfjncfodmhaaPR
set_option linter.all false
set_option autoImplicit false
set_option maxRecDepth 8000
set_option maxHeartbeats 4000000
set_option exponentiation.threshold 5000
namespace Go.SE
open Go
variable {P : Program} {R : AEnd → Prop}
def BitC (P : Program) (f : FuncId) : Prop := ∀ e i : Nat, e < W256 → i < 256 → Ct P f [WV e, .int .i64 (i : Int)] (fun r => r = .ret (.int .u64 ((e / 2 ^ i % 2 : Nat) : Int)))
def t_rbit : T :=
 .node (.op (.cell 4 0) [.v 0]) <|
 .node (.op (.cell 4 1) [.v 0]) <|
 .node (.op (.cell 4 2) [.v 0]) <|
 .node (.op (.cell 4 3) [.v 0]) <|
 .node (.op (.bin .quo) [.v 1, .c (.int .i64 64)]) <|
 .node (.op .chki [.v 6, .c (.int .i64 4)]) <|
 .node (.op (.ofs 1) [.c (.int .i64 0), .v 6]) <|
 .node (.op .mklst [.v 2, .v 3, .v 4, .v 5]) <|
 .node (.op (.lget false 1) [.v 9, .v 8]) <|
 .node (.op (.bin .rem) [.v 1, .c (.int .i64 64)]) <|
 .node (.op (.cvt .u64) [.v 11]) <|
 .node (.op (.bin .shr) [.v 10, .v 12]) <|
 .node (.op (.bin .and) [.v 13, .c (.int .u64 1)]) <|
 .ret (.v 14)
theorem rbit_den {e i : Nat} (he : e < W256) (hi : i < 256) : D P (fun r => r = .ret (.int .u64 ((e / 2 ^ i % 2 : Nat) : Int))) [] 2 [.int .i64 (i : Int), WV e] t_rbit := by
  obtain ⟨e0, e1, e2, e3, he0, he1, he2, he3, eE, ee⟩ := WV_limbs he
  have hL : LtAll B64 [e0, e1, e2, e3] := mem4 he0 he1 he2 he3
  have hq : (i : Int) / 64 = ((i / 64 : Nat) : Int) := by omega
  obtain ⟨x, ex⟩ : ∃ x, x = [e0, e1, e2, e3].getD (i / 64) 0 := ⟨_, rfl⟩
  have hx : x < 18446744073709551616 := ex ▸ hL.getD (by decide) _
  have hbit : x / 2 ^ (i % 64) % 2 = e / 2 ^ i % 2 := by rw [ex, ee, ← val4]; exact bit_of64 hL i
  rw [← hbit, eE]
  refine d_cells rfl rfl rfl rfl (d_op (ev_quo (by omega) (by omega) (by constructor <;> omega)) ?_)
  rw [hq]
  refine d_op (ev_chki (n := 4) (by omega) (by omega) rfl) (d_op (ev_ofs (o := 0) rfl rfl) (d_op (v := .lst (CN .u64 [e0, e1, e2, e3])) rfl (d_op (ev_lgetN' (i := i / 64) (by simp) (by simp; omega) ex.symm) ?_)))
  refine d_op (ev_rem (by omega) (by omega)) (d_op (ev_cvt (by constructor <;> omega)) (d_op (ev_shr (y := i % 64) (by omega) (by show _ ≤ 64; omega) rfl) ?_))
  have hxs : x / 2 ^ (i % 64) ≤ x := Nat.div_le_self _ _
  generalize x / 2 ^ (i % 64) = xx at *
  have hxx : xx < 18446744073709551616 := by clear hbit; omega
  refine d_op (ev_and (by clear hbit; constructor <;> omega) (y := 1) (by decide)) ?_
  rw [Nat.and_one_is_mod]
  exact d_ret rfl
theorem montS_sqR {m a : Nat} (hm : m % 2 = 1) : montS m a (W256 * W256 % m) = monM m a := by
  unfold montS monM
  have : a * (W256 * W256 % m) * rinv m % m = a * (W256 * W256) * rinv m % m := by
    rw [Nat.mul_mod, Nat.mul_mod a, Nat.mod_mod, ← Nat.mul_mod a, ← Nat.mul_mod]
  rw [this]
  have : a * (W256 * W256) * rinv m = a * W256 * (W256 * rinv m) := by grind
  rw [this, Nat.mul_mod, rinv_spec hm, ← Nat.mul_mod, Nat.mul_one]
def RExpC (P : Program) (f : FuncId) : Prop := ∀ m low sq a e, Rok m low sq → a < m → e < W256 → Ct P f [RP m low sq, WV a, WV e] (fun r => r = .ret (WV (a ^ e % m)))
def t_rfexp (ofM mont bit : FuncId) : T :=
 .node (.op (.cell 4 0) [.v 1]) <|
 .node (.op (.cell 4 1) [.v 1]) <|
 .node (.op (.cell 4 2) [.v 1]) <|
 .node (.op (.cell 4 3) [.v 1]) <|
 .node (.op (.cell 4 0) [.v 2]) <|
 .node (.op (.cell 4 1) [.v 2]) <|
 .node (.op (.cell 4 2) [.v 2]) <|
 .node (.op (.cell 4 3) [.v 2]) <|
 .node (.call ofM [.v 0, .c (.agg [.int .u64 1, .int .u64 0, .int .u64 0, .int .u64 0])] false) <|
 .node (.op (.cell 4 0) [.v 11]) <|
 .node (.op (.cell 4 1) [.v 11]) <|
 .node (.op (.cell 4 2) [.v 11]) <|
 .node (.op (.cell 4 3) [.v 11]) <|
 .node (.op .nilchk [.v 0]) <|
 .node (.op (.roff 13) [.v 16]) <|
 .node (.op (.rld true 4) [.v 17]) <|
 .node (.op .mkagg [.v 12, .v 13, .v 14, .v 15]) <|
 .node (.call mont [.v 0, .v 19, .v 18] false) <|
 .node (.op .nilchk [.v 0]) <|
 .node (.op (.roff 13) [.v 21]) <|
 .node (.op (.rld true 4) [.v 22]) <|
 .node (.op .mkagg [.v 3, .v 4, .v 5, .v 6]) <|
 .node (.call mont [.v 0, .v 24, .v 23] false) <|
 .node (.op (.cell 4 0) [.v 20]) <|
 .node (.op (.cell 4 1) [.v 20]) <|
 .node (.op (.cell 4 2) [.v 20]) <|
 .node (.op (.cell 4 3) [.v 20]) <|
 .node (.op (.cell 4 0) [.v 25]) <|
 .node (.op (.cell 4 1) [.v 25]) <|
 .node (.op (.cell 4 2) [.v 25]) <|
 .node (.op (.cell 4 3) [.v 25]) <|
 .loop [.c (.int .i64 255), .v 26, .v 27, .v 28, .v 29] [true, true, true, true, true] <|
 .node (.op (.bin .geq) [.v 34, .c (.int .i64 0)]) <|
 .br (.v 39) (
 .node (.op .mkagg [.v 35, .v 36, .v 37, .v 38]) <|
 .node (.op .mkagg [.v 35, .v 36, .v 37, .v 38]) <|
 .node (.call mont [.v 0, .v 40, .v 41] false) <|
 .node (.op (.cell 4 0) [.v 42]) <|
 .node (.op (.cell 4 1) [.v 42]) <|
 .node (.op (.cell 4 2) [.v 42]) <|
 .node (.op (.cell 4 3) [.v 42]) <|
 .node (.op .mkagg [.v 7, .v 8, .v 9, .v 10]) <|
 .node (.call bit [.v 47, .v 34] true) <|
 .node (.op (.bin .eql) [.v 48, .c (.int .u64 1)]) <|
 .br (.v 49) (
 .node (.op .mkagg [.v 43, .v 44, .v 45, .v 46]) <|
 .node (.op .mkagg [.v 30, .v 31, .v 32, .v 33]) <|
 .node (.call mont [.v 0, .v 50, .v 51] false) <|
 .node (.op (.cell 4 0) [.v 52]) <|
 .node (.op (.cell 4 1) [.v 52]) <|
 .node (.op (.cell 4 2) [.v 52]) <|
 .node (.op (.cell 4 3) [.v 52]) <|
 .node (.op (.bin .sub) [.v 34, .c (.int .i64 1)]) <|
 .back 0 [.v 57, .v 53, .v 54, .v 55, .v 56]) (
 .node (.op (.bin .sub) [.v 34, .c (.int .i64 1)]) <|
 .back 0 [.v 50, .v 43, .v 44, .v 45, .v 46])) (
 .node (.op .mkagg [.v 35, .v 36, .v 37, .v 38]) <|
 .node (.op .mkagg [.v 12, .v 13, .v 14, .v 15]) <|
 .node (.call mont [.v 0, .v 40, .v 41] false) <|
 .node (.op (.cell 4 0) [.v 42]) <|
 .node (.op (.cell 4 1) [.v 42]) <|
 .node (.op (.cell 4 2) [.v 42]) <|
 .node (.op (.cell 4 3) [.v 42]) <|
 .node (.op .mkagg [.v 43, .v 44, .v 45, .v 46]) <|
 .ret (.v 47))
theorem rfexp_den {ofM mont bit : FuncId} {m low sq a e : Nat} (hof : ROfC P ofM) (hmo : RCutC P mont) (hbt : BitC P bit) (hF : Rok m low sq) (ha : a < m) (he : e < W256) :
    D P (fun r => r = .ret (WV (a ^ e % m))) [] 3 [WV e, WV a, RP m low sq] (t_rfexp ofM mont bit) := by
  have hm := hF.2.1
  have hodd := hF.1
  have hm0 : 0 < m := by omega
  have lt : ∀ x, x % m < W256 := fun x => Nat.lt_trans (Nat.mod_lt _ hm0) hm
  have ltM : ∀ x, monM m x < W256 := fun x => lt _
  have esq := hF.2.2.2.2
  have h1 := hof m low sq 1 hm0 hm hF.sq_lt' (by decide)
  have hM1 := hmo m low sq (1 % m) sq hF (Nat.mod_lt _ hm0) hF.sq_lt'
  have hMa := hmo m low sq a sq hF ha hF.sq_lt'
  rw [show montS m (1 % m) sq = monM m 1 by rw [esq, montS_sqR hodd, monM_mod]] at hM1
  rw [show montS m a sq = monM m a by rw [esq, montS_sqR hodd]] at hMa
  obtain ⟨m0, m1, m2, m3, p0, p1, p2, p3, p4, p5, p6, p7, q0, q1, q2, q3, ep, eM, eS, eF⟩ := RP_parts (low := low) hm hF.sq_lt'
  obtain ⟨a0, a1, a2, a3, eA⟩ := WV_parts (Nat.lt_trans ha hm)
  obtain ⟨e0, e1, e2, e3, eE⟩ := WV_parts he
  obtain ⟨o0, o1, o2, o3, eO⟩ := WV_parts (lt 1)
  obtain ⟨n0, n1, n2, n3, eN⟩ := WV_parts (ltM a)
  obtain ⟨F, eF'⟩ : ∃ F, F = AV.rp (CN .u64 [m0, m1, m2, m3, p0, p1, p2, p3, p4, p5, p6, p7, low, q0, q1, q2, q3]) := ⟨_, rfl⟩
  have k1 : evalO .nilchk [F] = some F := by rw [eF']; rfl
  have k2 : evalO (.roff 13) [F] = some (.rp (CN .u64 [q0, q1, q2, q3])) := by rw [eF']; rfl
  have k3 : evalO (.rld true 4) [.rp (CN .u64 [q0, q1, q2, q3])] = some (WL q0 q1 q2 q3) := rfl
  rw [← eF'] at eF
  have hsq : ∀ x, Ct P mont [F, WV (monM m x), WV (monM m x)] (fun r => r = .ret (WV (monM m (x * x)))) := fun x => by
    have := hmo m low sq (monM m x) (monM m x) hF (monM_lt hm0) (ltM x)
    rwa [montS_mon hodd, eF] at this
  have hmu : ∀ x, Ct P mont [F, WV (monM m x), WL n0 n1 n2 n3] (fun r => r = .ret (WV (monM m (x * a)))) := fun x => by
    have := hmo m low sq (monM m x) (monM m a) hF (monM_lt hm0) (ltM a)
    rwa [montS_mon hodd, eF, eN] at this
  have hou : ∀ x, Ct P mont [F, WV (monM m x), WL o0 o1 o2 o3] (fun r => r = .ret (WV (x % m))) := fun x => by
    have := hmo m low sq (monM m x) (1 % m) hF (monM_lt hm0) (lt 1)
    rwa [montS_one hodd, eF, eO] at this
  have hbit : ∀ i : Nat, i < 256 → Ct P bit [WL e0 e1 e2 e3, .int .i64 (i : Int)] (fun r => r = .ret (.int .u64 ((e / 2 ^ i % 2 : Nat) : Int))) := fun i hi => by
    have := hbt e i he hi
    rwa [eE] at this
  rw [eF, eO] at h1
  rw [eF, eO, eS] at hM1
  rw [eF, eA, eS, eN] at hMa
  rw [eF, eA, eE]
  clear eF'
  refine d_cells rfl rfl rfl rfl (d_cells rfl rfl rfl rfl (d_call h1 (fun h => by cases h) (d_cells rfl rfl rfl rfl ?_)))
  refine d_op k1 (d_op k2 (d_op k3 (d_op ev_wl (d_call hM1 (fun h => by cases h) ?_))))
  refine d_op k1 (d_op k2 (d_op k3 (d_op ev_wl (d_call hMa (fun h => by cases h) ?_))))
  refine d_cells rfl rfl rfl rfl (d_cells rfl rfl rfl rfl ?_)
  refine d_while (fun j : Nat => [.int .i64 ((j : Int) - 1), .int .u64 ((monM m (a ^ (e / 2 ^ j)) % 18446744073709551616 : Nat) : Int), .int .u64 ((monM m (a ^ (e / 2 ^ j)) / 18446744073709551616 % 18446744073709551616 : Nat) : Int),
      .int .u64 ((monM m (a ^ (e / 2 ^ j)) / 340282366920938463463374607431768211456 % 18446744073709551616 : Nat) : Int), .int .u64 ((monM m (a ^ (e / 2 ^ j)) / 6277101735386680763835789423207666416102355444464034512896 % 18446744073709551616 : Nat) : Int)])
    (fun j => j ≤ 256) (fun j => j) 256 (Nat.le_refl _) ?_ ?_
  · have hz : e / 2 ^ 256 = 0 := Nat.div_eq_of_lt he
    rw [hz, Nat.pow_zero]
    rfl
  · intro j hj
    refine d_op ev_geq (d_if rfl (fun g1 => ?_) (fun g1 => ?_))
    · obtain ⟨i, rfl⟩ : ∃ i, j = i + 1 := ⟨j - 1, by omega⟩
      have ei : ((i + 1 : Nat) : Int) - 1 = (i : Int) := by omega
      rw [ei]
      have hb := hbit i (by omega)
      have hpb := pow_bit (a := a) (e := e) (i := i)
      generalize a ^ (e / 2 ^ (i + 1)) = y at *
      refine d_op (v := WV (monM m y)) ev_wl (d_op (v := WV (monM m y)) ev_wl (d_call (hsq y) (fun h => by cases h) (d_cells rfl rfl rfl rfl ?_)))
      refine d_op (v := WL e0 e1 e2 e3) ev_wl (d_call hb (fun _ => rfl) (d_op ev_eql (d_if rfl (fun g2 => ?_) (fun g2 => ?_))))
      · rw [if_pos (by omega)] at hpb
        refine d_op (v := WV (monM m (y * y))) ev_wl (d_op ev_wl (d_call (hmu (y * y)) (fun h => by cases h) (d_cells rfl rfl rfl rfl (d_op (ev_sub (by constructor <;> omega)) ?_))))
        exact d_back rfl ⟨i, by rw [hpb]; rfl, by omega, by omega⟩
      · rw [if_neg (by omega)] at hpb
        exact d_op (ev_sub (by constructor <;> omega)) (d_back rfl ⟨i, by rw [hpb]; rfl, by omega, by omega⟩)
    · have : j = 0 := by omega
      subst this
      have := hou (a ^ e)
      refine d_op (v := WV (monM m (a ^ (e / 2 ^ 0)))) ev_wl (d_op (v := WL o0 o1 o2 o3) ev_wl ?_)
      rw [Nat.pow_zero, Nat.div_one]
      exact d_call this (fun h => by cases h) (d_cells rfl rfl rfl rfl (d_op (v := WV (a ^ e % m)) ev_wl (d_ret rfl)))
def RInvC (P : Program) (f : FuncId) : Prop := ∀ m low sq a, Rok m low sq → 3 ≤ m → a < m → Ct P f [RP m low sq, WV a] (fun r => r = .ret (wb (aInv m a)))
def t_rfinv (minus exp mul : FuncId) : T :=
 .node (.op (.cell 4 0) [.v 1]) <|
 .node (.op (.cell 4 1) [.v 1]) <|
 .node (.op (.cell 4 2) [.v 1]) <|
 .node (.op (.cell 4 3) [.v 1]) <|
 .node (.op .nilchk [.v 0]) <|
 .node (.op (.roff 0) [.v 6]) <|
 .node (.op (.rld true 4) [.v 7]) <|
 .node (.call minus [.v 8, .c (.agg [.int .u64 2, .int .u64 0, .int .u64 0, .int .u64 0])] false) <|
 .node (.op .mkagg [.v 2, .v 3, .v 4, .v 5]) <|
 .node (.call exp [.v 0, .v 10, .v 9] false) <|
 .node (.op (.cell 4 0) [.v 11]) <|
 .node (.op (.cell 4 1) [.v 11]) <|
 .node (.op (.cell 4 2) [.v 11]) <|
 .node (.op (.cell 4 3) [.v 11]) <|
 .node (.op .mkagg [.v 2, .v 3, .v 4, .v 5]) <|
 .node (.op .mkagg [.v 12, .v 13, .v 14, .v 15]) <|
 .node (.call mul [.v 0, .v 16, .v 17] false) <|
 .node (.op (.eqv true [.int .u64, .int .u64, .int .u64, .int .u64]) [.v 18, .c (.agg [.int .u64 1, .int .u64 0, .int .u64 0, .int .u64 0])]) <|
 .br (.v 19) (
 .ret (.c (.tup [.agg [.int .u64 0, .int .u64 0, .int .u64 0, .int .u64 0], .bool false]))) (
 .node (.op .mkagg [.v 12, .v 13, .v 14, .v 15]) <|
 .node (.op .mktup [.v 20, .c (.bool true)]) <|
 .ret (.v 21))
theorem rfinv_den {minus exp mul : FuncId} {m low sq a : Nat} (hmi : W2 P minus (fun a b => (a + W256 - b) % W256)) (hex : RExpC P exp) (hmu : RMulC P mul mulM) (hF : Rok m low sq) (h3 : 3 ≤ m) (ha : a < m) :
    D P (fun r => r = .ret (wb (aInv m a))) [] 2 [WV a, RP m low sq] (t_rfinv minus exp mul) := by
  have hm := hF.2.1
  have hm0 : 0 < m := by omega
  have haW := Nat.lt_trans ha hm
  have hi : invM m a < m := Nat.mod_lt _ hm0
  have ham : a % m = a := Nat.mod_eq_of_lt ha
  have c1 : Ct P minus [WV m, WV 2] (fun e => e = .ret (WV (m - 2))) := by
    have := hmi m 2 hm (by decide)
    have e : (m + W256 - 2) % W256 = m - 2 := by unfold W256 at *; omega
    dsimp only at this
    rwa [e] at this
  have c2 := hex m low sq a (m - 2) hF ha (by unfold W256 at *; omega)
  have e2 : a ^ (m - 2) % m = invM m a := by unfold invM; rw [ham]
  rw [e2] at c2
  have c3 := hmu m low sq a (invM m a) hF ha hi
  have e3 : mulM m a (invM m a) = a % m * invM m a % m := by rw [ham]; rfl
  rw [e3] at c3
  have hlt : a % m * invM m a % m < W256 := Nat.lt_trans (Nat.mod_lt _ hm0) hm
  have hneq := ev_wne hlt (b := 1) (by decide)
  unfold aInv
  generalize a % m * invM m a % m = y at *
  obtain ⟨m0, m1, m2, m3, p0, p1, p2, p3, p4, p5, p6, p7, q0, q1, q2, q3, ep, eM, eS, eF⟩ := RP_parts (low := low) hm hF.sq_lt'
  obtain ⟨F, eF'⟩ : ∃ F, F = AV.rp (CN .u64 [m0, m1, m2, m3, p0, p1, p2, p3, p4, p5, p6, p7, low, q0, q1, q2, q3]) := ⟨_, rfl⟩
  have k1 : evalO .nilchk [F] = some F := by rw [eF']; rfl
  have k2 : evalO (.roff 0) [F] = some F := by rw [eF']; rfl
  have k3 : evalO (.rld true 4) [F] = some (WV m) := by rw [eF', eM]; rfl
  rw [eF, ← eF'] at c2 c3
  rw [eF, ← eF']
  clear eF' eF
  refine d_cells rfl rfl rfl rfl (d_op k1 (d_op k2 (d_op k3 (d_call c1 (fun h => by cases h) ?_))))
  refine d_op (v := WV a) ev_wl (d_call c2 (fun h => by cases h) (d_cells rfl rfl rfl rfl ?_))
  refine d_op (v := WV a) ev_wl (d_op (v := WV (invM m a)) ev_wl (d_call c3 (fun h => by cases h) (d_op hneq (d_if rfl (fun h => ?_) (fun h => ?_)))))
  · rw [if_neg h]; exact d_ret rfl
  · rw [if_pos (by omega)]; exact d_op (v := WV (invM m a)) ev_wl (d_op ev_mktup (d_ret rfl))
end Go.SE
