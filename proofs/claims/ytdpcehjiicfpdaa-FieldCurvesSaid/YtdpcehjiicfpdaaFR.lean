/- Nothing of the statement is proved here: this text lays generic laws: FR; no conditions. -/
import Derived.Test.YtdpcehjiicfpdaaFQ
set_option linter.all false
set_option autoImplicit false
set_option maxRecDepth 4000
set_option maxHeartbeats 4000000
set_option exponentiation.threshold 5000
namespace Go.SE
open Go
variable {P : Program} {R : AEnd → Prop}
def rcells (m low sq : Nat) : List AV := CN .u64 (fdigs B64 4 m ++ (fdigs b32 8 m ++ ([low] ++ fdigs B64 4 sq)))
theorem RP_cells (m low sq : Nat) : RP m low sq = .rp (rcells m low sq) := rfl
theorem rcells_parts {m low sq : Nat} (hm : m < W256) (hs : sq < W256) : ∃ m0 m1 m2 m3 p0 p1 p2 p3 p4 p5 p6 p7 s0 s1 s2 s3,
    fdigs b32 8 m = [p0, p1, p2, p3, p4, p5, p6, p7] ∧ WV m = WL m0 m1 m2 m3 ∧ WV sq = WL s0 s1 s2 s3 ∧
    rcells m low sq = CN .u64 [m0, m1, m2, m3, p0, p1, p2, p3, p4, p5, p6, p7, low, s0, s1, s2, s3] := by
  obtain ⟨m0, m1, m2, m3, p0, p1, p2, p3, p4, p5, p6, p7, s0, s1, s2, s3, h1, h2, h3, h4⟩ := RP_parts (low := low) hm hs
  rw [RP_cells] at h4
  injection h4 with h4
  exact ⟨m0, m1, m2, m3, p0, p1, p2, p3, p4, p5, p6, p7, s0, s1, s2, s3, h1, h2, h3, h4⟩
theorem WV_parts {a : Nat} (h : a < W256) : ∃ a0 a1 a2 a3, WV a = WL a0 a1 a2 a3 := by
  obtain ⟨a0, a1, a2, a3, _, _, _, _, e, _⟩ := WV_limbs h
  exact ⟨a0, a1, a2, a3, e⟩
def R2H (P : Program) (f : FuncId) (s : Nat → Nat → Nat → Nat) : Prop := ∀ m low sq a b, m < W256 → sq < W256 → a < m → b < m →
  CtH P f [.ptr 0 (.int .i64 0), .val (WV a), .val (WV b)] [.lst (rcells m low sq)] ⟨false, [.val false], 1⟩ (fun e => e = .ret (.tup [WV (s m a b), .lst (rcells m low sq)]))
section
variable {m low sq a b : Nat}
def t_rfaddH (plus minus more : FuncId) : T :=
 .node (.op (.cell 4 0) [.v 1]) <|
 .node (.op (.cell 4 1) [.v 1]) <|
 .node (.op (.cell 4 2) [.v 1]) <|
 .node (.op (.cell 4 3) [.v 1]) <|
 .node (.op (.cell 4 0) [.v 2]) <|
 .node (.op (.cell 4 1) [.v 2]) <|
 .node (.op (.cell 4 2) [.v 2]) <|
 .node (.op (.cell 4 3) [.v 2]) <|
 .node (.op .mkagg [.v 3, .v 4, .v 5, .v 6]) <|
 .node (.op .mkagg [.v 7, .v 8, .v 9, .v 10]) <|
 .node (.call plus [.v 11, .v 12] false) <|
 .node (.op (.ext 0 false) [.v 13]) <|
 .node (.op (.ext 1 true) [.v 13]) <|
 .node (.op (.cell 4 0) [.v 14]) <|
 .node (.op (.cell 4 1) [.v 14]) <|
 .node (.op (.cell 4 2) [.v 14]) <|
 .node (.op (.cell 4 3) [.v 14]) <|
 .br (.v 15) (
 .node (.op (.lget true 4) [.v 0, .c (.int .i64 0)]) <|
 .node (.op .mkagg [.v 16, .v 17, .v 18, .v 19]) <|
 .node (.call minus [.v 21, .v 20] false) <|
 .node (.op (.cell 4 0) [.v 22]) <|
 .node (.op (.cell 4 1) [.v 22]) <|
 .node (.op (.cell 4 2) [.v 22]) <|
 .node (.op (.cell 4 3) [.v 22]) <|
 .node (.op .mkagg [.v 23, .v 24, .v 25, .v 26]) <|
 .node (.op .mktup [.v 27, .v 0]) <|
 .ret (.v 28)) (
 .node (.op (.lget true 4) [.v 0, .c (.int .i64 0)]) <|
 .node (.op .mkagg [.v 16, .v 17, .v 18, .v 19]) <|
 .node (.call more [.v 21, .v 20] true) <|
 .br (.v 22) (
 .node (.op (.lget true 4) [.v 0, .c (.int .i64 0)]) <|
 .node (.op .mkagg [.v 16, .v 17, .v 18, .v 19]) <|
 .node (.call minus [.v 24, .v 23] false) <|
 .node (.op (.cell 4 0) [.v 25]) <|
 .node (.op (.cell 4 1) [.v 25]) <|
 .node (.op (.cell 4 2) [.v 25]) <|
 .node (.op (.cell 4 3) [.v 25]) <|
 .node (.op .mkagg [.v 26, .v 27, .v 28, .v 29]) <|
 .node (.op .mktup [.v 30, .v 0]) <|
 .ret (.v 31)) (
 .node (.op .mkagg [.v 16, .v 17, .v 18, .v 19]) <|
 .node (.op .mktup [.v 23, .v 0]) <|
 .ret (.v 24)))
theorem rfaddH_den {plus minus more : FuncId} (hp : RPlusC P plus) (hmi : W2 P minus (fun a b => (a + W256 - b) % W256)) (hmo : RMoreC P more) (hm : m < W256) (hsq : sq < W256) (ha : a < m) (hb : b < m) :
    D P (fun e => e = .ret (.tup [WV (addM m a b), .lst (rcells m low sq)])) [] 3 [WV b, WV a, .lst (rcells m low sq)] (t_rfaddH plus minus more) := by
  have haW : a < W256 := Nat.lt_trans ha hm
  have hbW : b < W256 := Nat.lt_trans hb hm
  obtain ⟨m0, m1, m2, m3, p0, p1, p2, p3, p4, p5, p6, p7, s0, s1, s2, s3, ep, eM, eS, eR⟩ := rcells_parts (low := low) hm hsq
  obtain ⟨a0, a1, a2, a3, eA⟩ := WV_parts haW
  obtain ⟨b0, b1, b2, b3, eB⟩ := WV_parts hbW
  have hr : (a + b) % W256 < W256 := Nat.mod_lt _ (by decide)
  obtain ⟨r0, r1, r2, r3, eR'⟩ := WV_parts hr
  obtain ⟨u0, u1, u2, u3, eU⟩ := WV_parts (show ((a + b) % W256 + W256 - m) % W256 < W256 from Nat.mod_lt _ (by decide))
  have hplus := hp a b haW hbW
  have hmin := hmi _ m hr hm
  have hmor := hmo _ m hr hm
  rw [eA, eB, eR'] at hplus
  have hsub : m ≤ a + b → WV (((a + b) % W256 + W256 - m) % W256) = WV (addM m a b) := fun h => by
    congr 1
    have h5 : addM m a b = a + b - m := by unfold addM; rw [mod_two (by omega), if_neg (by omega)]
    rw [h5]; unfold W256 at *; omega
  dsimp only at hmin
  rw [eR', eM] at hmor
  rw [eR', eM, eU] at hmin
  rw [eU] at hsub
  rw [eA, eB, eR]
  refine d_cells rfl rfl rfl rfl (d_cells rfl rfl rfl rfl (d_op (v := WL a0 a1 a2 a3) ev_wl (d_op (v := WL b0 b1 b2 b3) ev_wl (d_call hplus (fun h => by cases h) ?_))))
  refine d_op (v := WL r0 r1 r2 r3) (ev_ext rfl (fun h => by cases h)) (d_op (ev_ext rfl (fun _ => rfl)) (d_cells rfl rfl rfl rfl (d_if rfl (fun h => ?_) (fun h => ?_))))
  · refine d_op (v := WL m0 m1 m2 m3) rfl ?_
    refine d_op (v := WL r0 r1 r2 r3) ev_wl (d_call hmin (fun h => by cases h) (d_cells rfl rfl rfl rfl (d_op (v := WL u0 u1 u2 u3) ev_wl (d_op ev_mktup (d_ret ?_)))))
    rw [← hsub (by omega)]; rfl
  · refine d_op (v := WL m0 m1 m2 m3) rfl ?_
    have hlt : (a + b) % W256 = a + b := Nat.mod_eq_of_lt (by omega)
    refine d_op (v := WL r0 r1 r2 r3) ev_wl (d_call hmor (fun _ => rfl) (d_if rfl (fun h4 => ?_) (fun h4 => ?_)))
    · refine d_op (v := WL m0 m1 m2 m3) rfl ?_
      refine d_op (v := WL r0 r1 r2 r3) ev_wl (d_call hmin (fun h => by cases h) (d_cells rfl rfl rfl rfl (d_op (v := WL u0 u1 u2 u3) ev_wl (d_op ev_mktup (d_ret ?_)))))
      rw [← hsub (by omega)]; rfl
    · refine d_op (v := WL r0 r1 r2 r3) ev_wl (d_op ev_mktup (d_ret ?_))
      have : WV (addM m a b) = WL r0 r1 r2 r3 := by rw [← eR']; unfold addM; rw [hlt, Nat.mod_eq_of_lt (show a + b < m by omega)]
      rw [this]; rfl
theorem mont_sqR {m a b : Nat} (hm : m % 2 = 1) : montS m (montS m a (W256 * W256 % m)) b = a * b % m := by
  have h := rinv_spec hm
  unfold montS
  have e1 : a * (W256 * W256 % m) * rinv m % m = a * W256 % m := by
    have : a * (W256 * W256 % m) * rinv m % m = a * (W256 * W256) * rinv m % m := by
      rw [Nat.mul_mod, Nat.mul_mod a, Nat.mod_mod, ← Nat.mul_mod a, ← Nat.mul_mod]
    rw [this]
    have : a * (W256 * W256) * rinv m = a * W256 * (W256 * rinv m) := by grind
    rw [this, Nat.mul_mod, h, ← Nat.mul_mod, Nat.mul_one]
  rw [e1]
  have e2 : a * W256 % m * b * rinv m % m = a * W256 * b * rinv m % m := by
    rw [Nat.mul_mod, Nat.mul_mod (a * W256 % m), Nat.mod_mod, ← Nat.mul_mod (a * W256), ← Nat.mul_mod]
  rw [e2]
  have : a * W256 * b * rinv m = a * b * (W256 * rinv m) := by grind
  rw [this, Nat.mul_mod, h, ← Nat.mul_mod, Nat.mul_one]
def RMulC (P : Program) (f : FuncId) (s : Nat → Nat → Nat → Nat) : Prop := ∀ m low sq a b, Rok m low sq → a < m → b < m → Ct P f [RP m low sq, WV a, WV b] (fun e => e = .ret (WV (s m a b)))
def t_rfmul (cut : FuncId) : T :=
 .node (.op (.cell 4 0) [.v 1]) <|
 .node (.op (.cell 4 1) [.v 1]) <|
 .node (.op (.cell 4 2) [.v 1]) <|
 .node (.op (.cell 4 3) [.v 1]) <|
 .node (.op (.cell 4 0) [.v 2]) <|
 .node (.op (.cell 4 1) [.v 2]) <|
 .node (.op (.cell 4 2) [.v 2]) <|
 .node (.op (.cell 4 3) [.v 2]) <|
 .node (.op .nilchk [.v 0]) <|
 .node (.op (.roff 13) [.v 11]) <|
 .node (.op (.rld true 4) [.v 12]) <|
 .node (.op .mkagg [.v 3, .v 4, .v 5, .v 6]) <|
 .node (.call cut [.v 0, .v 14, .v 13] false) <|
 .node (.op .mkagg [.v 7, .v 8, .v 9, .v 10]) <|
 .node (.call cut [.v 0, .v 15, .v 16] false) <|
 .node (.op (.cell 4 0) [.v 17]) <|
 .node (.op (.cell 4 1) [.v 17]) <|
 .node (.op (.cell 4 2) [.v 17]) <|
 .node (.op (.cell 4 3) [.v 17]) <|
 .node (.op .mkagg [.v 18, .v 19, .v 20, .v 21]) <|
 .ret (.v 22)
theorem rfmul_den {cut : FuncId} (hc : RCutC P cut) (hF : Rok m low sq) (ha : a < m) (hb : b < m) :
    D P (fun e => e = .ret (WV (mulM m a b))) [] 3 [WV b, WV a, RP m low sq] (t_rfmul cut) := by
  have hm := hF.2.1
  have haW : a < W256 := Nat.lt_trans ha hm
  have hbW : b < W256 := Nat.lt_trans hb hm
  have h1 := hc m low sq a sq hF ha hF.sq_lt'
  have h2 := hc m low sq (montS m a sq) b hF (montS_lt (by omega)) hbW
  have e2 : montS m (montS m a sq) b = mulM m a b := by
    have : montS m (montS m a (W256 * W256 % m)) b = a * b % m := mont_sqR hF.1
    rw [hF.2.2.2.2]; exact this
  rw [e2] at h2
  obtain ⟨m0, m1, m2, m3, p0, p1, p2, p3, p4, p5, p6, p7, s0, s1, s2, s3, ep, eM, eS, eR⟩ := RP_parts (low := low) hm hF.sq_lt'
  obtain ⟨a0, a1, a2, a3, eA⟩ := WV_parts haW
  obtain ⟨b0, b1, b2, b3, eB⟩ := WV_parts hbW
  obtain ⟨r0, r1, r2, r3, eR'⟩ := WV_parts (show mulM m a b < W256 from Nat.lt_trans (Nat.mod_lt _ (by omega)) hm)
  rw [eA, eS, eR] at h1
  rw [eB, eR', eR] at h2
  rw [eR', eA, eB, eR]
  refine d_cells rfl rfl rfl rfl (d_cells rfl rfl rfl rfl ?_)
  refine d_op (v := .rp (CN .u64 [m0, m1, m2, m3, p0, p1, p2, p3, p4, p5, p6, p7, low, s0, s1, s2, s3])) rfl (d_op (v := .rp (CN .u64 [s0, s1, s2, s3])) rfl (d_op (v := WL s0 s1 s2 s3) rfl ?_))
  refine d_op (v := WL a0 a1 a2 a3) ev_wl (d_call h1 (fun h => by cases h) (d_op (v := WL b0 b1 b2 b3) ev_wl (d_call h2 (fun h => by cases h) ?_)))
  exact d_cells rfl rfl rfl rfl (d_op (v := WL r0 r1 r2 r3) ev_wl (d_ret rfl))
end
end Go.SE
