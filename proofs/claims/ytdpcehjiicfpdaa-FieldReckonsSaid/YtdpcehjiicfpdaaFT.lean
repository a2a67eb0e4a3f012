/- Nothing of the statement is proved here: this text lays generic laws: FT; no conditions. -/
import Derived.Test.YtdpcehjiicfpdaaFS
set_option linter.all false
set_option autoImplicit false
set_option maxRecDepth 4000
set_option maxHeartbeats 4000000
set_option exponentiation.threshold 5000
namespace Go.SE
open Go
variable {P : Program} {R : AEnd → Prop}
def zmod (a b : Nat) : Nat := if b = 0 then 0 else a % b
section
variable {a b m : Nat}
theorem val16 (h : a < W256) : val 65536 (fdigs 65536 16 a) = a := val_fdigs_lt h
def W3C (P : Program) (f : FuncId) (s : Nat → Nat → Nat → Nat) : Prop := ∀ a b m, a < W256 → b < W256 → m < W256 → Ct P f [WV a, WV b, WV m] (fun e => e = .ret (WV (s a b m)))
theorem fd17 : 65536 ^ 17 = 65536 * W256 := rfl
theorem fd32 : 65536 ^ 32 = W256 * W256 := rfl
def t_waddmod (digs sum div word : FuncId) : T :=
 .node (.op (.cell 4 0) [.v 0]) <|
 .node (.op (.cell 4 1) [.v 0]) <|
 .node (.op (.cell 4 2) [.v 0]) <|
 .node (.op (.cell 4 3) [.v 0]) <|
 .node (.op (.cell 4 0) [.v 1]) <|
 .node (.op (.cell 4 1) [.v 1]) <|
 .node (.op (.cell 4 2) [.v 1]) <|
 .node (.op (.cell 4 3) [.v 1]) <|
 .node (.op (.cell 4 0) [.v 2]) <|
 .node (.op (.cell 4 1) [.v 2]) <|
 .node (.op (.cell 4 2) [.v 2]) <|
 .node (.op (.cell 4 3) [.v 2]) <|
 .node (.op .mkagg [.v 11, .v 12, .v 13, .v 14]) <|
 .node (.op (.eqv false [.int .u64, .int .u64, .int .u64, .int .u64]) [.v 15, .c (.agg [.int .u64 0, .int .u64 0, .int .u64 0, .int .u64 0])]) <|
 .br (.v 16) (
 .node (.op .mkagg [.v 11, .v 12, .v 13, .v 14]) <|
 .ret (.v 17)) (
 .node (.op .mkagg [.v 3, .v 4, .v 5, .v 6]) <|
 .node (.call digs [.v 17] true) <|
 .node (.op .mkagg [.v 7, .v 8, .v 9, .v 10]) <|
 .node (.call digs [.v 19] true) <|
 .node (.call sum [.v 18, .v 20] true) <|
 .node (.op .mkagg [.v 11, .v 12, .v 13, .v 14]) <|
 .node (.call digs [.v 22] true) <|
 .node (.call div [.v 21, .v 23] false) <|
 .node (.op (.ext 0 true) [.v 24]) <|
 .node (.op (.ext 1 true) [.v 24]) <|
 .node (.call word [.v 26] false) <|
 .node (.op (.cell 4 0) [.v 27]) <|
 .node (.op (.cell 4 1) [.v 27]) <|
 .node (.op (.cell 4 2) [.v 27]) <|
 .node (.op (.cell 4 3) [.v 27]) <|
 .node (.op .mkagg [.v 28, .v 29, .v 30, .v 31]) <|
 .ret (.v 32))
theorem waddmod_den {digs sum div word : FuncId} (hd : WDigsC P digs) (hs : SumC P sum) (hv : RDivC P div) (hw : WWordC P word) (ha : a < W256) (hb : b < W256) (hm : m < W256) : D P (fun e => e = .ret (WV (zmod (a + b) m))) [] 3 [WV m, WV b, WV a] (t_waddmod digs sum div word) := by
  obtain ⟨a0, a1, a2, a3, eA⟩ := WV_parts ha
  obtain ⟨b0, b1, b2, b3, eB⟩ := WV_parts hb
  obtain ⟨m0, m1, m2, m3, eM⟩ := WV_parts hm
  have h1 := hd a ha
  have h2 := hd b hb
  have h3 := hd m hm
  have heq := ev_weq hm (show 0 < W256 by decide)
  rw [eM] at heq
  rw [eA] at h1
  rw [eB] at h2
  rw [eM] at h3
  by_cases h0 : m = 0
  · subst h0
    have : zmod (a + b) 0 = 0 := rfl
    rw [this, eA, eB, eM]
    refine d_cells rfl rfl rfl rfl (d_cells rfl rfl rfl rfl (d_cells rfl rfl rfl rfl (d_op (v := WL m0 m1 m2 m3) ev_wl (d_op heq (d_if rfl (fun h => ?_) (fun h => absurd rfl h))))))
    exact d_op (v := WL m0 m1 m2 m3) ev_wl (d_ret rfl)
  · have hz : zmod (a + b) m = (a + b) % m := by unfold zmod; rw [if_neg h0]
    have hr : (a + b) % m < W256 := Nat.lt_trans (Nat.mod_lt _ (by omega)) hm
    obtain ⟨r0, r1, r2, r3, eR⟩ := WV_parts hr
    have h4 := hs (fdigs 65536 16 a) (fdigs 65536 16 b) (fdigs_lt (by decide) _ _) (fdigs_lt (by decide) _ _) (by simp) (by simp)
    rw [val16 ha, val16 hb, fdigs_length, fdigs_length, show max 16 16 + 1 = 17 from rfl] at h4
    have hv17 : val 65536 (fdigs 65536 17 (a + b)) = a + b := val_fdigs_lt (by rw [fd17]; unfold W256 at *; omega)
    have h5 := hv (fdigs 65536 17 (a + b)) (fdigs 65536 16 m) (fdigs_lt (by decide) _ _) (fdigs_lt (by decide) _ _) (by rw [val16 hm]; omega) (by simp) (by simp)
    rw [hv17, val16 hm, fdigs_length, fdigs_length, show min 17 (16 + 1) = 17 from rfl] at h5
    have h6 := hw (fdigs 65536 17 ((a + b) % m)) (fdigs_lt (by decide) _ _) (by simp)
    rw [val_fdigs_lt (show (a + b) % m < 65536 ^ 17 by rw [fd17]; unfold W256 at *; omega), Nat.mod_eq_of_lt hr, eR] at h6
    rw [hz, eR, eA, eB, eM]
    refine d_cells rfl rfl rfl rfl (d_cells rfl rfl rfl rfl (d_cells rfl rfl rfl rfl (d_op (v := WL m0 m1 m2 m3) ev_wl (d_op heq (d_if rfl (fun h => absurd h h0) (fun h => ?_))))))
    refine d_op (v := WL a0 a1 a2 a3) ev_wl (d_call h1 (fun h => by cases h; rfl) (d_op (v := WL b0 b1 b2 b3) ev_wl (d_call h2 (fun h => by cases h; rfl) (d_call h4 (fun h => by cases h; rfl) ?_))))
    refine d_op (v := WL m0 m1 m2 m3) ev_wl (d_call h3 (fun h => by cases h; rfl) (d_call h5 (fun h => by cases h) ?_))
    refine d_op (ev_ext rfl (fun _ => rfl)) (d_op (ev_ext rfl (fun _ => rfl)) (d_call h6 (fun h => by cases h) ?_))
    exact d_cells rfl rfl rfl rfl (d_op (v := WL r0 r1 r2 r3) ev_wl (d_ret rfl))
def t_wmulmod (digs prod div word : FuncId) : T :=
 .node (.op (.cell 4 0) [.v 0]) <|
 .node (.op (.cell 4 1) [.v 0]) <|
 .node (.op (.cell 4 2) [.v 0]) <|
 .node (.op (.cell 4 3) [.v 0]) <|
 .node (.op (.cell 4 0) [.v 1]) <|
 .node (.op (.cell 4 1) [.v 1]) <|
 .node (.op (.cell 4 2) [.v 1]) <|
 .node (.op (.cell 4 3) [.v 1]) <|
 .node (.op (.cell 4 0) [.v 2]) <|
 .node (.op (.cell 4 1) [.v 2]) <|
 .node (.op (.cell 4 2) [.v 2]) <|
 .node (.op (.cell 4 3) [.v 2]) <|
 .node (.op .mkagg [.v 11, .v 12, .v 13, .v 14]) <|
 .node (.op (.eqv false [.int .u64, .int .u64, .int .u64, .int .u64]) [.v 15, .c (.agg [.int .u64 0, .int .u64 0, .int .u64 0, .int .u64 0])]) <|
 .br (.v 16) (
 .node (.op .mkagg [.v 11, .v 12, .v 13, .v 14]) <|
 .ret (.v 17)) (
 .node (.op .mkagg [.v 3, .v 4, .v 5, .v 6]) <|
 .node (.call digs [.v 17] true) <|
 .node (.op .mkagg [.v 7, .v 8, .v 9, .v 10]) <|
 .node (.call digs [.v 19] true) <|
 .node (.call prod [.v 18, .v 20] true) <|
 .node (.op .mkagg [.v 11, .v 12, .v 13, .v 14]) <|
 .node (.call digs [.v 22] true) <|
 .node (.call div [.v 21, .v 23] false) <|
 .node (.op (.ext 0 true) [.v 24]) <|
 .node (.op (.ext 1 true) [.v 24]) <|
 .node (.call word [.v 26] false) <|
 .node (.op (.cell 4 0) [.v 27]) <|
 .node (.op (.cell 4 1) [.v 27]) <|
 .node (.op (.cell 4 2) [.v 27]) <|
 .node (.op (.cell 4 3) [.v 27]) <|
 .node (.op .mkagg [.v 28, .v 29, .v 30, .v 31]) <|
 .ret (.v 32))
theorem wmulmod_den {digs prod div word : FuncId} (hd : WDigsC P digs) (hs : ProductC P prod) (hv : RDivC P div) (hw : WWordC P word) (ha : a < W256) (hb : b < W256) (hm : m < W256) : D P (fun e => e = .ret (WV (zmod (a * b) m))) [] 3 [WV m, WV b, WV a] (t_wmulmod digs prod div word) := by
  obtain ⟨a0, a1, a2, a3, eA⟩ := WV_parts ha
  obtain ⟨b0, b1, b2, b3, eB⟩ := WV_parts hb
  obtain ⟨m0, m1, m2, m3, eM⟩ := WV_parts hm
  have h1 := hd a ha
  have h2 := hd b hb
  have h3 := hd m hm
  have heq := ev_weq hm (show 0 < W256 by decide)
  rw [eM] at heq
  rw [eA] at h1
  rw [eB] at h2
  rw [eM] at h3
  by_cases h0 : m = 0
  · subst h0
    have : zmod (a * b) 0 = 0 := rfl
    rw [this, eA, eB, eM]
    refine d_cells rfl rfl rfl rfl (d_cells rfl rfl rfl rfl (d_cells rfl rfl rfl rfl (d_op (v := WL m0 m1 m2 m3) ev_wl (d_op heq (d_if rfl (fun h => ?_) (fun h => absurd rfl h))))))
    exact d_op (v := WL m0 m1 m2 m3) ev_wl (d_ret rfl)
  · have hz : zmod (a * b) m = a * b % m := by unfold zmod; rw [if_neg h0]
    have hr : a * b % m < W256 := Nat.lt_trans (Nat.mod_lt _ (by omega)) hm
    obtain ⟨r0, r1, r2, r3, eR⟩ := WV_parts hr
    have h4 := hs (fdigs 65536 16 a) (fdigs 65536 16 b) (fdigs_lt (by decide) _ _) (fdigs_lt (by decide) _ _) (by simp)
    rw [val16 ha, val16 hb, fdigs_length, fdigs_length, show 16 + 16 = 32 from rfl] at h4
    have hv17 : val 65536 (fdigs 65536 32 (a * b)) = a * b := val_fdigs_lt (by rw [fd32]; exact Nat.mul_lt_mul'' ha hb)
    have h5 := hv (fdigs 65536 32 (a * b)) (fdigs 65536 16 m) (fdigs_lt (by decide) _ _) (fdigs_lt (by decide) _ _) (by rw [val16 hm]; omega) (by simp) (by simp)
    rw [hv17, val16 hm, fdigs_length, fdigs_length, show min 32 (16 + 1) = 17 from rfl] at h5
    have h6 := hw (fdigs 65536 17 (a * b % m)) (fdigs_lt (by decide) _ _) (by simp)
    rw [val_fdigs_lt (show a * b % m < 65536 ^ 17 by rw [fd17]; unfold W256 at *; omega), Nat.mod_eq_of_lt hr, eR] at h6
    rw [hz, eR, eA, eB, eM]
    refine d_cells rfl rfl rfl rfl (d_cells rfl rfl rfl rfl (d_cells rfl rfl rfl rfl (d_op (v := WL m0 m1 m2 m3) ev_wl (d_op heq (d_if rfl (fun h => absurd h h0) (fun h => ?_))))))
    refine d_op (v := WL a0 a1 a2 a3) ev_wl (d_call h1 (fun h => by cases h; rfl) (d_op (v := WL b0 b1 b2 b3) ev_wl (d_call h2 (fun h => by cases h; rfl) (d_call h4 (fun h => by cases h; rfl) ?_))))
    refine d_op (v := WL m0 m1 m2 m3) ev_wl (d_call h3 (fun h => by cases h; rfl) (d_call h5 (fun h => by cases h) ?_))
    refine d_op (ev_ext rfl (fun _ => rfl)) (d_op (ev_ext rfl (fun _ => rfl)) (d_call h6 (fun h => by cases h) ?_))
    exact d_cells rfl rfl rfl rfl (d_op (v := WL r0 r1 r2 r3) ev_wl (d_ret rfl))
end
end Go.SE
