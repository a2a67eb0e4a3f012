/- Nothing of the statement is proved here: this text lays generic laws: FT; no conditions. -/
import Derived.Test.YtdpcehjiicfpdaaFS
set_option linter.all false
set_option autoImplicit false
set_option maxRecDepth 4000
set_option maxHeartbeats 4000000
set_option exponentiation.threshold 5000
namespace Go.SE
open Go
variable {P : Program} {R : AEnd → Prop}
def zmod (a b : Nat) : Nat := if b = 0 then 0 else a % b
section
variable {a b m : Nat}
def WDivModC (P : Program) (f : FuncId) : Prop := ∀ a b, a < W256 → b < W256 → Ct P f [WV a, WV b] (fun e => e = .ret (.tup [WV (a / b), WV (zmod a b)]))
theorem val16 (h : a < W256) : val 65536 (fdigs 65536 16 a) = a := val_fdigs_lt h
def t_wdivmod (digs div word : FuncId) : T :=
 .node (.op (.cell 4 0) [.v 0]) <|
 .node (.op (.cell 4 1) [.v 0]) <|
 .node (.op (.cell 4 2) [.v 0]) <|
 .node (.op (.cell 4 3) [.v 0]) <|
 .node (.op (.cell 4 0) [.v 1]) <|
 .node (.op (.cell 4 1) [.v 1]) <|
 .node (.op (.cell 4 2) [.v 1]) <|
 .node (.op (.cell 4 3) [.v 1]) <|
 .node (.op .mkagg [.v 6, .v 7, .v 8, .v 9]) <|
 .node (.op (.eqv false [.int .u64, .int .u64, .int .u64, .int .u64]) [.v 10, .c (.agg [.int .u64 0, .int .u64 0, .int .u64 0, .int .u64 0])]) <|
 .br (.v 11) (
 .node (.op .mkagg [.v 6, .v 7, .v 8, .v 9]) <|
 .node (.op .mkagg [.v 6, .v 7, .v 8, .v 9]) <|
 .node (.op .mktup [.v 12, .v 13]) <|
 .ret (.v 14)) (
 .node (.op .mkagg [.v 2, .v 3, .v 4, .v 5]) <|
 .node (.call digs [.v 12] true) <|
 .node (.op .mkagg [.v 6, .v 7, .v 8, .v 9]) <|
 .node (.call digs [.v 14] true) <|
 .node (.call div [.v 13, .v 15] false) <|
 .node (.op (.ext 0 true) [.v 16]) <|
 .node (.op (.ext 1 true) [.v 16]) <|
 .node (.call word [.v 17] false) <|
 .node (.call word [.v 18] false) <|
 .node (.op (.cell 4 0) [.v 19]) <|
 .node (.op (.cell 4 1) [.v 19]) <|
 .node (.op (.cell 4 2) [.v 19]) <|
 .node (.op (.cell 4 3) [.v 19]) <|
 .node (.op (.cell 4 0) [.v 20]) <|
 .node (.op (.cell 4 1) [.v 20]) <|
 .node (.op (.cell 4 2) [.v 20]) <|
 .node (.op (.cell 4 3) [.v 20]) <|
 .node (.op .mkagg [.v 21, .v 22, .v 23, .v 24]) <|
 .node (.op .mkagg [.v 25, .v 26, .v 27, .v 28]) <|
 .node (.op .mktup [.v 29, .v 30]) <|
 .ret (.v 31))
theorem wdivmod_den {digs div word : FuncId} (hd : WDigsC P digs) (hv : RDivC P div) (hw : WWordC P word) (ha : a < W256) (hb : b < W256) : D P (fun e => e = .ret (.tup [WV (a / b), WV (zmod a b)])) [] 2 [WV b, WV a] (t_wdivmod digs div word) := by
  obtain ⟨a0, a1, a2, a3, eA⟩ := WV_parts ha
  obtain ⟨b0, b1, b2, b3, eB⟩ := WV_parts hb
  have hq : a / b < W256 := Nat.lt_of_le_of_lt (Nat.div_le_self _ _) ha
  have hr : zmod a b < W256 := by unfold zmod; split; decide; exact Nat.lt_of_le_of_lt (Nat.mod_le _ _) ha
  obtain ⟨q0, q1, q2, q3, eQ⟩ := WV_parts hq
  obtain ⟨r0, r1, r2, r3, eR⟩ := WV_parts hr
  have h1 := hd a ha
  have h2 := hd b hb
  have heq := ev_weq hb (show 0 < W256 by decide)
  rw [eB] at heq
  rw [eA] at h1
  rw [eB] at h2
  rw [eQ, eR, eA, eB]
  refine d_cells rfl rfl rfl rfl (d_cells rfl rfl rfl rfl (d_op (v := WL b0 b1 b2 b3) ev_wl (d_op heq (d_if rfl (fun h => ?_) (fun h => ?_)))))
  · subst h
    have e1 : WL q0 q1 q2 q3 = WL b0 b1 b2 b3 := by rw [← eQ, ← eB, Nat.div_zero]
    have e2 : WL r0 r1 r2 r3 = WL b0 b1 b2 b3 := by rw [← eR, ← eB]; rfl
    rw [e1, e2]
    exact d_op (v := WL b0 b1 b2 b3) ev_wl (d_op (v := WL b0 b1 b2 b3) ev_wl (d_op ev_mktup (d_ret rfl)))
  · have h3 := hv (fdigs 65536 16 a) (fdigs 65536 16 b) (fdigs_lt (by decide) _ _) (fdigs_lt (by decide) _ _) (by rw [val16 hb]; omega) (by simp) (by simp)
    rw [val16 ha, val16 hb, fdigs_length, fdigs_length, show min 16 (16 + 1) = 16 from rfl] at h3
    have h4 := hw (fdigs 65536 16 (a / b)) (fdigs_lt (by decide) _ _) (by simp)
    have ez : zmod a b = a % b := by unfold zmod; rw [if_neg h]
    have h5 := hw (fdigs 65536 16 (a % b)) (fdigs_lt (by decide) _ _) (by simp)
    rw [val16 hq, Nat.mod_eq_of_lt hq, eQ] at h4
    rw [← ez, val16 hr, Nat.mod_eq_of_lt hr, eR] at h5
    rw [← ez] at h3
    refine d_op (v := WL a0 a1 a2 a3) ev_wl (d_call h1 (fun h => by cases h; rfl) (d_op (v := WL b0 b1 b2 b3) ev_wl (d_call h2 (fun h => by cases h; rfl) (d_call h3 (fun h => by cases h) ?_))))
    refine d_op (ev_ext rfl (fun _ => rfl)) (d_op (ev_ext rfl (fun _ => rfl)) (d_call h4 (fun h => by cases h) (d_call h5 (fun h => by cases h) ?_)))
    exact d_cells rfl rfl rfl rfl (d_cells rfl rfl rfl rfl (d_op (v := WL q0 q1 q2 q3) ev_wl (d_op (v := WL r0 r1 r2 r3) ev_wl (d_op ev_mktup (d_ret rfl)))))
end
def ROfC (P : Program) (f : FuncId) : Prop := ∀ m low sq a, 0 < m → m < W256 → sq < W256 → a < W256 → Ct P f [RP m low sq, WV a] (fun e => e = .ret (WV (a % m)))
def t_rfof (more divmod : FuncId) : T :=
 .node (.op (.cell 4 0) [.v 1]) <|
 .node (.op (.cell 4 1) [.v 1]) <|
 .node (.op (.cell 4 2) [.v 1]) <|
 .node (.op (.cell 4 3) [.v 1]) <|
 .node (.op .nilchk [.v 0]) <|
 .node (.op (.roff 0) [.v 6]) <|
 .node (.op (.rld true 4) [.v 7]) <|
 .node (.op .mkagg [.v 2, .v 3, .v 4, .v 5]) <|
 .node (.call more [.v 9, .v 8] true) <|
 .node (.op (.un .not) [.v 10]) <|
 .br (.v 11) (
 .node (.op .mkagg [.v 2, .v 3, .v 4, .v 5]) <|
 .ret (.v 12)) (
 .node (.op .nilchk [.v 0]) <|
 .node (.op (.roff 0) [.v 12]) <|
 .node (.op (.rld true 4) [.v 13]) <|
 .node (.op .mkagg [.v 2, .v 3, .v 4, .v 5]) <|
 .node (.call divmod [.v 15, .v 14] false) <|
 .node (.op (.ext 0 false) [.v 16]) <|
 .node (.op (.ext 1 false) [.v 16]) <|
 .node (.op (.cell 4 0) [.v 17]) <|
 .node (.op (.cell 4 1) [.v 17]) <|
 .node (.op (.cell 4 2) [.v 17]) <|
 .node (.op (.cell 4 3) [.v 17]) <|
 .node (.op (.cell 4 0) [.v 18]) <|
 .node (.op (.cell 4 1) [.v 18]) <|
 .node (.op (.cell 4 2) [.v 18]) <|
 .node (.op (.cell 4 3) [.v 18]) <|
 .node (.op .mkagg [.v 23, .v 24, .v 25, .v 26]) <|
 .ret (.v 27))
theorem rfof_den {more divmod : FuncId} {m low sq a : Nat} (hmo : RMoreC P more) (hdm : WDivModC P divmod) (h0 : 0 < m) (hm : m < W256) (hsq : sq < W256) (ha : a < W256) :
    D P (fun e => e = .ret (WV (a % m))) [] 2 [WV a, RP m low sq] (t_rfof more divmod) := by
  obtain ⟨m0, m1, m2, m3, p0, p1, p2, p3, p4, p5, p6, p7, s0, s1, s2, s3, ep, eM, eS, eR⟩ := RP_parts (low := low) hm hsq
  obtain ⟨a0, a1, a2, a3, eA⟩ := WV_parts ha
  have hz : zmod a m = a % m := by unfold zmod; rw [if_neg (by omega)]
  have hr : a % m < W256 := Nat.lt_of_le_of_lt (Nat.mod_le _ _) ha
  have hq : a / m < W256 := Nat.lt_of_le_of_lt (Nat.div_le_self _ _) ha
  obtain ⟨q0, q1, q2, q3, eQ⟩ := WV_parts hq
  obtain ⟨r0, r1, r2, r3, eR'⟩ := WV_parts hr
  have h1 := hmo a m ha hm
  have h2 := hdm a m ha hm
  rw [hz, eQ, eR', eA, eM] at h2
  rw [eA, eM] at h1
  rw [eR', eA, eR]
  refine d_cells rfl rfl rfl rfl ?_
  refine d_op (v := .rp (CN .u64 [m0, m1, m2, m3, p0, p1, p2, p3, p4, p5, p6, p7, low, s0, s1, s2, s3])) rfl (d_op (v := .rp (CN .u64 [m0, m1, m2, m3, p0, p1, p2, p3, p4, p5, p6, p7, low, s0, s1, s2, s3])) rfl (d_op (v := WL m0 m1 m2 m3) rfl ?_))
  refine d_op (v := WL a0 a1 a2 a3) ev_wl (d_call h1 (fun _ => rfl) (d_op ev_not (d_br (!decide (m ≤ a)) rfl (fun h => ?_) (fun h => ?_))))
  · have hlt : a < m := by simpa using h
    have e : WL r0 r1 r2 r3 = WL a0 a1 a2 a3 := by rw [← eR', ← eA, Nat.mod_eq_of_lt hlt]
    rw [e]
    exact d_op (v := WL a0 a1 a2 a3) ev_wl (d_ret rfl)
  · refine d_op (v := .rp (CN .u64 [m0, m1, m2, m3, p0, p1, p2, p3, p4, p5, p6, p7, low, s0, s1, s2, s3])) rfl (d_op (v := .rp (CN .u64 [m0, m1, m2, m3, p0, p1, p2, p3, p4, p5, p6, p7, low, s0, s1, s2, s3])) rfl (d_op (v := WL m0 m1 m2 m3) rfl ?_))
    refine d_op (v := WL a0 a1 a2 a3) ev_wl (d_call h2 (fun h => by cases h) (d_op (v := WL q0 q1 q2 q3) (ev_ext rfl (fun h => by cases h)) (d_op (v := WL r0 r1 r2 r3) (ev_ext rfl (fun h => by cases h)) ?_)))
    exact d_cells rfl rfl rfl rfl (d_cells rfl rfl rfl rfl (d_op (v := WL r0 r1 r2 r3) ev_wl (d_ret rfl)))
end Go.SE
