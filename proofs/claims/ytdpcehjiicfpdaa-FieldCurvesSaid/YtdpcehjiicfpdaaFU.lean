/- Nothing of the statement is proved here: this text lays generic laws: FU; no conditions. -/
import Derived.Test.YtdpcehjiicfpdaaFT
set_option linter.all false
set_option autoImplicit false
set_option maxRecDepth 4000
set_option maxHeartbeats 4000000
set_option exponentiation.threshold 5000
namespace Go.SE
open Go
variable {P : Program} {R : AEnd → Prop}
theorem odd_part : ∀ (n e : Nat), e ≤ n → 0 < e → ∃ j t, e = 2 ^ j * (2 * t + 1)
  | 0, e, h, h0 => by omega
  | n + 1, e, h, h0 => by
    by_cases h2 : e % 2 = 1
    · exact ⟨0, e / 2, by rw [Nat.pow_zero, Nat.one_mul]; omega⟩
    · obtain ⟨j, t, ht⟩ := odd_part n (e / 2) (by omega) (by omega)
      exact ⟨j + 1, t, by rw [Nat.pow_succ, Nat.mul_right_comm, ← ht]; omega⟩
theorem and_compl {t n : Nat} (h : t < 2 ^ n) : (2 * t + 1) &&& (2 ^ (n + 1) - (2 * t + 1)) = 1 := by
  apply Nat.eq_of_testBit_eq
  intro i
  have e : 2 ^ (n + 1) - (2 * t + 1) = 2 * (2 ^ n - (t + 1)) + 1 := by rw [Nat.pow_succ]; omega
  rw [e, Nat.testBit_and]
  cases i with
  | zero => rw [Nat.testBit_zero, Nat.testBit_zero, Nat.testBit_zero, show (2 * t + 1) % 2 = 1 by omega, show (2 * (2 ^ n - (t + 1)) + 1) % 2 = 1 by omega]; rfl
  | succ i =>
    rw [Nat.testBit_succ, Nat.testBit_succ, Nat.testBit_succ, show (2 * t + 1) / 2 = t by omega, show (2 * (2 ^ n - (t + 1)) + 1) / 2 = 2 ^ n - (t + 1) by omega, Nat.testBit_two_pow_sub_succ h]
    simp
    intro h1 h2
    rw [h1]
theorem low_bit {e j t : Nat} (he : e = 2 ^ j * (2 * t + 1)) (h : e < 4294967296) : j < 32 ∧ e &&& (18446744073709551616 - e) = 2 ^ j := by
  have hj : j < 32 := by
    refine Nat.lt_of_not_le fun h2 => ?_
    have h3 : 2 ^ 32 ≤ 2 ^ j := Nat.pow_le_pow_right (by decide) h2
    have h4 : 2 ^ j * 1 ≤ 2 ^ j * (2 * t + 1) := Nat.mul_le_mul_left _ (by omega)
    have : (2 : Nat) ^ 32 = 4294967296 := rfl
    omega
  refine ⟨hj, ?_⟩
  obtain ⟨n, hn⟩ : ∃ n, n + 1 + j = 64 := ⟨63 - j, by omega⟩
  have hW : 18446744073709551616 = 2 ^ j * 2 ^ (n + 1) := by rw [← Nat.pow_add, Nat.add_comm j, hn]
  have ht : t < 2 ^ n := by
    have h5 : 2 ^ j * (2 * t + 1) < 2 ^ j * 2 ^ (n + 1) := by rw [← he, ← hW]; omega
    have := Nat.lt_of_mul_lt_mul_left h5
    rw [Nat.pow_succ] at this
    omega
  have e2 : 18446744073709551616 - e = 2 ^ j * (2 ^ (n + 1) - (2 * t + 1)) := by rw [he, hW, Nat.mul_sub]
  rw [e2, he]
  have h6 := Nat.shiftLeft_and_distrib (a := 2 * t + 1) (b := 2 ^ (n + 1) - (2 * t + 1)) (i := j)
  rw [and_compl ht, Nat.shiftLeft_eq, Nat.shiftLeft_eq, Nat.shiftLeft_eq, Nat.one_mul, Nat.mul_comm, Nat.mul_comm _ (2 ^ j)] at h6
  exact h6.symm
theorem ev_unxor64 {x : Nat} (hx : x < 18446744073709551616) : evalO (.un .xor) [.int .u64 (x : Int)] = some (.int .u64 ((18446744073709551615 ^^^ x : Nat) : Int)) := by
  have := ev_xor (k := .u64) (x := 18446744073709551615) (y := x) (by constructor <;> omega) (by constructor <;> omega)
  simp only [evalO, aBin, isShift, Bool.false_eq_true, if_false, if_true] at this
  simp only [evalO, aUn]
  exact this
theorem low32 {x : Nat} : x &&& 4294967295 = x % 4294967296 := Nat.and_two_pow_sub_one_eq_mod x 32
theorem nlow32 {x : Nat} (hx : x < 18446744073709551616) : (18446744073709551615 ^^^ x) &&& 4294967295 = 4294967295 - x % 4294967296 := by
  rw [← low32]
  apply Nat.eq_of_testBit_eq
  intro i
  have h1 : 4294967295 - (x &&& 4294967295) = 2 ^ 32 - ((x &&& 4294967295) + 1) := by
    show _ = 4294967296 - _
    omega
  rw [h1, Nat.testBit_two_pow_sub_succ (by rw [low32]; exact Nat.mod_lt _ (by decide)), Nat.testBit_and, Nat.testBit_xor, Nat.testBit_and]
  rw [show 18446744073709551615 = 2 ^ 64 - 1 from rfl, show 4294967295 = 2 ^ 32 - 1 from rfl, Nat.testBit_two_pow_sub_one, Nat.testBit_two_pow_sub_one]
  by_cases h : i < 32
  · simp [h, show i < 64 by omega]
  · simp [h]
theorem low_more {l p k e j t : Nat} (hp : p % 2 = 1) (hk : k ≤ 32) (hd : 2 ^ k ∣ l * p + 1) (he : e = 4294967295 - l * p % 4294967296) (ht : e = 2 ^ j * (2 * t + 1)) (hj : j < 32) : k ≤ j ∧ 2 ^ (j + 1) ∣ (l + 2 ^ j) * p + 1 := by
  have h32 : (2 : Nat) ^ 32 = 4294967296 := rfl
  -- all together a multiple of 2^32
  have hs : 4294967296 ∣ l * p + 1 + e := by
    refine Nat.dvd_of_mod_eq_zero ?_
    omega
  have hdk : 2 ^ k ∣ e := by
    have h1 : 2 ^ k ∣ l * p + 1 + e := Nat.dvd_trans (by rw [← h32]; exact Nat.pow_dvd_pow 2 hk) hs
    exact (Nat.dvd_add_right hd).1 h1
  have hkj : k ≤ j := by
    refine Nat.le_of_not_lt fun h => ?_
    have h2 : 2 ^ (j + 1) ∣ 2 ^ j * (2 * t + 1) := by rw [← ht]; exact Nat.dvd_trans (Nat.pow_dvd_pow 2 h) hdk
    rw [Nat.pow_succ] at h2
    have := Nat.dvd_of_mul_dvd_mul_left (Nat.pow_pos (by decide)) h2
    omega
  refine ⟨hkj, ?_⟩
  have hs' : 2 ^ (j + 1) ∣ l * p + 1 + e := Nat.dvd_trans (by rw [← h32]; exact Nat.pow_dvd_pow 2 hj) hs
  have h3 : 2 ^ (j + 1) ∣ (l * p + 1 + e) + 2 ^ (j + 1) * ((p - 1) / 2) := Nat.dvd_add hs' (Nat.dvd_mul_right _ _)
  have h4 : (l * p + 1 + e) + 2 ^ (j + 1) * ((p - 1) / 2) = ((l + 2 ^ j) * p + 1) + 2 ^ (j + 1) * t := by
    obtain ⟨q, hq⟩ : ∃ q, p = 2 * q + 1 := ⟨p / 2, by omega⟩
    have e1 : (p - 1) / 2 = q := by omega
    rw [e1, ht, Nat.add_mul, Nat.pow_succ]
    have e2 : 2 ^ j * p = 2 ^ j * 2 * q + 2 ^ j := by rw [hq, Nat.mul_add, Nat.mul_assoc, Nat.mul_one]
    have e3 : 2 ^ j * (2 * t + 1) = 2 ^ j * 2 * t + 2 ^ j := by rw [Nat.mul_add, Nat.mul_assoc, Nat.mul_one]
    rw [e2, e3]
    omega
  rw [h4] at h3
  exact (Nat.dvd_add_left (Nat.dvd_mul_right _ _)).1 h3
def rlow (m : Nat) : Nat := minv m % b32
theorem rlow_lt {m : Nat} : rlow m < b32 := Nat.mod_lt _ (by decide)
theorem low_uniq {m l l' : Nat} (hl : l < b32) (hl' : l' < b32) (h : l * m % b32 = 4294967295) (h' : l' * m % b32 = 4294967295) : l = l' := by
  have e1 : l * (l' * m) % b32 = l * 4294967295 % b32 := by rw [Nat.mul_mod, h', Nat.mul_mod l 4294967295]; rfl
  have e2 : l' * (l * m) % b32 = l' * 4294967295 % b32 := by rw [Nat.mul_mod, h, Nat.mul_mod l' 4294967295]; rfl
  have e3 : l * (l' * m) = l' * (l * m) := Nat.mul_left_comm _ _ _
  rw [e3, e2] at e1
  have g1 : l < 4294967296 := hl
  have g2 : l' < 4294967296 := hl'
  have e4 : l' * 4294967295 % 4294967296 = l * 4294967295 % 4294967296 := e1
  omega
theorem rlow_ok {m : Nat} (h : m % 2 = 1) : rlow m * m % b32 = 4294967295 := by
  have h1 := (minv_ok h).2
  unfold rlow
  rw [Nat.mod_mul_mod]
  have : (minv m * m % 18446744073709551616) % b32 = minv m * m % b32 := Nat.mod_mod_of_dvd _ (by decide)
  rw [← this, h1]
  rfl
theorem rlow_is {m l : Nat} (h : m % 2 = 1) (hl : l < b32) (hl' : l * m % b32 = 4294967295) : l = rlow m := low_uniq hl rlow_lt hl' (rlow_ok h)
def RNewC (P : Program) (f : FuncId) : Prop := ∀ m, m % 2 = 1 → 1 < m → m < W256 → Ct P f [WV m] (fun e => e = .ret (RP m (rlow m) (W256 * W256 % m)))
theorem Rok_new {m : Nat} (h : m % 2 = 1) (hm : m < W256) : Rok m (rlow m) (W256 * W256 % m) := ⟨h, hm, rlow_lt, rlow_ok h, rfl⟩
theorem WL_inj {a b c d a' b' c' d' : Nat} (h : WL a b c d = WL a' b' c' d') : a = a' ∧ b = b' ∧ c = c' ∧ d = d' := by
  simp only [WL, AV.agg.injEq, List.cons.injEq, AV.int.injEq, true_and, and_true] at h
  obtain ⟨h0, h1, h2, h3⟩ := h
  exact ⟨Int.ofNat_inj.1 h0, Int.ofNat_inj.1 h1, Int.ofNat_inj.1 h2, Int.ofNat_inj.1 h3⟩
theorem fd_WL {t t0 t1 t2 t3 : Nat} (h : t < W256) (e : WV t = WL t0 t1 t2 t3) : fdigs B64 4 t = [t0, t1, t2, t3] := by
  obtain ⟨s0, s1, s2, s3, es⟩ := len_four (fdigs_length (b := B64) 4 t)
  rw [WV_fd h, es] at e
  have e' : WL s0 s1 s2 s3 = WL t0 t1 t2 t3 := e
  obtain ⟨h0, h1, h2, h3⟩ := WL_inj e'
  rw [es, h0, h1, h2, h3]
theorem rcells_set {m low sq t t0 t1 t2 t3 : Nat} (ht : t < W256) (e : WV t = WL t0 t1 t2 t3) :
    evalO .lset [.lst (rcells m low sq), .int .i64 13, .int .u64 (t0 : Int), .int .u64 (t1 : Int), .int .u64 (t2 : Int), .int .u64 (t3 : Int)] = some (.lst (rcells m low t)) := by
  obtain ⟨m0, m1, m2, m3, em⟩ := len_four (fdigs_length (b := B64) 4 m)
  obtain ⟨s0, s1, s2, s3, es⟩ := len_four (fdigs_length (b := B64) 4 sq)
  obtain ⟨p0, p1, p2, p3, p4, p5, p6, p7, ep⟩ := len_eight (fdigs_length (b := b32) 8 m)
  unfold rcells
  rw [em, es, ep, fd_WL ht e]
  rfl
theorem rcells_get {m low sq t0 t1 t2 t3 : Nat} (ht : sq < W256) (e : WV sq = WL t0 t1 t2 t3) :
    evalO (.lget true 4) [.lst (rcells m low sq), .int .i64 13] = some (WL t0 t1 t2 t3) := by
  obtain ⟨m0, m1, m2, m3, em⟩ := len_four (fdigs_length (b := B64) 4 m)
  obtain ⟨p0, p1, p2, p3, p4, p5, p6, p7, ep⟩ := len_eight (fdigs_length (b := b32) 8 m)
  unfold rcells
  rw [em, ep, fd_WL ht e]
  rfl
def t_rnew (parts add : FuncId) : T :=
 .node (.op (.cell 4 0) [.v 0]) <|
 .node (.op (.cell 4 1) [.v 0]) <|
 .node (.op (.cell 4 2) [.v 0]) <|
 .node (.op (.cell 4 3) [.v 0]) <|
 .node (.op .mkagg [.v 1, .v 2, .v 3, .v 4]) <|
 .node (.call parts [.v 5] false) <|
 .node (.op (.cell 8 0) [.v 6]) <|
 .node (.op (.cell 8 1) [.v 6]) <|
 .node (.op (.cell 8 2) [.v 6]) <|
 .node (.op (.cell 8 3) [.v 6]) <|
 .node (.op (.cell 8 4) [.v 6]) <|
 .node (.op (.cell 8 5) [.v 6]) <|
 .node (.op (.cell 8 6) [.v 6]) <|
 .node (.op (.cell 8 7) [.v 6]) <|
 .loop [.v 1, .v 2, .v 3, .v 4, .v 7, .v 8, .v 9, .v 10, .v 11, .v 12, .v 13, .v 14, .c (.int .u64 1), .c (.int .u64 0), .c (.int .u64 0), .c (.int .u64 0), .c (.int .u64 0)] [true, true, true, true, true, true, true, true, true, true, true, true, true, true, true, true, true] <|
 .node (.op (.bin .mul) [.v 27, .v 19]) <|
 .node (.op (.bin .and) [.v 32, .c (.int .u64 4294967295)]) <|
 .node (.op (.bin .neq) [.v 33, .c (.int .u64 4294967295)]) <|
 .br (.v 34) (
 .node (.op (.bin .mul) [.v 27, .v 19]) <|
 .node (.op (.un .xor) [.v 35]) <|
 .node (.op (.bin .and) [.v 36, .c (.int .u64 4294967295)]) <|
 .node (.op (.un .neg) [.v 37]) <|
 .node (.op (.bin .and) [.v 37, .v 38]) <|
 .node (.op (.bin .add) [.v 27, .v 39]) <|
 .back 0 [.v 15, .v 16, .v 17, .v 18, .v 19, .v 20, .v 21, .v 22, .v 23, .v 24, .v 25, .v 26, .v 40, .v 28, .v 29, .v 30, .v 31]) (
 .node (.op .mklst [.v 15, .v 16, .v 17, .v 18, .v 19, .v 20, .v 21, .v 22, .v 23, .v 24, .v 25, .v 26, .v 27, .c (.int .u64 1), .c (.int .u64 0), .c (.int .u64 0), .c (.int .u64 0)]) <|
 .loop [.c (.int .i64 0), .v 35] [true, false] <|
 .node (.op (.bin .lss) [.v 36, .c (.int .i64 512)]) <|
 .br (.v 38) (
 .node (.op (.lget true 4) [.v 37, .c (.int .i64 13)]) <|
 .node (.op (.lget true 4) [.v 37, .c (.int .i64 13)]) <|
 .node (.callH add [.ptr 0 (.c (.int .i64 0)), .val (.v 39), .val (.v 40)] [.v 37] (.mk false [.val false] 1)) <|
 .node (.op (.ext 0 false) [.v 41]) <|
 .node (.op (.ext 1 false) [.v 41]) <|
 .node (.op (.cell 4 0) [.v 42]) <|
 .node (.op (.cell 4 1) [.v 42]) <|
 .node (.op (.cell 4 2) [.v 42]) <|
 .node (.op (.cell 4 3) [.v 42]) <|
 .node (.op .lset [.v 43, .c (.int .i64 13), .v 44, .v 45, .v 46, .v 47]) <|
 .node (.op (.bin .add) [.v 36, .c (.int .i64 1)]) <|
 .back 0 [.v 49, .v 48]) (
 .node (.op .mkrp [.v 37, .c (.int .i64 0)]) <|
 .ret (.v 39)))
theorem rnew_den {parts add : FuncId} {m : Nat} (hpa : PartsC P parts) (had : R2H P add addM) (ho : m % 2 = 1) (h1 : 1 < m) (hm : m < W256) :
    D P (fun e => e = .ret (RP m (rlow m) (W256 * W256 % m))) [] 1 [WV m] (t_rnew parts add) := by
  obtain ⟨m0, m1, m2, m3, eM⟩ := WV_parts hm
  obtain ⟨p0, p1, p2, p3, p4, p5, p6, p7, ep⟩ := len_eight (fdigs_length (b := b32) 8 m)
  have em := fd_WL hm eM
  have hP := fdigs_lt (b := b32) (by decide) 8 m
  rw [ep] at hP
  have hp0 : p0 = m % b32 := by
    have := congrArg (fun l : List Nat => l.getD 0 0) ep
    exact this.symm
  have hp0l : p0 < 4294967296 := hP p0 (by simp)
  have hpo : p0 % 2 = 1 := by
    rw [hp0]; show m % 4294967296 % 2 = 1; omega
  have c := hpa m hm
  unfold PV at c
  rw [show fdigs 4294967296 8 m = [p0, p1, p2, p3, p4, p5, p6, p7] from ep, eM] at c
  rw [eM]
  refine d_cells rfl rfl rfl rfl (d_op (v := WL m0 m1 m2 m3) ev_wl (d_call c (fun h => by cases h) (d_expl (N := 8) (i := 6) rfl rfl rfl rfl ?_)))
  refine d_while (fun l : Nat => [.int .u64 (m0 : Int), .int .u64 (m1 : Int), .int .u64 (m2 : Int), .int .u64 (m3 : Int), .int .u64 (p0 : Int), .int .u64 (p1 : Int), .int .u64 (p2 : Int), .int .u64 (p3 : Int), .int .u64 (p4 : Int), .int .u64 (p5 : Int), .int .u64 (p6 : Int), .int .u64 (p7 : Int),
      .int .u64 (l : Int), .int .u64 0, .int .u64 0, .int .u64 0, .int .u64 0])
    (fun l => ∃ k, k ≤ 32 ∧ l < 2 ^ k ∧ 2 ^ k ∣ l * p0 + 1) (fun l => 4294967296 - l) 1 ⟨1, by omega, by decide, Nat.dvd_of_mod_eq_zero (by omega)⟩ rfl ?_
  rintro l ⟨k, hk, hlk, hd⟩
  have hl : l < 4294967296 := Nat.lt_of_lt_of_le hlk (Nat.pow_le_pow_right (n := 2) (by decide) hk)
  have hx : l * p0 ≤ 4294967295 * 4294967295 := Nat.mul_le_mul (by omega) (by omega)
  have hmul : ∀ {z w : Int}, z = (l : Int) → w = (p0 : Int) → evalO (.bin .mul) [.int .u64 z, .int .u64 w] = some (.int .u64 ((l * p0 : Nat) : Int)) := fun hz hw => by
    subst hz; subst hw
    have := ev_mul (k := .u64) (a := (l : Int)) (b := (p0 : Int)) (by rw [← Int.natCast_mul]; constructor <;> omega)
    rw [this, Int.natCast_mul]
  obtain ⟨x, ex⟩ : ∃ x, x = l * p0 := ⟨_, rfl⟩
  have hx64 : x < 18446744073709551616 := by omega
  refine d_op (hmul rfl rfl) ?_
  rw [← ex]
  refine d_op (ev_and (y := 4294967295) (by constructor <;> omega) (by decide)) ?_
  rw [low32]
  refine d_op ev_neq (d_if rfl (fun g => ?_) (fun g => ?_))
  · refine d_op (hmul rfl rfl) ?_
    rw [← ex]
    refine d_op (ev_unxor64 hx64) (d_op (ev_and (y := 4294967295) (by have : 18446744073709551615 ^^^ x < 18446744073709551616 := Nat.xor_lt_two_pow (n := 64) (by decide) hx64; constructor <;> omega) (by decide)) ?_)
    rw [nlow32 hx64]
    obtain ⟨e, ee⟩ : ∃ e, e = 4294967295 - x % 4294967296 := ⟨_, rfl⟩
    rw [← ee]
    have he0 : 0 < e := by omega
    have he : e < 4294967296 := by omega
    obtain ⟨j, t, ht⟩ := odd_part e e (Nat.le_refl _) he0
    obtain ⟨hj, hb⟩ := low_bit ht he
    obtain ⟨hkj, hd'⟩ := low_more hpo hk hd (by rw [← ex]; exact ee) ht hj
    have h2j : 2 ^ j < 4294967296 := Nat.pow_lt_pow_right (a := 2) (by decide) hj
    have h2k : 2 ^ k ≤ 2 ^ j := Nat.pow_le_pow_right (by decide) hkj
    refine d_op (v := .int .u64 ((18446744073709551616 - e : Nat) : Int)) (ev_negw.trans (by rw [wrap_u rfl]; congr 2; show (0 - (e : Int)) % 18446744073709551616 = _; omega)) ?_
    refine d_op (ev_and (by constructor <;> omega) (by constructor <;> omega)) ?_
    rw [hb]
    obtain ⟨q, hq⟩ : ∃ q, q = 2 ^ j := ⟨_, rfl⟩
    have hq1 : 0 < q := by rw [hq]; exact Nat.pow_pos (by decide)
    refine d_op (ev_add (by rw [← hq]; rw [← hq] at h2j; constructor <;> omega)) ?_
    refine d_back rfl ⟨l + q, by rw [hq]; rfl, ⟨j + 1, hj, by rw [hq, Nat.pow_succ]; omega, by rw [hq]; exact hd'⟩, by omega⟩
  · have hl' : l * m % b32 = 4294967295 := by
      have : l * p0 % b32 = l * m % b32 := by rw [hp0, Nat.mul_mod, Nat.mod_mod, ← Nat.mul_mod]
      rw [← this, ← ex]
      show x % 4294967296 = _
      omega
    have hlr := rlow_is ho hl hl'
    have e0 : rcells m l 1 = CN .u64 [m0, m1, m2, m3, p0, p1, p2, p3, p4, p5, p6, p7, l, 1, 0, 0, 0] := by
      unfold rcells; rw [em, ep]; rfl
    refine d_op (v := .lst (rcells m l 1)) (by rw [e0]; rfl) ?_
    rw [hlr]
    refine d_while (fun i : Nat => [.int .i64 (i : Int), .lst (rcells m (rlow m) (2 ^ i % m))]) (fun i => i ≤ 512) (fun i => 512 - i) 0 (Nat.zero_le _) (by rw [Nat.pow_zero, Nat.mod_eq_of_lt h1]; rfl) ?_
    intro i hi
    refine d_op ev_lss (d_if rfl (fun g1 => ?_) (fun g1 => ?_))
    · have lt : ∀ x, x % m < m := fun x => Nat.mod_lt _ (by omega)
      have lt' : ∀ x, x % m < W256 := fun x => Nat.lt_trans (lt x) hm
      obtain ⟨s0, s1, s2, s3, eS⟩ := WV_parts (lt' (2 ^ i))
      obtain ⟨t0, t1, t2, t3, eT⟩ := WV_parts (lt' (2 ^ (i + 1)))
      have ha := had m (rlow m) (2 ^ i % m) (2 ^ i % m) (2 ^ i % m) hm (lt' _) (lt _) (lt _)
      have e : addM m (2 ^ i % m) (2 ^ i % m) = 2 ^ (i + 1) % m := by unfold addM; rw [← Nat.add_mod]; congr 1; rw [Nat.pow_succ]; omega
      rw [e, eS, eT] at ha
      refine d_op (rcells_get (lt' _) eS) (d_op (rcells_get (lt' _) eS) (d_callH ha (d_op (ev_ext rfl (fun h => by cases h)) (d_op (ev_ext rfl (fun h => by cases h)) ?_))))
      refine d_cells rfl rfl rfl rfl (d_op (rcells_set (lt' _) eT) (d_op (ev_add (by constructor <;> omega)) ?_))
      exact d_back rfl ⟨i + 1, rfl, by omega, by omega⟩
    · have : i = 512 := by omega
      subst this
      have e3 : 2 ^ 512 % m = W256 * W256 % m := rfl
      rw [e3]
      exact d_op (v := RP m (rlow m) (W256 * W256 % m)) rfl (d_ret rfl)
end Go.SE
