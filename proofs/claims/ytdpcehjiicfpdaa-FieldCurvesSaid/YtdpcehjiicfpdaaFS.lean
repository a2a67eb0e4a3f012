/- Nothing of the statement is proved here: this text lays generic laws: FS; no conditions. -/
import Derived.Test.YtdpcehjiicfpdaaFR
set_option linter.all false
set_option autoImplicit false
set_option maxRecDepth 4000
set_option maxHeartbeats 4000000
set_option exponentiation.threshold 5000
namespace Go.SE
open Go
variable {P : Program} {R : AEnd → Prop}
theorem pow_split {s r i : Nat} (h : s * r = 64) : (2 ^ s) ^ i = B64 ^ (i / r) * 2 ^ (s * (i % r)) := by
  have e : B64 = 2 ^ (s * r) := by rw [h]
  rw [e, ← Nat.pow_mul, ← Nat.pow_mul, ← Nat.pow_add]
  congr 1
  rw [Nat.mul_assoc, ← Nat.mul_add, Nat.div_add_mod]
theorem part_at {s r a i x : Nat} (h : s * r = 64) (hr : 0 < r) (hx : x = a / B64 ^ (i / r) % B64) : x / 2 ^ (s * (i % r)) % 2 ^ s = a / (2 ^ s) ^ i % 2 ^ s := by
  have hlt : i % r < r := Nat.mod_lt _ hr
  have hle : s * (i % r) + s ≤ 64 := by
    rw [← h, ← Nat.mul_succ]; exact Nat.mul_le_mul_left _ hlt
  have e64 : B64 = 2 ^ (s * (i % r)) * 2 ^ (64 - s * (i % r)) := by rw [← Nat.pow_add, show s * (i % r) + (64 - s * (i % r)) = 64 by omega]
  rw [hx, pow_split h, ← Nat.div_div_eq_div_mul]
  generalize a / B64 ^ (i / r) = w
  rw [e64, Nat.mod_mul_right_div_self]
  exact Nat.mod_mod_of_dvd _ (Nat.pow_dvd_pow 2 (show s ≤ 64 - s * (i % r) by omega))
theorem join_step {s r a i x y : Nat} (h : s * r = 64) (hr : 0 < r) (hi : i < 4 * r) (hx : x = a % (2 ^ s) ^ i / B64 ^ (i / r) % B64) (hy : y = a / (2 ^ s) ^ i % 2 ^ s) :
    x ||| y * 2 ^ (s * (i % r)) = x + y * 2 ^ (s * (i % r)) ∧ (fdigs B64 4 (a % (2 ^ s) ^ i)).set (i / r) (x + y * 2 ^ (s * (i % r))) = fdigs B64 4 (a % (2 ^ s) ^ (i + 1)) ∧ x + y * 2 ^ (s * (i % r)) < B64 := by
  have hlt' : i % r < r := Nat.mod_lt _ hr
  have hle : s * (i % r) + s ≤ 64 := by
    rw [← h, ← Nat.mul_succ]; exact Nat.mul_le_mul_left _ hlt'
  have hc : 0 < 2 ^ (s * (i % r)) := Nat.pow_pos (by decide)
  have hs : 0 < 2 ^ s := Nat.pow_pos (by decide)
  have hxl : x < 2 ^ (s * (i % r)) := by
    rw [hx, pow_split h, Nat.mod_mul_right_div_self]
    exact Nat.lt_of_le_of_lt (Nat.mod_le _ _) (Nat.mod_lt _ hc)
  have hyl : y < 2 ^ s := hy ▸ Nat.mod_lt _ hs
  have hlt : x + y * 2 ^ (s * (i % r)) < B64 := by
    have h1 : (y + 1) * 2 ^ (s * (i % r)) ≤ 2 ^ s * 2 ^ (s * (i % r)) := Nat.mul_le_mul_right _ hyl
    have h2 : 2 ^ s * 2 ^ (s * (i % r)) ≤ 2 ^ 64 := by rw [← Nat.pow_add]; exact Nat.pow_le_pow_right (by decide) (by omega)
    rw [Nat.add_mul] at h1
    show _ < 2 ^ 64
    omega
  refine ⟨?_, ?_, hlt⟩
  · rw [Nat.mul_comm y, Nat.or_comm, ← Nat.two_pow_add_eq_or_of_lt hxl, Nat.add_comm]
  · have hb : 0 < B64 := by decide
    have hi2 : i / r < 4 := by rw [Nat.div_lt_iff_lt_mul hr]; omega
    have hp4 : (2 ^ s) ^ (4 * r) = B64 ^ 4 := by
      rw [← Nat.pow_mul, show s * (4 * r) = 4 * 64 by rw [Nat.mul_left_comm, h]]; rfl
    have hm1 : a % (2 ^ s) ^ (i + 1) < B64 ^ 4 := by
      rw [← hp4]; exact Nat.lt_of_lt_of_le (Nat.mod_lt _ (Nat.pow_pos hs)) (Nat.pow_le_pow_right hs (by omega))
    have hm : a % (2 ^ s) ^ i < B64 ^ 4 := by
      rw [← hp4]; exact Nat.lt_of_lt_of_le (Nat.mod_lt _ (Nat.pow_pos hs)) (Nat.pow_le_pow_right hs (by omega))
    have h1 := val_set (b := B64) (L := fdigs B64 4 (a % (2 ^ s) ^ i)) (i := i / r) (by rw [fdigs_length]; exact hi2) (x + y * 2 ^ (s * (i % r)))
    rw [getD_digit hb (fdigs_lt hb _ _), val_fdigs_lt hm, ← hx] at h1
    refine eq_fdigs hb ((fdigs_lt hb _ _).set hlt _) (by simp [fdigs_length]) ?_
    rw [mod_pow_next, ← hy, pow_split h, Nat.mul_assoc, Nat.mul_comm (2 ^ _) y, ← pow_split h]
    rw [Nat.mul_add] at h1
    omega
theorem fdigs_snoc (b : Nat) : ∀ k a, fdigs b k a ++ [a / b ^ k % b] = fdigs b (k + 1) a
  | 0, a => by simp [fdigs]
  | k + 1, a => by
    have h := fdigs_snoc b k (a / b)
    rw [Nat.div_div_eq_div_mul, Nat.mul_comm b, ← Nat.pow_succ] at h
    show a % b :: (fdigs b k (a / b) ++ _) = a % b :: fdigs b (k + 1) (a / b)
    rw [h]
def WDigsC (P : Program) (f : FuncId) : Prop := ∀ a, a < W256 → Ct P f [WV a] (fun e => e = .ret (SN .u64 (fdigs 65536 16 a)))
def t_wdigs : T :=
 .node (.op (.cell 4 0) [.v 0]) <|
 .node (.op (.cell 4 1) [.v 0]) <|
 .node (.op (.cell 4 2) [.v 0]) <|
 .node (.op (.cell 4 3) [.v 0]) <|
 .loop [.c (.int .i64 0), .c (.int .i64 0), .c (.int .i64 0), .c (.lst [])] [true, true, true, false] <|
 .node (.op (.bin .lss) [.v 7, .c (.int .i64 16)]) <|
 .br (.v 9) (
 .node (.op (.bin .quo) [.v 7, .c (.int .i64 4)]) <|
 .node (.op .chki [.v 10, .c (.int .i64 4)]) <|
 .node (.op (.ofs 1) [.c (.int .i64 0), .v 10]) <|
 .node (.op .mklst [.v 1, .v 2, .v 3, .v 4]) <|
 .node (.op (.lget false 1) [.v 13, .v 12]) <|
 .node (.op (.bin .rem) [.v 7, .c (.int .i64 4)]) <|
 .node (.op (.bin .mul) [.c (.int .i64 16), .v 15]) <|
 .node (.op (.cvt .u64) [.v 16]) <|
 .node (.op (.bin .shr) [.v 14, .v 17]) <|
 .node (.op (.bin .and) [.v 18, .c (.int .u64 65535)]) <|
 .node (.op .mklst [.v 19]) <|
 .node (.op (.lsl 1) [.v 20, .c (.int .i64 0), .c (.int .i64 1)]) <|
 .node (.op (.lapp 1 8) [.v 8, .v 5, .v 21, .c (.int .i64 1)]) <|
 .node (.op (.ofs 1) [.v 5, .c (.int .i64 1)]) <|
 .node (.op (.bin .add) [.v 7, .c (.int .i64 1)]) <|
 .back 0 [.v 23, .v 23, .v 24, .v 22]) (
 .node (.op (.mksl 1) [.v 8, .c (.int .i64 0), .v 5]) <|
 .ret (.v 10))
theorem wdigs_den {a : Nat} (ha : a < W256) : D P (fun e => e = .ret (SN .u64 (fdigs 65536 16 a))) [] 1 [WV a] t_wdigs := by
  obtain ⟨a0, a1, a2, a3, h0, h1, h2, h3, eA, ea⟩ := WV_limbs ha
  rw [eA]
  have hL := mem4 h0 h1 h2 h3
  refine d_cells rfl rfl rfl rfl ?_
  refine d_while (fun i : Nat => [.int .i64 (i : Int), .int .i64 (i : Int), .int .i64 (i : Int), .lst (CN .u64 (fdigs 65536 i a))]) (fun i => i ≤ 16) (fun i => 16 - i) 0 (Nat.zero_le _) rfl ?_
  intro i hi
  refine d_op ev_lss (d_if rfl (fun hl => ?_) (fun hl => ?_))
  · have hi8 : i < 16 := by omega
    obtain ⟨x, ex⟩ : ∃ x, x = [a0, a1, a2, a3].getD (i / 4) 0 := ⟨_, rfl⟩
    have hx : x < 18446744073709551616 := ex ▸ hL.getD (by decide) _
    have hxd : x = a / B64 ^ (i / 4) % B64 := by rw [ex, getD_digit (by decide) hL, val4, ← ea]
    have hp := part_at (s := 16) (r := 4) rfl (by decide) hxd
    have h32 : x / 2 ^ (16 * (i % 4)) ≤ x := Nat.div_le_self _ _
    generalize ez : x / 2 ^ (16 * (i % 4)) = z at *
    clear hxd
    refine d_op (ev_quo (by omega) (by decide) (by constructor <;> omega)) ?_
    refine d_op (ev_chki (n := 4) (by omega) (by omega) rfl) (d_op (ev_ofs (n := i / 4) (o := 0) rfl (by omega)) (d_op (v := .lst (CN .u64 [a0, a1, a2, a3])) rfl ?_))
    refine d_op (ev_lgetN' (i := i / 4) (by simp) (by simp; omega) ex.symm) ?_
    refine d_op (ev_rem (by omega) (by decide)) (d_op (ev_mul (by constructor <;> omega)) (d_op (ev_cvt (by constructor <;> omega)) ?_))
    refine d_op (ev_shr (y := 16 * (i % 4)) (by omega) (by show 16 * (i % 4) ≤ 64; omega) ez) ?_
    refine d_op (ev_and (in64 (by omega)) (y := 65535) (by decide)) ?_
    rw [Nat.and_two_pow_sub_one_eq_mod _ 16, hp]
    refine d_op (ev_mklst rfl) (d_op (ev_lslN (k := .u64) (L := [a / (2 ^ 16) ^ i % 2 ^ 16]) (o := 0) (n := 1) rfl rfl (by simp)) ?_)
    refine d_op (ev_lappN (k := .u64) (M := [a / (2 ^ 16) ^ i % 2 ^ 16]) (by simp) rfl (by simp; omega)) ?_
    refine d_op (ev_ofs (n := 1) rfl rfl) (d_op (ev_add (by constructor <;> omega)) ?_)
    rw [show (2 : Nat) ^ 16 = 65536 from rfl, fdigs_snoc]
    exact d_back rfl ⟨i + 1, rfl, by omega, by omega⟩
  · have : i = 16 := by omega
    subst this
    exact d_op (ev_mkslN rfl (by simp)) (d_ret rfl)
def WWordC (P : Program) (f : FuncId) : Prop := ∀ L, LtAll 65536 L → L.length ≤ 1099511627776 → Ct P f [SN .u64 L] (fun e => e = .ret (WV (val 65536 L % W256)))
theorem fd_word {a : Nat} (ha : a < W256) : ∃ a0 a1 a2 a3, fdigs B64 4 a = [a0, a1, a2, a3] ∧ WV a = WL a0 a1 a2 a3 := by
  obtain ⟨a0, a1, a2, a3, h0, h1, h2, h3, eA, ea⟩ := WV_limbs ha
  exact ⟨a0, a1, a2, a3, (eq_fdigs (by decide) (mem4 h0 h1 h2 h3) rfl (by rw [val4, ← ea])).symm, eA⟩
def t_wword : T :=
 .loop [.c (.int .i64 0), .c (.lst [.int .u64 0, .int .u64 0, .int .u64 0, .int .u64 0])] [true, false] <|
 .node (.op (.bin .lss) [.v 1, .c (.int .i64 16)]) <|
 .br (.v 3) (
 .node (.op .len [.v 0]) <|
 .node (.op (.bin .lss) [.v 1, .v 4]) <|
 .br (.v 5) (
 .node (.op (.bin .quo) [.v 1, .c (.int .i64 4)]) <|
 .node (.op (.bin .quo) [.v 1, .c (.int .i64 4)]) <|
 .node (.op .chki [.v 7, .c (.int .i64 4)]) <|
 .node (.op (.ofs 1) [.c (.int .i64 0), .v 7]) <|
 .node (.op (.lget false 1) [.v 2, .v 9]) <|
 .node (.op (.eaddr 1) [.v 0, .v 1]) <|
 .node (.op (.rld false 1) [.v 11]) <|
 .node (.op (.bin .rem) [.v 1, .c (.int .i64 4)]) <|
 .node (.op (.bin .mul) [.c (.int .i64 16), .v 13]) <|
 .node (.op (.cvt .u64) [.v 14]) <|
 .node (.op (.bin .shl) [.v 12, .v 15]) <|
 .node (.op (.bin .or) [.v 10, .v 16]) <|
 .node (.op .chki [.v 6, .c (.int .i64 4)]) <|
 .node (.op (.ofs 1) [.c (.int .i64 0), .v 6]) <|
 .node (.op .lset [.v 2, .v 19, .v 17]) <|
 .node (.op (.bin .add) [.v 1, .c (.int .i64 1)]) <|
 .back 0 [.v 21, .v 20]) (
 .node (.op (.lget true 4) [.v 2, .c (.int .i64 0)]) <|
 .node (.op (.cell 4 0) [.v 6]) <|
 .node (.op (.cell 4 1) [.v 6]) <|
 .node (.op (.cell 4 2) [.v 6]) <|
 .node (.op (.cell 4 3) [.v 6]) <|
 .node (.op .mkagg [.v 7, .v 8, .v 9, .v 10]) <|
 .ret (.v 11))) (
 .node (.op (.lget true 4) [.v 2, .c (.int .i64 0)]) <|
 .node (.op (.cell 4 0) [.v 4]) <|
 .node (.op (.cell 4 1) [.v 4]) <|
 .node (.op (.cell 4 2) [.v 4]) <|
 .node (.op (.cell 4 3) [.v 4]) <|
 .node (.op .mkagg [.v 5, .v 6, .v 7, .v 8]) <|
 .ret (.v 9))
theorem wword_den {L : List Nat} (hL : LtAll 65536 L) (hl : L.length ≤ 1099511627776) : D P (fun e => e = .ret (WV (val 65536 L % W256))) [] 1 [SN .u64 L] t_wword := by
  obtain ⟨V, eV⟩ : ∃ V, V = val 65536 L := ⟨_, rfl⟩
  rw [← eV]
  have hV : V < 65536 ^ L.length := eV ▸ val_lt (by decide) hL
  have fin : ∀ {i : Nat}, V % 65536 ^ i = V % W256 → ∀ {H : List (List AV → Prop)} {n ρ t}, (∀ r0 r1 r2 r3, WV (V % W256) = WL r0 r1 r2 r3 → fdigs B64 4 (V % 65536 ^ i) = [r0, r1, r2, r3] → D P (fun e => e = .ret (WL r0 r1 r2 r3)) H n ρ t) → D P (fun e => e = .ret (WV (V % W256))) H n ρ t := fun {i} h {H n ρ t} k => by
    obtain ⟨r0, r1, r2, r3, e1, e2⟩ := fd_word (show V % W256 < W256 from Nat.mod_lt _ (by decide))
    rw [e2]
    exact k r0 r1 r2 r3 e2 (by rw [h]; exact e1)
  refine d_while (fun i : Nat => [.int .i64 (i : Int), .lst (CN .u64 (fdigs B64 4 (V % 65536 ^ i)))]) (fun i => i ≤ 16) (fun i => 16 - i) 0 (Nat.zero_le _) (by show _ = [_, AV.lst (CN .u64 (fdigs B64 4 (V % 1)))]; rw [Nat.mod_one]; rfl) ?_
  intro i hi
  refine d_op ev_lss (d_if rfl (fun h1 => ?_) (fun h1 => ?_))
  · have hi8 : i < 16 := by omega
    refine d_op ev_len (d_op ev_lss (d_if rfl (fun h2 => ?_) (fun h2 => ?_)))
    · have hil : i < L.length := by omega
      obtain ⟨x, ex⟩ : ∃ x, x = V % 65536 ^ i / B64 ^ (i / 4) % B64 := ⟨_, rfl⟩
      obtain ⟨y, ey⟩ : ∃ y, y = V / 65536 ^ i % 65536 := ⟨_, rfl⟩
      have hx : x < 18446744073709551616 := ex ▸ Nat.mod_lt _ (by decide)
      obtain ⟨s1, s2, s3⟩ := join_step (s := 16) (r := 4) rfl (by decide) (show i < 4 * 4 by omega) ex ey
      rw [show (2 : Nat) ^ 16 = 65536 from rfl] at s2
      have hm : V % 65536 ^ i < B64 ^ 4 := Nat.lt_of_lt_of_le (Nat.mod_lt _ (Nat.pow_pos (by decide))) (Nat.pow_le_pow_right (n := 65536) (j := 16) (by decide) (by omega))
      have gx : (fdigs B64 4 (V % 65536 ^ i)).getD (i / 4) 0 = x := by rw [getD_digit (by decide) (fdigs_lt (by decide) _ _), val_fdigs_lt hm, ← ex]
      have gy : L.getD i 0 = y := by rw [getD_digit (by decide) hL, ← eV, ← ey]
      have hs3 : y * 2 ^ (16 * (i % 4)) < 18446744073709551616 := Nat.lt_of_le_of_lt (Nat.le_add_left _ x) s3
      have hy : y < 65536 := ey ▸ Nat.mod_lt _ (by decide)
      clear ex ey
      refine d_op (ev_quo (by omega) (by decide) (by constructor <;> omega)) (d_op (ev_quo (by omega) (by decide) (by constructor <;> omega)) ?_)
      refine d_op (ev_chki (n := 4) (by omega) (by omega) rfl) (d_op (ev_ofs (n := i / 4) (o := 0) rfl (by omega)) ?_)
      refine d_op (ev_lgetN' (i := i / 4) (by simp) (by rw [fdigs_length]; omega) gx) ?_
      refine d_op (ev_eaddrN (i := i) rfl hil) (d_op (ev_rldN' hil gy) ?_)
      refine d_op (ev_rem (by omega) (by decide)) (d_op (ev_mul (by constructor <;> omega)) (d_op (ev_cvt (by constructor <;> omega)) ?_))
      refine d_op (ev_shl (y := 16 * (i % 4)) (by omega) (by show 16 * (i % 4) ≤ 64; omega) rfl) ?_
      rw [wrap_in (in64 hs3)]
      refine d_op (ev_or (in64 hx) (in64 hs3)) ?_
      rw [s1]
      refine d_op (ev_chki (n := 4) (by omega) (by omega) rfl) (d_op (ev_ofs (n := i / 4) (o := 0) rfl (by omega)) ?_)
      refine d_op (ev_lsetN (i := i / 4) (by simp) (by rw [fdigs_length]; omega) rfl) (d_op (ev_add (by constructor <;> omega)) ?_)
      rw [s2]
      exact d_back rfl ⟨i + 1, rfl, by omega, by omega⟩
    · have hVi : V < 65536 ^ i := Nat.lt_of_lt_of_le hV (Nat.pow_le_pow_right (by decide) (by omega))
      have hVW : V < W256 := Nat.lt_of_lt_of_le hVi (Nat.pow_le_pow_right (n := 65536) (j := 16) (by decide) hi)
      refine fin (i := i) (by rw [Nat.mod_eq_of_lt hVi, Nat.mod_eq_of_lt hVW]) (fun r0 r1 r2 r3 e1 e2 => ?_)
      rw [e2]
      exact d_op (v := WL r0 r1 r2 r3) rfl (d_cells rfl rfl rfl rfl (d_op (v := WL r0 r1 r2 r3) ev_wl (d_ret rfl)))
  · have : i = 16 := by omega
    subst this
    refine fin (i := 16) rfl (fun r0 r1 r2 r3 e1 e2 => ?_)
    rw [e2]
    exact d_op (v := WL r0 r1 r2 r3) rfl (d_cells rfl rfl rfl rfl (d_op (v := WL r0 r1 r2 r3) ev_wl (d_ret rfl)))
end Go.SE
