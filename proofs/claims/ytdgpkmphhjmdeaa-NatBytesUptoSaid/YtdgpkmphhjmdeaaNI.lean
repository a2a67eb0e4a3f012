/- Nothing of the statement is proved here: this text lays generic laws: NI; no conditions. -/
import Derived.Test.YtdgpkmphhjmdeaaNH

set_option linter.all false
set_option autoImplicit false
set_option exponentiation.threshold 5000
namespace Go.SE
open Go

variable {P : Program} {R : AEnd → Prop} {L A B X Y : List Nat} {b : Nat}

def t_shifted : T :=
  .node (.op .len [.v 0]) <| -- 2
  .node (.op (.bin .add) [.v 2, .c (.int .i64 1)]) <| -- 3
  .node (.op (.chkmk 4) [.v 3, .v 3]) <| -- 4
  .node (.op (.lzero 4 [.int .u32 0]) [.v 3]) <| -- 5
  .node (.op .len [.v 0]) <| -- 6
  .loop [.c (.int .i64 0), .v 5] [true, false] <| -- 7 to 8
    .node (.op (.bin .lss) [.v 7, .v 6]) <| -- 9
    .br (.v 9) (
      .node (.op (.eaddr 1) [.v 0, .v 7]) <| -- 10
      .node (.op (.rld false 1) [.v 10]) <| -- 11
      .node (.op .chki [.v 7, .v 3]) <| -- 12
      .node (.op (.ofs 1) [.c (.int .i64 0), .v 7]) <| -- 13
      .node (.op (.lget false 1) [.v 8, .v 13]) <| -- 14
      .node (.op (.bin .shl) [.v 11, .v 1]) <| -- 15
      .node (.op (.bin .or) [.v 14, .v 15]) <| -- 16
      .node (.op .chki [.v 7, .v 3]) <| -- 17
      .node (.op (.ofs 1) [.c (.int .i64 0), .v 7]) <| -- 18
      .node (.op .lset [.v 8, .v 18, .v 16]) <| -- 19
      .node (.op (.bin .add) [.v 7, .c (.int .i64 1)]) <| -- 20
      .node (.op (.cvt .u64) [.v 11]) <| -- 21
      .node (.op (.bin .shl) [.v 21, .v 1]) <| -- 22
      .node (.op (.bin .shr) [.v 22, .c (.int .u64 32)]) <| -- 23
      .node (.op (.cvt .u32) [.v 23]) <| -- 24
      .node (.op .chki [.v 20, .v 3]) <| -- 25
      .node (.op (.ofs 1) [.c (.int .i64 0), .v 20]) <| -- 26
      .node (.op .lset [.v 19, .v 26, .v 24]) <| -- 27
      .node (.op (.bin .add) [.v 7, .c (.int .i64 1)]) <| -- 28
      .back 0 [.v 28, .v 27]) (
      .node (.op (.mksl 1) [.v 8, .c (.int .i64 0), .v 3]) <| -- 10
      .ret (.v 10))
theorem shifted_den {n : Nat} (hA : LtAll B32 A) (hl : A.length ≤ 35184372088831) (hn : n < 32) : D P (fun e => e = .ret (W (fdigs B32 (A.length + 1) (val B32 A * 2 ^ n)))) [] 2 [.int .i64 (n : Int), W A] t_shifted := by
  have hn32 : n < 4294967296 := by omega
  have e1 : (A.length : Int) + 1 = ((A.length + 1 : Nat) : Int) := by omega
  refine d_op ev_len (d_op (ev_add (by constructor <;> omega)) ?_)
  rw [e1]
  refine d_op (ev_chkmk rfl rfl (Nat.le_refl _) (by omega)) (d_op (ev_lzeroN (k := .u32) (n := A.length + 1) rfl (by omega)) (d_op ev_len ?_))
  refine d_while (fun s : Nat × List Nat => [.int .i64 (s.1 : Int), .lst (CN .u32 s.2)])
    (fun s => s.1 ≤ A.length ∧ s.2.length = A.length + 1 ∧ LtAll B32 s.2 ∧ val B32 s.2 = val B32 (A.take s.1) * 2 ^ n ∧ ∀ k, s.1 < k → s.2.getD k 0 = 0) (fun s => A.length - s.1)
    (0, List.replicate (A.length + 1) 0) ⟨Nat.zero_le _, by simp, LtAll.replicate (by decide) _, by simp [val_replicate], fun k _ => getD_replicate k⟩ rfl ?_
  rintro ⟨i, O⟩ ⟨hi, hol, hot, hov, hoz⟩
  dsimp only at hi hol hot hov hoz ⊢
  refine d_op ev_lss (d_if rfl (fun h1 => ?_) (fun h1 => ?_))
  · have hia : i < A.length := by omega
    obtain ⟨x, ex⟩ : ∃ x, x = A.getD i 0 := ⟨_, rfl⟩
    obtain ⟨o, eo⟩ : ∃ o, o = O.getD i 0 := ⟨_, rfl⟩
    have hx : x < 4294967296 := ex ▸ hA.getD (by decide) i
    have hx2 : x * 2 ^ n < 4294967296 * 2147483649 := Nat.mul_lt_mul'' hx (Nat.lt_of_le_of_lt (Nat.pow_le_pow_right (by omega) (show n ≤ 31 by omega)) (by decide))
    obtain ⟨y, ey⟩ : ∃ y, y = x * 2 ^ n := ⟨_, rfl⟩
    rw [← ey] at hx2
    have ho : o < 2 ^ n := by
      rw [eo, getD_digit (by decide) hot]
      refine Nat.lt_of_le_of_lt (Nat.mod_le _ _) ?_
      rw [Nat.div_lt_iff_lt_mul (Nat.pow_pos (by decide)), hov, Nat.mul_comm]
      refine Nat.mul_lt_mul_of_pos_left ?_ (Nat.two_pow_pos n)
      exact Nat.lt_of_lt_of_le (val_lt (by decide) (hA.take i)) (Nat.pow_le_pow_right (by decide) (by simp; omega))
    have hdv : 2 ^ n ∣ y % 4294967296 := by
      have h1 : 2 ^ n ∣ y := by rw [ey]; exact Nat.dvd_mul_left _ _
      have h2 : 2 ^ n ∣ 4294967296 := Nat.pow_dvd_pow 2 (show n ≤ 32 by omega)
      exact (Nat.dvd_mod_iff h2).2 h1
    have hor := or_low ho hdv
    have hol2 : o + y % 4294967296 < 4294967296 := by
      rw [← hor]
      exact Nat.or_lt_two_pow (n := 32) (by have : 2 ^ n ≤ 2 ^ 31 := Nat.pow_le_pow_right (by omega) (by omega); omega) (Nat.mod_lt _ (by decide))
    have ew : IntKind.u32.wrap (y : Int) = ((y % 4294967296 : Nat) : Int) := by rw [wrap_u rfl]; rfl
    have ew2 : IntKind.u64.wrap (y : Int) = (y : Int) := wrap_in (by constructor <;> omega)
    have ei1 : (i : Int) + 1 = ((i + 1 : Nat) : Int) := by omega
    have ho32 : o < 4294967296 := by omega
    refine d_op (ev_eaddrN (i := i) rfl hia) (d_op (ev_rldN' hia ex.symm) ?_)
    refine d_op (ev_chki (by omega) (by omega) rfl) (d_op (ev_ofs (o := 0) rfl rfl) (d_op (ev_lgetN' (i := i) (by simp) (by omega) eo.symm) ?_))
    refine d_op (ev_shl (y := n) rfl (by show n ≤ 32; omega) ey.symm) ?_
    rw [ew]
    refine d_op (ev_or (by constructor <;> omega) (by constructor <;> omega)) ?_
    rw [hor]
    refine d_op (ev_chki (by omega) (by omega) rfl) (d_op (ev_ofs (o := 0) rfl rfl) (d_op (ev_lsetN (i := i) (by simp) (by omega) rfl) ?_))
    refine d_op (ev_add (by constructor <;> omega)) (d_op (ev_cvt (by constructor <;> omega)) (d_op (ev_shl (y := n) rfl (by show n ≤ 64; omega) ey.symm) ?_))
    rw [ew2, ei1]
    refine d_op (ev_shr (y := 32) (p := y / 4294967296) rfl (by decide) rfl) (d_op (ev_cvt (by constructor <;> omega)) ?_)
    refine d_op (ev_chki (by omega) (by omega) rfl) (d_op (ev_ofs (o := 0) rfl rfl) (d_op (ev_lsetN (i := i + 1) (by simp) (by simp; omega) rfl) ?_))
    refine d_op (ev_add (by constructor <;> omega)) ?_
    refine d_back rfl ⟨(i + 1, (O.set i (o + y % 4294967296)).set (i + 1) (y / 4294967296)), rfl, ⟨by simp only; omega, by simp [hol], (hot.set hol2 i).set (by show _ < 4294967296; omega) _, ?_, fun k hk => ?_⟩, by simp only; omega⟩
    · show val B32 ((O.set i (o + y % 4294967296)).set (i + 1) (y / 4294967296)) = val B32 (A.take (i + 1)) * 2 ^ n
      have s1 := val_set (b := B32) (L := O) (i := i) (by omega) (o + y % 4294967296)
      have s2 := val_set (b := B32) (L := O.set i (o + y % 4294967296)) (i := i + 1) (by simp; omega) (y / 4294967296)
      rw [getD_set_ne (by omega), hoz (i + 1) (by omega), Nat.mul_zero, Nat.add_zero] at s2
      rw [← eo, Nat.mul_add] at s1
      rw [s2, val_take_succ, ← ex, Nat.add_mul, ← hov, Nat.mul_assoc, ← ey, Nat.pow_succ, Nat.mul_assoc]
      have s3 := congrArg (B32 ^ i * ·) (Nat.mod_add_div y 4294967296)
      simp only [Nat.mul_add] at s3
      show _ + B32 ^ i * (4294967296 * (y / 4294967296)) = _
      omega
    · have hk : i + 1 < k := hk
      show ((O.set i _).set (i + 1) _).getD k 0 = 0
      rw [getD_set_ne (by omega), getD_set_ne (by omega)]
      exact hoz k (by omega)
  · have : i = A.length := by omega
    subst this
    rw [List.take_length] at hov
    rw [← eq_fdigs (by decide) hot hol hov]
    refine d_op (ev_mkslN rfl (by rw [hol])) (d_ret rfl)

def t_shiftedH : T :=
  .node (.op .len [.v 0]) <| -- 2
  .node (.op (.bin .add) [.v 2, .c (.int .i64 1)]) <| -- 3
  .node (.op (.chkmk 4) [.v 3, .v 3]) <| -- 4
  .node (.op (.lzero 4 [.int .u32 0]) [.v 3]) <| -- 5
  .node (.op .len [.v 0]) <| -- 6
  .loop [.c (.int .i64 0), .v 5] [true, false] <| -- 7 to 8
    .node (.op (.bin .lss) [.v 7, .v 6]) <| -- 9
    .br (.v 9) (
      .node (.op (.eaddr 1) [.v 0, .v 7]) <| -- 10
      .node (.op (.rld false 1) [.v 10]) <| -- 11
      .node (.op .chki [.v 7, .v 3]) <| -- 12
      .node (.op (.ofs 1) [.c (.int .i64 0), .v 7]) <| -- 13
      .node (.op (.lget false 1) [.v 8, .v 13]) <| -- 14
      .node (.op (.bin .shl) [.v 11, .v 1]) <| -- 15
      .node (.op (.bin .or) [.v 14, .v 15]) <| -- 16
      .node (.op .chki [.v 7, .v 3]) <| -- 17
      .node (.op (.ofs 1) [.c (.int .i64 0), .v 7]) <| -- 18
      .node (.op .lset [.v 8, .v 18, .v 16]) <| -- 19
      .node (.op (.bin .add) [.v 7, .c (.int .i64 1)]) <| -- 20
      .node (.op (.cvt .u64) [.v 11]) <| -- 21
      .node (.op (.bin .shl) [.v 21, .v 1]) <| -- 22
      .node (.op (.bin .shr) [.v 22, .c (.int .u64 32)]) <| -- 23
      .node (.op (.cvt .u32) [.v 23]) <| -- 24
      .node (.op .chki [.v 20, .v 3]) <| -- 25
      .node (.op (.ofs 1) [.c (.int .i64 0), .v 20]) <| -- 26
      .node (.op .lset [.v 19, .v 26, .v 24]) <| -- 27
      .node (.op (.bin .add) [.v 7, .c (.int .i64 1)]) <| -- 28
      .back 0 [.v 28, .v 27]) (
      .node (.op .mktup [.c (.int .i64 0), .v 3, .v 3, .v 8]) <| -- 10
      .ret (.v 10))
theorem shiftedH_den {n : Nat} (hA : LtAll B32 A) (hl : A.length ≤ 35184372088831) (hn : n < 32) :
    D P (fun e => e = .ret (.tup [.int .i64 0, .int .i64 ((A.length + 1 : Nat) : Int), .int .i64 ((A.length + 1 : Nat) : Int), .lst (CN .u32 (fdigs B32 (A.length + 1) (val B32 A * 2 ^ n)))])) [] 2 [.int .i64 (n : Int), W A] t_shiftedH := by
  have hn32 : n < 4294967296 := by omega
  have e1 : (A.length : Int) + 1 = ((A.length + 1 : Nat) : Int) := by omega
  refine d_op ev_len (d_op (ev_add (by constructor <;> omega)) ?_)
  rw [e1]
  refine d_op (ev_chkmk rfl rfl (Nat.le_refl _) (by omega)) (d_op (ev_lzeroN (k := .u32) (n := A.length + 1) rfl (by omega)) (d_op ev_len ?_))
  refine d_while (fun s : Nat × List Nat => [.int .i64 (s.1 : Int), .lst (CN .u32 s.2)])
    (fun s => s.1 ≤ A.length ∧ s.2.length = A.length + 1 ∧ LtAll B32 s.2 ∧ val B32 s.2 = val B32 (A.take s.1) * 2 ^ n ∧ ∀ k, s.1 < k → s.2.getD k 0 = 0) (fun s => A.length - s.1)
    (0, List.replicate (A.length + 1) 0) ⟨Nat.zero_le _, by simp, LtAll.replicate (by decide) _, by simp [val_replicate], fun k _ => getD_replicate k⟩ rfl ?_
  rintro ⟨i, O⟩ ⟨hi, hol, hot, hov, hoz⟩
  dsimp only at hi hol hot hov hoz ⊢
  refine d_op ev_lss (d_if rfl (fun h1 => ?_) (fun h1 => ?_))
  · have hia : i < A.length := by omega
    obtain ⟨x, ex⟩ : ∃ x, x = A.getD i 0 := ⟨_, rfl⟩
    obtain ⟨o, eo⟩ : ∃ o, o = O.getD i 0 := ⟨_, rfl⟩
    have hx : x < 4294967296 := ex ▸ hA.getD (by decide) i
    have hx2 : x * 2 ^ n < 4294967296 * 2147483649 := Nat.mul_lt_mul'' hx (Nat.lt_of_le_of_lt (Nat.pow_le_pow_right (by omega) (show n ≤ 31 by omega)) (by decide))
    obtain ⟨y, ey⟩ : ∃ y, y = x * 2 ^ n := ⟨_, rfl⟩
    rw [← ey] at hx2
    have ho : o < 2 ^ n := by
      rw [eo, getD_digit (by decide) hot]
      refine Nat.lt_of_le_of_lt (Nat.mod_le _ _) ?_
      rw [Nat.div_lt_iff_lt_mul (Nat.pow_pos (by decide)), hov, Nat.mul_comm]
      refine Nat.mul_lt_mul_of_pos_left ?_ (Nat.two_pow_pos n)
      exact Nat.lt_of_lt_of_le (val_lt (by decide) (hA.take i)) (Nat.pow_le_pow_right (by decide) (by simp; omega))
    have hdv : 2 ^ n ∣ y % 4294967296 := by
      have h1 : 2 ^ n ∣ y := by rw [ey]; exact Nat.dvd_mul_left _ _
      have h2 : 2 ^ n ∣ 4294967296 := Nat.pow_dvd_pow 2 (show n ≤ 32 by omega)
      exact (Nat.dvd_mod_iff h2).2 h1
    have hor := or_low ho hdv
    have hol2 : o + y % 4294967296 < 4294967296 := by
      rw [← hor]
      exact Nat.or_lt_two_pow (n := 32) (by have : 2 ^ n ≤ 2 ^ 31 := Nat.pow_le_pow_right (by omega) (by omega); omega) (Nat.mod_lt _ (by decide))
    have ew : IntKind.u32.wrap (y : Int) = ((y % 4294967296 : Nat) : Int) := by rw [wrap_u rfl]; rfl
    have ew2 : IntKind.u64.wrap (y : Int) = (y : Int) := wrap_in (by constructor <;> omega)
    have ei1 : (i : Int) + 1 = ((i + 1 : Nat) : Int) := by omega
    have ho32 : o < 4294967296 := by omega
    refine d_op (ev_eaddrN (i := i) rfl hia) (d_op (ev_rldN' hia ex.symm) ?_)
    refine d_op (ev_chki (by omega) (by omega) rfl) (d_op (ev_ofs (o := 0) rfl rfl) (d_op (ev_lgetN' (i := i) (by simp) (by omega) eo.symm) ?_))
    refine d_op (ev_shl (y := n) rfl (by show n ≤ 32; omega) ey.symm) ?_
    rw [ew]
    refine d_op (ev_or (by constructor <;> omega) (by constructor <;> omega)) ?_
    rw [hor]
    refine d_op (ev_chki (by omega) (by omega) rfl) (d_op (ev_ofs (o := 0) rfl rfl) (d_op (ev_lsetN (i := i) (by simp) (by omega) rfl) ?_))
    refine d_op (ev_add (by constructor <;> omega)) (d_op (ev_cvt (by constructor <;> omega)) (d_op (ev_shl (y := n) rfl (by show n ≤ 64; omega) ey.symm) ?_))
    rw [ew2, ei1]
    refine d_op (ev_shr (y := 32) (p := y / 4294967296) rfl (by decide) rfl) (d_op (ev_cvt (by constructor <;> omega)) ?_)
    refine d_op (ev_chki (by omega) (by omega) rfl) (d_op (ev_ofs (o := 0) rfl rfl) (d_op (ev_lsetN (i := i + 1) (by simp) (by simp; omega) rfl) ?_))
    refine d_op (ev_add (by constructor <;> omega)) ?_
    refine d_back rfl ⟨(i + 1, (O.set i (o + y % 4294967296)).set (i + 1) (y / 4294967296)), rfl, ⟨by simp only; omega, by simp [hol], (hot.set hol2 i).set (by show _ < 4294967296; omega) _, ?_, fun k hk => ?_⟩, by simp only; omega⟩
    · show val B32 ((O.set i (o + y % 4294967296)).set (i + 1) (y / 4294967296)) = val B32 (A.take (i + 1)) * 2 ^ n
      have s1 := val_set (b := B32) (L := O) (i := i) (by omega) (o + y % 4294967296)
      have s2 := val_set (b := B32) (L := O.set i (o + y % 4294967296)) (i := i + 1) (by simp; omega) (y / 4294967296)
      rw [getD_set_ne (by omega), hoz (i + 1) (by omega), Nat.mul_zero, Nat.add_zero] at s2
      rw [← eo, Nat.mul_add] at s1
      rw [s2, val_take_succ, ← ex, Nat.add_mul, ← hov, Nat.mul_assoc, ← ey, Nat.pow_succ, Nat.mul_assoc]
      have s3 := congrArg (B32 ^ i * ·) (Nat.mod_add_div y 4294967296)
      simp only [Nat.mul_add] at s3
      show _ + B32 ^ i * (4294967296 * (y / 4294967296)) = _
      omega
    · have hk : i + 1 < k := hk
      show ((O.set i _).set (i + 1) _).getD k 0 = 0
      rw [getD_set_ne (by omega), getD_set_ne (by omega)]
      exact hoz k (by omega)
  · have : i = A.length := by omega
    subst this
    rw [List.take_length] at hov
    rw [← eq_fdigs (by decide) hot hol hov]
    refine d_op ev_mktup (d_ret rfl)

/-! takes and gives, in a part of a block -/

def TakesH (P : Program) (f : FuncId) : Prop := ∀ (Pre U Suf V : List Nat) (n : Nat) (cap : Int), LtAll B32 U → LtAll B32 V → V.length ≤ U.length → Pre.length + U.length + Suf.length ≤ 35184372088832 → n < B32 → n * val B32 V ≤ val B32 U + B32 ^ U.length →
  CtH P f [.osl 0 1 (.int .i64 (Pre.length : Int)) (.int .i64 (U.length : Int)) (.int .i64 cap), .val (W V), .val (.int .u32 (n : Int))] [.lst (CN .u32 (Pre ++ U ++ Suf))] ⟨false, [.val true], 1⟩
    (fun e => e = .ret (.tup [.bool (decide (val B32 U < n * val B32 V)), .lst (CN .u32 (Pre ++ fdigs B32 U.length (if val B32 U < n * val B32 V then val B32 U + B32 ^ U.length - n * val B32 V else val B32 U - n * val B32 V) ++ Suf))]))
def GivesH (P : Program) (f : FuncId) : Prop := ∀ (Pre U Suf V : List Nat) (cap : Int), LtAll B32 U → LtAll B32 V → V.length ≤ U.length → Pre.length + U.length + Suf.length ≤ 35184372088832 →
  CtH P f [.osl 0 1 (.int .i64 (Pre.length : Int)) (.int .i64 (U.length : Int)) (.int .i64 cap), .val (W V)] [.lst (CN .u32 (Pre ++ U ++ Suf))] ⟨true, [], 1⟩
    (fun e => e = .ret (.tup [.lst (CN .u32 (Pre ++ fdigs B32 U.length (val B32 U + val B32 V) ++ Suf))]))

def t_takesH : T :=
  .loop [.c (.int .u64 0), .c (.int .i64 0), .v 0] [true, true, false] <| -- 6 to 8
    .node (.op (.bin .lss) [.v 7, .v 2]) <| -- 9
    .br (.v 9) (
      .node (.op .len [.v 4]) <| -- 10
      .node (.op (.bin .lss) [.v 7, .v 10]) <| -- 11
      .br (.v 11) (
        .node (.op (.cvt .u64) [.v 5]) <| -- 12
        .node (.op (.eaddr 1) [.v 4, .v 7]) <| -- 13
        .node (.op (.rld false 1) [.v 13]) <| -- 14
        .node (.op (.cvt .u64) [.v 14]) <| -- 15
        .node (.op (.bin .mul) [.v 12, .v 15]) <| -- 16
        .node (.op (.bin .add) [.v 6, .v 16]) <| -- 17
        .node (.op (.cvt .u32) [.v 17]) <| -- 18
        .node (.op (.bin .shr) [.v 17, .c (.int .u64 32)]) <| -- 19
        .node (.op .chki [.v 7, .v 2]) <| -- 20
        .node (.op (.ofs 1) [.v 1, .v 7]) <| -- 21
        .node (.op (.lget false 1) [.v 8, .v 21]) <| -- 22
        .node (.op (.bin .lss) [.v 22, .v 18]) <| -- 23
        .br (.v 23) (
          .node (.op (.bin .add) [.v 19, .c (.int .u64 1)]) <| -- 24
          .node (.op .chki [.v 7, .v 2]) <| -- 25
          .node (.op (.ofs 1) [.v 1, .v 7]) <| -- 26
          .node (.op (.lget false 1) [.v 8, .v 26]) <| -- 27
          .node (.op (.bin .sub) [.v 27, .v 18]) <| -- 28
          .node (.op .chki [.v 7, .v 2]) <| -- 29
          .node (.op (.ofs 1) [.v 1, .v 7]) <| -- 30
          .node (.op .lset [.v 8, .v 30, .v 28]) <| -- 31
          .node (.op (.bin .add) [.v 7, .c (.int .i64 1)]) <| -- 32
          .back 0 [.v 24, .v 32, .v 31]) (
          .node (.op .chki [.v 7, .v 2]) <| -- 24
          .node (.op (.ofs 1) [.v 1, .v 7]) <| -- 25
          .node (.op (.lget false 1) [.v 8, .v 25]) <| -- 26
          .node (.op (.bin .sub) [.v 26, .v 18]) <| -- 27
          .node (.op .chki [.v 7, .v 2]) <| -- 28
          .node (.op (.ofs 1) [.v 1, .v 7]) <| -- 29
          .node (.op .lset [.v 8, .v 29, .v 27]) <| -- 30
          .node (.op (.bin .add) [.v 7, .c (.int .i64 1)]) <| -- 31
          .back 0 [.v 19, .v 31, .v 30])) (
        .node (.op (.cvt .u32) [.v 6]) <| -- 12
        .node (.op (.bin .shr) [.v 6, .c (.int .u64 32)]) <| -- 13
        .node (.op .chki [.v 7, .v 2]) <| -- 14
        .node (.op (.ofs 1) [.v 1, .v 7]) <| -- 15
        .node (.op (.lget false 1) [.v 8, .v 15]) <| -- 16
        .node (.op (.bin .lss) [.v 16, .v 12]) <| -- 17
        .br (.v 17) (
          .node (.op (.bin .add) [.v 13, .c (.int .u64 1)]) <| -- 18
          .node (.op .chki [.v 7, .v 2]) <| -- 19
          .node (.op (.ofs 1) [.v 1, .v 7]) <| -- 20
          .node (.op (.lget false 1) [.v 8, .v 20]) <| -- 21
          .node (.op (.bin .sub) [.v 21, .v 12]) <| -- 22
          .node (.op .chki [.v 7, .v 2]) <| -- 23
          .node (.op (.ofs 1) [.v 1, .v 7]) <| -- 24
          .node (.op .lset [.v 8, .v 24, .v 22]) <| -- 25
          .node (.op (.bin .add) [.v 7, .c (.int .i64 1)]) <| -- 26
          .back 0 [.v 18, .v 26, .v 25]) (
          .node (.op .chki [.v 7, .v 2]) <| -- 18
          .node (.op (.ofs 1) [.v 1, .v 7]) <| -- 19
          .node (.op (.lget false 1) [.v 8, .v 19]) <| -- 20
          .node (.op (.bin .sub) [.v 20, .v 12]) <| -- 21
          .node (.op .chki [.v 7, .v 2]) <| -- 22
          .node (.op (.ofs 1) [.v 1, .v 7]) <| -- 23
          .node (.op .lset [.v 8, .v 23, .v 21]) <| -- 24
          .node (.op (.bin .add) [.v 7, .c (.int .i64 1)]) <| -- 25
          .back 0 [.v 13, .v 25, .v 24]))) (
      .node (.op (.bin .gtr) [.v 6, .c (.int .u64 0)]) <| -- 10
      .node (.op .mktup [.v 10, .v 8]) <| -- 11
      .ret (.v 11))
theorem takesH_den {Pre U Suf V : List Nat} {n : Nat} {cap : Int} (hU : LtAll B32 U) (hV : LtAll B32 V) (hvl : V.length ≤ U.length) (hl : Pre.length + U.length + Suf.length ≤ 35184372088832) (hn : n < B32) (hle : n * val B32 V ≤ val B32 U + B32 ^ U.length) :
    D P (fun e => e = .ret (.tup [.bool (decide (val B32 U < n * val B32 V)), .lst (CN .u32 (Pre ++ fdigs B32 U.length (if val B32 U < n * val B32 V then val B32 U + B32 ^ U.length - n * val B32 V else val B32 U - n * val B32 V) ++ Suf))]))
      [] 6 [.int .u32 (n : Int), W V, .int .i64 cap, .int .i64 (U.length : Int), .int .i64 (Pre.length : Int), .lst (CN .u32 (Pre ++ U ++ Suf))] t_takesH := by
  have hn : n < 4294967296 := hn
  refine d_while (fun s : Nat × Nat × List Nat => [.int .u64 (s.1 : Int), .int .i64 (s.2.1 : Int), .lst (CN .u32 (Pre ++ s.2.2 ++ Suf))])
    (fun s => s.1 < 4294967296 ∧ s.2.1 ≤ U.length ∧ s.2.2.length = U.length ∧ LtAll B32 s.2.2 ∧ val B32 s.2.2 + n * val B32 (V.take s.2.1) = val B32 U + B32 ^ s.2.1 * s.1 ∧ (s.1 ≤ n ∨ s.1 ≤ 1)) (fun s => U.length - s.2.1)
    (0, 0, U) ⟨by simp, by simp, rfl, hU, by simp, by simp⟩ rfl ?_
  rintro ⟨c, i, M⟩ ⟨hc, hi, hml, hmt, hmv, hcn⟩
  dsimp only at hc hi hml hmt hmv hcn ⊢
  refine d_op ev_lss (d_if rfl (fun h1 => ?_) (fun h1 => ?_))
  · obtain ⟨o, eo0⟩ : ∃ o, o = M.getD i 0 := ⟨_, rfl⟩
    have ho : o < 4294967296 := eo0 ▸ hmt.getD (by decide) i
    have eo : o = (Pre ++ M ++ Suf).getD (Pre.length + i) 0 := by rw [mid_getD (by omega)]; exact eo0
    obtain ⟨y, ey⟩ : ∃ y, y = V.getD i 0 := ⟨_, rfl⟩
    have hy : y < 4294967296 := ey ▸ hV.getD (by decide) i
    have hny : n * y ≤ n * 4294967295 := Nat.mul_le_mul_left _ (by omega)
    obtain ⟨t, et⟩ : ∃ t, t = n * y := ⟨_, rfl⟩
    rw [← et] at hny
    obtain ⟨lo, elo⟩ : ∃ lo, lo = (c + t) % 4294967296 := ⟨_, rfl⟩
    obtain ⟨hb, ehb⟩ : ∃ hb, hb = (c + t) / 4294967296 := ⟨_, rfl⟩
    have hdm : lo + 4294967296 * hb = c + t := by omega
    have step : ∀ {o' c' : Nat}, o' + lo = o + 4294967296 * (c' - hb) → (c' = hb ∨ (c' = hb + 1 ∧ o < lo)) →
        (c' < 4294967296 ∧ i + 1 ≤ U.length ∧ (M.set i o').length = U.length ∧ LtAll B32 (M.set i o') ∧ val B32 (M.set i o') + n * val B32 (V.take (i + 1)) = val B32 U + B32 ^ (i + 1) * c' ∧ (c' ≤ n ∨ c' ≤ 1)) := fun {o' c'} e1 e2 => by
      have hcb : c' ≤ n ∨ c' ≤ 1 := by omega
      refine ⟨by omega, by omega, by simp [hml], hmt.set (by show o' < 4294967296; omega) i, ?_, hcb⟩
      have := place_minus (b := B32) (p := B32 ^ i) (o := o) (y := t) (c := c) (r := o') (c' := c') (V' := val B32 (M.set i o')) (V := val B32 M) (X := val B32 U) (Z := n * val B32 (V.take i)) (by rw [eo0]; exact val_set (by omega) _) (by show o' + t + c = o + 4294967296 * c'; omega) hmv
      rw [val_take_succ, ← ey, Nat.pow_succ, ← this, Nat.mul_add, et]
      congr 2
      ac_rfl
    refine d_op ev_len (d_op ev_lss (d_if rfl (fun h2 => ?_) (fun h2 => ?_)))
    · have e1 : (n : Int) * (y : Int) = (t : Int) := by rw [et]; simp
      have e2 : (c : Int) + (t : Int) = ((c + t : Nat) : Int) := by omega
      refine d_op (ev_cvt (by constructor <;> omega)) (d_op (ev_eaddrN (i := i) rfl (by omega)) (d_op (ev_rldN' (by omega) ey.symm) (d_op (ev_cvt (by constructor <;> omega)) (d_op (ev_mul (by rw [e1]; constructor <;> omega)) ?_))))
      rw [e1]
      refine d_op (ev_add (by constructor <;> omega)) ?_
      rw [e2]
      refine d_op ev_cvtw ?_
      have ew0 : IntKind.u32.wrap ((c + t : Nat) : Int) = (lo : Int) := by rw [wrap_u rfl, elo]; rfl
      rw [ew0]
      refine d_op (ev_shr (y := 32) (p := hb) rfl (by decide) ehb.symm) ?_
      refine d_op (ev_chki (by omega) (by omega) rfl) (d_op (ev_ofs rfl rfl) (d_op (ev_lgetN' (i := Pre.length + i) (by simp) (by simp; omega) eo.symm) ?_))
      refine d_op ev_lss (d_if rfl (fun h3 => ?_) (fun h3 => ?_))
      · refine d_op (ev_add (by constructor <;> omega)) ?_
        refine d_op (ev_chki (by omega) (by omega) rfl) (d_op (ev_ofs rfl rfl) (d_op (ev_lgetN' (i := Pre.length + i) (by simp) (by simp; omega) eo.symm) ?_))
        refine d_op ev_subw ?_
        have ew : IntKind.u32.wrap ((o : Int) - (lo : Int)) = ((o + 4294967296 - lo : Nat) : Int) := by
          rw [wrap_u rfl]; show ((o : Int) - (lo : Int)) % 4294967296 = _; omega
        rw [ew]
        refine d_op (ev_chki (by omega) (by omega) rfl) (d_op (ev_ofs rfl rfl) (d_op (ev_lsetN (i := Pre.length + i) (by simp) (by simp; omega) rfl) ?_))
        refine d_op (ev_add (by constructor <;> omega)) ?_
        rw [mid_set (by omega)]
        exact d_back rfl ⟨(hb + 1, i + 1, M.set i (o + 4294967296 - lo)), rfl, step (by omega) (by omega), by simp only; omega⟩
      · refine d_op (ev_chki (by omega) (by omega) rfl) (d_op (ev_ofs rfl rfl) (d_op (ev_lgetN' (i := Pre.length + i) (by simp) (by simp; omega) eo.symm) ?_))
        refine d_op (ev_sub (by constructor <;> omega)) ?_
        have ew : (o : Int) - (lo : Int) = ((o - lo : Nat) : Int) := by omega
        rw [ew]
        refine d_op (ev_chki (by omega) (by omega) rfl) (d_op (ev_ofs rfl rfl) (d_op (ev_lsetN (i := Pre.length + i) (by simp) (by simp; omega) rfl) ?_))
        refine d_op (ev_add (by constructor <;> omega)) ?_
        rw [mid_set (by omega)]
        exact d_back rfl ⟨(hb, i + 1, M.set i (o - lo)), rfl, step (by omega) (by omega), by simp only; omega⟩
    · have hy0 : y = 0 := by rw [ey]; exact getD_ge (by omega)
      have ht0 : t = 0 := by rw [et, hy0, Nat.mul_zero]
      have elo' : lo = c := by omega
      have ehb' : c / 4294967296 = hb := by omega
      refine d_op (v := .int .u32 (lo : Int)) (by rw [elo']; exact ev_cvt (by constructor <;> omega)) ?_
      refine d_op (ev_shr (y := 32) (x := c) (p := hb) rfl (by decide) ehb') ?_
      refine d_op (ev_chki (by omega) (by omega) rfl) (d_op (ev_ofs rfl rfl) (d_op (ev_lgetN' (i := Pre.length + i) (by simp) (by simp; omega) eo.symm) ?_))
      refine d_op ev_lss (d_if rfl (fun h3 => ?_) (fun h3 => ?_))
      · refine d_op (ev_add (by constructor <;> omega)) ?_
        refine d_op (ev_chki (by omega) (by omega) rfl) (d_op (ev_ofs rfl rfl) (d_op (ev_lgetN' (i := Pre.length + i) (by simp) (by simp; omega) eo.symm) ?_))
        refine d_op ev_subw ?_
        have ew : IntKind.u32.wrap ((o : Int) - (lo : Int)) = ((o + 4294967296 - lo : Nat) : Int) := by
          rw [wrap_u rfl]; show ((o : Int) - (lo : Int)) % 4294967296 = _; omega
        rw [ew]
        refine d_op (ev_chki (by omega) (by omega) rfl) (d_op (ev_ofs rfl rfl) (d_op (ev_lsetN (i := Pre.length + i) (by simp) (by simp; omega) rfl) ?_))
        refine d_op (ev_add (by constructor <;> omega)) ?_
        rw [mid_set (by omega)]
        exact d_back rfl ⟨(hb + 1, i + 1, M.set i (o + 4294967296 - lo)), rfl, step (by omega) (by omega), by simp only; omega⟩
      · refine d_op (ev_chki (by omega) (by omega) rfl) (d_op (ev_ofs rfl rfl) (d_op (ev_lgetN' (i := Pre.length + i) (by simp) (by simp; omega) eo.symm) ?_))
        refine d_op (ev_sub (by constructor <;> omega)) ?_
        have ew : (o : Int) - (lo : Int) = ((o - lo : Nat) : Int) := by omega
        rw [ew]
        refine d_op (ev_chki (by omega) (by omega) rfl) (d_op (ev_ofs rfl rfl) (d_op (ev_lsetN (i := Pre.length + i) (by simp) (by simp; omega) rfl) ?_))
        refine d_op (ev_add (by constructor <;> omega)) ?_
        rw [mid_set (by omega)]
        exact d_back rfl ⟨(hb, i + 1, M.set i (o - lo)), rfl, step (by omega) (by omega), by simp only; omega⟩
  · have : i = U.length := by omega
    subst this
    rw [List.take_of_length_le hvl] at hmv
    have hvM := val_lt (b := B32) (by decide) hmt
    have hvU := val_lt (b := B32) (by decide) hU
    rw [hml] at hvM
    have hc1 : c ≤ 1 := by
      rcases Nat.lt_or_ge 1 c with h | h
      · exfalso
        have := Nat.mul_le_mul_left (B32 ^ U.length) h
        rw [Nat.mul_comm _ 2] at this
        omega
      · exact h
    refine d_op ev_gtr (d_op ev_mktup (d_ret ?_))
    show AEnd.ret (.tup [.bool (decide ((c : Int) > 0)), .lst (CN .u32 (Pre ++ M ++ Suf))]) = _
    rcases Nat.eq_zero_or_pos c with h0 | h0
    · subst h0
      have hge : ¬ val B32 U < n * val B32 V := by omega
      rw [if_neg hge, ← eq_fdigs (b := B32) (L := M) (by decide) hmt hml (by omega)]
      simp [hge]
    · have : c = 1 := by omega
      subst this
      have hlt : val B32 U < n * val B32 V := by omega
      rw [if_pos hlt, ← eq_fdigs (b := B32) (L := M) (by decide) hmt hml (by omega)]
      simp [hlt]

def t_givesH (add32 : FuncId) : T :=
  .loop [.c (.int .u32 0), .c (.int .i64 0), .v 0] [true, true, false] <| -- 5 to 7
    .node (.op (.bin .lss) [.v 6, .v 2]) <| -- 8
    .br (.v 8) (
      .node (.op .len [.v 4]) <| -- 9
      .node (.op (.bin .lss) [.v 6, .v 9]) <| -- 10
      .br (.v 10) (
        .node (.op (.eaddr 1) [.v 4, .v 6]) <| -- 11
        .node (.op (.rld false 1) [.v 11]) <| -- 12
        .node (.op .chki [.v 6, .v 2]) <| -- 13
        .node (.op (.ofs 1) [.v 1, .v 6]) <| -- 14
        .node (.op (.lget false 1) [.v 7, .v 14]) <| -- 15
        .node (.call add32 [.v 15, .v 12, .v 5] false) <| -- 16
        .node (.op (.ext 0 true) [.v 16]) <| -- 17
        .node (.op (.ext 1 true) [.v 16]) <| -- 18
        .node (.op .chki [.v 6, .v 2]) <| -- 19
        .node (.op (.ofs 1) [.v 1, .v 6]) <| -- 20
        .node (.op .lset [.v 7, .v 20, .v 17]) <| -- 21
        .node (.op (.bin .add) [.v 6, .c (.int .i64 1)]) <| -- 22
        .back 0 [.v 18, .v 22, .v 21]) (
        .node (.op .chki [.v 6, .v 2]) <| -- 11
        .node (.op (.ofs 1) [.v 1, .v 6]) <| -- 12
        .node (.op (.lget false 1) [.v 7, .v 12]) <| -- 13
        .node (.call add32 [.v 13, .c (.int .u32 0), .v 5] false) <| -- 14
        .node (.op (.ext 0 true) [.v 14]) <| -- 15
        .node (.op (.ext 1 true) [.v 14]) <| -- 16
        .node (.op .chki [.v 6, .v 2]) <| -- 17
        .node (.op (.ofs 1) [.v 1, .v 6]) <| -- 18
        .node (.op .lset [.v 7, .v 18, .v 15]) <| -- 19
        .node (.op (.bin .add) [.v 6, .c (.int .i64 1)]) <| -- 20
        .back 0 [.v 16, .v 20, .v 19])) (
      .node (.op .mktup [.v 7]) <| -- 9
      .ret (.v 9))
theorem givesH_den {add32 : FuncId} (h32 : Add32C P add32) {Pre U Suf V : List Nat} {cap : Int} (hU : LtAll B32 U) (hV : LtAll B32 V) (hvl : V.length ≤ U.length) (hl : Pre.length + U.length + Suf.length ≤ 35184372088832) :
    D P (fun e => e = .ret (.tup [.lst (CN .u32 (Pre ++ fdigs B32 U.length (val B32 U + val B32 V) ++ Suf))]))
      [] 5 [W V, .int .i64 cap, .int .i64 (U.length : Int), .int .i64 (Pre.length : Int), .lst (CN .u32 (Pre ++ U ++ Suf))] (t_givesH add32) := by
  refine d_while (fun s : Nat × Nat × List Nat => [.int .u32 (s.1 : Int), .int .i64 (s.2.1 : Int), .lst (CN .u32 (Pre ++ s.2.2 ++ Suf))])
    (fun s => s.1 ≤ 1 ∧ s.2.1 ≤ U.length ∧ s.2.2.length = U.length ∧ LtAll B32 s.2.2 ∧ val B32 s.2.2 + B32 ^ s.2.1 * s.1 = val B32 U + val B32 (V.take s.2.1)) (fun s => U.length - s.2.1)
    (0, 0, U) ⟨by simp, by simp, rfl, hU, by simp⟩ rfl ?_
  rintro ⟨c, i, M⟩ ⟨hc, hi, hml, hmt, hmv⟩
  dsimp only at hc hi hml hmt hmv ⊢
  refine d_op ev_lss (d_if rfl (fun h1 => ?_) (fun h1 => ?_))
  · obtain ⟨o, eo0⟩ : ∃ o, o = M.getD i 0 := ⟨_, rfl⟩
    have ho : o < 4294967296 := eo0 ▸ hmt.getD (by decide) i
    have eo : (Pre ++ M ++ Suf).getD (Pre.length + i) 0 = o := by rw [mid_getD (by omega)]; exact eo0.symm
    have hy : V.getD i 0 < 4294967296 := hV.getD (by decide) i
    have step : ∀ {o' c' : Nat}, o' = (o + V.getD i 0 + c) % B32 → c' = (o + V.getD i 0 + c) / B32 →
        (c' ≤ 1 ∧ i + 1 ≤ U.length ∧ (M.set i o').length = U.length ∧ LtAll B32 (M.set i o') ∧ val B32 (M.set i o') + B32 ^ (i + 1) * c' = val B32 U + val B32 (V.take (i + 1))) := fun {o' c'} e1 e2 => by
      subst e1; subst e2
      refine ⟨by show _ / 4294967296 ≤ 1; omega, by omega, by simp [hml], hmt.set (Nat.mod_lt _ (by decide)) i, ?_⟩
      rw [val_take_succ, Nat.pow_succ]
      exact place_step (o := o) (by rw [eo0]; exact val_set (by omega) _) (Nat.mod_add_div _ _) hmv
    refine d_op ev_len (d_op ev_lss (d_if rfl (fun h2 => ?_) (fun h2 => ?_)))
    · refine d_op (ev_eaddrN (i := i) rfl (by omega)) (d_op (ev_rldN (by omega)) ?_)
      refine d_op (ev_chki (by omega) (by omega) rfl) (d_op (ev_ofs rfl rfl) (d_op (ev_lgetN' (i := Pre.length + i) (by simp) (by simp; omega) eo) ?_))
      refine d_call (h32 _ _ _ ho hy hc) (fun h => by cases h) ?_
      refine d_op (ev_ext rfl (fun _ => rfl)) (d_op (ev_ext rfl (fun _ => rfl)) ?_)
      refine d_op (ev_chki (by omega) (by omega) rfl) (d_op (ev_ofs rfl rfl) (d_op (ev_lsetN (i := Pre.length + i) (by simp) (by simp; omega) rfl) ?_))
      rw [mid_set (by omega)]
      refine d_op (ev_add (by constructor <;> omega)) ?_
      exact d_back rfl ⟨(_, i + 1, _), rfl, step rfl rfl, by simp only; omega⟩
    · have hy0 : V.getD i 0 = 0 := getD_ge (by omega)
      refine d_op (ev_chki (by omega) (by omega) rfl) (d_op (ev_ofs rfl rfl) (d_op (ev_lgetN' (i := Pre.length + i) (by simp) (by simp; omega) eo) ?_))
      refine d_call (h32 _ 0 _ ho (by decide) hc) (fun h => by cases h) ?_
      refine d_op (ev_ext rfl (fun _ => rfl)) (d_op (ev_ext rfl (fun _ => rfl)) ?_)
      refine d_op (ev_chki (by omega) (by omega) rfl) (d_op (ev_ofs rfl rfl) (d_op (ev_lsetN (i := Pre.length + i) (by simp) (by simp; omega) rfl) ?_))
      rw [mid_set (by omega)]
      refine d_op (ev_add (by constructor <;> omega)) ?_
      exact d_back rfl ⟨(_, i + 1, _), rfl, step (by rw [hy0]) (by rw [hy0]), by simp only; omega⟩
  · have : i = U.length := by omega
    subst this
    rw [List.take_of_length_le hvl] at hmv
    have hM : M = fdigs B32 U.length (val B32 U + val B32 V) := by
      have h1 := fdigs_val (b := B32) (L := M) (by decide) hmt
      rw [hml] at h1
      rw [← h1]
      have key : ∀ k n : Nat, fdigs B32 k (n % B32 ^ k) = fdigs B32 k n := fun k n => by
        have := fdigs_val (b := B32) (L := fdigs B32 k n) (by decide) (fdigs_lt (by decide) _ _)
        rwa [fdigs_length, val_fdigs] at this
      rw [← key U.length (val B32 U + val B32 V), ← hmv, Nat.add_mul_mod_self_left, key]
    refine d_op ev_mktup (d_ret ?_)
    show AEnd.ret (.tup [.lst (CN .u32 (Pre ++ M ++ Suf))]) = _
    rw [hM]

/-! trim, in one's own memory -/

def TrimH (P : Program) (f : FuncId) : Prop := ∀ C : List Nat, LtAll B32 C → C.length ≤ 35184372088832 →
  CtH P f [.osl 0 1 (.int .i64 0) (.int .i64 (C.length : Int)) (.int .i64 (C.length : Int))] [.lst (CN .u32 C)] ⟨false, [.osl 0 1 false], 1⟩
    (fun e => e = .ret (.tup [.int .i64 0, .int .i64 ((nrm C).length : Int), .int .i64 (C.length : Int), .lst (CN .u32 C)]))

def t_trimH : T :=
  .loop [.v 1, .v 2, .v 3] [true, true, true] <| -- 4 to 6
    .node (.op (.bin .gtr) [.v 5, .c (.int .i64 0)]) <| -- 7
    .br (.v 7) (
      .node (.op (.bin .sub) [.v 5, .c (.int .i64 1)]) <| -- 8
      .node (.op .chki [.v 8, .v 5]) <| -- 9
      .node (.op (.ofs 1) [.v 4, .v 8]) <| -- 10
      .node (.op (.lget false 1) [.v 0, .v 10]) <| -- 11
      .node (.op (.bin .eql) [.v 11, .c (.int .u32 0)]) <| -- 12
      .br (.v 12) (
        .node (.op (.bin .sub) [.v 5, .c (.int .i64 1)]) <| -- 13
        .node (.op .chkle [.c (.int .i64 0), .v 13]) <| -- 14
        .node (.op .chkle [.v 13, .v 6]) <| -- 15
        .node (.op .chkle [.v 6, .v 6]) <| -- 16
        .node (.op (.ofs 1) [.v 4, .c (.int .i64 0)]) <| -- 17
        .node (.op .nsub [.v 13, .c (.int .i64 0)]) <| -- 18
        .node (.op .nsub [.v 6, .c (.int .i64 0)]) <| -- 19
        .back 0 [.v 17, .v 18, .v 19]) (
        .node (.op .mktup [.v 4, .v 5, .v 6, .v 0]) <| -- 13
        .ret (.v 13))) (
      .node (.op .mktup [.v 4, .v 5, .v 6, .v 0]) <| -- 8
      .ret (.v 8))
theorem trimH_den {C : List Nat} (hC : LtAll B32 C) (hl : C.length ≤ 35184372088832) :
    D P (fun e => e = .ret (.tup [.int .i64 0, .int .i64 ((nrm C).length : Int), .int .i64 (C.length : Int), .lst (CN .u32 C)])) [] 4 [.int .i64 (C.length : Int), .int .i64 (C.length : Int), .int .i64 0, .lst (CN .u32 C)] t_trimH := by
  refine d_while (fun i : Nat => [.int .i64 0, .int .i64 (i : Int), .int .i64 (C.length : Int)]) (fun i => i ≤ C.length ∧ val B32 (C.take i) = val B32 C) id C.length ⟨Nat.le_refl _, by rw [List.take_length]⟩ rfl ?_
  rintro i ⟨hi, hv⟩
  have hlen : (C.take i).length = i := by simp; omega
  refine d_op ev_gtr (d_if rfl (fun hb => ?_) (fun hb => ?_))
  · obtain ⟨j, rfl⟩ : ∃ j, i = j + 1 := ⟨i - 1, by omega⟩
    have ej : ((j + 1 : Nat) : Int) - 1 = (j : Int) := by omega
    have hx : C.take (j + 1) = C.take j ++ [C.getD j 0] := by
      rw [List.take_add_one, List.getD_eq_getElem?_getD, List.getElem?_eq_getElem (by omega)]; rfl
    refine d_op (ev_sub (by constructor <;> omega)) ?_
    rw [ej]
    refine d_op (ev_chki (by omega) (by omega) rfl) (d_op (ev_ofs (o := 0) rfl rfl) (d_op (ev_lgetN (i := j) (by simp) (by omega)) ?_))
    refine d_op ev_eql (d_if rfl (fun hc => ?_) (fun hc => ?_))
    · have hc : C.getD j 0 = 0 := by omega
      refine d_op (ev_sub (by constructor <;> omega)) ?_
      rw [ej]
      refine d_op (ev_chkle (by omega) (by omega)) (d_op (ev_chkle (by omega) (by omega)) (d_op (ev_chkle (by omega) (by omega)) (d_op (ev_ofs (o := 0) (n := 0) rfl rfl) (d_op (ev_nsub (by omega) (by omega)) (d_op (ev_nsub (by omega) (by omega)) ?_)))))
      refine d_back rfl ⟨j, ?_, ⟨by omega, by rw [← hv, hx, hc, val_append_zero]⟩, Nat.lt_succ_self j⟩
      show [AV.int .i64 ((0 + 0 * 1 : Nat) : Int), AV.int .i64 ((j : Int) - 0), AV.int .i64 ((C.length : Int) - 0)] = _
      simp
    · have hn : nrm C = C.take (j + 1) := nrm_take hC (by rw [hlen]) hv (by rw [hx]; exact noTail_append (by omega))
      refine d_op ev_mktup (d_ret ?_)
      show AEnd.ret (.tup [.int .i64 0, .int .i64 ((j + 1 : Nat) : Int), .int .i64 (C.length : Int), .lst (CN .u32 C)]) = _
      rw [hn, hlen]
  · have : i = 0 := by omega
    subst this
    have hn : nrm C = C.take 0 := nrm_take hC (by simp) hv (.inl (by simp))
    refine d_op ev_mktup (d_ret ?_)
    show AEnd.ret (.tup [.int .i64 0, .int .i64 ((0 : Nat) : Int), .int .i64 (C.length : Int), .lst (CN .u32 C)]) = _
    rw [hn, hlen]

end Go.SE
