/- Nothing of the statement is proved here: this text lays generic laws: NQ; no conditions. -/
import Derived.Test.YtdgpkmphhjmdeaaNP

set_option linter.all false
set_option autoImplicit false
set_option exponentiation.threshold 40000
namespace Go.SE
open Go

variable {P : Program} {R : AEnd → Prop} {L A B C X Y M : List Nat} {b : Nat}

/-! numbers and bytes -/

theorem fdigs_getD {n q v : Nat} (h : q < n) : (fdigs b n v).getD q 0 = v / b ^ q % b := by
  induction n generalizing q v with
  | zero => omega
  | succ n ih =>
    cases q with
    | zero => simp [fdigs]
    | succ q => rw [fdigs, List.getD_cons_succ, ih (by omega), Nat.div_div_eq_div_mul, Nat.pow_succ, Nat.mul_comm b]

theorem set_fdigs {n q v d x : Nat} (hb : 0 < b) (hq : q < n) (hx : x = v / b ^ q % b + d) (hlt : x < b) (hv : v + b ^ q * d < b ^ n) : (fdigs b n v).set q x = fdigs b n (v + b ^ q * d) := by
  refine eq_fdigs hb ((fdigs_lt hb _ _).set hlt q) (by simp) ?_
  have h := val_set (b := b) (L := fdigs b n v) (i := q) (by simp; omega) x
  rw [fdigs_getD hq, val_fdigs_lt (by omega), hx, Nat.mul_add] at h
  rw [hx]; omega

theorem pow256 (i : Nat) : 256 ^ i = B32 ^ (i / 4) * 2 ^ (8 * (i % 4)) := by
  have h : 256 ^ i = 256 ^ (4 * (i / 4) + i % 4) := by rw [Nat.div_add_mod]
  rw [h, Nat.pow_add, Nat.pow_mul, Nat.pow_mul]
theorem pow256_4 (n : Nat) : 256 ^ (4 * n) = B32 ^ n := by rw [Nat.pow_mul]

theorem or_at {o x r : Nat} (ho : o < 2 ^ r) : o ||| x * 2 ^ r = o + x * 2 ^ r := by
  have h := Nat.two_pow_add_eq_or_of_lt (i := r) (b := o) ho x
  rw [Nat.or_comm, Nat.mul_comm x, ← h, Nat.add_comm]

def FromC (P : Program) (f : FuncId) : Prop := ∀ Bs, LtAll 256 Bs → Bs.length ≤ 35184372088832 → Ct P f [SN .u8 Bs] (fun e => e = .ret (res (told (val 256 Bs.reverse))))

/-- what is read of so many bytes -/
def upTo (Bs : List Nat) (i : Nat) : Nat := val 256 (Bs.reverse.take i)

theorem upTo_lt (h : LtAll 256 B) (i : Nat) : upTo B i < 256 ^ i :=
  Nat.lt_of_lt_of_le (val_lt (by decide) (LtAll.take (fun x hx => h x (List.mem_reverse.1 hx)) i)) (Nat.pow_le_pow_right (by decide) (by simp; omega))
theorem rev_at {i : Nat} (h : i < B.length) : B.reverse.getD i 0 = B.getD (B.length - 1 - i) 0 := by
  rw [List.getD_eq_getElem?_getD, List.getD_eq_getElem?_getD, List.getElem?_reverse h]
theorem upTo_succ {i : Nat} (h : i < B.length) : upTo B (i + 1) = upTo B i + 256 ^ i * B.getD (B.length - 1 - i) 0 := by
  unfold upTo; rw [val_take_succ, rev_at h]
theorem upTo_all : upTo B B.length = val 256 B.reverse := by
  unfold upTo; rw [List.take_of_length_le (by simp)]

/-- one byte more -/
theorem byte_step {i n x o : Nat} (hB : LtAll 256 B) (hi : i < B.length) (hn : i / 4 < n) (hx : x = B.getD (B.length - 1 - i) 0) (ho : o = upTo B i / B32 ^ (i / 4) % B32) :
    o < 2 ^ (8 * (i % 4)) ∧ x * 2 ^ (8 * (i % 4)) < 4294967296 ∧ (fdigs B32 n (upTo B i)).set (i / 4) (o + x * 2 ^ (8 * (i % 4))) = fdigs B32 n (upTo B (i + 1)) := by
  have hlt := upTo_lt hB i
  have hxl : x < 256 := hx ▸ hB.getD (by decide) _
  have hp : 0 < B32 ^ (i / 4) := Nat.pow_pos (by decide)
  have h1 : upTo B i / B32 ^ (i / 4) < 2 ^ (8 * (i % 4)) := by
    rw [Nat.div_lt_iff_lt_mul hp, Nat.mul_comm, ← pow256]; exact hlt
  have h2 : 2 ^ (8 * (i % 4)) ≤ 2 ^ 24 := Nat.pow_le_pow_right (by omega) (by omega)
  have h3 : o < 2 ^ (8 * (i % 4)) := by rw [ho]; exact Nat.lt_of_le_of_lt (Nat.mod_le _ _) h1
  have h4 : x * 2 ^ (8 * (i % 4)) ≤ 255 * 2 ^ (8 * (i % 4)) := Nat.mul_le_mul_right _ (by omega)
  have e : upTo B (i + 1) = upTo B i + B32 ^ (i / 4) * (x * 2 ^ (8 * (i % 4))) := by
    rw [upTo_succ hi, ← hx, pow256 i, Nat.mul_assoc, Nat.mul_comm x]
  refine ⟨h3, by omega, ?_⟩
  rw [e]
  refine set_fdigs (by decide) hn (by rw [ho]) (by show _ < 4294967296; omega) ?_
  rw [← e]
  refine Nat.lt_of_lt_of_le (upTo_lt hB (i + 1)) ?_
  rw [← pow256_4]
  exact Nat.pow_le_pow_right (by decide) (by omega)

def t_from (tl : FuncId) : T :=
  .node (.op .len [.v 0]) <| -- 1
  .node (.op (.bin .add) [.v 1, .c (.int .i64 3)]) <| -- 2
  .node (.op (.bin .quo) [.v 2, .c (.int .i64 4)]) <| -- 3
  .node (.op (.chkmk 4) [.v 3, .v 3]) <| -- 4
  .node (.op (.lzero 4 [.int .u32 0]) [.v 3]) <| -- 5
  .node (.op .len [.v 0]) <| -- 6
  .loop [.c (.int .i64 0), .v 5] [true, false] <| -- 7 to 8
    .node (.op (.bin .lss) [.v 7, .v 6]) <| -- 9
    .br (.v 9) (
      .node (.op (.bin .quo) [.v 7, .c (.int .i64 4)]) <| -- 10
      .node (.op .chki [.v 10, .v 3]) <| -- 11
      .node (.op (.ofs 1) [.c (.int .i64 0), .v 10]) <| -- 12
      .node (.op (.lget false 1) [.v 8, .v 12]) <| -- 13
      .node (.op .len [.v 0]) <| -- 14
      .node (.op (.bin .sub) [.v 14, .c (.int .i64 1)]) <| -- 15
      .node (.op (.bin .sub) [.v 15, .v 7]) <| -- 16
      .node (.op (.eaddr 1) [.v 0, .v 16]) <| -- 17
      .node (.op (.rld false 1) [.v 17]) <| -- 18
      .node (.op (.cvt .u32) [.v 18]) <| -- 19
      .node (.op (.bin .rem) [.v 7, .c (.int .i64 4)]) <| -- 20
      .node (.op (.bin .mul) [.c (.int .i64 8), .v 20]) <| -- 21
      .node (.op (.bin .shl) [.v 19, .v 21]) <| -- 22
      .node (.op (.bin .or) [.v 13, .v 22]) <| -- 23
      .node (.op .chki [.v 10, .v 3]) <| -- 24
      .node (.op (.ofs 1) [.c (.int .i64 0), .v 10]) <| -- 25
      .node (.op .lset [.v 8, .v 25, .v 23]) <| -- 26
      .node (.op (.bin .add) [.v 7, .c (.int .i64 1)]) <| -- 27
      .back 0 [.v 27, .v 26]) (
      .node (.op (.mksl 1) [.v 8, .c (.int .i64 0), .v 3]) <| -- 10
      .node (.call tl [.v 10] false) <| -- 11
      .node (.op (.ext 0 true) [.v 11]) <| -- 12
      .node (.op (.ext 1 true) [.v 11]) <| -- 13
      .node (.op .mktup [.v 12, .v 13]) <| -- 14
      .ret (.v 14))
theorem from_den {tl : FuncId} (ht : ToldC P tl) (h : LtAll 256 B) (hl : B.length ≤ 35184372088832) : D P (Is (res (told (val 256 B.reverse)))) [] 1 [SN .u8 B] (t_from tl) := by
  obtain ⟨n, hn⟩ : ∃ n, n = (B.length + 3) / 4 := ⟨_, rfl⟩
  have e1 : ((B.length : Int) + 3) / 4 = (n : Int) := by omega
  refine d_op ev_len (d_op (ev_add (by constructor <;> omega)) (d_op (ev_quo (by omega) (by omega) (by constructor <;> omega)) ?_))
  rw [e1]
  refine d_op (ev_chkmk rfl rfl (Nat.le_refl _) (by omega)) (d_op (ev_lzeroN (k := .u32) (n := n) rfl (by omega)) (d_op ev_len ?_))
  refine d_while (fun i : Nat => [.int .i64 (i : Int), .lst (CN .u32 (fdigs B32 n (upTo B i)))]) (fun i => i ≤ B.length) (fun i => B.length - i) 0 (Nat.zero_le _) ?_ ?_
  · have : List.replicate n 0 = fdigs B32 n (upTo B 0) := eq_fdigs (by decide) (LtAll.replicate (by decide) n) (by simp) (by rw [val_replicate]; rfl)
    rw [this]; rfl
  · intro i hi
    refine d_op ev_lss (d_if rfl (fun h1 => ?_) (fun h1 => ?_))
    · have hib : i < B.length := by omega
      obtain ⟨x, ex⟩ : ∃ x, x = B.getD (B.length - 1 - i) 0 := ⟨_, rfl⟩
      obtain ⟨o, eo⟩ : ∃ o, o = upTo B i / B32 ^ (i / 4) % B32 := ⟨_, rfl⟩
      obtain ⟨b1, b2, b3⟩ := byte_step (n := n) h hib (by omega) ex eo
      have hx : x < 256 := ex ▸ h.getD (by decide) _
      have ho : o < 4294967296 := eo ▸ Nat.mod_lt _ (by decide)
      have eg : (fdigs B32 n (upTo B i)).getD (i / 4) 0 = o := by rw [eo]; exact fdigs_getD (by omega)
      have hw : IntKind.u32.wrap ((x * 2 ^ (8 * (i % 4)) : Nat) : Int) = ((x * 2 ^ (8 * (i % 4)) : Nat) : Int) := wrap_in (by constructor <;> omega)
      have hq : (i : Int) / 4 = ((i / 4 : Nat) : Int) := by omega
      refine d_op (ev_quo (by omega) (by omega) (by constructor <;> omega)) ?_
      rw [hq]
      refine d_op (ev_chki (by omega) (by omega) rfl) (d_op (ev_ofs (o := 0) rfl rfl) (d_op (ev_lgetN' (i := i / 4) (by simp) (by simp; omega) eg) ?_))
      refine d_op ev_len (d_op (ev_sub (by constructor <;> omega)) (d_op (ev_sub (by constructor <;> omega)) ?_))
      refine d_op (ev_eaddrN (i := B.length - 1 - i) (by omega) (by omega)) (d_op (ev_rldN' (by omega) ex.symm) (d_op (ev_cvt (by constructor <;> omega)) ?_))
      refine d_op (ev_rem (by omega) (by omega)) (d_op (ev_mul (by constructor <;> omega)) (d_op (ev_shl (y := 8 * (i % 4)) (by omega) (by show _ ≤ 32; omega) rfl) ?_))
      rw [hw]
      refine d_op (ev_or (by constructor <;> omega) (by constructor <;> omega)) ?_
      rw [or_at b1]
      refine d_op (ev_chki (by omega) (by omega) rfl) (d_op (ev_ofs (o := 0) rfl rfl) (d_op (ev_lsetN (i := i / 4) (by simp) (by simp; omega) rfl) ?_))
      rw [b3]
      refine d_op (ev_add (by constructor <;> omega)) ?_
      exact d_back rfl ⟨i + 1, rfl, by omega, by omega⟩
    · have : i = B.length := by omega
      subst this
      have hv : val B32 (fdigs B32 n (upTo B B.length)) = val 256 B.reverse := by
        rw [val_fdigs_lt, upTo_all]
        refine Nat.lt_of_lt_of_le (upTo_lt h B.length) ?_
        rw [← pow256_4]
        exact Nat.pow_le_pow_right (by decide) (by omega)
      refine d_op (ev_mkslN rfl (by simp)) (d_call (ht (fdigs B32 n (upTo B B.length)) ⟨fdigs_lt (by decide) _ _, by simp; omega⟩) (fun h => by cases h) ?_)
      rw [hv]
      exact d_op (ev_ext rfl (fun _ => rfl)) (d_op (ev_ext rfl (fun _ => rfl)) (d_op ev_mktup (d_ret (is_res (Sub.refl _)))))

def t_rfrom (rcheck plain : FuncId) : T :=
  .loop [.c (.int .i64 0), .c (.int .i64 0), .c (.int .i64 0), .c (.lst [])] [true, true, true, false] <| -- 1 to 4
    .node (.op .len [.v 0]) <| -- 5
    .node (.op (.bin .lss) [.v 3, .v 5]) <| -- 6
    .br (.v 6) (
      .node (.op (.bin .rem) [.v 3, .c (.int .i64 4)]) <| -- 7
      .node (.op (.bin .eql) [.v 7, .c (.int .i64 0)]) <| -- 8
      .br (.v 8) (
        .node (.op (.lapp 1 4) [.v 4, .v 1, .c (.lst [.int .u32 0]), .c (.int .i64 1)]) <| -- 9
        .node (.op (.ofs 1) [.v 1, .c (.int .i64 1)]) <| -- 10
        .node (.op (.bin .quo) [.v 3, .c (.int .i64 4)]) <| -- 11
        .node (.op (.bin .quo) [.v 3, .c (.int .i64 4)]) <| -- 12
        .node (.op .chki [.v 12, .v 10]) <| -- 13
        .node (.op (.ofs 1) [.c (.int .i64 0), .v 12]) <| -- 14
        .node (.op (.lget false 1) [.v 9, .v 14]) <| -- 15
        .node (.op .len [.v 0]) <| -- 16
        .node (.op (.bin .sub) [.v 16, .c (.int .i64 1)]) <| -- 17
        .node (.op (.bin .sub) [.v 17, .v 3]) <| -- 18
        .node (.op (.eaddr 1) [.v 0, .v 18]) <| -- 19
        .node (.op (.rld false 1) [.v 19]) <| -- 20
        .node (.op (.cvt .u32) [.v 20]) <| -- 21
        .node (.op (.bin .rem) [.v 3, .c (.int .i64 4)]) <| -- 22
        .node (.op (.bin .mul) [.c (.int .i64 8), .v 22]) <| -- 23
        .node (.op (.cvt .u64) [.v 23]) <| -- 24
        .node (.op (.bin .shl) [.v 21, .v 24]) <| -- 25
        .node (.op (.bin .or) [.v 15, .v 25]) <| -- 26
        .node (.op .chki [.v 11, .v 10]) <| -- 27
        .node (.op (.ofs 1) [.c (.int .i64 0), .v 11]) <| -- 28
        .node (.op .lset [.v 9, .v 28, .v 26]) <| -- 29
        .node (.op (.bin .add) [.v 3, .c (.int .i64 1)]) <| -- 30
        .back 0 [.v 10, .v 10, .v 30, .v 29]) (
        .node (.op (.bin .quo) [.v 3, .c (.int .i64 4)]) <| -- 9
        .node (.op (.bin .quo) [.v 3, .c (.int .i64 4)]) <| -- 10
        .node (.op .chki [.v 10, .v 1]) <| -- 11
        .node (.op (.ofs 1) [.c (.int .i64 0), .v 10]) <| -- 12
        .node (.op (.lget false 1) [.v 4, .v 12]) <| -- 13
        .node (.op .len [.v 0]) <| -- 14
        .node (.op (.bin .sub) [.v 14, .c (.int .i64 1)]) <| -- 15
        .node (.op (.bin .sub) [.v 15, .v 3]) <| -- 16
        .node (.op (.eaddr 1) [.v 0, .v 16]) <| -- 17
        .node (.op (.rld false 1) [.v 17]) <| -- 18
        .node (.op (.cvt .u32) [.v 18]) <| -- 19
        .node (.op (.bin .rem) [.v 3, .c (.int .i64 4)]) <| -- 20
        .node (.op (.bin .mul) [.c (.int .i64 8), .v 20]) <| -- 21
        .node (.op (.cvt .u64) [.v 21]) <| -- 22
        .node (.op (.bin .shl) [.v 19, .v 22]) <| -- 23
        .node (.op (.bin .or) [.v 13, .v 23]) <| -- 24
        .node (.op .chki [.v 9, .v 1]) <| -- 25
        .node (.op (.ofs 1) [.c (.int .i64 0), .v 9]) <| -- 26
        .node (.op .lset [.v 4, .v 26, .v 24]) <| -- 27
        .node (.op (.bin .add) [.v 3, .c (.int .i64 1)]) <| -- 28
        .back 0 [.v 1, .v 2, .v 28, .v 27])) (
      .node (.op (.mksl 1) [.v 4, .c (.int .i64 0), .v 1]) <| -- 7
      .node (.call rcheck [.v 7] true) <| -- 8
      .node (.op (.bin .neq) [.v 8, .c (.int .i64 0)]) <| -- 9
      .br (.v 9) (
        .node (.op .mktup [.c .nils, .v 8]) <| -- 10
        .ret (.v 10)) (
        .node (.op (.mksl 1) [.v 4, .c (.int .i64 0), .v 1]) <| -- 10
        .node (.call plain [.v 10] true) <| -- 11
        .node (.op .mktup [.v 11, .c (.int .i64 0)]) <| -- 12
        .ret (.v 12)))
theorem rfrom_den {rcheck plain : FuncId} (hc : RCheckC P rcheck) (hp : PlainC P plain) (h : LtAll 256 B) (hl : B.length ≤ 35184372088832) : D P (Is (res (told (val 256 B.reverse)))) [] 1 [SN .u8 B] (t_rfrom rcheck plain) := by
  refine d_while (fun i : Nat => [.int .i64 (((i + 3) / 4 : Nat) : Int), .int .i64 (((i + 3) / 4 : Nat) : Int), .int .i64 (i : Int), .lst (CN .u32 (fdigs B32 ((i + 3) / 4) (upTo B i)))]) (fun i => i ≤ B.length) (fun i => B.length - i) 0 (Nat.zero_le _) rfl ?_
  intro i hi
  refine d_op ev_len (d_op ev_lss (d_if rfl (fun h1 => ?_) (fun h1 => ?_)))
  · have hib : i < B.length := by omega
    obtain ⟨x, ex⟩ : ∃ x, x = B.getD (B.length - 1 - i) 0 := ⟨_, rfl⟩
    obtain ⟨o, eo⟩ : ∃ o, o = upTo B i / B32 ^ (i / 4) % B32 := ⟨_, rfl⟩
    obtain ⟨b1, b2, b3⟩ := byte_step (n := i / 4 + 1) h hib (by omega) ex eo
    have hx : x < 256 := ex ▸ h.getD (by decide) _
    have ho : o < 4294967296 := eo ▸ Nat.mod_lt _ (by decide)
    have eg : (fdigs B32 (i / 4 + 1) (upTo B i)).getD (i / 4) 0 = o := by rw [eo]; exact fdigs_getD (by omega)
    have hw : IntKind.u32.wrap ((x * 2 ^ (8 * (i % 4)) : Nat) : Int) = ((x * 2 ^ (8 * (i % 4)) : Nat) : Int) := wrap_in (by constructor <;> omega)
    have hq : (i : Int) / 4 = ((i / 4 : Nat) : Int) := by omega
    have en : (i + 1 + 3) / 4 = i / 4 + 1 := by omega
    refine d_op (ev_rem (by omega) (by omega)) (d_op ev_eql (d_if rfl (fun h2 => ?_) (fun h2 => ?_)))
    · have em : (i + 3) / 4 = i / 4 := by omega
      have ef : fdigs B32 (i / 4) (upTo B i) ++ [0] = fdigs B32 (i / 4 + 1) (upTo B i) := by
        refine eq_fdigs (by decide) ((fdigs_lt (by decide) _ _).append (LtAll.cons (by decide) LtAll.nil)) (by simp) ?_
        rw [val_append_zero, val_fdigs_lt]
        refine Nat.lt_of_lt_of_le (upTo_lt h i) ?_
        rw [← pow256_4]
        exact Nat.pow_le_pow_right (by decide) (by omega)
      rw [em]
      refine d_op (ev_lappN (k := .u32) (M := [0]) (by simp) rfl (by simp; omega)) (d_op (ev_ofs (n := 1) rfl rfl) ?_)
      rw [ef]
      refine d_op (ev_quo (by omega) (by omega) (by constructor <;> omega)) (d_op (ev_quo (by omega) (by omega) (by constructor <;> omega)) ?_)
      rw [hq]
      refine d_op (ev_chki (by omega) (by omega) rfl) (d_op (ev_ofs (o := 0) rfl rfl) (d_op (ev_lgetN' (i := i / 4) (by simp) (by simp) eg) ?_))
      refine d_op ev_len (d_op (ev_sub (by constructor <;> omega)) (d_op (ev_sub (by constructor <;> omega)) ?_))
      refine d_op (ev_eaddrN (i := B.length - 1 - i) (by omega) (by omega)) (d_op (ev_rldN' (by omega) ex.symm) (d_op (ev_cvt (by constructor <;> omega)) ?_))
      refine d_op (ev_rem (by omega) (by omega)) (d_op (ev_mul (by constructor <;> omega)) (d_op (ev_cvt (by constructor <;> omega)) (d_op (ev_shl (y := 8 * (i % 4)) (by omega) (by show _ ≤ 32; omega) rfl) ?_)))
      rw [hw]
      refine d_op (ev_or (by constructor <;> omega) (by constructor <;> omega)) ?_
      rw [or_at b1]
      refine d_op (ev_chki (by omega) (by omega) rfl) (d_op (ev_ofs (o := 0) rfl rfl) (d_op (ev_lsetN (i := i / 4) (by simp) (by simp) rfl) ?_))
      rw [b3]
      refine d_op (ev_add (by constructor <;> omega)) ?_
      exact d_back rfl ⟨i + 1, by rw [en]; rfl, by omega, by omega⟩
    · have em : (i + 3) / 4 = i / 4 + 1 := by omega
      rw [em]
      refine d_op (ev_quo (by omega) (by omega) (by constructor <;> omega)) (d_op (ev_quo (by omega) (by omega) (by constructor <;> omega)) ?_)
      rw [hq]
      refine d_op (ev_chki (by omega) (by omega) rfl) (d_op (ev_ofs (o := 0) rfl rfl) (d_op (ev_lgetN' (i := i / 4) (by simp) (by simp) eg) ?_))
      refine d_op ev_len (d_op (ev_sub (by constructor <;> omega)) (d_op (ev_sub (by constructor <;> omega)) ?_))
      refine d_op (ev_eaddrN (i := B.length - 1 - i) (by omega) (by omega)) (d_op (ev_rldN' (by omega) ex.symm) (d_op (ev_cvt (by constructor <;> omega)) ?_))
      refine d_op (ev_rem (by omega) (by omega)) (d_op (ev_mul (by constructor <;> omega)) (d_op (ev_cvt (by constructor <;> omega)) (d_op (ev_shl (y := 8 * (i % 4)) (by omega) (by show _ ≤ 32; omega) rfl) ?_)))
      rw [hw]
      refine d_op (ev_or (by constructor <;> omega) (by constructor <;> omega)) ?_
      rw [or_at b1]
      refine d_op (ev_chki (by omega) (by omega) rfl) (d_op (ev_ofs (o := 0) rfl rfl) (d_op (ev_lsetN (i := i / 4) (by simp) (by simp) rfl) ?_))
      rw [b3]
      refine d_op (ev_add (by constructor <;> omega)) ?_
      exact d_back rfl ⟨i + 1, by rw [en]; rfl, by omega, by omega⟩
  · have : i = B.length := by omega
    subst this
    have hv : val 256 B.reverse = val B32 (fdigs B32 ((B.length + 3) / 4) (upTo B B.length)) := by
      rw [val_fdigs_lt, upTo_all]
      refine Nat.lt_of_lt_of_le (upTo_lt h B.length) ?_
      rw [← pow256_4]
      exact Nat.pow_le_pow_right (by decide) (by omega)
    have ok : OkN (fdigs B32 ((B.length + 3) / 4) (upTo B B.length)) := ⟨fdigs_lt (by decide) _ _, by simp; omega⟩
    refine d_op (ev_mkslN rfl (by simp)) (d_call (hc _ ok) (fun _ => rfl) ?_)
    rw [← hv, told_eq]
    cases hh : long (val 256 B.reverse) with
    | true =>
      rw [if_pos rfl]
      exact d_op ev_neq (d_yes (by decide) rfl (d_op ev_mktup (d_ret (is_res Sub.res_nil))))
    | false =>
      rw [if_neg (by simp), if_neg (by simp)]
      exact d_op ev_neq (d_no (by decide) rfl (d_op (ev_mkslN rfl (by simp)) (d_call (hp.of ok hv) (fun _ => rfl) (d_op ev_mktup (d_ret (is_res (Sub.refl _)))))))

def bytesS (v : Nat) (size : Int) : List Nat × Int := if long v then ([], 2) else if size < 0 then ([], 1) else if size > 4096 then ([], 1) else if (blen v : Int) > 8 * size then ([], 1) else ((fdigs 256 size.toNat v).reverse, 0)
def resB (p : List Nat × Int) : AV := .tup [SN .u8 p.1, .int .i64 p.2]
def BytesC (P : Program) (f : FuncId) : Prop := ∀ A (size : Int), OkN A → Ct P f [W A, .int .i64 size] (fun e => e = .ret (resB (bytesS (val B32 A) size)))
theorem is_resB {u : AV} {p : List Nat × Int} (h : Sub u (resB p)) : Is (resB p) (.ret u) := ⟨u, rfl, h⟩
theorem Sub.resB_nil {e : Int} : Sub (.tup [.nils, .int .i64 e]) (resB ([], e)) := Sub.tup ⟨Sub.nils_sl, Sub.refl _, trivial⟩

theorem set_rev {k x : Nat} (h : k < L.length) : L.reverse.set (L.length - 1 - k) x = (L.set k x).reverse := by
  apply List.ext_getElem
  · simp
  · intro i h1 h2
    simp only [List.length_set, List.length_reverse] at h1
    simp only [List.getElem_set, List.getElem_reverse, List.length_set]
    by_cases h3 : L.length - 1 - k = i
    · rw [if_pos h3, if_pos (by omega)]
    · rw [if_neg h3, if_neg (by omega)]

/-- the bytes when so many are written -/
def written (N v k : Nat) : List Nat := (fdigs 256 N (v % 256 ^ k)).reverse
theorem written_len {N v k : Nat} : (written N v k).length = N := by simp [written]
theorem written_step {N v k x : Nat} (h : k < N) (hx : x = v / 256 ^ k % 256) : (written N v k).set (N - 1 - k) x = written N v (k + 1) := by
  unfold written
  have h1 := set_rev (L := fdigs 256 N (v % 256 ^ k)) (k := k) (x := x) (by simpa using h)
  rw [fdigs_length] at h1
  rw [h1, Nat.mod_pow_succ, set_fdigs (d := v / 256 ^ k % 256) (by decide) h (by rw [Nat.mod_div_self, Nat.zero_mod, Nat.zero_add, hx]) (by rw [hx]; exact Nat.mod_lt _ (by decide))]
  rw [← Nat.mod_pow_succ]
  exact Nat.lt_of_lt_of_le (Nat.mod_lt _ (Nat.pow_pos (by decide))) (Nat.pow_le_pow_right (by decide) h)
theorem written_all {N v k : Nat} (h : v < 256 ^ k) : written N v k = (fdigs 256 N v).reverse := by unfold written; rw [Nat.mod_eq_of_lt h]
theorem byte_at {v i j x : Nat} (hx : x = v / B32 ^ i % B32) (hj : j < 4) : x / 2 ^ (8 * j) % 256 = v / 256 ^ (4 * i + j) % 256 := by
  have e : B32 = 2 ^ (8 * j) * 2 ^ (32 - 8 * j) := by rw [← Nat.pow_add]; show 2 ^ 32 = _; congr 1; omega
  have e2 : 256 ^ (4 * i + j) = B32 ^ i * 2 ^ (8 * j) := by rw [Nat.pow_add, pow256_4, Nat.pow_mul]
  rw [hx, e2, ← Nat.div_div_eq_div_mul]
  generalize v / B32 ^ i = w
  rw [e, Nat.mod_mul_right_div_self]
  refine Nat.mod_mod_of_dvd _ ?_
  exact Nat.pow_dvd_pow 2 (show 8 ≤ 32 - 8 * j by omega)

def t_bytes (check len trim : FuncId) : T :=
  .node (.op .mklst [.v 0]) <| -- 2
  .node (.op (.mksl 1) [.v 2, .c (.int .i64 0), .c (.int .i64 1)]) <| -- 3
  .node (.call check [.v 3] true) <| -- 4
  .node (.op (.bin .neq) [.v 4, .c (.int .i64 0)]) <| -- 5
  .br (.v 5) (
    .node (.op .mktup [.c .nils, .v 4]) <| -- 6
    .ret (.v 6)) (
    .node (.op (.bin .lss) [.v 1, .c (.int .i64 0)]) <| -- 6
    .br (.v 6) (
      .ret (.c (.tup [.nils, .int .i64 1]))) (
      .node (.op (.bin .gtr) [.v 1, .c (.int .i64 4096)]) <| -- 7
      .br (.v 7) (
        .ret (.c (.tup [.nils, .int .i64 1]))) (
        .node (.call len [.v 0] true) <| -- 8
        .node (.op (.bin .mul) [.c (.int .i64 8), .v 1]) <| -- 9
        .node (.op (.bin .gtr) [.v 8, .v 9]) <| -- 10
        .br (.v 10) (
          .ret (.c (.tup [.nils, .int .i64 1]))) (
          .node (.op (.chkmk 1) [.v 1, .v 1]) <| -- 11
          .node (.op (.lzero 1 [.int .u8 0]) [.v 1]) <| -- 12
          .node (.call trim [.v 0] true) <| -- 13
          .node (.op .len [.v 13]) <| -- 14
          .loop [.c (.int .i64 0), .v 12] [true, false] <| -- 15 to 16
            .node (.op (.bin .lss) [.v 15, .v 14]) <| -- 17
            .br (.v 17) (
              .node (.op (.eaddr 1) [.v 13, .v 15]) <| -- 18
              .node (.op (.rld false 1) [.v 18]) <| -- 19
              .loop [.c (.int .i64 0), .v 16] [true, false] <| -- 20 to 21
                .node (.op (.bin .lss) [.v 20, .c (.int .i64 4)]) <| -- 22
                .br (.v 22) (
                  .node (.op (.bin .mul) [.c (.int .i64 4), .v 15]) <| -- 23
                  .node (.op (.bin .add) [.v 23, .v 20]) <| -- 24
                  .node (.op (.bin .lss) [.v 24, .v 1]) <| -- 25
                  .br (.v 25) (
                    .node (.op (.bin .sub) [.v 1, .c (.int .i64 1)]) <| -- 26
                    .node (.op (.bin .mul) [.c (.int .i64 4), .v 15]) <| -- 27
                    .node (.op (.bin .sub) [.v 26, .v 27]) <| -- 28
                    .node (.op (.bin .sub) [.v 28, .v 20]) <| -- 29
                    .node (.op (.bin .mul) [.c (.int .i64 8), .v 20]) <| -- 30
                    .node (.op (.bin .shr) [.v 19, .v 30]) <| -- 31
                    .node (.op (.cvt .u8) [.v 31]) <| -- 32
                    .node (.op .chki [.v 29, .v 1]) <| -- 33
                    .node (.op (.ofs 1) [.c (.int .i64 0), .v 29]) <| -- 34
                    .node (.op .lset [.v 21, .v 34, .v 32]) <| -- 35
                    .node (.op (.bin .add) [.v 20, .c (.int .i64 1)]) <| -- 36
                    .back 0 [.v 36, .v 35]) (
                    .node (.op (.bin .add) [.v 15, .c (.int .i64 1)]) <| -- 26
                    .back 1 [.v 26, .v 21])) (
                  .node (.op (.bin .add) [.v 15, .c (.int .i64 1)]) <| -- 23
                  .back 1 [.v 23, .v 21])) (
              .node (.op (.mksl 1) [.v 16, .c (.int .i64 0), .v 1]) <| -- 18
              .node (.op .mktup [.v 18, .c (.int .i64 0)]) <| -- 19
              .ret (.v 19))))))
theorem bytes_den {check len trim : FuncId} {size : Int} (hc : CheckC P check) (hln : BitLenC P len) (ht : TrimC P trim) (hA : OkN A) : D P (Is (resB (bytesS (val B32 A) size))) [] 2 [.int .i64 size, W A] (t_bytes check len trim) := by
  refine d_op (ev_mklst rfl) (d_op (ev_mksl1 rfl rfl) (d_call (hc [A] (by simp [hA]) (by simp)) (fun _ => rfl) ?_))
  show D P _ _ _ (AV.int .i64 (if (long (val B32 A) || false) = true then 2 else 0) :: _) _
  rw [Bool.or_false]
  obtain ⟨V, eV⟩ : ∃ V, V = val B32 A := ⟨_, rfl⟩
  rw [← eV]
  unfold bytesS
  cases hh : long V with
  | true =>
    rw [if_pos rfl, if_pos rfl]
    exact d_op ev_neq (d_yes (by decide) rfl (d_op ev_mktup (d_ret (is_resB Sub.resB_nil))))
  | false =>
    rw [if_neg Bool.false_ne_true, if_neg Bool.false_ne_true]
    refine d_op ev_neq (d_no (by decide) rfl (d_op ev_lss (d_if rfl (fun h1 => ?_) (fun h1 => ?_))))
    · rw [if_pos h1]; exact d_ret (is_resB Sub.resB_nil)
    · rw [if_neg h1]
      refine d_op ev_gtr (d_if rfl (fun h2 => ?_) (fun h2 => ?_))
      · rw [if_pos h2]; exact d_ret (is_resB Sub.resB_nil)
      · rw [if_neg h2]
        refine d_call (hln A hA.1 hA.2) (fun _ => rfl) (d_op (ev_mul (by constructor <;> omega)) (d_op ev_gtr ?_))
        rw [← eV]
        refine d_if rfl (fun h3 => ?_) (fun h3 => ?_)
        · rw [if_pos h3]; exact d_ret (is_resB Sub.resB_nil)
        · rw [if_neg h3]
          obtain ⟨N, rfl⟩ : ∃ N : Nat, size = (N : Int) := ⟨size.toNat, by omega⟩
          rw [Int.toNat_natCast]
          have hV : V < 256 ^ N := by
            have := blen_le.1 (show blen V ≤ 8 * N by omega)
            rwa [Nat.pow_mul] at this
          refine d_op (ev_chkmk rfl rfl (Nat.le_refl _) (by omega)) (d_op (ev_lzeroN (k := .u8) (n := N) rfl (by omega)) (d_call (ht A hA.1 hA.2) (fun _ => rfl) ?_))
          obtain ⟨X, eX⟩ : ∃ X, X = nrm A := ⟨_, rfl⟩
          have hX : LtAll B32 X := eX ▸ nrm_lt
          have vX : val B32 X = V := by rw [eX, nrm_val, eV]
          have lX : X.length ≤ 35184372088832 := by rw [eX]; exact Nat.le_trans (nrm_len hA.1) hA.2
          have hVX : V < 256 ^ (4 * X.length) := by rw [pow256_4, ← vX]; exact val_lt (by decide) hX
          rw [← eX]
          refine d_op ev_len ?_
          have e0 : List.replicate N 0 = written N V (4 * 0) := by
            unfold written
            rw [Nat.mul_zero, Nat.pow_zero, Nat.mod_one, ← eq_fdigs (b := 256) (k := N) (by decide) (LtAll.replicate (x := 0) (by decide) N) (by simp) (val_replicate N), List.reverse_replicate]
          refine d_while (fun i : Nat => [.int .i64 (i : Int), .lst (CN .u8 (written N V (4 * i)))]) (fun i => i ≤ X.length) (fun i => X.length - i) 0 (Nat.zero_le _) (by rw [← e0]; rfl) ?_
          intro i hi
          refine d_op ev_lss (d_if rfl (fun h4 => ?_) (fun h4 => ?_))
          · have hiX : i < X.length := by omega
            obtain ⟨x, ex⟩ : ∃ x, x = X.getD i 0 := ⟨_, rfl⟩
            have hx : x < 4294967296 := ex ▸ hX.getD (by decide) i
            have hxv : x = V / B32 ^ i % B32 := by rw [ex, getD_digit (by decide) hX, vX]
            refine d_op (ev_eaddrN (i := i) rfl hiX) (d_op (ev_rldN' hiX ex.symm) ?_)
            have fin : ∀ j, j ≤ 4 → (j = 4 ∨ N ≤ 4 * i + j) → written N V (4 * i + j) = written N V (4 * (i + 1)) := fun j hj h => by
              rcases h with rfl | h
              · rw [Nat.mul_succ]
              · rw [written_all (Nat.lt_of_lt_of_le hV (Nat.pow_le_pow_right (by decide) h)), written_all (Nat.lt_of_lt_of_le hV (Nat.pow_le_pow_right (by decide) (by omega)))]
            refine d_while (fun j : Nat => [.int .i64 (j : Int), .lst (CN .u8 (written N V (4 * i + j)))]) (fun j => j ≤ 4) (fun j => 4 - j) 0 (Nat.zero_le _) rfl ?_
            intro j hj
            refine d_op ev_lss (d_if rfl (fun h5 => ?_) (fun h5 => ?_))
            · have e4 : 4 * (i : Int) + (j : Int) = ((4 * i + j : Nat) : Int) := by omega
              refine d_op (ev_mul (by constructor <;> omega)) (d_op (ev_add (by constructor <;> omega)) (d_op ev_lss (d_if rfl (fun h6 => ?_) (fun h6 => ?_))))
              · have hb := byte_at (j := j) hxv (by omega)
                have hw : IntKind.u8.wrap ((x / 2 ^ (8 * j) : Nat) : Int) = ((V / 256 ^ (4 * i + j) % 256 : Nat) : Int) := by rw [wrap_u rfl, ← hb]; rfl
                refine d_op (ev_sub (by constructor <;> omega)) (d_op (ev_mul (by constructor <;> omega)) (d_op (ev_sub (by constructor <;> omega)) (d_op (ev_sub (by constructor <;> omega)) ?_)))
                refine d_op (ev_mul (by constructor <;> omega)) (d_op (ev_shr (y := 8 * j) (by omega) (by show _ ≤ 32; omega) rfl) (d_op ev_cvtw ?_))
                rw [hw]
                refine d_op (ev_chki (by omega) (by omega) rfl) ?_
                have e5 : (N : Int) - 1 - 4 * (i : Int) - (j : Int) = ((N - 1 - (4 * i + j) : Nat) : Int) := by omega
                rw [e5]
                refine d_op (ev_ofs (o := 0) rfl rfl) (d_op (ev_lsetN (i := N - 1 - (4 * i + j)) (by simp) (by rw [written_len]; omega) rfl) ?_)
                rw [written_step (by omega) rfl]
                refine d_op (ev_add (by constructor <;> omega)) ?_
                exact d_back rfl ⟨j + 1, rfl, by omega, by omega⟩
              · rw [fin j hj (.inr (by omega))]
                exact d_op (ev_add (by constructor <;> omega)) (d_back rfl ⟨i + 1, rfl, by omega, by omega⟩)
            · rw [fin j hj (.inl (by omega))]
              exact d_op (ev_add (by constructor <;> omega)) (d_back rfl ⟨i + 1, rfl, by omega, by omega⟩)
          · have : i = X.length := by omega
            subst this
            refine d_op (ev_mkslN rfl (by rw [written_len])) (d_op ev_mktup (d_ret (is_resB ?_)))
            rw [written_all hVX]
            exact Sub.refl _

def t_rbytes (rcheck rlen plain : FuncId) : T :=
  .node (.call rcheck [.v 0] true) <| -- 2
  .node (.op (.bin .neq) [.v 2, .c (.int .i64 0)]) <| -- 3
  .br (.v 3) (
    .node (.op .mktup [.c .nils, .v 2]) <| -- 4
    .ret (.v 4)) (
    .node (.op (.bin .lss) [.v 1, .c (.int .i64 0)]) <| -- 4
    .br (.v 4) (
      .ret (.c (.tup [.nils, .int .i64 1]))) (
      .node (.op (.bin .gtr) [.v 1, .c (.int .i64 4096)]) <| -- 5
      .br (.v 5) (
        .ret (.c (.tup [.nils, .int .i64 1]))) (
        .node (.call rlen [.v 0] true) <| -- 6
        .node (.op (.bin .mul) [.c (.int .i64 8), .v 1]) <| -- 7
        .node (.op (.bin .gtr) [.v 6, .v 7]) <| -- 8
        .br (.v 8) (
          .ret (.c (.tup [.nils, .int .i64 1]))) (
          .node (.op (.chkmk 1) [.v 1, .v 1]) <| -- 9
          .node (.op (.lzero 1 [.int .u8 0]) [.v 1]) <| -- 10
          .node (.call plain [.v 0] true) <| -- 11
          .loop [.c (.int .i64 0), .v 10] [true, false] <| -- 12 to 13
            .node (.op (.bin .lss) [.v 12, .v 1]) <| -- 14
            .br (.v 14) (
              .node (.op (.bin .quo) [.v 12, .c (.int .i64 4)]) <| -- 15
              .node (.op .len [.v 11]) <| -- 16
              .node (.op (.bin .lss) [.v 15, .v 16]) <| -- 17
              .br (.v 17) (
                .node (.op (.bin .sub) [.v 1, .c (.int .i64 1)]) <| -- 18
                .node (.op (.bin .sub) [.v 18, .v 12]) <| -- 19
                .node (.op (.bin .quo) [.v 12, .c (.int .i64 4)]) <| -- 20
                .node (.op (.eaddr 1) [.v 11, .v 20]) <| -- 21
                .node (.op (.rld false 1) [.v 21]) <| -- 22
                .node (.op (.bin .rem) [.v 12, .c (.int .i64 4)]) <| -- 23
                .node (.op (.bin .mul) [.c (.int .i64 8), .v 23]) <| -- 24
                .node (.op (.cvt .u64) [.v 24]) <| -- 25
                .node (.op (.bin .shr) [.v 22, .v 25]) <| -- 26
                .node (.op (.cvt .u8) [.v 26]) <| -- 27
                .node (.op .chki [.v 19, .v 1]) <| -- 28
                .node (.op (.ofs 1) [.c (.int .i64 0), .v 19]) <| -- 29
                .node (.op .lset [.v 13, .v 29, .v 27]) <| -- 30
                .node (.op (.bin .add) [.v 12, .c (.int .i64 1)]) <| -- 31
                .back 0 [.v 31, .v 30]) (
                .node (.op (.mksl 1) [.v 13, .c (.int .i64 0), .v 1]) <| -- 18
                .node (.op .mktup [.v 18, .c (.int .i64 0)]) <| -- 19
                .ret (.v 19))) (
              .node (.op (.mksl 1) [.v 13, .c (.int .i64 0), .v 1]) <| -- 15
              .node (.op .mktup [.v 15, .c (.int .i64 0)]) <| -- 16
              .ret (.v 16))))))
theorem rbytes_den {rcheck rlen plain : FuncId} {size : Int} (hc : RCheckC P rcheck) (hln : BitLenC P rlen) (ht : PlainC P plain) (hA : OkN A) : D P (Is (resB (bytesS (val B32 A) size))) [] 2 [.int .i64 size, W A] (t_rbytes rcheck rlen plain) := by
  refine d_call (hc A hA) (fun _ => rfl) ?_
  obtain ⟨V, eV⟩ : ∃ V, V = val B32 A := ⟨_, rfl⟩
  rw [← eV]
  unfold bytesS
  cases hh : long V with
  | true =>
    rw [if_pos rfl, if_pos rfl]
    exact d_op ev_neq (d_yes (by decide) rfl (d_op ev_mktup (d_ret (is_resB Sub.resB_nil))))
  | false =>
    rw [if_neg Bool.false_ne_true, if_neg Bool.false_ne_true]
    refine d_op ev_neq (d_no (by decide) rfl (d_op ev_lss (d_if rfl (fun h1 => ?_) (fun h1 => ?_))))
    · rw [if_pos h1]; exact d_ret (is_resB Sub.resB_nil)
    · rw [if_neg h1]
      refine d_op ev_gtr (d_if rfl (fun h2 => ?_) (fun h2 => ?_))
      · rw [if_pos h2]; exact d_ret (is_resB Sub.resB_nil)
      · rw [if_neg h2]
        refine d_call (hln A hA.1 hA.2) (fun _ => rfl) (d_op (ev_mul (by constructor <;> omega)) (d_op ev_gtr ?_))
        rw [← eV]
        refine d_if rfl (fun h3 => ?_) (fun h3 => ?_)
        · rw [if_pos h3]; exact d_ret (is_resB Sub.resB_nil)
        · rw [if_neg h3]
          obtain ⟨N, rfl⟩ : ∃ N : Nat, size = (N : Int) := ⟨size.toNat, by omega⟩
          rw [Int.toNat_natCast]
          have hV : V < 256 ^ N := by
            have := blen_le.1 (show blen V ≤ 8 * N by omega)
            rwa [Nat.pow_mul] at this
          refine d_op (ev_chkmk rfl rfl (Nat.le_refl _) (by omega)) (d_op (ev_lzeroN (k := .u8) (n := N) rfl (by omega)) (d_call (ht A hA.1 hA.2) (fun _ => rfl) ?_))
          obtain ⟨X, eX⟩ : ∃ X, X = nrm A := ⟨_, rfl⟩
          have hX : LtAll B32 X := eX ▸ nrm_lt
          have vX : val B32 X = V := by rw [eX, nrm_val, eV]
          have lX : X.length ≤ 35184372088832 := by rw [eX]; exact Nat.le_trans (nrm_len hA.1) hA.2
          have hVX : V < 256 ^ (4 * X.length) := by rw [pow256_4, ← vX]; exact val_lt (by decide) hX
          rw [← eX]
          have e0 : List.replicate N 0 = written N V 0 := by
            unfold written
            rw [Nat.pow_zero, Nat.mod_one, ← eq_fdigs (b := 256) (k := N) (by decide) (LtAll.replicate (x := 0) (by decide) N) (by simp) (val_replicate N), List.reverse_replicate]
          refine d_while (fun i : Nat => [.int .i64 (i : Int), .lst (CN .u8 (written N V i))]) (fun i => i ≤ N) (fun i => N - i) 0 (Nat.zero_le _) (by rw [← e0]; rfl) ?_
          intro i hi
          refine d_op ev_lss (d_if rfl (fun h4 => ?_) (fun h4 => ?_))
          · have hq : (i : Int) / 4 = ((i / 4 : Nat) : Int) := by omega
            refine d_op (ev_quo (by omega) (by omega) (by constructor <;> omega)) ?_
            rw [hq]
            refine d_op ev_len (d_op ev_lss (d_if rfl (fun h5 => ?_) (fun h5 => ?_)))
            · obtain ⟨x, ex⟩ : ∃ x, x = X.getD (i / 4) 0 := ⟨_, rfl⟩
              have hx : x < 4294967296 := ex ▸ hX.getD (by decide) (i / 4)
              have hxv : x = V / B32 ^ (i / 4) % B32 := by rw [ex, getD_digit (by decide) hX, vX]
              have hb := byte_at (j := i % 4) hxv (by omega)
              rw [Nat.div_add_mod] at hb
              have hw : IntKind.u8.wrap ((x / 2 ^ (8 * (i % 4)) : Nat) : Int) = ((V / 256 ^ i % 256 : Nat) : Int) := by rw [wrap_u rfl, ← hb]; rfl
              refine d_op (ev_sub (by constructor <;> omega)) (d_op (ev_sub (by constructor <;> omega)) (d_op (ev_quo (by omega) (by omega) (by constructor <;> omega)) ?_))
              rw [hq]
              refine d_op (ev_eaddrN (i := i / 4) rfl (by omega)) (d_op (ev_rldN' (by omega) ex.symm) ?_)
              refine d_op (ev_rem (by omega) (by omega)) (d_op (ev_mul (by constructor <;> omega)) (d_op (ev_cvt (by constructor <;> omega)) (d_op (ev_shr (y := 8 * (i % 4)) (by omega) (by show _ ≤ 32; omega) rfl) (d_op ev_cvtw ?_))))
              rw [hw]
              refine d_op (ev_chki (by omega) (by omega) rfl) ?_
              have e5 : (N : Int) - 1 - (i : Int) = ((N - 1 - i : Nat) : Int) := by omega
              rw [e5]
              refine d_op (ev_ofs (o := 0) rfl rfl) (d_op (ev_lsetN (i := N - 1 - i) (by simp) (by rw [written_len]; omega) rfl) ?_)
              rw [written_step (by omega) rfl]
              refine d_op (ev_add (by constructor <;> omega)) ?_
              exact d_back rfl ⟨i + 1, rfl, by omega, by omega⟩
            · refine d_op (ev_mkslN rfl (by rw [written_len])) (d_op ev_mktup (d_ret (is_resB ?_)))
              rw [written_all (Nat.lt_of_lt_of_le hVX (Nat.pow_le_pow_right (by decide) (by omega)))]
              exact Sub.refl _
          · have : i = N := by omega
            subst this
            refine d_op (ev_mkslN rfl (by rw [written_len])) (d_op ev_mktup (d_ret (is_resB ?_)))
            rw [written_all hV]
            exact Sub.refl _

theorem told_ok (n : Nat) : OkN (told n).1 := by
  refine ⟨?_, Nat.le_trans (told_short n) (by decide)⟩
  unfold told
  split
  · exact LtAll.nil
  · exact digs_lt (by decide) _
theorem strOf_CN (L : List Nat) : strOf (CN .u8 L) = some (L.map fun x => UInt8.ofNat x) := by
  induction L with
  | nil => rfl
  | cons x L ih =>
    show (match strOf (CN .u8 L) with | some l => some (UInt8.ofNat ((x : Int)).toNat :: l) | none => none) = _
    rw [ih]; rfl
theorem ev_l2strN : evalO .l2str [.lst (CN .u8 L)] = some (.str ⟨(L.map fun x => UInt8.ofNat x).toArray⟩) := by
  simp only [evalO, strOf_CN, Option.map_some]
theorem ev_sneq_self {s : ByteArray} : evalO (.bin .neq) [.str s, .str s] = some (.bool (decide False)) := by
  simp [evalO, aBin, sbin]
theorem bytesS_ok {v : Nat} {size : Int} (h : (bytesS v size).2 = 0) : long v = false ∧ bytesS v size = ((fdigs 256 size.toNat v).reverse, 0) ∧ v < 256 ^ size.toNat ∧ size.toNat ≤ 4096 := by
  unfold bytesS at h ⊢
  cases hh : long v with
  | true => rw [hh, if_pos rfl] at h; cases h
  | false =>
    rw [hh, if_neg (by simp)] at h
    rw [if_neg (by simp)]
    by_cases h1 : size < 0
    · rw [if_pos h1] at h; cases h
    · by_cases h2 : size > 4096
      · rw [if_neg h1, if_pos h2] at h; cases h
      · by_cases h3 : (blen v : Int) > 8 * size
        · rw [if_neg h1, if_neg h2, if_pos h3] at h; cases h
        · rw [if_neg h1, if_neg h2, if_neg h3]
          refine ⟨rfl, rfl, ?_, by omega⟩
          have := blen_le.1 (show blen v ≤ 8 * size.toNat by omega)
          rwa [Nat.pow_mul] at this

def t_natBytes (frm rfrm own byt rbyt same cmp rcmp plain lives : FuncId) : T :=
  .node (.op .len [.v 1]) <| -- 3
  .node (.op (.s2l 1) [.v 1]) <| -- 4
  .node (.op (.lapp 1 1) [.c (.lst []), .c (.int .i64 0), .v 4, .v 3]) <| -- 5
  .node (.op (.ofs 1) [.c (.int .i64 0), .v 3]) <| -- 6
  .node (.op (.mksl 1) [.v 5, .c (.int .i64 0), .v 6]) <| -- 7
  .node (.call frm [.v 7] false) <| -- 8
  .node (.op (.ext 0 true) [.v 8]) <| -- 9
  .node (.op (.ext 1 true) [.v 8]) <| -- 10
  .node (.call rfrm [.v 1] false) <| -- 11
  .node (.op (.ext 0 true) [.v 11]) <| -- 12
  .node (.op (.ext 1 true) [.v 11]) <| -- 13
  .node (.call own [.v 0] true) <| -- 14
  .node (.call byt [.v 14, .v 2] false) <| -- 15
  .node (.op (.ext 0 true) [.v 15]) <| -- 16
  .node (.op (.ext 1 true) [.v 15]) <| -- 17
  .node (.call rbyt [.v 0, .v 2] false) <| -- 18
  .node (.op (.ext 0 true) [.v 18]) <| -- 19
  .node (.op (.ext 1 true) [.v 18]) <| -- 20
  .node (.call same [.v 9, .v 12] true) <| -- 21
  .node (.op (.un .not) [.v 21]) <| -- 22
  .br (.v 22) (
    .ret (.c (.bool false))) (
    .node (.op (.bin .neq) [.v 10, .v 13]) <| -- 23
    .br (.v 23) (
      .ret (.c (.bool false))) (
      .node (.op .len [.v 16]) <| -- 24
      .node (.op (.s2l 1) [.v 16]) <| -- 25
      .node (.op .l2str [.v 25]) <| -- 26
      .node (.op .len [.v 19]) <| -- 27
      .node (.op (.s2l 1) [.v 19]) <| -- 28
      .node (.op .l2str [.v 28]) <| -- 29
      .node (.op (.bin .neq) [.v 26, .v 29]) <| -- 30
      .br (.v 30) (
        .ret (.c (.bool false))) (
        .node (.op (.bin .neq) [.v 17, .v 20]) <| -- 31
        .br (.v 31) (
          .ret (.c (.bool false))) (
          .node (.call own [.v 0] true) <| -- 32
          .node (.call own [.v 12] true) <| -- 33
          .node (.call cmp [.v 32, .v 33] true) <| -- 34
          .node (.call rcmp [.v 0, .v 12] true) <| -- 35
          .node (.op (.bin .neq) [.v 34, .v 35]) <| -- 36
          .br (.v 36) (
            .ret (.c (.bool false))) (
            .node (.op (.bin .eql) [.v 17, .c (.int .i64 0)]) <| -- 37
            .br (.v 37) (
              .node (.call frm [.v 16] false) <| -- 38
              .node (.op (.ext 0 true) [.v 38]) <| -- 39
              .node (.op (.ext 1 true) [.v 38]) <| -- 40
              .node (.call plain [.v 0] true) <| -- 41
              .node (.call same [.v 39, .v 41] true) <| -- 42
              .br (.v 42) (
                .node (.op (.bin .eql) [.v 40, .c (.int .i64 0)]) <| -- 43
                .br (.v 43) (
                  .node (.call lives [] true) <| -- 44
                  .ret (.v 44)) (
                  .ret (.c (.bool false)))) (
                .ret (.c (.bool false)))) (
              .node (.call lives [] true) <| -- 38
              .ret (.v 38)))))))
theorem natBytes_den {frm rfrm own byt rbyt same cmp rcmp plain lives : FuncId} (hf : FromC P frm) (hrf : FromC P rfrm) (ho : OwnC P own) (hb : BytesC P byt) (hrb : BytesC P rbyt) (hs : SameC P same) (hc : CompareC P cmp)
    (hrc : RCmpC P rcmp) (hp : PlainC P plain) (hv : LivesC P lives) {size : Int} (hA : OkN A) (hAl : A.length ≤ 4398046511104) (hB : LtAll 256 B) (hl : B.length ≤ 35184372088832) :
    D P (fun e => e = .ret (.bool true)) [] 3 [.int .i64 size, SN .u8 B, W A] (t_natBytes frm rfrm own byt rbyt same cmp rcmp plain lives) := by
  have own1 : ∀ {L : List Nat}, OkN L → Ct P own [W L] (fun e => e = .ret (W L)) := fun {L} h => ho L h.2
  obtain ⟨V, eV⟩ : ∃ V, V = val B32 A := ⟨_, rfl⟩
  obtain ⟨r, er⟩ : ∃ r, r = told (val 256 B.reverse) := ⟨_, rfl⟩
  obtain ⟨s, es⟩ : ∃ s, s = bytesS V size := ⟨_, rfl⟩
  have okr : OkN r.1 := er ▸ told_ok _
  have lr : r.1.length ≤ 1024 := er ▸ told_short _
  have hfb := hf B hB hl
  have hrfb := hrf B hB hl
  have hbb := hb A size hA
  have hrbb := hrb A size hA
  rw [← er] at hfb hrfb
  rw [← eV, ← es] at hbb hrbb
  refine d_op ev_len (d_op ev_s2lN (d_op (ev_lapp0N rfl rfl (by omega)) (d_op (ev_ofs (o := 0) rfl rfl) (d_op (ev_mkslN rfl (by simp)) ?_))))
  refine d_call hfb (fun h => by cases h) (d_op (ev_ext rfl (fun _ => rfl)) (d_op (ev_ext rfl (fun _ => rfl)) ?_))
  refine d_call hrfb (fun h => by cases h) (d_op (ev_ext rfl (fun _ => rfl)) (d_op (ev_ext rfl (fun _ => rfl)) ?_))
  refine d_call (own1 hA) (fun _ => rfl) (d_call hbb (fun h => by cases h) (d_op (ev_ext rfl (fun _ => rfl)) (d_op (ev_ext rfl (fun _ => rfl)) ?_)))
  refine d_call hrbb (fun h => by cases h) (d_op (ev_ext rfl (fun _ => rfl)) (d_op (ev_ext rfl (fun _ => rfl)) ?_))
  refine d_call (hs _ _ okr.2) (fun _ => rfl) (d_op ev_not (d_not rfl rfl (d_op ev_neq (d_no (fun h => h rfl) rfl ?_))))
  refine d_op ev_len (d_op ev_s2lN (d_op ev_l2strN (d_op ev_len (d_op ev_s2lN (d_op ev_l2strN (d_op ev_sneq_self (d_no id rfl ?_)))))))
  refine d_op ev_neq (d_no (fun h => h rfl) rfl ?_)
  refine d_call (own1 hA) (fun _ => rfl) (d_call (own1 okr) (fun _ => rfl) (d_call (hc _ _ hA.1 okr.1 hA.2 okr.2) (fun _ => rfl) ?_))
  refine d_call (hrc _ _ hA okr (Nat.le_trans (nrm_len hA.1) hAl) (Nat.le_trans (nrm_len okr.1) (by omega))) (fun _ => rfl) (d_op ev_neq (d_no (fun h => h rfl) rfl (d_op ev_eql ?_)))
  by_cases h0 : s.2 = 0
  · obtain ⟨hlong, hsb, hlt, hN⟩ := bytesS_ok (es ▸ h0)
    have hs1 : s.1 = (fdigs 256 size.toNat V).reverse := by rw [es, hsb]
    have hback := hf s.1 (by rw [hs1]; exact fun x hx => fdigs_lt (by decide) _ _ x (List.mem_reverse.1 hx)) (by rw [hs1]; simp; omega)
    have hvb : val 256 s.1.reverse = V := by rw [hs1, List.reverse_reverse, val_fdigs_lt hlt]
    rw [hvb, told_eq, hlong, if_neg (by simp)] at hback
    refine d_yes h0 rfl (d_call hback (fun h => by cases h) (d_op (ev_ext rfl (fun _ => rfl)) (d_op (ev_ext rfl (fun _ => rfl)) ?_)))
    refine d_call (hp.of hA eV) (fun _ => rfl) (d_call (hs _ _ (Nat.le_trans (long_false hlong) (by decide))) (fun _ => rfl) (d_yes rfl rfl (d_op ev_eql (d_yes rfl rfl (d_call hv (fun _ => rfl) (d_ret rfl))))))
  · exact d_no h0 rfl (d_call hv (fun _ => rfl) (d_ret rfl))

end Go.SE
