/- Nothing of the statement is proved here: this text lays generic laws: NE; no conditions. -/
import Derived.Test.YtdgpkmphhjmdeaaND

set_option linter.all false
set_option autoImplicit false
set_option exponentiation.threshold 5000
namespace Go.SE
open Go

variable {P : Program} {R : AEnd → Prop} {L A B X Y : List Nat}

/-! ### The reference: digits of 16 bits -/

def RCheckC (P : Program) (f : FuncId) : Prop := ∀ L, OkN L → Ct P f [W L] (fun e => e = .ret (.int .i64 (if long (val B32 L) then 2 else 0)))
def RBothC (P : Program) (f : FuncId) : Prop := ∀ A B, OkN A → OkN B → Ct P f [W A, W B] (fun e => e = .ret (.int .i64 (if long (val B32 A) || long (val B32 B) then 2 else 0)))

def t_rcheck (plain : FuncId) : T :=
  .node (.call plain [.v 0] true) <| -- 1
  .node (.op .len [.v 1]) <| -- 2
  .node (.op (.bin .gtr) [.v 2, .c (.int .i64 1024)]) <| -- 3
  .br (.v 3) (
    .ret (.c (.int .i64 2))) (
    .ret (.c (.int .i64 0)))
theorem rcheck_den {plain : FuncId} (hp : PlainC P plain) (h : OkN L) : D P (fun e => e = .ret (.int .i64 (if long (val B32 L) then 2 else 0))) [] 1 [W L] (t_rcheck plain) := by
  have hn := nrm_len h.1
  have hl := h.2
  refine d_call (hp L h.1 h.2) (fun _ => rfl) (d_op ev_len (d_op ev_gtr (d_if rfl (fun h1 => d_ret ?_) (fun h1 => d_ret ?_))))
  · show AEnd.ret (.int .i64 2) = _
    rw [long_len, if_pos (by simp; omega)]
  · show AEnd.ret (.int .i64 0) = _
    rw [long_len, if_neg (by simp; omega)]

def t_both (rcheck : FuncId) : T :=
  .node (.call rcheck [.v 0] true) <| -- 2
  .node (.op (.bin .neq) [.v 2, .c (.int .i64 0)]) <| -- 3
  .br (.v 3) (
    .ret (.v 2)) (
    .node (.call rcheck [.v 1] true) <| -- 4
    .ret (.v 4))
theorem both_den {rcheck : FuncId} (hc : RCheckC P rcheck) (hA : OkN A) (hB : OkN B) : D P (fun e => e = .ret (.int .i64 (if long (val B32 A) || long (val B32 B) then 2 else 0))) [] 2 [W B, W A] (t_both rcheck) := by
  refine d_call (hc A hA) (fun _ => rfl) ?_
  cases ha : long (val B32 A) with
  | true =>
    refine d_op ev_neq (d_if rfl (fun _ => d_ret ?_) (fun h => absurd (by decide) h))
    show AEnd.ret (.int .i64 (if true = true then 2 else 0)) = _
    rfl
  | false =>
    refine d_op ev_neq (d_if rfl (fun h => absurd h (by decide)) (fun _ => d_call (hc B hB) (fun _ => rfl) (d_ret ?_)))
    show AEnd.ret (.int .i64 (if long (val B32 B) = true then 2 else 0)) = _
    rw [Bool.false_or]

theorem pow16 (i : Nat) : 65536 ^ (2 * i) = B32 ^ i := by rw [Nat.pow_mul]

def DigitsC (P : Program) (f : FuncId) : Prop := ∀ L, LtAll B32 L → L.length ≤ 4398046511104 → Ct P f [W L] (fun e => e = .ret (SN .u64 (fdigs 65536 (2 * L.length) (val B32 L))))

theorem dig_step {i : Nat} (h : LtAll B32 L) (hi : i < L.length) :
    fdigs 65536 (2 * i) (val B32 (L.take i)) ++ [L.getD i 0 % 2 ^ 16, L.getD i 0 / 2 ^ 16] = fdigs 65536 (2 * (i + 1)) (val B32 (L.take (i + 1))) := by
  have hx : L.getD i 0 < 4294967296 := h.getD (by decide) i
  refine eq_fdigs (by decide) ((fdigs_lt (by decide) _ _).append (LtAll.cons (Nat.mod_lt _ (by decide)) (LtAll.cons (by show _ / 65536 < 65536; omega) LtAll.nil))) (by simp; omega) ?_
  have hlt : val B32 (L.take i) < 65536 ^ (2 * i) := by
    rw [pow16]
    exact Nat.lt_of_lt_of_le (val_lt (by decide) (h.take i)) (Nat.pow_le_pow_right (by decide) (by simp; omega))
  rw [val_append, fdigs_length, val_fdigs_lt hlt, val_take_succ, pow16]
  congr 2
  simp only [val_cons, val_nil, Nat.mul_zero, Nat.add_zero]
  exact Nat.mod_add_div _ _

def t_digits : T :=
  .loop [.c (.int .i64 0), .c (.int .i64 0), .c (.int .i64 0), .c (.lst [])] [true, true, true, false] <| -- 1 to 4
    .node (.op .len [.v 0]) <| -- 5
    .node (.op (.bin .lss) [.v 3, .v 5]) <| -- 6
    .br (.v 6) (
      .node (.op (.eaddr 1) [.v 0, .v 3]) <| -- 7
      .node (.op (.rld false 1) [.v 7]) <| -- 8
      .node (.op (.bin .and) [.v 8, .c (.int .u32 65535)]) <| -- 9
      .node (.op (.cvt .u64) [.v 9]) <| -- 10
      .node (.op (.eaddr 1) [.v 0, .v 3]) <| -- 11
      .node (.op (.rld false 1) [.v 11]) <| -- 12
      .node (.op (.bin .shr) [.v 12, .c (.int .u64 16)]) <| -- 13
      .node (.op (.cvt .u64) [.v 13]) <| -- 14
      .node (.op .mklst [.v 10, .v 14]) <| -- 15
      .node (.op (.lsl 1) [.v 15, .c (.int .i64 0), .c (.int .i64 2)]) <| -- 16
      .node (.op (.lapp 1 8) [.v 4, .v 1, .v 16, .c (.int .i64 2)]) <| -- 17
      .node (.op (.ofs 1) [.v 1, .c (.int .i64 2)]) <| -- 18
      .node (.op (.bin .add) [.v 3, .c (.int .i64 1)]) <| -- 19
      .back 0 [.v 18, .v 18, .v 19, .v 17]) (
      .node (.op (.mksl 1) [.v 4, .c (.int .i64 0), .v 1]) <| -- 7
      .ret (.v 7))
theorem digits_den (h : LtAll B32 L) (hl : L.length ≤ 4398046511104) : D P (fun e => e = .ret (SN .u64 (fdigs 65536 (2 * L.length) (val B32 L)))) [] 1 [W L] t_digits := by
  refine d_while (fun i : Nat => [.int .i64 ((2 * i : Nat) : Int), .int .i64 ((2 * i : Nat) : Int), .int .i64 (i : Int), .lst (CN .u64 (fdigs 65536 (2 * i) (val B32 (L.take i))))])
    (fun i => i ≤ L.length) (fun i => L.length - i) 0 (Nat.zero_le _) rfl ?_
  intro i hi
  refine d_op ev_len (d_op ev_lss (d_if rfl (fun h1 => ?_) (fun h1 => ?_)))
  · have hil : i < L.length := by omega
    have hx : L.getD i 0 < 4294967296 := h.getD (by decide) i
    have hs := dig_step h hil
    obtain ⟨x, ex⟩ : ∃ x, x = L.getD i 0 := ⟨_, rfl⟩
    rw [← ex] at hx hs
    refine d_op (ev_eaddrN (i := i) rfl hil) (d_op (ev_rldN' hil ex.symm) ?_)
    refine d_op (ev_and (by constructor <;> omega) (y := 65535) (by decide)) ?_
    rw [Nat.and_two_pow_sub_one_eq_mod x 16]
    refine d_op (ev_cvt (by constructor <;> omega)) ?_
    refine d_op (ev_eaddrN (i := i) rfl hil) (d_op (ev_rldN' hil ex.symm) ?_)
    refine d_op (ev_shr (y := 16) rfl (by decide) rfl) (d_op (ev_cvt (by constructor <;> omega)) ?_)
    refine d_op (ev_mklst rfl) (d_op (ev_lslN (k := .u64) (L := [x % 2 ^ 16, x / 2 ^ 16]) (o := 0) (n := 2) rfl rfl (by simp)) ?_)
    refine d_op (ev_lappN (k := .u64) (M := [x % 2 ^ 16, x / 2 ^ 16]) (by simp) rfl (by simp; omega)) ?_
    refine d_op (ev_ofs (n := 2) rfl rfl) (d_op (ev_add (by constructor <;> omega)) ?_)
    refine d_back rfl ⟨i + 1, ?_, by omega, by omega⟩
    show [AV.int .i64 ((2 * i + 2 * 1 : Nat) : Int), AV.int .i64 ((2 * i + 2 * 1 : Nat) : Int), AV.int .i64 ((i : Int) + 1), AV.lst (CN .u64 (fdigs 65536 (2 * i) (val B32 (L.take i)) ++ [x % 2 ^ 16, x / 2 ^ 16]))] = _
    rw [hs]
    rfl
  · have : i = L.length := by omega
    subst this
    rw [List.take_length]
    exact d_op (ev_mkslN rfl (by simp)) (d_ret rfl)

/-! of -/

def OfC (P : Program) (f : FuncId) : Prop := ∀ X, LtAll 65536 X → X.length ≤ 8796093022208 → Ct P f [SN .u64 X] (fun e => e = .ret (W (digs B32 (val 65536 X))))

theorem of_lt (h : LtAll 65536 X) (j : Nat) : val 65536 (X.take (2 * j)) < B32 ^ j := by
  rw [← pow16]
  exact Nat.lt_of_lt_of_le (val_lt (by decide) (h.take _)) (Nat.pow_le_pow_right (by decide) (by simp; omega))

theorem of_step {j x : Nat} (h : LtAll 65536 X) (hx : x = X.getD (2 * j) 0 + 65536 * X.getD (2 * j + 1) 0) :
    fdigs B32 j (val 65536 (X.take (2 * j))) ++ [x] = fdigs B32 (j + 1) (val 65536 (X.take (2 * (j + 1)))) := by
  have h0 : X.getD (2 * j) 0 < 65536 := h.getD (by decide) _
  have h1 : X.getD (2 * j + 1) 0 < 65536 := h.getD (by decide) _
  refine eq_fdigs (by decide) ((fdigs_lt (by decide) _ _).append (LtAll.cons (by show x < 4294967296; omega) LtAll.nil)) (by simp) ?_
  rw [val_append, fdigs_length, val_fdigs_lt (of_lt h j), show 2 * (j + 1) = 2 * j + 1 + 1 from by omega, val_take_succ, val_take_succ, Nat.add_assoc]
  congr 1
  rw [hx, val_cons, val_nil, Nat.mul_zero, Nat.add_zero, ← pow16, Nat.pow_succ, Nat.mul_add, Nat.mul_assoc]

theorem or_high {a c : Nat} (ha : a < 65536) : a ||| c * 65536 = a + 65536 * c := by
  have h := Nat.two_pow_add_eq_or_of_lt (i := 16) (b := a) ha c
  rw [Nat.or_comm, Nat.mul_comm c, show (65536 : Nat) = 2 ^ 16 from rfl, ← h, Nat.add_comm]

def t_of (plain : FuncId) : T :=
  .loop [.c (.int .i64 0), .c (.int .i64 0), .c (.int .i64 0), .c (.lst [])] [true, true, true, false] <| -- 1 to 4
    .node (.op .len [.v 0]) <| -- 5
    .node (.op (.bin .lss) [.v 3, .v 5]) <| -- 6
    .br (.v 6) (
      .node (.op (.eaddr 1) [.v 0, .v 3]) <| -- 7
      .node (.op (.rld false 1) [.v 7]) <| -- 8
      .node (.op (.cvt .u32) [.v 8]) <| -- 9
      .node (.op (.bin .add) [.v 3, .c (.int .i64 1)]) <| -- 10
      .node (.op .len [.v 0]) <| -- 11
      .node (.op (.bin .lss) [.v 10, .v 11]) <| -- 12
      .br (.v 12) (
        .node (.op (.bin .add) [.v 3, .c (.int .i64 1)]) <| -- 13
        .node (.op (.eaddr 1) [.v 0, .v 13]) <| -- 14
        .node (.op (.rld false 1) [.v 14]) <| -- 15
        .node (.op (.cvt .u32) [.v 15]) <| -- 16
        .node (.op (.bin .shl) [.v 16, .c (.int .u64 16)]) <| -- 17
        .node (.op (.bin .or) [.v 9, .v 17]) <| -- 18
        .node (.op .mklst [.v 18]) <| -- 19
        .node (.op (.lsl 1) [.v 19, .c (.int .i64 0), .c (.int .i64 1)]) <| -- 20
        .node (.op (.lapp 1 4) [.v 4, .v 1, .v 20, .c (.int .i64 1)]) <| -- 21
        .node (.op (.ofs 1) [.v 1, .c (.int .i64 1)]) <| -- 22
        .node (.op (.bin .add) [.v 3, .c (.int .i64 2)]) <| -- 23
        .back 0 [.v 22, .v 22, .v 23, .v 21]) (
        .node (.op .mklst [.v 9]) <| -- 13
        .node (.op (.lsl 1) [.v 13, .c (.int .i64 0), .c (.int .i64 1)]) <| -- 14
        .node (.op (.lapp 1 4) [.v 4, .v 1, .v 14, .c (.int .i64 1)]) <| -- 15
        .node (.op (.ofs 1) [.v 1, .c (.int .i64 1)]) <| -- 16
        .node (.op (.bin .add) [.v 3, .c (.int .i64 2)]) <| -- 17
        .back 0 [.v 16, .v 16, .v 17, .v 15])) (
      .node (.op (.mksl 1) [.v 4, .c (.int .i64 0), .v 1]) <| -- 7
      .node (.call plain [.v 7] true) <| -- 8
      .ret (.v 8))
theorem of_den {plain : FuncId} (hp : PlainC P plain) (h : LtAll 65536 X) (hl : X.length ≤ 8796093022208) : D P (fun e => e = .ret (W (digs B32 (val 65536 X)))) [] 1 [SN .u64 X] (t_of plain) := by
  refine d_while (fun j : Nat => [.int .i64 (j : Int), .int .i64 (j : Int), .int .i64 ((2 * j : Nat) : Int), .lst (CN .u32 (fdigs B32 j (val 65536 (X.take (2 * j)))))])
    (fun j => 2 * j ≤ X.length + 1) (fun j => X.length + 1 - 2 * j) 0 (Nat.zero_le _) rfl ?_
  intro j hj
  have h0 : X.getD (2 * j) 0 < 65536 := h.getD (by decide) _
  have h1 : X.getD (2 * j + 1) 0 < 65536 := h.getD (by decide) _
  refine d_op ev_len (d_op ev_lss (d_if rfl (fun h2 => ?_) (fun h2 => ?_)))
  · refine d_op (ev_eaddrN (i := 2 * j) rfl (by omega)) (d_op (ev_rldN (by omega)) (d_op (ev_cvt (by constructor <;> omega)) ?_))
    refine d_op (ev_add (by constructor <;> omega)) (d_op ev_len (d_op ev_lss (d_if rfl (fun h3 => ?_) (fun h3 => ?_))))
    · have hs := of_step (x := X.getD (2 * j) 0 + 65536 * X.getD (2 * j + 1) 0) h rfl
      have hw : IntKind.u32.wrap ((X.getD (2 * j + 1) 0 * 2 ^ 16 : Nat) : Int) = ((X.getD (2 * j + 1) 0 * 65536 : Nat) : Int) := wrap_in (by constructor <;> omega)
      refine d_op (ev_add (by constructor <;> omega)) (d_op (ev_eaddrN (i := 2 * j + 1) (by omega) (by omega)) (d_op (ev_rldN (by omega)) (d_op (ev_cvt (by constructor <;> omega)) ?_)))
      refine d_op (ev_shl (y := 16) rfl (by decide) rfl) ?_
      rw [hw]
      refine d_op (ev_or (by constructor <;> omega) (by constructor <;> omega)) ?_
      rw [or_high h0]
      refine d_op (ev_mklst rfl) (d_op (ev_lslN (k := .u32) (L := [X.getD (2 * j) 0 + 65536 * X.getD (2 * j + 1) 0]) (o := 0) (n := 1) rfl rfl (by simp)) ?_)
      refine d_op (ev_lappN (k := .u32) (M := [X.getD (2 * j) 0 + 65536 * X.getD (2 * j + 1) 0]) (by simp) rfl (by simp; omega)) ?_
      refine d_op (ev_ofs (n := 1) rfl rfl) (d_op (ev_add (by constructor <;> omega)) ?_)
      refine d_back rfl ⟨j + 1, ?_, by omega, by omega⟩
      show [AV.int .i64 ((j + 1 * 1 : Nat) : Int), AV.int .i64 ((j + 1 * 1 : Nat) : Int), AV.int .i64 (((2 * j : Nat) : Int) + 2), AV.lst (CN .u32 (fdigs B32 j (val 65536 (X.take (2 * j))) ++ [X.getD (2 * j) 0 + 65536 * X.getD (2 * j + 1) 0]))] = _
      rw [hs]
      rfl
    · have hz : X.getD (2 * j + 1) 0 = 0 := getD_ge (by omega)
      have hs := of_step (x := X.getD (2 * j) 0) h (by rw [hz]; rfl)
      refine d_op (ev_mklst rfl) (d_op (ev_lslN (k := .u32) (L := [X.getD (2 * j) 0]) (o := 0) (n := 1) rfl rfl (by simp)) ?_)
      refine d_op (ev_lappN (k := .u32) (M := [X.getD (2 * j) 0]) (by simp) rfl (by simp; omega)) ?_
      refine d_op (ev_ofs (n := 1) rfl rfl) (d_op (ev_add (by constructor <;> omega)) ?_)
      refine d_back rfl ⟨j + 1, ?_, by omega, by omega⟩
      show [AV.int .i64 ((j + 1 * 1 : Nat) : Int), AV.int .i64 ((j + 1 * 1 : Nat) : Int), AV.int .i64 (((2 * j : Nat) : Int) + 2), AV.lst (CN .u32 (fdigs B32 j (val 65536 (X.take (2 * j))) ++ [X.getD (2 * j) 0]))] = _
      rw [hs]
      rfl
  · have hv := of_lt h j
    rw [List.take_of_length_le (by omega)] at hv ⊢
    refine d_op (ev_mkslN rfl (by simp)) (d_call (hp _ (fdigs_lt (by decide) _ _) (by simp; omega)) (fun _ => rfl) (d_ret ?_))
    show AEnd.ret (W (nrm _)) = _
    unfold nrm
    rw [val_fdigs_lt hv]

/-! sums -/

def SumC (P : Program) (f : FuncId) : Prop := ∀ X Y, LtAll 65536 X → LtAll 65536 Y → X.length ≤ 1099511627776 → Y.length ≤ 1099511627776 →
  Ct P f [SN .u64 X, SN .u64 Y] (fun e => e = .ret (SN .u64 (fdigs 65536 (max X.length Y.length + 1) (val 65536 X + val 65536 Y))))

def t_sum : T :=
  .loop [.c (.int .u64 0), .c (.int .i64 0), .c (.int .i64 0), .c (.int .i64 0), .c (.lst [])] [true, true, true, true, false] <| -- 2 to 6
    .node (.op .len [.v 0]) <| -- 7
    .node (.op (.bin .lss) [.v 5, .v 7]) <| -- 8
    .br (.v 8) (
      .node (.op .len [.v 0]) <| -- 9
      .node (.op (.bin .lss) [.v 5, .v 9]) <| -- 10
      .br (.v 10) (
        .node (.op (.eaddr 1) [.v 0, .v 5]) <| -- 11
        .node (.op (.rld false 1) [.v 11]) <| -- 12
        .node (.op (.bin .add) [.v 2, .v 12]) <| -- 13
        .node (.op .len [.v 1]) <| -- 14
        .node (.op (.bin .lss) [.v 5, .v 14]) <| -- 15
        .br (.v 15) (
          .node (.op (.eaddr 1) [.v 1, .v 5]) <| -- 16
          .node (.op (.rld false 1) [.v 16]) <| -- 17
          .node (.op (.bin .add) [.v 13, .v 17]) <| -- 18
          .node (.op (.bin .and) [.v 18, .c (.int .u64 65535)]) <| -- 19
          .node (.op .mklst [.v 19]) <| -- 20
          .node (.op (.lsl 1) [.v 20, .c (.int .i64 0), .c (.int .i64 1)]) <| -- 21
          .node (.op (.lapp 1 8) [.v 6, .v 3, .v 21, .c (.int .i64 1)]) <| -- 22
          .node (.op (.ofs 1) [.v 3, .c (.int .i64 1)]) <| -- 23
          .node (.op (.bin .shr) [.v 18, .c (.int .u64 16)]) <| -- 24
          .node (.op (.bin .add) [.v 5, .c (.int .i64 1)]) <| -- 25
          .back 0 [.v 24, .v 23, .v 23, .v 25, .v 22]) (
          .node (.op (.bin .and) [.v 13, .c (.int .u64 65535)]) <| -- 16
          .node (.op .mklst [.v 16]) <| -- 17
          .node (.op (.lsl 1) [.v 17, .c (.int .i64 0), .c (.int .i64 1)]) <| -- 18
          .node (.op (.lapp 1 8) [.v 6, .v 3, .v 18, .c (.int .i64 1)]) <| -- 19
          .node (.op (.ofs 1) [.v 3, .c (.int .i64 1)]) <| -- 20
          .node (.op (.bin .shr) [.v 13, .c (.int .u64 16)]) <| -- 21
          .node (.op (.bin .add) [.v 5, .c (.int .i64 1)]) <| -- 22
          .back 0 [.v 21, .v 20, .v 20, .v 22, .v 19])) (
        .node (.op .len [.v 1]) <| -- 11
        .node (.op (.bin .lss) [.v 5, .v 11]) <| -- 12
        .br (.v 12) (
          .node (.op (.eaddr 1) [.v 1, .v 5]) <| -- 13
          .node (.op (.rld false 1) [.v 13]) <| -- 14
          .node (.op (.bin .add) [.v 2, .v 14]) <| -- 15
          .node (.op (.bin .and) [.v 15, .c (.int .u64 65535)]) <| -- 16
          .node (.op .mklst [.v 16]) <| -- 17
          .node (.op (.lsl 1) [.v 17, .c (.int .i64 0), .c (.int .i64 1)]) <| -- 18
          .node (.op (.lapp 1 8) [.v 6, .v 3, .v 18, .c (.int .i64 1)]) <| -- 19
          .node (.op (.ofs 1) [.v 3, .c (.int .i64 1)]) <| -- 20
          .node (.op (.bin .shr) [.v 15, .c (.int .u64 16)]) <| -- 21
          .node (.op (.bin .add) [.v 5, .c (.int .i64 1)]) <| -- 22
          .back 0 [.v 21, .v 20, .v 20, .v 22, .v 19]) (
          .node (.op (.bin .and) [.v 2, .c (.int .u64 65535)]) <| -- 13
          .node (.op .mklst [.v 13]) <| -- 14
          .node (.op (.lsl 1) [.v 14, .c (.int .i64 0), .c (.int .i64 1)]) <| -- 15
          .node (.op (.lapp 1 8) [.v 6, .v 3, .v 15, .c (.int .i64 1)]) <| -- 16
          .node (.op (.ofs 1) [.v 3, .c (.int .i64 1)]) <| -- 17
          .node (.op (.bin .shr) [.v 2, .c (.int .u64 16)]) <| -- 18
          .node (.op (.bin .add) [.v 5, .c (.int .i64 1)]) <| -- 19
          .back 0 [.v 18, .v 17, .v 17, .v 19, .v 16]))) (
      .node (.op .len [.v 1]) <| -- 9
      .node (.op (.bin .lss) [.v 5, .v 9]) <| -- 10
      .br (.v 10) (
        .node (.op .len [.v 0]) <| -- 11
        .node (.op (.bin .lss) [.v 5, .v 11]) <| -- 12
        .br (.v 12) (
          .node (.op (.eaddr 1) [.v 0, .v 5]) <| -- 13
          .node (.op (.rld false 1) [.v 13]) <| -- 14
          .node (.op (.bin .add) [.v 2, .v 14]) <| -- 15
          .node (.op .len [.v 1]) <| -- 16
          .node (.op (.bin .lss) [.v 5, .v 16]) <| -- 17
          .br (.v 17) (
            .node (.op (.eaddr 1) [.v 1, .v 5]) <| -- 18
            .node (.op (.rld false 1) [.v 18]) <| -- 19
            .node (.op (.bin .add) [.v 15, .v 19]) <| -- 20
            .node (.op (.bin .and) [.v 20, .c (.int .u64 65535)]) <| -- 21
            .node (.op .mklst [.v 21]) <| -- 22
            .node (.op (.lsl 1) [.v 22, .c (.int .i64 0), .c (.int .i64 1)]) <| -- 23
            .node (.op (.lapp 1 8) [.v 6, .v 3, .v 23, .c (.int .i64 1)]) <| -- 24
            .node (.op (.ofs 1) [.v 3, .c (.int .i64 1)]) <| -- 25
            .node (.op (.bin .shr) [.v 20, .c (.int .u64 16)]) <| -- 26
            .node (.op (.bin .add) [.v 5, .c (.int .i64 1)]) <| -- 27
            .back 0 [.v 26, .v 25, .v 25, .v 27, .v 24]) (
            .node (.op (.bin .and) [.v 15, .c (.int .u64 65535)]) <| -- 18
            .node (.op .mklst [.v 18]) <| -- 19
            .node (.op (.lsl 1) [.v 19, .c (.int .i64 0), .c (.int .i64 1)]) <| -- 20
            .node (.op (.lapp 1 8) [.v 6, .v 3, .v 20, .c (.int .i64 1)]) <| -- 21
            .node (.op (.ofs 1) [.v 3, .c (.int .i64 1)]) <| -- 22
            .node (.op (.bin .shr) [.v 15, .c (.int .u64 16)]) <| -- 23
            .node (.op (.bin .add) [.v 5, .c (.int .i64 1)]) <| -- 24
            .back 0 [.v 23, .v 22, .v 22, .v 24, .v 21])) (
          .node (.op .len [.v 1]) <| -- 13
          .node (.op (.bin .lss) [.v 5, .v 13]) <| -- 14
          .br (.v 14) (
            .node (.op (.eaddr 1) [.v 1, .v 5]) <| -- 15
            .node (.op (.rld false 1) [.v 15]) <| -- 16
            .node (.op (.bin .add) [.v 2, .v 16]) <| -- 17
            .node (.op (.bin .and) [.v 17, .c (.int .u64 65535)]) <| -- 18
            .node (.op .mklst [.v 18]) <| -- 19
            .node (.op (.lsl 1) [.v 19, .c (.int .i64 0), .c (.int .i64 1)]) <| -- 20
            .node (.op (.lapp 1 8) [.v 6, .v 3, .v 20, .c (.int .i64 1)]) <| -- 21
            .node (.op (.ofs 1) [.v 3, .c (.int .i64 1)]) <| -- 22
            .node (.op (.bin .shr) [.v 17, .c (.int .u64 16)]) <| -- 23
            .node (.op (.bin .add) [.v 5, .c (.int .i64 1)]) <| -- 24
            .back 0 [.v 23, .v 22, .v 22, .v 24, .v 21]) (
            .node (.op (.bin .and) [.v 2, .c (.int .u64 65535)]) <| -- 15
            .node (.op .mklst [.v 15]) <| -- 16
            .node (.op (.lsl 1) [.v 16, .c (.int .i64 0), .c (.int .i64 1)]) <| -- 17
            .node (.op (.lapp 1 8) [.v 6, .v 3, .v 17, .c (.int .i64 1)]) <| -- 18
            .node (.op (.ofs 1) [.v 3, .c (.int .i64 1)]) <| -- 19
            .node (.op (.bin .shr) [.v 2, .c (.int .u64 16)]) <| -- 20
            .node (.op (.bin .add) [.v 5, .c (.int .i64 1)]) <| -- 21
            .back 0 [.v 20, .v 19, .v 19, .v 21, .v 18]))) (
        .node (.op .mklst [.v 2]) <| -- 11
        .node (.op (.lsl 1) [.v 11, .c (.int .i64 0), .c (.int .i64 1)]) <| -- 12
        .node (.op (.lapp 1 8) [.v 6, .v 3, .v 12, .c (.int .i64 1)]) <| -- 13
        .node (.op (.ofs 1) [.v 3, .c (.int .i64 1)]) <| -- 14
        .node (.op (.mksl 1) [.v 13, .c (.int .i64 0), .v 14]) <| -- 15
        .ret (.v 15)))
theorem sum_den (hX : LtAll 65536 X) (hY : LtAll 65536 Y) (hxl : X.length ≤ 1099511627776) (hyl : Y.length ≤ 1099511627776) :
    D P (fun e => e = .ret (SN .u64 (fdigs 65536 (max X.length Y.length + 1) (val 65536 X + val 65536 Y)))) [] 2 [SN .u64 Y, SN .u64 X] t_sum := by
  refine d_while (fun s : Nat × Nat × List Nat => [.int .u64 (s.1 : Int), .int .i64 (s.2.1 : Int), .int .i64 (s.2.1 : Int), .int .i64 (s.2.1 : Int), .lst (CN .u64 s.2.2)])
    (fun s => s.1 ≤ 1 ∧ s.2.1 ≤ max X.length Y.length ∧ s.2.2.length = s.2.1 ∧ LtAll 65536 s.2.2 ∧ val 65536 s.2.2 + 65536 ^ s.2.1 * s.1 = val 65536 (X.take s.2.1) + val 65536 (Y.take s.2.1)) (fun s => max X.length Y.length - s.2.1)
    (0, 0, []) ⟨by simp, by simp, rfl, LtAll.nil, by simp⟩ rfl ?_
  rintro ⟨c, i, O⟩ ⟨hc, hi, hol, hot, hov⟩
  dsimp only at hc hi hol hot hov ⊢
  have hx : X.getD i 0 < 65536 := hX.getD (by decide) i
  have hy : Y.getD i 0 < 65536 := hY.getD (by decide) i
  have step : ∀ {t : Nat}, t = X.getD i 0 + Y.getD i 0 + c → i < max X.length Y.length →
      (t / 2 ^ 16 ≤ 1 ∧ i + 1 ≤ max X.length Y.length ∧ (O ++ [t % 2 ^ 16]).length = i + 1 ∧ LtAll 65536 (O ++ [t % 2 ^ 16]) ∧
        val 65536 (O ++ [t % 2 ^ 16]) + 65536 ^ (i + 1) * (t / 2 ^ 16) = val 65536 (X.take (i + 1)) + val 65536 (Y.take (i + 1))) := fun {t} et hm => by
    subst et
    refine ⟨by show _ / 65536 ≤ 1; omega, by omega, by simp [hol], hot.append (LtAll.cons (Nat.mod_lt _ (by decide)) LtAll.nil), ?_⟩
    rw [val_append, hol, val_take_succ, val_take_succ, val_cons, val_nil, Nat.mul_zero, Nat.add_zero, show 65536 ^ (i + 1) = 65536 ^ i * 65536 from Nat.pow_succ ..]
    have := congrArg (65536 ^ i * ·) (Nat.mod_add_div (X.getD i 0 + Y.getD i 0 + c) 65536)
    simp only [Nat.mul_add] at this
    rw [Nat.mul_assoc]
    show _ + 65536 ^ i * (_ % 65536) + 65536 ^ i * (65536 * (_ / 65536)) = _
    omega
  refine d_op ev_len (d_op ev_lss (d_if rfl (fun h1 => ?_) (fun h1 => ?_)))
  · refine d_op ev_len (d_op ev_lss (d_if rfl (fun _ => ?_) (fun h => absurd h1 h)))
    refine d_op (ev_eaddrN (i := i) rfl (by omega)) (d_op (ev_rldN (by omega)) (d_op (ev_add (by constructor <;> omega)) ?_))
    refine d_op ev_len (d_op ev_lss (d_if rfl (fun h2 => ?_) (fun h2 => ?_)))
    · refine d_op (ev_eaddrN (i := i) rfl (by omega)) (d_op (ev_rldN (by omega)) (d_op (ev_add (by constructor <;> omega)) ?_))
      obtain ⟨t, et⟩ : ∃ t, t = X.getD i 0 + Y.getD i 0 + c := ⟨_, rfl⟩
      have e1 : (c : Int) + (X.getD i 0 : Int) + (Y.getD i 0 : Int) = (t : Int) := by omega
      rw [e1]
      refine d_op (ev_and (by constructor <;> omega) (y := 65535) (by decide)) ?_
      rw [Nat.and_two_pow_sub_one_eq_mod t 16]
      refine d_op (ev_mklst rfl) (d_op (ev_lslN (k := .u64) (L := [t % 2 ^ 16]) (o := 0) (n := 1) rfl rfl (by simp)) ?_)
      refine d_op (ev_lappN (k := .u64) (L := O) (M := [t % 2 ^ 16]) (by rw [hol]) rfl (by simp; omega)) ?_
      refine d_op (ev_ofs (n := 1) rfl rfl) (d_op (ev_shr (y := 16) rfl (by decide) rfl) (d_op (ev_add (by constructor <;> omega)) ?_))
      exact d_back rfl ⟨(t / 2 ^ 16, i + 1, O ++ [t % 2 ^ 16]), rfl, step et (by omega), by simp only; omega⟩
    · have hy0 : Y.getD i 0 = 0 := getD_ge (by omega)
      obtain ⟨t, et⟩ : ∃ t, t = X.getD i 0 + Y.getD i 0 + c := ⟨_, rfl⟩
      have e1 : (c : Int) + (X.getD i 0 : Int) = (t : Int) := by omega
      rw [e1]
      refine d_op (ev_and (by constructor <;> omega) (y := 65535) (by decide)) ?_
      rw [Nat.and_two_pow_sub_one_eq_mod t 16]
      refine d_op (ev_mklst rfl) (d_op (ev_lslN (k := .u64) (L := [t % 2 ^ 16]) (o := 0) (n := 1) rfl rfl (by simp)) ?_)
      refine d_op (ev_lappN (k := .u64) (L := O) (M := [t % 2 ^ 16]) (by rw [hol]) rfl (by simp; omega)) ?_
      refine d_op (ev_ofs (n := 1) rfl rfl) (d_op (ev_shr (y := 16) rfl (by decide) rfl) (d_op (ev_add (by constructor <;> omega)) ?_))
      exact d_back rfl ⟨(t / 2 ^ 16, i + 1, O ++ [t % 2 ^ 16]), rfl, step et (by omega), by simp only; omega⟩
  · refine d_op ev_len (d_op ev_lss (d_if rfl (fun h2 => ?_) (fun h2 => ?_)))
    · refine d_op ev_len (d_op ev_lss (d_if rfl (fun h => absurd h h1) (fun _ => ?_)))
      refine d_op ev_len (d_op ev_lss (d_if rfl (fun _ => ?_) (fun h => absurd h2 h)))
      refine d_op (ev_eaddrN (i := i) rfl (by omega)) (d_op (ev_rldN (by omega)) (d_op (ev_add (by constructor <;> omega)) ?_))
      have hx0 : X.getD i 0 = 0 := getD_ge (by omega)
      obtain ⟨t, et⟩ : ∃ t, t = X.getD i 0 + Y.getD i 0 + c := ⟨_, rfl⟩
      have e1 : (c : Int) + (Y.getD i 0 : Int) = (t : Int) := by omega
      rw [e1]
      refine d_op (ev_and (by constructor <;> omega) (y := 65535) (by decide)) ?_
      rw [Nat.and_two_pow_sub_one_eq_mod t 16]
      refine d_op (ev_mklst rfl) (d_op (ev_lslN (k := .u64) (L := [t % 2 ^ 16]) (o := 0) (n := 1) rfl rfl (by simp)) ?_)
      refine d_op (ev_lappN (k := .u64) (L := O) (M := [t % 2 ^ 16]) (by rw [hol]) rfl (by simp; omega)) ?_
      refine d_op (ev_ofs (n := 1) rfl rfl) (d_op (ev_shr (y := 16) rfl (by decide) rfl) (d_op (ev_add (by constructor <;> omega)) ?_))
      exact d_back rfl ⟨(t / 2 ^ 16, i + 1, O ++ [t % 2 ^ 16]), rfl, step et (by omega), by simp only; omega⟩
    · have him : i = max X.length Y.length := by omega
      refine d_op (ev_mklst rfl) (d_op (ev_lslN (k := .u64) (L := [c]) (o := 0) (n := 1) rfl rfl (by simp)) ?_)
      refine d_op (ev_lappN (k := .u64) (L := O) (M := [c]) (by rw [hol]) rfl (by simp; omega)) ?_
      refine d_op (ev_ofs (n := 1) rfl rfl) (d_op (ev_mkslN rfl (by simp [hol])) (d_ret ?_))
      show AEnd.ret (SN .u64 (O ++ [c])) = _
      rw [List.take_of_length_le (by omega), List.take_of_length_le (by omega)] at hov
      rw [eq_fdigs (b := 65536) (L := O ++ [c]) (k := max X.length Y.length + 1) (n := val 65536 X + val 65536 Y) (by decide) (hot.append (LtAll.cons (by omega) LtAll.nil)) (by simp [hol, him]) (by rw [val_append, hol, ← hov]; simp)]

end Go.SE
