/- Nothing of the statement is proved here: this text lays generic laws: NC; no conditions. -/
import Derived.Test.YtdgpkmphhjmdeaaNB

set_option linter.all false
set_option autoImplicit false
set_option exponentiation.threshold 5000
namespace Go.SE
open Go

variable {P : Program} {R : AEnd → Prop} {L A B : List Nat}

/-! ### Products -/

def TimesC (P : Program) (f : FuncId) : Prop := ∀ A B, LtAll B32 A → LtAll B32 B → A.length + B.length ≤ 35184372088832 → Ct P f [W A, W B] (fun e => e = .ret (W (digs B32 (val B32 A * val B32 B))))

def t_times (trim : FuncId) : T :=
  .node (.op .len [.v 0]) <| -- 2
  .node (.op .len [.v 1]) <| -- 3
  .node (.op (.bin .add) [.v 2, .v 3]) <| -- 4
  .node (.op (.chkmk 4) [.v 4, .v 4]) <| -- 5
  .node (.op (.lzero 4 [.int .u32 0]) [.v 4]) <| -- 6
  .node (.op .len [.v 0]) <| -- 7
  .loop [.c (.int .i64 0), .v 6] [true, false] <| -- 8 to 9
    .node (.op (.bin .lss) [.v 8, .v 7]) <| -- 10
    .br (.v 10) (
      .node (.op (.eaddr 1) [.v 0, .v 8]) <| -- 11
      .node (.op (.rld false 1) [.v 11]) <| -- 12
      .node (.op .len [.v 1]) <| -- 13
      .loop [.c (.int .u64 0), .c (.int .i64 0), .v 9] [true, true, false] <| -- 14 to 16
        .node (.op (.bin .lss) [.v 15, .v 13]) <| -- 17
        .br (.v 17) (
          .node (.op (.eaddr 1) [.v 1, .v 15]) <| -- 18
          .node (.op (.rld false 1) [.v 18]) <| -- 19
          .node (.op (.cvt .u64) [.v 12]) <| -- 20
          .node (.op (.cvt .u64) [.v 19]) <| -- 21
          .node (.op (.bin .mul) [.v 20, .v 21]) <| -- 22
          .node (.op (.bin .add) [.v 8, .v 15]) <| -- 23
          .node (.op .chki [.v 23, .v 4]) <| -- 24
          .node (.op (.ofs 1) [.c (.int .i64 0), .v 23]) <| -- 25
          .node (.op (.lget false 1) [.v 16, .v 25]) <| -- 26
          .node (.op (.cvt .u64) [.v 26]) <| -- 27
          .node (.op (.bin .add) [.v 22, .v 27]) <| -- 28
          .node (.op (.bin .add) [.v 14, .v 28]) <| -- 29
          .node (.op (.bin .add) [.v 8, .v 15]) <| -- 30
          .node (.op (.cvt .u32) [.v 29]) <| -- 31
          .node (.op .chki [.v 30, .v 4]) <| -- 32
          .node (.op (.ofs 1) [.c (.int .i64 0), .v 30]) <| -- 33
          .node (.op .lset [.v 16, .v 33, .v 31]) <| -- 34
          .node (.op (.bin .shr) [.v 29, .c (.int .u64 32)]) <| -- 35
          .node (.op (.bin .add) [.v 15, .c (.int .i64 1)]) <| -- 36
          .back 0 [.v 35, .v 36, .v 34]) (
          .node (.op .len [.v 1]) <| -- 18
          .node (.op (.bin .add) [.v 8, .v 18]) <| -- 19
          .node (.op (.cvt .u32) [.v 14]) <| -- 20
          .node (.op .chki [.v 19, .v 4]) <| -- 21
          .node (.op (.ofs 1) [.c (.int .i64 0), .v 19]) <| -- 22
          .node (.op .lset [.v 16, .v 22, .v 20]) <| -- 23
          .node (.op (.bin .add) [.v 8, .c (.int .i64 1)]) <| -- 24
          .back 1 [.v 24, .v 23])) (
      .node (.op (.mksl 1) [.v 9, .c (.int .i64 0), .v 4]) <| -- 11
      .node (.call trim [.v 11] true) <| -- 12
      .ret (.v 12))
theorem times_den {trim : FuncId} (ht : TrimC P trim) (hA : LtAll B32 A) (hB : LtAll B32 B) (hl : A.length + B.length ≤ 35184372088832) :
    D P (fun e => e = .ret (W (digs B32 (val B32 A * val B32 B)))) [] 2 [W B, W A] (t_times trim) := by
  obtain ⟨n, hn⟩ : ∃ n, n = A.length + B.length := ⟨_, rfl⟩
  have e1 : (A.length : Int) + (B.length : Int) = (n : Int) := by omega
  refine d_op ev_len (d_op ev_len (d_op (ev_add (by constructor <;> omega)) ?_))
  rw [e1]
  refine d_op (ev_chkmk rfl rfl (Nat.le_refl _) (by omega)) (d_op (ev_lzeroN (k := .u32) (n := n) rfl (by omega)) (d_op ev_len ?_))
  refine d_while (fun s : Nat × List Nat => [.int .i64 (s.1 : Int), .lst (CN .u32 s.2)])
    (fun s => s.1 ≤ A.length ∧ s.2.length = n ∧ LtAll B32 s.2 ∧ val B32 s.2 = val B32 (A.take s.1) * val B32 B ∧ ∀ k, s.1 + B.length ≤ k → s.2.getD k 0 = 0) (fun s => A.length - s.1)
    (0, List.replicate n 0) ⟨Nat.zero_le _, by simp, LtAll.replicate (by decide) _, by simp [val_replicate], fun k _ => getD_replicate k⟩ rfl ?_
  rintro ⟨i, O⟩ ⟨hi, hol, hot, hov, hoz⟩
  dsimp only at hi hol hot hov hoz ⊢
  refine d_op ev_lss (d_if rfl (fun h1 => ?_) (fun h1 => ?_))
  · have hia : i < A.length := by omega
    refine d_op (ev_eaddrN (i := i) rfl hia) (d_op (ev_rldN hia) (d_op ev_len ?_))
    obtain ⟨x, hx⟩ : ∃ x, x = A.getD i 0 := ⟨_, rfl⟩
    have hxl : x < 4294967296 := hx ▸ hA.getD (by decide) i
    rw [← hx]
    refine d_while (fun s : Nat × Nat × List Nat => [.int .u64 (s.1 : Int), .int .i64 (s.2.1 : Int), .lst (CN .u32 s.2.2)])
      (fun s => s.1 < 4294967296 ∧ s.2.1 ≤ B.length ∧ s.2.2.length = n ∧ LtAll B32 s.2.2 ∧ val B32 s.2.2 + B32 ^ (i + s.2.1) * s.1 = val B32 O + x * B32 ^ i * val B32 (B.take s.2.1) ∧
        ∀ k, i + B.length ≤ k → s.2.2.getD k 0 = 0) (fun s => B.length - s.2.1)
      (0, 0, O) ⟨by simp, Nat.zero_le _, hol, hot, by simp, hoz⟩ rfl ?_
    rintro ⟨c, j, O'⟩ ⟨hc, hj, hol', hot', hov', hoz'⟩
    dsimp only at hc hj hol' hot' hov' hoz' ⊢
    refine d_op ev_lss (d_if rfl (fun h2 => ?_) (fun h2 => ?_))
    · have hjb : j < B.length := by omega
      obtain ⟨y, hy⟩ : ∃ y, y = B.getD j 0 := ⟨_, rfl⟩
      have hyl : y < 4294967296 := hy ▸ hB.getD (by decide) j
      obtain ⟨o, ho⟩ : ∃ o, o = O'.getD (i + j) 0 := ⟨_, rfl⟩
      have hol : o < 4294967296 := ho ▸ hot'.getD (by decide) _
      have hxy : x * y ≤ 18446744065119617025 := by
        have : x * y ≤ 4294967295 * 4294967295 := Nat.mul_le_mul (by omega) (by omega)
        omega
      have eij : (i : Int) + (j : Int) = ((i + j : Nat) : Int) := by omega
      have exy : (x : Int) * (y : Int) = ((x * y : Nat) : Int) := by simp
      have et : (c : Int) + (((x * y : Nat) : Int) + (o : Int)) = ((o + x * y + c : Nat) : Int) := by omega
      refine d_op (ev_eaddrN (i := j) rfl hjb) (d_op (ev_rldN' hjb hy.symm) ?_)
      refine d_op (ev_cvt (by constructor <;> omega)) (d_op (ev_cvt (by constructor <;> omega)) (d_op (ev_mul (by rw [exy]; constructor <;> omega)) ?_))
      rw [exy]
      refine d_op (ev_add (by constructor <;> omega)) ?_
      rw [eij]
      refine d_op (ev_chki (by omega) (by omega) rfl) (d_op (ev_ofs (o := 0) rfl rfl) (d_op (ev_lgetN' (i := i + j) (by simp) (by omega) ho.symm) ?_))
      refine d_op (ev_cvt (by constructor <;> omega)) (d_op (ev_add (by constructor <;> omega)) (d_op (ev_add (by constructor <;> omega)) ?_))
      rw [et]
      refine d_op (ev_add (by constructor <;> omega)) ?_
      rw [eij]
      refine d_op ev_cvtw ?_
      have ew : IntKind.u32.wrap ((o + x * y + c : Nat) : Int) = (((o + x * y + c) % B32 : Nat) : Int) := by rw [wrap_u rfl]; rfl
      rw [ew]
      refine d_op (ev_chki (by omega) (by omega) rfl) (d_op (ev_ofs (o := 0) rfl rfl) (d_op (ev_lsetN (i := i + j) (by simp) (by omega) rfl) ?_))
      refine d_op (ev_shr (y := 32) rfl (by decide) rfl) (d_op (ev_add (by constructor <;> omega)) ?_)
      refine d_back rfl ⟨((o + x * y + c) / 2 ^ 32, j + 1, O'.set (i + j) ((o + x * y + c) % B32)), rfl, ⟨?_, by simp only; omega, by simp [hol'], hot'.set (Nat.mod_lt _ (by decide)) _, ?_, fun k hk => ?_⟩, by simp only; omega⟩
      · show (o + x * y + c) / 4294967296 < 4294967296
        omega
      · have hs := place_step (b := B32) (p := B32 ^ (i + j)) (o := O'.getD (i + j) 0) (y := x * y) (c := c) (r := (o + x * y + c) % B32) (c' := (o + x * y + c) / B32) (val_set (by omega) _) (by rw [ho]; exact Nat.mod_add_div _ _) hov'
        show val B32 (O'.set (i + j) ((o + x * y + c) % B32)) + B32 ^ (i + j + 1) * ((o + x * y + c) / B32) = _
        rw [Nat.pow_succ, hs, val_take_succ, Nat.mul_add, ← hy]
        congr 1
        rw [Nat.pow_add]
        ac_rfl
      · have hk : i + B.length ≤ k := hk
        show (O'.set (i + j) _).getD k 0 = 0
        rw [getD_set_ne (by omega)]
        exact hoz' k hk
    · have hjb : j = B.length := by omega
      subst hjb
      rw [List.take_length] at hov'
      have eij : (i : Int) + (B.length : Int) = ((i + B.length : Nat) : Int) := by omega
      refine d_op ev_len (d_op (ev_add (by constructor <;> omega)) ?_)
      rw [eij]
      refine d_op (ev_cvt (by constructor <;> omega)) ?_
      refine d_op (ev_chki (by omega) (by omega) rfl) (d_op (ev_ofs (o := 0) rfl rfl) (d_op (ev_lsetN (i := i + B.length) (by simp) (by omega) rfl) ?_))
      refine d_op (ev_add (by constructor <;> omega)) ?_
      refine d_back rfl ⟨(i + 1, O'.set (i + B.length) c), rfl, ⟨by simp only; omega, by simp [hol'], hot'.set hc _, ?_, fun k hk => ?_⟩, by simp only; omega⟩
      · have hs := val_set (b := B32) (L := O') (i := i + B.length) (by omega) c
        rw [hoz' _ (Nat.le_refl _), Nat.mul_zero, Nat.add_zero] at hs
        show val B32 (O'.set (i + B.length) c) = val B32 (A.take (i + 1)) * val B32 B
        rw [hs, hov', hov, val_take_succ, ← hx, Nat.add_mul]
        congr 1
        ac_rfl
      · have hk : i + 1 + B.length ≤ k := hk
        show (O'.set (i + B.length) _).getD k 0 = 0
        rw [getD_set_ne (by omega)]
        exact hoz' k (by omega)
  · have : i = A.length := by omega
    subst this
    rw [List.take_length] at hov
    refine d_op (ev_mkslN rfl (by rw [hol])) (d_call (ht O hot (by omega)) (fun _ => rfl) (d_ret ?_))
    show AEnd.ret (W (nrm O)) = _
    unfold nrm
    rw [hov]

/-- what a check says of two -/
theorem check2 {a b : Nat} (h : (if ([a, b].any fun n => long n) = true then (2 : Int) else 0) ≠ 0) : (long a || long b) = true := by
  cases hh : (long a || long b) with
  | true => rfl
  | false => exfalso; apply h; simp [List.any, hh]
theorem check2' {a b : Nat} (h : ¬ (if ([a, b].any fun n => long n) = true then (2 : Int) else 0) ≠ 0) : (long a || long b) = false := by
  cases hh : (long a || long b) with
  | false => rfl
  | true => exfalso; apply h; simp [List.any, hh]

def t_mul (check trim times told : FuncId) : T :=
  .node (.op .mklst [.v 0, .v 1]) <| -- 2
  .node (.op (.mksl 1) [.v 2, .c (.int .i64 0), .c (.int .i64 2)]) <| -- 3
  .node (.call check [.v 3] true) <| -- 4
  .node (.op (.bin .neq) [.v 4, .c (.int .i64 0)]) <| -- 5
  .br (.v 5) (
    .node (.op .mktup [.c .nils, .v 4]) <| -- 6
    .ret (.v 6)) (
    .node (.call trim [.v 0] true) <| -- 6
    .node (.call trim [.v 1] true) <| -- 7
    .node (.call times [.v 6, .v 7] true) <| -- 8
    .node (.call told [.v 8] false) <| -- 9
    .node (.op (.ext 0 true) [.v 9]) <| -- 10
    .node (.op (.ext 1 true) [.v 9]) <| -- 11
    .node (.op .mktup [.v 10, .v 11]) <| -- 12
    .ret (.v 12))
theorem mul_den {check trim times tl : FuncId} (hch : CheckC P check) (ht : TrimC P trim) (htm : TimesC P times) (htl : ToldC P tl) (hA : OkN A) (hB : OkN B) :
    D P (Is (res (mulS (val B32 A) (val B32 B)))) [] 2 [W B, W A] (t_mul check trim times tl) := by
  refine d_op (ev_mklst rfl) (d_op (ev_mksl1 rfl rfl) ?_)
  refine d_call (hch [A, B] (by simp [hA, hB]) (by simp)) (fun _ => rfl) ?_
  refine d_op ev_neq (d_if rfl (fun h => ?_) (fun h => ?_))
  · have hl := check2 h
    refine d_op ev_mktup (d_ret (is_res ?_))
    have : mulS (val B32 A) (val B32 B) = ([], 2) := by unfold mulS; rw [if_pos hl]
    rw [this]
    show Sub (.tup [.nils, .int .i64 (if (long (val B32 A) || (long (val B32 B) || false)) = true then 2 else 0)]) _
    rw [Bool.or_false, if_pos hl]
    exact Sub.res_nil
  · have hl := check2' h
    have hl0 := Bool.or_eq_false_iff.1 hl
    have lX : (nrm A).length ≤ 1024 := long_false hl0.1
    have lY : (nrm B).length ≤ 1024 := long_false hl0.2
    refine d_call (ht A hA.1 hA.2) (fun _ => rfl) (d_call (ht B hB.1 hB.2) (fun _ => rfl) ?_)
    refine d_call (htm (nrm A) (nrm B) nrm_lt nrm_lt (by omega)) (fun _ => rfl) ?_
    rw [nrm_val, nrm_val]
    have hlt : val B32 A * val B32 B < B32 ^ 2048 := by
      have a1 := long_pow hl0.1
      have a2 := long_pow hl0.2
      have : val B32 A * val B32 B < B32 ^ 1024 * B32 ^ 1024 := Nat.mul_lt_mul'' a1 a2
      rwa [← Nat.pow_add] at this
    have hlen := (digs_length_le (b := B32) (by decide)).2 hlt
    refine d_call (htl _ ⟨digs_lt (by decide) _, by omega⟩) (fun h => by cases h) ?_
    rw [val_digs (by decide)]
    have : mulS (val B32 A) (val B32 B) = told (val B32 A * val B32 B) := by unfold mulS; rw [if_neg (by simp [hl])]
    rw [this]
    exact d_op (ev_ext rfl (fun _ => rfl)) (d_op (ev_ext rfl (fun _ => rfl)) (d_op ev_mktup (d_ret (is_res (Sub.refl _)))))

def t_few : T :=
  .node (.op .len [.v 0]) <| -- 2
  .node (.op (.bin .gtr) [.v 2, .v 1]) <| -- 3
  .br (.v 3) (
    .node (.op (.slc 1 false true false) [.v 0, .v 1]) <| -- 4
    .ret (.v 4)) (
    .ret (.v 0))
theorem few_den {n : Nat} : D P (fun e => e = .ret (W (A.take n))) [] 2 [.int .i64 (n : Int), W A] t_few := by
  refine d_op ev_len (d_op ev_gtr (d_if rfl (fun h => ?_) (fun h => ?_)))
  · exact d_op (ev_slc_hi rfl (by omega)) (d_ret rfl)
  · refine d_ret ?_
    show AEnd.ret (W A) = _
    rw [List.take_of_length_le (by omega)]

end Go.SE
