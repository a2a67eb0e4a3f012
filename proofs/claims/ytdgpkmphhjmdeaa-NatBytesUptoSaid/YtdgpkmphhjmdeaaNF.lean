/- Nothing of the statement is proved here: this text lays generic laws: NF; no conditions. -/
import Derived.Test.YtdgpkmphhjmdeaaNE

set_option linter.all false
set_option autoImplicit false
set_option exponentiation.threshold 5000
namespace Go.SE
open Go

variable {P : Program} {R : AEnd → Prop} {L A B X Y : List Nat}

def ProductC (P : Program) (f : FuncId) : Prop := ∀ A B, LtAll 65536 A → LtAll 65536 B → A.length + B.length ≤ 1099511627776 →
  Ct P f [SN .u64 A, SN .u64 B] (fun e => e = .ret (SN .u64 (fdigs 65536 (A.length + B.length) (val 65536 A * val 65536 B))))

def t_product : T :=
  .node (.op .len [.v 0]) <| -- 2
  .node (.op .len [.v 1]) <| -- 3
  .node (.op (.bin .add) [.v 2, .v 3]) <| -- 4
  .node (.op (.chkmk 8) [.v 4, .v 4]) <| -- 5
  .node (.op (.lzero 8 [.int .u64 0]) [.v 4]) <| -- 6
  .loop [.c (.int .i64 0), .v 6] [true, false] <| -- 7 to 8
    .node (.op .len [.v 0]) <| -- 9
    .node (.op (.bin .lss) [.v 7, .v 9]) <| -- 10
    .br (.v 10) (
      .loop [.c (.int .u64 0), .c (.int .i64 0), .v 8] [true, true, false] <| -- 11 to 13
        .node (.op .len [.v 1]) <| -- 14
        .node (.op (.bin .lss) [.v 12, .v 14]) <| -- 15
        .br (.v 15) (
          .node (.op (.bin .add) [.v 7, .v 12]) <| -- 16
          .node (.op .chki [.v 16, .v 4]) <| -- 17
          .node (.op (.ofs 1) [.c (.int .i64 0), .v 16]) <| -- 18
          .node (.op (.lget false 1) [.v 13, .v 18]) <| -- 19
          .node (.op (.eaddr 1) [.v 0, .v 7]) <| -- 20
          .node (.op (.rld false 1) [.v 20]) <| -- 21
          .node (.op (.eaddr 1) [.v 1, .v 12]) <| -- 22
          .node (.op (.rld false 1) [.v 22]) <| -- 23
          .node (.op (.bin .mul) [.v 21, .v 23]) <| -- 24
          .node (.op (.bin .add) [.v 19, .v 24]) <| -- 25
          .node (.op (.bin .add) [.v 25, .v 11]) <| -- 26
          .node (.op (.bin .add) [.v 7, .v 12]) <| -- 27
          .node (.op (.bin .and) [.v 26, .c (.int .u64 65535)]) <| -- 28
          .node (.op (.bin .shr) [.v 26, .c (.int .u64 16)]) <| -- 29
          .node (.op .chki [.v 27, .v 4]) <| -- 30
          .node (.op (.ofs 1) [.c (.int .i64 0), .v 27]) <| -- 31
          .node (.op .lset [.v 13, .v 31, .v 28]) <| -- 32
          .node (.op (.bin .add) [.v 12, .c (.int .i64 1)]) <| -- 33
          .back 0 [.v 29, .v 33, .v 32]) (
          .node (.op .len [.v 1]) <| -- 16
          .node (.op (.bin .add) [.v 7, .v 16]) <| -- 17
          .node (.op .chki [.v 17, .v 4]) <| -- 18
          .node (.op (.ofs 1) [.c (.int .i64 0), .v 17]) <| -- 19
          .node (.op .lset [.v 13, .v 19, .v 11]) <| -- 20
          .node (.op (.bin .add) [.v 7, .c (.int .i64 1)]) <| -- 21
          .back 1 [.v 21, .v 20])) (
      .node (.op (.mksl 1) [.v 8, .c (.int .i64 0), .v 4]) <| -- 11
      .ret (.v 11))
theorem product_den (hA : LtAll 65536 A) (hB : LtAll 65536 B) (hl : A.length + B.length ≤ 1099511627776) :
    D P (fun e => e = .ret (SN .u64 (fdigs 65536 (A.length + B.length) (val 65536 A * val 65536 B)))) [] 2 [SN .u64 B, SN .u64 A] t_product := by
  obtain ⟨n, hn⟩ : ∃ n, n = A.length + B.length := ⟨_, rfl⟩
  have e1 : (A.length : Int) + (B.length : Int) = (n : Int) := by omega
  rw [← hn]
  refine d_op ev_len (d_op ev_len (d_op (ev_add (by constructor <;> omega)) ?_))
  rw [e1]
  refine d_op (ev_chkmk rfl rfl (Nat.le_refl _) (by omega)) (d_op (ev_lzeroN (k := .u64) (n := n) rfl (by omega)) ?_)
  refine d_while (fun s : Nat × List Nat => [.int .i64 (s.1 : Int), .lst (CN .u64 s.2)])
    (fun s => s.1 ≤ A.length ∧ s.2.length = n ∧ LtAll 65536 s.2 ∧ val 65536 s.2 = val 65536 (A.take s.1) * val 65536 B ∧ ∀ k, s.1 + B.length ≤ k → s.2.getD k 0 = 0) (fun s => A.length - s.1)
    (0, List.replicate n 0) ⟨Nat.zero_le _, by simp, LtAll.replicate (by decide) _, by simp [val_replicate], fun k _ => getD_replicate k⟩ rfl ?_
  rintro ⟨i, O⟩ ⟨hi, hol, hot, hov, hoz⟩
  dsimp only at hi hol hot hov hoz ⊢
  refine d_op ev_len (d_op ev_lss (d_if rfl (fun h1 => ?_) (fun h1 => ?_)))
  · have hia : i < A.length := by omega
    obtain ⟨x, hx⟩ : ∃ x, x = A.getD i 0 := ⟨_, rfl⟩
    have hxl : x < 65536 := hx ▸ hA.getD (by decide) i
    refine d_while (fun s : Nat × Nat × List Nat => [.int .u64 (s.1 : Int), .int .i64 (s.2.1 : Int), .lst (CN .u64 s.2.2)])
      (fun s => s.1 < 65536 ∧ s.2.1 ≤ B.length ∧ s.2.2.length = n ∧ LtAll 65536 s.2.2 ∧ val 65536 s.2.2 + 65536 ^ (i + s.2.1) * s.1 = val 65536 O + x * 65536 ^ i * val 65536 (B.take s.2.1) ∧
        ∀ k, i + B.length ≤ k → s.2.2.getD k 0 = 0) (fun s => B.length - s.2.1)
      (0, 0, O) ⟨by simp, Nat.zero_le _, hol, hot, by simp, hoz⟩ rfl ?_
    rintro ⟨c, j, O'⟩ ⟨hc, hj, hol', hot', hov', hoz'⟩
    dsimp only at hc hj hol' hot' hov' hoz' ⊢
    refine d_op ev_len (d_op ev_lss (d_if rfl (fun h2 => ?_) (fun h2 => ?_)))
    · have hjb : j < B.length := by omega
      obtain ⟨y, hy⟩ : ∃ y, y = B.getD j 0 := ⟨_, rfl⟩
      have hyl : y < 65536 := hy ▸ hB.getD (by decide) j
      obtain ⟨o, ho⟩ : ∃ o, o = O'.getD (i + j) 0 := ⟨_, rfl⟩
      have hol : o < 65536 := ho ▸ hot'.getD (by decide) _
      have hxy : x * y ≤ 4294836225 := by
        have : x * y ≤ 65535 * 65535 := Nat.mul_le_mul (by omega) (by omega)
        omega
      have eij : (i : Int) + (j : Int) = ((i + j : Nat) : Int) := by omega
      have exy : (x : Int) * (y : Int) = ((x * y : Nat) : Int) := by simp
      have et : (o : Int) + ((x * y : Nat) : Int) + (c : Int) = ((o + x * y + c : Nat) : Int) := by omega
      refine d_op (ev_add (by constructor <;> omega)) ?_
      rw [eij]
      refine d_op (ev_chki (by omega) (by omega) rfl) (d_op (ev_ofs (o := 0) rfl rfl) (d_op (ev_lgetN' (i := i + j) (by simp) (by omega) ho.symm) ?_))
      refine d_op (ev_eaddrN (i := i) rfl hia) (d_op (ev_rldN' hia hx.symm) ?_)
      refine d_op (ev_eaddrN (i := j) rfl hjb) (d_op (ev_rldN' hjb hy.symm) ?_)
      refine d_op (ev_mul (by rw [exy]; constructor <;> omega)) ?_
      rw [exy]
      refine d_op (ev_add (by constructor <;> omega)) (d_op (ev_add (by constructor <;> omega)) ?_)
      rw [et]
      refine d_op (ev_add (by constructor <;> omega)) ?_
      rw [eij]
      refine d_op (ev_and (by constructor <;> omega) (y := 65535) (by decide)) ?_
      rw [Nat.and_two_pow_sub_one_eq_mod (o + x * y + c) 16]
      refine d_op (ev_shr (y := 16) rfl (by decide) rfl) ?_
      refine d_op (ev_chki (by omega) (by omega) rfl) (d_op (ev_ofs (o := 0) rfl rfl) (d_op (ev_lsetN (i := i + j) (by simp) (by omega) rfl) ?_))
      refine d_op (ev_add (by constructor <;> omega)) ?_
      refine d_back rfl ⟨((o + x * y + c) / 65536, j + 1, O'.set (i + j) ((o + x * y + c) % 65536)), rfl, ⟨?_, by simp only; omega, by simp [hol'], hot'.set (Nat.mod_lt _ (by decide)) _, ?_, fun k hk => ?_⟩, by simp only; omega⟩
      · show (o + x * y + c) / 65536 < 65536
        omega
      · have hs := place_step (b := 65536) (p := 65536 ^ (i + j)) (o := O'.getD (i + j) 0) (y := x * y) (c := c) (r := (o + x * y + c) % 65536) (c' := (o + x * y + c) / 65536) (val_set (by omega) _) (by rw [ho]; exact Nat.mod_add_div _ _) hov'
        show val 65536 (O'.set (i + j) ((o + x * y + c) % 65536)) + 65536 ^ (i + j + 1) * ((o + x * y + c) / 65536) = _
        rw [Nat.pow_succ, hs, val_take_succ, Nat.mul_add, ← hy]
        congr 1
        rw [Nat.pow_add]
        ac_rfl
      · have hk : i + B.length ≤ k := hk
        show (O'.set (i + j) _).getD k 0 = 0
        rw [getD_set_ne (by omega)]
        exact hoz' k hk
    · have hjb : j = B.length := by omega
      subst hjb
      rw [List.take_length] at hov'
      have eij : (i : Int) + (B.length : Int) = ((i + B.length : Nat) : Int) := by omega
      refine d_op ev_len (d_op (ev_add (by constructor <;> omega)) ?_)
      rw [eij]
      refine d_op (ev_chki (by omega) (by omega) rfl) (d_op (ev_ofs (o := 0) rfl rfl) (d_op (ev_lsetN (i := i + B.length) (by simp) (by omega) rfl) ?_))
      refine d_op (ev_add (by constructor <;> omega)) ?_
      refine d_back rfl ⟨(i + 1, O'.set (i + B.length) c), rfl, ⟨by simp only; omega, by simp [hol'], hot'.set hc _, ?_, fun k hk => ?_⟩, by simp only; omega⟩
      · have hs := val_set (b := 65536) (L := O') (i := i + B.length) (by omega) c
        rw [hoz' _ (Nat.le_refl _), Nat.mul_zero, Nat.add_zero] at hs
        show val 65536 (O'.set (i + B.length) c) = val 65536 (A.take (i + 1)) * val 65536 B
        rw [hs, hov', hov, val_take_succ, ← hx, Nat.add_mul]
        congr 1
        ac_rfl
      · have hk : i + 1 + B.length ≤ k := hk
        show (O'.set (i + B.length) _).getD k 0 = 0
        rw [getD_set_ne (by omega)]
        exact hoz' k (by omega)
  · have : i = A.length := by omega
    subst this
    rw [List.take_length] at hov
    refine d_op (ev_mkslN rfl (by rw [hol])) (d_ret ?_)
    show AEnd.ret (SN .u64 O) = _
    rw [eq_fdigs (by decide) hot hol hov]

def RToldC (P : Program) (f : FuncId) : Prop := ∀ X, LtAll 65536 X → X.length ≤ 8796093022208 → Ct P f [SN .u64 X] (fun e => e = .ret (res (told (val 65536 X))))

theorem told_eq (n : Nat) : told n = if long n then ([], 2) else (digs B32 n, 0) := rfl

def t_rtold (of rcheck : FuncId) : T :=
  .node (.call of [.v 0] true) <| -- 1
  .node (.call rcheck [.v 1] true) <| -- 2
  .node (.op (.bin .neq) [.v 2, .c (.int .i64 0)]) <| -- 3
  .br (.v 3) (
    .node (.op .mktup [.c .nils, .v 2]) <| -- 4
    .ret (.v 4)) (
    .node (.op .mktup [.v 1, .c (.int .i64 0)]) <| -- 4
    .ret (.v 4))
theorem rtold_den {of rcheck : FuncId} (ho : OfC P of) (hc : RCheckC P rcheck) (h : LtAll 65536 X) (hl : X.length ≤ 8796093022208) : D P (Is (res (told (val 65536 X)))) [] 1 [SN .u64 X] (t_rtold of rcheck) := by
  have hlen : (digs B32 (val 65536 X)).length ≤ 35184372088832 := by
    have h1 := val_lt (b := 65536) (by decide) h
    have h2 : 65536 ^ X.length ≤ 65536 ^ (2 * ((X.length + 1) / 2)) := Nat.pow_le_pow_right (by decide) (by omega)
    rw [pow16] at h2
    have h3 : (digs B32 (val 65536 X)).length ≤ (X.length + 1) / 2 := (digs_length_le (by decide)).2 (by omega)
    omega
  refine d_call (ho X h hl) (fun _ => rfl) ?_
  refine d_call (hc _ ⟨digs_lt (by decide) _, hlen⟩) (fun _ => rfl) ?_
  rw [val_digs (by decide), told_eq]
  cases hh : long (val 65536 X) with
  | true =>
    refine d_op ev_neq (d_if rfl (fun _ => d_op ev_mktup (d_ret (is_res ?_))) (fun h => absurd (by decide) h))
    exact Sub.res_nil
  | false =>
    refine d_op ev_neq (d_if rfl (fun h => absurd h (by decide)) (fun _ => d_op ev_mktup (d_ret (is_res ?_))))
    exact Sub.refl _

/-- digits of a number without noughts behind -/
theorem dnum_len (A : List Nat) (h : long (val B32 A) = false) : (nrm A).length ≤ 1024 := long_false h
theorem dnum_val (A : List Nat) : val 65536 (fdigs 65536 (2 * (nrm A).length) (val B32 (nrm A))) = val B32 A := by
  rw [val_fdigs_lt, nrm_val]
  rw [pow16]
  exact val_lt (by decide) nrm_lt

def t_radd (both plain digits sum rtold : FuncId) : T :=
  .node (.call both [.v 0, .v 1] true) <| -- 2
  .node (.op (.bin .neq) [.v 2, .c (.int .i64 0)]) <| -- 3
  .br (.v 3) (
    .node (.op .mktup [.c .nils, .v 2]) <| -- 4
    .ret (.v 4)) (
    .node (.call plain [.v 0] true) <| -- 4
    .node (.call digits [.v 4] true) <| -- 5
    .node (.call plain [.v 1] true) <| -- 6
    .node (.call digits [.v 6] true) <| -- 7
    .node (.call sum [.v 5, .v 7] true) <| -- 8
    .node (.call rtold [.v 8] false) <| -- 9
    .node (.op (.ext 0 true) [.v 9]) <| -- 10
    .node (.op (.ext 1 true) [.v 9]) <| -- 11
    .node (.op .mktup [.v 10, .v 11]) <| -- 12
    .ret (.v 12))
theorem radd_den {both plain digits sum rtold : FuncId} (hb : RBothC P both) (hp : PlainC P plain) (hd : DigitsC P digits) (hs : SumC P sum) (ht : RToldC P rtold) (hA : OkN A) (hB : OkN B) :
    D P (Is (res (addS (val B32 A) (val B32 B)))) [] 2 [W B, W A] (t_radd both plain digits sum rtold) := by
  refine d_call (hb A B hA hB) (fun _ => rfl) ?_
  unfold addS
  cases hh : (long (val B32 A) || long (val B32 B)) with
  | true =>
    refine d_op ev_neq (d_if rfl (fun _ => d_op ev_mktup (d_ret (is_res ?_))) (fun h => absurd (by decide) h))
    exact Sub.res_nil
  | false =>
    have hl0 := Bool.or_eq_false_iff.1 hh
    have lX := dnum_len A hl0.1
    have lY := dnum_len B hl0.2
    refine d_op ev_neq (d_if rfl (fun h => absurd h (by decide)) (fun _ => ?_))
    refine d_call (hp A hA.1 hA.2) (fun _ => rfl) (d_call (hd _ nrm_lt (by omega)) (fun _ => rfl) ?_)
    refine d_call (hp B hB.1 hB.2) (fun _ => rfl) (d_call (hd _ nrm_lt (by omega)) (fun _ => rfl) ?_)
    refine d_call (hs _ _ (fdigs_lt (by decide) _ _) (fdigs_lt (by decide) _ _) (by simp; omega) (by simp; omega)) (fun _ => rfl) ?_
    refine d_call (ht _ (fdigs_lt (by decide) _ _) (by simp; omega)) (fun h => by cases h) ?_
    rw [dnum_val, dnum_val, fdigs_length, fdigs_length]
    have hv : val 65536 (fdigs 65536 (max (2 * (nrm A).length) (2 * (nrm B).length) + 1) (val B32 A + val B32 B)) = val B32 A + val B32 B := by
      apply val_fdigs_lt
      have bX := val_lt (b := B32) (by decide) (nrm_lt (L := A))
      have bY := val_lt (b := B32) (by decide) (nrm_lt (L := B))
      rw [nrm_val, ← pow16] at bX bY
      have pX : 65536 ^ (2 * (nrm A).length) ≤ 65536 ^ max (2 * (nrm A).length) (2 * (nrm B).length) := Nat.pow_le_pow_right (by decide) (by omega)
      have pY : 65536 ^ (2 * (nrm B).length) ≤ 65536 ^ max (2 * (nrm A).length) (2 * (nrm B).length) := Nat.pow_le_pow_right (by decide) (by omega)
      rw [Nat.pow_succ]
      omega
    rw [hv]
    exact d_op (ev_ext rfl (fun _ => rfl)) (d_op (ev_ext rfl (fun _ => rfl)) (d_op ev_mktup (d_ret (is_res (Sub.refl _)))))

def t_rmul (both plain digits product rtold : FuncId) : T :=
  .node (.call both [.v 0, .v 1] true) <| -- 2
  .node (.op (.bin .neq) [.v 2, .c (.int .i64 0)]) <| -- 3
  .br (.v 3) (
    .node (.op .mktup [.c .nils, .v 2]) <| -- 4
    .ret (.v 4)) (
    .node (.call plain [.v 0] true) <| -- 4
    .node (.call digits [.v 4] true) <| -- 5
    .node (.call plain [.v 1] true) <| -- 6
    .node (.call digits [.v 6] true) <| -- 7
    .node (.call product [.v 5, .v 7] true) <| -- 8
    .node (.call rtold [.v 8] false) <| -- 9
    .node (.op (.ext 0 true) [.v 9]) <| -- 10
    .node (.op (.ext 1 true) [.v 9]) <| -- 11
    .node (.op .mktup [.v 10, .v 11]) <| -- 12
    .ret (.v 12))
theorem rmul_den {both plain digits product rtold : FuncId} (hb : RBothC P both) (hp : PlainC P plain) (hd : DigitsC P digits) (hs : ProductC P product) (ht : RToldC P rtold) (hA : OkN A) (hB : OkN B) :
    D P (Is (res (mulS (val B32 A) (val B32 B)))) [] 2 [W B, W A] (t_rmul both plain digits product rtold) := by
  refine d_call (hb A B hA hB) (fun _ => rfl) ?_
  unfold mulS
  cases hh : (long (val B32 A) || long (val B32 B)) with
  | true =>
    refine d_op ev_neq (d_if rfl (fun _ => d_op ev_mktup (d_ret (is_res ?_))) (fun h => absurd (by decide) h))
    exact Sub.res_nil
  | false =>
    have hl0 := Bool.or_eq_false_iff.1 hh
    have lX := dnum_len A hl0.1
    have lY := dnum_len B hl0.2
    refine d_op ev_neq (d_if rfl (fun h => absurd h (by decide)) (fun _ => ?_))
    refine d_call (hp A hA.1 hA.2) (fun _ => rfl) (d_call (hd _ nrm_lt (by omega)) (fun _ => rfl) ?_)
    refine d_call (hp B hB.1 hB.2) (fun _ => rfl) (d_call (hd _ nrm_lt (by omega)) (fun _ => rfl) ?_)
    refine d_call (hs _ _ (fdigs_lt (by decide) _ _) (fdigs_lt (by decide) _ _) (by simp; omega)) (fun _ => rfl) ?_
    refine d_call (ht _ (fdigs_lt (by decide) _ _) (by simp; omega)) (fun h => by cases h) ?_
    rw [dnum_val, dnum_val, fdigs_length, fdigs_length]
    have hv : val 65536 (fdigs 65536 (2 * (nrm A).length + 2 * (nrm B).length) (val B32 A * val B32 B)) = val B32 A * val B32 B := by
      apply val_fdigs_lt
      have bX := val_lt (b := B32) (by decide) (nrm_lt (L := A))
      have bY := val_lt (b := B32) (by decide) (nrm_lt (L := B))
      rw [nrm_val, ← pow16] at bX bY
      rw [Nat.pow_add]
      exact Nat.mul_lt_mul'' bX bY
    rw [hv]
    exact d_op (ev_ext rfl (fun _ => rfl)) (d_op (ev_ext rfl (fun _ => rfl)) (d_op ev_mktup (d_ret (is_res (Sub.refl _)))))

theorem bit_of (h : LtAll B32 L) (m : Nat) : L.getD (m / 32) 0 / 2 ^ (m % 32) % 2 = val B32 L / 2 ^ m % 2 := by
  rw [getD_digit (by decide) h]
  have e : B32 ^ (m / 32) = 2 ^ (32 * (m / 32)) := by
    show (2 ^ 32) ^ _ = _
    rw [← Nat.pow_mul]
  rw [e]
  have h1 : ∀ v r : Nat, r < 32 → v % B32 / 2 ^ r % 2 = v / 2 ^ r % 2 := fun v r hr => by
    have a := Nat.testBit_mod_two_pow v 32 r
    rw [Nat.testBit_eq_decide_div_mod_eq, Nat.testBit_eq_decide_div_mod_eq] at a
    have a' : decide (v % B32 / 2 ^ r % 2 = 1) = (decide (r < 32) && decide (v / 2 ^ r % 2 = 1)) := a
    rw [decide_eq_true hr, Bool.true_and, decide_eq_decide] at a'
    have b1 := Nat.mod_two_eq_zero_or_one (v % B32 / 2 ^ r)
    have b2 := Nat.mod_two_eq_zero_or_one (v / 2 ^ r)
    omega
  rw [h1 _ _ (Nat.mod_lt _ (by decide)), Nat.div_div_eq_div_mul, ← Nat.pow_add]
  congr 3
  omega

def t_rlen (plain : FuncId) : T :=
  .node (.call plain [.v 0] true) <| -- 1
  .node (.op .len [.v 1]) <| -- 2
  .node (.op (.bin .mul) [.c (.int .i64 32), .v 2]) <| -- 3
  .loop [.v 3] [true] <| -- 4 to 4
    .node (.op (.bin .gtr) [.v 4, .c (.int .i64 0)]) <| -- 5
    .br (.v 5) (
      .node (.op (.bin .sub) [.v 4, .c (.int .i64 1)]) <| -- 6
      .node (.op (.bin .quo) [.v 6, .c (.int .i64 32)]) <| -- 7
      .node (.op (.eaddr 1) [.v 1, .v 7]) <| -- 8
      .node (.op (.rld false 1) [.v 8]) <| -- 9
      .node (.op (.bin .sub) [.v 4, .c (.int .i64 1)]) <| -- 10
      .node (.op (.bin .rem) [.v 10, .c (.int .i64 32)]) <| -- 11
      .node (.op (.cvt .u64) [.v 11]) <| -- 12
      .node (.op (.bin .shr) [.v 9, .v 12]) <| -- 13
      .node (.op (.bin .and) [.v 13, .c (.int .u32 1)]) <| -- 14
      .node (.op (.bin .eql) [.v 14, .c (.int .u32 0)]) <| -- 15
      .br (.v 15) (
        .node (.op (.bin .sub) [.v 4, .c (.int .i64 1)]) <| -- 16
        .back 0 [.v 16]) (
        .ret (.v 4))) (
      .ret (.v 4))
theorem rlen_den {plain : FuncId} (hp : PlainC P plain) (h : LtAll B32 L) (hl : L.length ≤ 35184372088832) : D P (fun e => e = .ret (.int .i64 (blen (val B32 L) : Nat))) [] 1 [W L] (t_rlen plain) := by
  have hn := nrm_len h
  refine d_call (hp L h hl) (fun _ => rfl) ?_
  have hv : val B32 (nrm L) = val B32 L := nrm_val
  have ht : LtAll B32 (nrm L) := nrm_lt
  generalize nrm L = X at *
  rw [← hv]
  refine d_op ev_len (d_op (ev_mul (by constructor <;> omega)) ?_)
  refine d_while (fun i : Nat => [.int .i64 (i : Int)]) (fun i => i ≤ 32 * X.length ∧ val B32 X < 2 ^ i) id (32 * X.length) ⟨Nat.le_refl _, ?_⟩ (by show [AV.int .i64 (32 * (X.length : Int))] = _; simp) ?_
  · have := val_lt (b := B32) (by decide) ht
    rw [Nat.pow_mul]
    exact this
  rintro i ⟨hi, hlt⟩
  refine d_op ev_gtr (d_if rfl (fun h1 => ?_) (fun h1 => ?_))
  · obtain ⟨m, rfl⟩ : ∃ m, i = m + 1 := ⟨i - 1, by omega⟩
    have em : ((m + 1 : Nat) : Int) - 1 = (m : Int) := by omega
    have hx : X.getD (m / 32) 0 < 4294967296 := ht.getD (by decide) _
    have hb := bit_of ht m
    obtain ⟨w, ew⟩ : ∃ w, w = val B32 X / 2 ^ m := ⟨_, rfl⟩
    rw [← ew] at hb
    refine d_op (ev_sub (by constructor <;> omega)) ?_
    rw [em]
    refine d_op (ev_quo (by omega) (by omega) (by constructor <;> omega)) ?_
    refine d_op (ev_eaddrN (i := m / 32) rfl (by omega)) (d_op (ev_rldN (by omega)) ?_)
    refine d_op (ev_sub (by constructor <;> omega)) ?_
    rw [em]
    refine d_op (ev_rem (by omega) (by omega)) (d_op (ev_cvt (by constructor <;> omega)) ?_)
    have hq : X.getD (m / 32) 0 / 2 ^ (m % 32) ≤ X.getD (m / 32) 0 := Nat.div_le_self _ _
    obtain ⟨u, eu⟩ : ∃ u, X.getD (m / 32) 0 / 2 ^ (m % 32) = u := ⟨_, rfl⟩
    rw [eu] at hq hb
    refine d_op (ev_shr (y := m % 32) rfl (by show m % 32 ≤ 32; omega) eu) ?_
    refine d_op (ev_and (by constructor <;> omega) (y := 1) (by decide)) ?_
    rw [Nat.and_one_is_mod, hb]
    have h2 : val B32 X / 2 ^ m < 2 := by
      rw [Nat.div_lt_iff_lt_mul (Nat.two_pow_pos m), Nat.mul_comm, ← Nat.pow_succ]; exact hlt
    rw [← ew] at h2
    refine d_op ev_eql (d_if rfl (fun h3 => ?_) (fun h3 => ?_))
    · refine d_op (ev_sub (by constructor <;> omega)) ?_
      rw [em]
      refine d_back rfl ⟨m, rfl, ⟨by omega, ?_⟩, Nat.lt_succ_self m⟩
      have : val B32 X / 2 ^ m = 0 := by rw [← ew]; omega
      rcases Nat.lt_or_ge (val B32 X) (2 ^ m) with h4 | h4
      · exact h4
      · have := Nat.div_pos h4 (Nat.two_pow_pos m); omega
    · refine d_ret ?_
      show AEnd.ret (.int .i64 ((m + 1 : Nat) : Int)) = _
      have : val B32 X / 2 ^ m = 1 := by rw [← ew]; omega
      have h4 : 2 ^ m ≤ val B32 X := by
        rcases Nat.lt_or_ge (val B32 X) (2 ^ m) with h5 | h5
        · rw [Nat.div_eq_of_lt h5] at this; cases this
        · exact h5
      rw [blen_eq h4 hlt]
  · have : i = 0 := by omega
    subst this
    refine d_ret ?_
    have h0 : val B32 X = 0 := by simpa using hlt
    rw [h0]
    rfl

end Go.SE
