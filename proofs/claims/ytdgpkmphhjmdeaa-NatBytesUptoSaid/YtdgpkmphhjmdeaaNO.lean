/- Nothing of the statement is proved here: this text lays generic laws: NO; no conditions. -/
import Derived.Test.YtdgpkmphhjmdeaaNM
import Derived.Test.YtdgpkmphhjmdeaaNAdds

set_option linter.all false
set_option autoImplicit false
set_option exponentiation.threshold 40000
namespace Go.SE
open Go

variable {P : Program} {R : AEnd → Prop} {L A B X Y M : List Nat}

/-! ### Quotients and rests, divisors, powers: what is asked -/

def res3 (p : List Nat × List Nat × Int) : AV := .tup [W p.1, W p.2.1, .int .i64 p.2.2]
def divS (a b : Nat) : List Nat × List Nat × Int := if long a || long b then ([], [], 2) else if b = 0 then ([], [], 1) else (digs B32 (a / b), digs B32 (a % b), 0)
def DivModC (P : Program) (f : FuncId) : Prop := ∀ A B, OkN A → OkN B → Ct P f [W A, W B] (fun e => e = .ret (res3 (divS (val B32 A) (val B32 B))))
def gcdS (a b : Nat) : List Nat × Int := if long a || long b then ([], 2) else (digs B32 (Nat.gcd a b), 0)
def powS (a e m : Nat) : List Nat × Int := if long a || long e || long m then ([], 2) else if m = 0 then ([], 1) else (digs B32 (a ^ e % m), 0)
def Tern (P : Program) (f : FuncId) (s : Nat → Nat → Nat → List Nat × Int) : Prop := ∀ A B C, OkN A → OkN B → OkN C → Ct P f [W A, W B, W C] (fun e => e = .ret (res (s (val B32 A) (val B32 B) (val B32 C))))
def RQuoC (P : Program) (f : FuncId) : Prop := ∀ A B, OkN A → OkN B → 0 < val B32 B → (nrm A).length ≤ 4096 → (nrm B).length ≤ 4096 → Ct P f [W A, W B] (fun e => e = .ret (resD (val B32 A) (val B32 B)))

theorem is_res3 {u : AV} {p : List Nat × List Nat × Int} (h : Sub u (res3 p)) : Is (res3 p) (.ret u) := ⟨u, rfl, h⟩
theorem Sub.res3_nil {e : Int} : Sub (.tup [.nils, .nils, .int .i64 e]) (.tup [W [], W [], .int .i64 e]) := Sub.tup ⟨Sub.nils_sl, Sub.nils_sl, Sub.refl _, trivial⟩
theorem okd {n : Nat} (h : n < B32 ^ 4096) : OkN (digs B32 n) := OkN.digs_of h (by decide)
theorem digs_len {n k : Nat} (h : n < B32 ^ k) : (digs B32 n).length ≤ k := (digs_length_le (by decide)).2 h
theorem nrm_digs (n : Nat) : nrm (digs B32 n) = digs B32 n := by unfold nrm; rw [val_digs (by decide)]
theorem mod_lt_pow {a b k : Nat} (h0 : 0 < b) (hb : b < B32 ^ k) : a % b < B32 ^ k := Nat.lt_trans (Nat.mod_lt _ h0) hb
theorem div_lt_pow {a b k : Nat} (ha : a < B32 ^ k) : a / b < B32 ^ k := Nat.lt_of_le_of_lt (Nat.div_le_self _ _) ha
theorem vdigs (n : Nat) : val B32 (digs B32 n) = n := val_digs (by decide) n

/-- dividing what has no noughts behind -/
theorem DivideC.at {f : FuncId} (h : DivideC P f) {a b : Nat} (ha : a < B32 ^ 4096) (hb : b < B32 ^ 4096) (h0 : b ≠ 0) : Ct P f [W (digs B32 a), W (digs B32 b)] (fun e => e = .ret (resD a b)) := by
  have := h (digs B32 a) (digs B32 b) (digs_lt (by decide) _) (digs_lt (by decide) _) (digs_noTail (by decide) _) (digs_noTail (by decide) _) (fun e => h0 ((digs_eq_nil (by decide)).1 e))
    (Nat.le_trans (digs_len ha) (by decide)) (Nat.le_trans (digs_len hb) (by decide))
  rwa [vdigs, vdigs] at this
theorem RQuoC.at {f : FuncId} (h : RQuoC P f) {a b : Nat} (hB : OkN B) (ha : a < B32 ^ 4096) (eb : b = val B32 B) (hb : b < B32 ^ 4096) (h0 : b ≠ 0) : Ct P f [W (digs B32 a), W B] (fun e => e = .ret (resD a b)) := by
  subst eb
  have := h (digs B32 a) B (okd ha) hB (by omega) (by rw [nrm_digs]; exact digs_len ha) (digs_len hb)
  rwa [vdigs] at this
theorem TimesC.at {f : FuncId} (h : TimesC P f) {a b : Nat} (ha : a < B32 ^ 4096) (hb : b < B32 ^ 4096) : Ct P f [W (digs B32 a), W (digs B32 b)] (fun e => e = .ret (W (digs B32 (a * b)))) := by
  have := h (digs B32 a) (digs B32 b) (digs_lt (by decide) _) (digs_lt (by decide) _) (by have := digs_len ha; have := digs_len hb; omega)
  rwa [vdigs, vdigs] at this

theorem check2_of {a b : Nat} : (if ([a, b].any fun n => long n) = true then (2 : Int) else 0) = if long a || long b then 2 else 0 := by simp [List.any]

def t_divMod (check trim divide clip : FuncId) : T :=
  .node (.op .mklst [.v 0, .v 1]) <| -- 2
  .node (.op (.mksl 1) [.v 2, .c (.int .i64 0), .c (.int .i64 2)]) <| -- 3
  .node (.call check [.v 3] true) <| -- 4
  .node (.op (.bin .neq) [.v 4, .c (.int .i64 0)]) <| -- 5
  .br (.v 5) (
    .node (.op .mktup [.c .nils, .c .nils, .v 4]) <| -- 6
    .ret (.v 6)) (
    .node (.call trim [.v 0] true) <| -- 6
    .node (.call trim [.v 1] true) <| -- 7
    .node (.op .len [.v 7]) <| -- 8
    .node (.op (.bin .eql) [.v 8, .c (.int .i64 0)]) <| -- 9
    .br (.v 9) (
      .ret (.c (.tup [.nils, .nils, .int .i64 1]))) (
      .node (.call divide [.v 6, .v 7] false) <| -- 10
      .node (.op (.ext 0 true) [.v 10]) <| -- 11
      .node (.op (.ext 1 true) [.v 10]) <| -- 12
      .node (.call clip [.v 11] true) <| -- 13
      .node (.call clip [.v 12] true) <| -- 14
      .node (.op .mktup [.v 13, .v 14, .c (.int .i64 0)]) <| -- 15
      .ret (.v 15)))
theorem divMod_den {check trim divide clip : FuncId} (hch : CheckC P check) (ht : TrimC P trim) (hd : DivideC P divide) (hc : ClipC P clip) (hA : OkN A) (hB : OkN B) :
    D P (Is (res3 (divS (val B32 A) (val B32 B)))) [] 2 [W B, W A] (t_divMod check trim divide clip) := by
  obtain ⟨a, ea⟩ : ∃ a, a = val B32 A := ⟨_, rfl⟩
  obtain ⟨b, eb⟩ : ∃ b, b = val B32 B := ⟨_, rfl⟩
  refine d_op (ev_mklst rfl) (d_op (ev_mksl1 rfl rfl) (d_call (hch [A, B] (by intro L hL; rcases List.mem_cons.1 hL with rfl | hL; exact hA; rcases List.mem_cons.1 hL with rfl | hL; exact hB; cases hL) (by show 2 ≤ 8; omega)) (fun _ => rfl) ?_))
  rw [show ([A, B].any fun L => long (val B32 L)) = ([a, b].any fun n => long n) by rw [ea, eb]; rfl, check2_of, ← ea, ← eb]
  unfold divS
  cases hh : (long a || long b) with
  | true =>
    refine d_op ev_neq (d_if rfl (fun _ => d_op ev_mktup (d_ret (is_res3 ?_))) (fun h => absurd (by decide) h))
    exact Sub.res3_nil
  | false =>
    have hl0 := Bool.or_eq_false_iff.1 hh
    have la := long_pow hl0.1
    have lb := long_pow hl0.2
    have p := pow_le (k := 1024) (m := 4096) (by omega)
    refine d_op ev_neq (d_if rfl (fun h => absurd h (by decide)) (fun _ => ?_))
    refine d_call (ht A hA.1 hA.2) (fun _ => rfl) (d_call (ht B hB.1 hB.2) (fun _ => rfl) ?_)
    rw [show nrm A = digs B32 a by rw [ea]; rfl, show nrm B = digs B32 b by rw [eb]; rfl]
    rw [if_neg (by simp)]
    by_cases h0 : b = 0
    · subst h0
      rw [digs_zero, if_pos rfl]
      exact d_op ev_len (d_op ev_eql (d_yes rfl rfl (d_ret (is_res3 Sub.res3_nil))))
    · have hne : ¬ ((digs B32 b).length : Int) = 0 := fun h => h0 ((digs_eq_nil (b := B32) (by decide)).1 (List.eq_nil_of_length_eq_zero (by omega)))
      rw [if_neg h0]
      refine d_op ev_len (d_op ev_eql (d_no hne rfl ?_))
      refine d_call (hd.at (a := a) (b := b) (by omega) (by omega) h0) (fun h => by cases h) (d_op (ev_ext rfl (fun _ => rfl)) (d_op (ev_ext rfl (fun _ => rfl)) ?_))
      exact d_call (hc _) (fun _ => rfl) (d_call (hc _) (fun _ => rfl) (d_op ev_mktup (d_ret (is_res3 (Sub.refl _)))))

def t_rquo (plain digits rdivide of : FuncId) : T :=
  .node (.call plain [.v 0] true) <| -- 2
  .node (.call digits [.v 2] true) <| -- 3
  .node (.call plain [.v 1] true) <| -- 4
  .node (.call digits [.v 4] true) <| -- 5
  .node (.call rdivide [.v 3, .v 5] false) <| -- 6
  .node (.op (.ext 0 true) [.v 6]) <| -- 7
  .node (.op (.ext 1 true) [.v 6]) <| -- 8
  .node (.call of [.v 7] true) <| -- 9
  .node (.call of [.v 8] true) <| -- 10
  .node (.op .mktup [.v 9, .v 10]) <| -- 11
  .ret (.v 11)
theorem rquo_den {plain digits rdivide of : FuncId} (hp : PlainC P plain) (hd : DigitsC P digits) (hv : RDivC P rdivide) (ho : OfC P of) (hA : OkN A) (hB : OkN B) (h0 : 0 < val B32 B) (la : (nrm A).length ≤ 4096) (lb : (nrm B).length ≤ 4096) :
    D P (fun e => e = .ret (resD (val B32 A) (val B32 B))) [] 2 [W B, W A] (t_rquo plain digits rdivide of) := by
  refine d_call (hp A hA.1 hA.2) (fun _ => rfl) (d_call (hd _ nrm_lt (by omega)) (fun _ => rfl) ?_)
  refine d_call (hp B hB.1 hB.2) (fun _ => rfl) (d_call (hd _ nrm_lt (by omega)) (fun _ => rfl) ?_)
  have va := dnum_val A
  have vb := dnum_val B
  have lA : (fdigs 65536 (2 * (nrm A).length) (val B32 (nrm A))).length ≤ 8192 := by simp; omega
  have lB : (fdigs 65536 (2 * (nrm B).length) (val B32 (nrm B))).length ≤ 8192 := by simp; omega
  have tA := fdigs_lt (b := 65536) (by decide) (2 * (nrm A).length) (val B32 (nrm A))
  have tB := fdigs_lt (b := 65536) (by decide) (2 * (nrm B).length) (val B32 (nrm B))
  generalize fdigs 65536 (2 * (nrm A).length) (val B32 (nrm A)) = X at *
  generalize fdigs 65536 (2 * (nrm B).length) (val B32 (nrm B)) = Y at *
  refine d_call (hv X Y tA tB (by omega) (by omega) (by omega)) (fun h => by cases h) (d_op (ev_ext rfl (fun _ => rfl)) (d_op (ev_ext rfl (fun _ => rfl)) ?_))
  have hx := val_lt (b := 65536) (by decide) tA
  have hy := val_lt (b := 65536) (by decide) tB
  refine d_call (ho _ (fdigs_lt (by decide) _ _) (by simp; omega)) (fun _ => rfl) (d_call (ho _ (fdigs_lt (by decide) _ _) (by simp; omega)) (fun _ => rfl) (d_op ev_mktup (d_ret ?_)))
  rw [val_fdigs_lt (Nat.lt_of_le_of_lt (Nat.div_le_self _ _) hx)]
  have hr : val 65536 X % val 65536 Y < 65536 ^ min X.length (Y.length + 1) := by
    have g1 : val 65536 X % val 65536 Y < 65536 ^ X.length := Nat.lt_of_le_of_lt (Nat.mod_le _ _) hx
    have g2 : val 65536 X % val 65536 Y < 65536 ^ (Y.length + 1) := Nat.lt_of_lt_of_le (Nat.lt_trans (Nat.mod_lt _ (by omega)) hy) (Nat.pow_le_pow_right (by decide) (by omega))
    rcases Nat.le_total X.length (Y.length + 1) with h | h
    · rw [Nat.min_eq_left h]; exact g1
    · rw [Nat.min_eq_right h]; exact g2
  rw [val_fdigs_lt hr, va, vb]
  rfl

def t_rdivMod (both plain rquo : FuncId) : T :=
  .node (.call both [.v 0, .v 1] true) <| -- 2
  .node (.op (.bin .neq) [.v 2, .c (.int .i64 0)]) <| -- 3
  .br (.v 3) (
    .node (.op .mktup [.c .nils, .c .nils, .v 2]) <| -- 4
    .ret (.v 4)) (
    .node (.call plain [.v 1] true) <| -- 4
    .node (.op .len [.v 4]) <| -- 5
    .node (.op (.bin .eql) [.v 5, .c (.int .i64 0)]) <| -- 6
    .br (.v 6) (
      .ret (.c (.tup [.nils, .nils, .int .i64 1]))) (
      .node (.call rquo [.v 0, .v 1] false) <| -- 7
      .node (.op (.ext 0 true) [.v 7]) <| -- 8
      .node (.op (.ext 1 true) [.v 7]) <| -- 9
      .node (.op .mktup [.v 8, .v 9, .c (.int .i64 0)]) <| -- 10
      .ret (.v 10)))
theorem rdivMod_den {both plain rquo : FuncId} (hb : RBothC P both) (hp : PlainC P plain) (hq : RQuoC P rquo) (hA : OkN A) (hB : OkN B) : D P (Is (res3 (divS (val B32 A) (val B32 B)))) [] 2 [W B, W A] (t_rdivMod both plain rquo) := by
  refine d_call (hb A B hA hB) (fun _ => rfl) ?_
  unfold divS
  cases hh : (long (val B32 A) || long (val B32 B)) with
  | true =>
    refine d_op ev_neq (d_if rfl (fun _ => d_op ev_mktup (d_ret (is_res3 ?_))) (fun h => absurd (by decide) h))
    exact Sub.res3_nil
  | false =>
    have hl0 := Bool.or_eq_false_iff.1 hh
    refine d_op ev_neq (d_if rfl (fun h => absurd h (by decide)) (fun _ => ?_))
    rw [if_neg (by simp)]
    refine d_call (hp B hB.1 hB.2) (fun _ => rfl) ?_
    by_cases h0 : val B32 B = 0
    · have : nrm B = [] := (digs_eq_nil (by decide)).2 h0
      rw [this, if_pos h0]
      exact d_op ev_len (d_op ev_eql (d_yes rfl rfl (d_ret (is_res3 Sub.res3_nil))))
    · have hne : ¬ ((nrm B).length : Int) = 0 := by
        intro h
        have h1 : (nrm B).length = 0 := by omega
        exact h0 ((digs_eq_nil (b := B32) (by decide)).1 (List.eq_nil_of_length_eq_zero h1))
      rw [if_neg h0]
      refine d_op ev_len (d_op ev_eql (d_no hne rfl ?_))
      refine d_call (hq A B hA hB (by omega) (Nat.le_trans (long_false hl0.1) (by decide)) (Nat.le_trans (long_false hl0.2) (by decide))) (fun h => by cases h) (d_op (ev_ext rfl (fun _ => rfl)) (d_op (ev_ext rfl (fun _ => rfl)) ?_))
      exact d_op ev_mktup (d_ret (is_res3 (Sub.refl _)))

/-! divisors -/

theorem gcd_step {a b : Nat} : Nat.gcd b (a % b) = Nat.gcd a b := by
  rw [Nat.gcd_comm a b, Nat.gcd_rec b a, Nat.gcd_comm]
theorem len_pos {b : Nat} : ((digs B32 b).length : Int) > 0 ↔ b ≠ 0 := by
  constructor
  · intro h e; subst e; rw [digs_zero] at h; simp at h
  · intro h
    have : (digs B32 b).length ≠ 0 := fun e => h ((digs_eq_nil (b := B32) (by decide)).1 (List.eq_nil_of_length_eq_zero e))
    omega

def t_gcd (check trim clone divide : FuncId) : T :=
  .node (.op .mklst [.v 0, .v 1]) <| -- 2
  .node (.op (.mksl 1) [.v 2, .c (.int .i64 0), .c (.int .i64 2)]) <| -- 3
  .node (.call check [.v 3] true) <| -- 4
  .node (.op (.bin .neq) [.v 4, .c (.int .i64 0)]) <| -- 5
  .br (.v 5) (
    .node (.op .mktup [.c .nils, .v 4]) <| -- 6
    .ret (.v 6)) (
    .node (.call trim [.v 0] true) <| -- 6
    .node (.call clone [.v 6] true) <| -- 7
    .node (.call trim [.v 1] true) <| -- 8
    .loop [.v 7, .v 8] [true, true] <| -- 9 to 10
      .node (.op .len [.v 10]) <| -- 11
      .node (.op (.bin .gtr) [.v 11, .c (.int .i64 0)]) <| -- 12
      .br (.v 12) (
        .node (.call divide [.v 9, .v 10] false) <| -- 13
        .node (.op (.ext 0 true) [.v 13]) <| -- 14
        .node (.op (.ext 1 true) [.v 13]) <| -- 15
        .back 0 [.v 10, .v 15]) (
        .node (.call clone [.v 9] true) <| -- 13
        .node (.op .mktup [.v 13, .c (.int .i64 0)]) <| -- 14
        .ret (.v 14)))
theorem gcd_den {check trim clone divide : FuncId} (hch : CheckC P check) (ht : TrimC P trim) (hc : OwnC P clone) (hd : DivideC P divide) (hA : OkN A) (hB : OkN B) :
    D P (Is (res (gcdS (val B32 A) (val B32 B)))) [] 2 [W B, W A] (t_gcd check trim clone divide) := by
  obtain ⟨a, ea⟩ : ∃ a, a = val B32 A := ⟨_, rfl⟩
  obtain ⟨b, eb⟩ : ∃ b, b = val B32 B := ⟨_, rfl⟩
  refine d_op (ev_mklst rfl) (d_op (ev_mksl1 rfl rfl) (d_call (hch [A, B] (by intro L hL; rcases List.mem_cons.1 hL with rfl | hL; exact hA; rcases List.mem_cons.1 hL with rfl | hL; exact hB; cases hL) (by show 2 ≤ 8; omega)) (fun _ => rfl) ?_))
  rw [show ([A, B].any fun L => long (val B32 L)) = ([a, b].any fun n => long n) by rw [ea, eb]; rfl, check2_of, ← ea, ← eb]
  unfold gcdS
  cases hh : (long a || long b) with
  | true =>
    refine d_op ev_neq (d_if rfl (fun _ => d_op ev_mktup (d_ret (is_res ?_))) (fun h => absurd (by decide) h))
    exact Sub.res_nil
  | false =>
    have hl0 := Bool.or_eq_false_iff.1 hh
    have la := long_pow hl0.1
    have lb := long_pow hl0.2
    have p := pow_le (k := 1024) (m := 4096) (by omega)
    refine d_op ev_neq (d_if rfl (fun h => absurd h (by decide)) (fun _ => ?_))
    have na := nrm_len hA.1
    refine d_call (ht A hA.1 hA.2) (fun _ => rfl) (d_call (hc _ (by have := hA.2; omega)) (fun _ => rfl) (d_call (ht B hB.1 hB.2) (fun _ => rfl) ?_))
    rw [show nrm A = digs B32 a by rw [ea]; rfl, show nrm B = digs B32 b by rw [eb]; rfl]
    rw [if_neg (by simp)]
    refine d_while (fun s : Nat × Nat => [W (digs B32 s.1), W (digs B32 s.2)]) (fun s => s.1 < B32 ^ 1024 ∧ s.2 < B32 ^ 1024 ∧ Nat.gcd s.1 s.2 = Nat.gcd a b) (fun s => s.2) (a, b) ⟨la, lb, rfl⟩ rfl ?_
    rintro ⟨x, y⟩ ⟨hx, hy, hg⟩
    dsimp only at hx hy hg ⊢
    refine d_op ev_len (d_op ev_gtr (d_if rfl (fun h => ?_) (fun h => ?_)))
    · have hy0 := len_pos.1 h
      refine d_call (hd.at (a := x) (b := y) (by omega) (by omega) hy0) (fun h => by cases h) (d_op (ev_ext rfl (fun _ => rfl)) (d_op (ev_ext rfl (fun _ => rfl)) ?_))
      exact d_back rfl ⟨(y, x % y), rfl, ⟨hy, mod_lt_pow (by omega) hy, by rw [← hg]; exact gcd_step⟩, Nat.mod_lt _ (by omega)⟩
    · have hy0 : y = 0 := Nat.eq_zero_of_not_pos fun h' => h (len_pos.2 (by omega))
      subst hy0
      rw [Nat.gcd_zero_right] at hg
      subst hg
      refine d_call (hc _ (Nat.le_trans (digs_len hx) (by decide))) (fun _ => rfl) (d_op ev_mktup (d_ret (is_res (Sub.refl _))))

def t_rgcd (both plain rquo : FuncId) : T :=
  .node (.call both [.v 0, .v 1] true) <| -- 2
  .node (.op (.bin .neq) [.v 2, .c (.int .i64 0)]) <| -- 3
  .br (.v 3) (
    .node (.op .mktup [.c .nils, .v 2]) <| -- 4
    .ret (.v 4)) (
    .node (.call plain [.v 0] true) <| -- 4
    .node (.call plain [.v 1] true) <| -- 5
    .loop [.v 4, .v 5] [true, true] <| -- 6 to 7
      .node (.op .len [.v 7]) <| -- 8
      .node (.op (.bin .gtr) [.v 8, .c (.int .i64 0)]) <| -- 9
      .br (.v 9) (
        .node (.call rquo [.v 6, .v 7] false) <| -- 10
        .node (.op (.ext 0 true) [.v 10]) <| -- 11
        .node (.op (.ext 1 true) [.v 10]) <| -- 12
        .back 0 [.v 7, .v 12]) (
        .node (.op .mktup [.v 6, .c (.int .i64 0)]) <| -- 10
        .ret (.v 10)))
theorem rgcd_den {both plain rquo : FuncId} (hb : RBothC P both) (hp : PlainC P plain) (hq : RQuoC P rquo) (hA : OkN A) (hB : OkN B) : D P (Is (res (gcdS (val B32 A) (val B32 B)))) [] 2 [W B, W A] (t_rgcd both plain rquo) := by
  refine d_call (hb A B hA hB) (fun _ => rfl) ?_
  unfold gcdS
  cases hh : (long (val B32 A) || long (val B32 B)) with
  | true =>
    refine d_op ev_neq (d_if rfl (fun _ => d_op ev_mktup (d_ret (is_res ?_))) (fun h => absurd (by decide) h))
    exact Sub.res_nil
  | false =>
    have hl0 := Bool.or_eq_false_iff.1 hh
    have la := long_pow hl0.1
    have lb := long_pow hl0.2
    have p := pow_le (k := 1024) (m := 4096) (by omega)
    refine d_op ev_neq (d_if rfl (fun h => absurd h (by decide)) (fun _ => ?_))
    rw [if_neg (by simp)]
    refine d_call (hp A hA.1 hA.2) (fun _ => rfl) (d_call (hp B hB.1 hB.2) (fun _ => rfl) ?_)
    obtain ⟨a, ea⟩ : ∃ a, a = val B32 A := ⟨_, rfl⟩
    obtain ⟨b, eb⟩ : ∃ b, b = val B32 B := ⟨_, rfl⟩
    rw [show nrm A = digs B32 a by rw [ea]; rfl, show nrm B = digs B32 b by rw [eb]; rfl, ← ea, ← eb]
    rw [← ea] at la
    rw [← eb] at lb
    refine d_while (fun s : Nat × Nat => [W (digs B32 s.1), W (digs B32 s.2)]) (fun s => s.1 < B32 ^ 1024 ∧ s.2 < B32 ^ 1024 ∧ Nat.gcd s.1 s.2 = Nat.gcd a b) (fun s => s.2) (a, b) ⟨la, lb, rfl⟩ rfl ?_
    rintro ⟨x, y⟩ ⟨hx, hy, hg⟩
    dsimp only at hx hy hg ⊢
    refine d_op ev_len (d_op ev_gtr (d_if rfl (fun h => ?_) (fun h => ?_)))
    · have hy0 := len_pos.1 h
      refine d_call (hq.at (B := digs B32 y) (a := x) (b := y) (okd (by omega)) (by omega) (vdigs y).symm (by omega) hy0) (fun h => by cases h) (d_op (ev_ext rfl (fun _ => rfl)) (d_op (ev_ext rfl (fun _ => rfl)) ?_))
      exact d_back rfl ⟨(y, x % y), rfl, ⟨hy, mod_lt_pow (by omega) hy, by rw [← hg]; exact gcd_step⟩, Nat.mod_lt _ (by omega)⟩
    · have hy0 : y = 0 := Nat.eq_zero_of_not_pos fun h' => h (len_pos.2 (by omega))
      subst hy0
      rw [Nat.gcd_zero_right] at hg
      subst hg
      exact d_op ev_mktup (d_ret (is_res (Sub.refl _)))

/-! powers -/

theorem pow_one_bit {a m i e : Nat} : a ^ (e / 2 ^ i) % m = (if e / 2 ^ i % 2 = 1 then (a ^ (e / 2 ^ (i + 1)) % m) * (a ^ (e / 2 ^ (i + 1)) % m) % m * (a % m) % m else (a ^ (e / 2 ^ (i + 1)) % m) * (a ^ (e / 2 ^ (i + 1)) % m) % m) := by
  have e1 : e / 2 ^ (i + 1) = e / 2 ^ i / 2 := by rw [Nat.pow_succ, Nat.div_div_eq_div_mul]
  rw [e1]
  generalize e / 2 ^ i = q
  split
  · rename_i h
    have hq : q = q / 2 + q / 2 + 1 := by omega
    have k1 := Nat.mul_mod (a ^ (q / 2)) (a ^ (q / 2)) m
    have k2 := Nat.mul_mod (a ^ (q / 2) * a ^ (q / 2)) a m
    rw [← k1, ← k2]
    conv => lhs; rw [hq]
    rw [Nat.pow_succ, Nat.pow_add]
  · rename_i h
    have hq : q = q / 2 + q / 2 := by omega
    have k1 := Nat.mul_mod (a ^ (q / 2)) (a ^ (q / 2)) m
    rw [← k1]
    conv => lhs; rw [hq]
    rw [Nat.pow_add]

theorem check3_of {a b c : Nat} : (if ([a, b, c].any fun n => long n) = true then (2 : Int) else 0) = if long a || long b || long c then 2 else 0 := by simp [List.any, Bool.or_assoc]

def t_modExp (check trim divide len times clip : FuncId) : T :=
  .node (.op .mklst [.v 0, .v 1, .v 2]) <| -- 3
  .node (.op (.mksl 1) [.v 3, .c (.int .i64 0), .c (.int .i64 3)]) <| -- 4
  .node (.call check [.v 4] true) <| -- 5
  .node (.op (.bin .neq) [.v 5, .c (.int .i64 0)]) <| -- 6
  .br (.v 6) (
    .node (.op .mktup [.c .nils, .v 5]) <| -- 7
    .ret (.v 7)) (
    .node (.call trim [.v 2] true) <| -- 7
    .node (.op .len [.v 7]) <| -- 8
    .node (.op (.bin .eql) [.v 8, .c (.int .i64 0)]) <| -- 9
    .br (.v 9) (
      .ret (.c (.tup [.nils, .int .i64 1]))) (
      .node (.call divide [.c (.sl 1 [.int .u32 1]), .v 7] false) <| -- 10
      .node (.op (.ext 0 true) [.v 10]) <| -- 11
      .node (.op (.ext 1 true) [.v 10]) <| -- 12
      .node (.call trim [.v 0] true) <| -- 13
      .node (.call divide [.v 13, .v 7] false) <| -- 14
      .node (.op (.ext 0 true) [.v 14]) <| -- 15
      .node (.op (.ext 1 true) [.v 14]) <| -- 16
      .node (.call len [.v 1] true) <| -- 17
      .node (.op (.bin .sub) [.v 17, .c (.int .i64 1)]) <| -- 18
      .loop [.v 12, .v 18] [true, true] <| -- 19 to 20
        .node (.op (.bin .geq) [.v 20, .c (.int .i64 0)]) <| -- 21
        .br (.v 21) (
          .node (.call times [.v 19, .v 19] true) <| -- 22
          .node (.call divide [.v 22, .v 7] false) <| -- 23
          .node (.op (.ext 0 true) [.v 23]) <| -- 24
          .node (.op (.ext 1 true) [.v 23]) <| -- 25
          .node (.op (.bin .quo) [.v 20, .c (.int .i64 32)]) <| -- 26
          .node (.op (.eaddr 1) [.v 1, .v 26]) <| -- 27
          .node (.op (.rld false 1) [.v 27]) <| -- 28
          .node (.op (.bin .rem) [.v 20, .c (.int .i64 32)]) <| -- 29
          .node (.op (.bin .shr) [.v 28, .v 29]) <| -- 30
          .node (.op (.bin .and) [.v 30, .c (.int .u32 1)]) <| -- 31
          .node (.op (.bin .eql) [.v 31, .c (.int .u32 1)]) <| -- 32
          .br (.v 32) (
            .node (.call times [.v 25, .v 16] true) <| -- 33
            .node (.call divide [.v 33, .v 7] false) <| -- 34
            .node (.op (.ext 0 true) [.v 34]) <| -- 35
            .node (.op (.ext 1 true) [.v 34]) <| -- 36
            .node (.op (.bin .sub) [.v 20, .c (.int .i64 1)]) <| -- 37
            .back 0 [.v 36, .v 37]) (
            .node (.op (.bin .sub) [.v 20, .c (.int .i64 1)]) <| -- 33
            .back 0 [.v 25, .v 33])) (
          .node (.call clip [.v 19] true) <| -- 22
          .node (.op .mktup [.v 22, .c (.int .i64 0)]) <| -- 23
          .ret (.v 23))))
theorem modExp_den {check trim divide len times clip : FuncId} (hch : CheckC P check) (ht : TrimC P trim) (hd : DivideC P divide) (hl : BitLenC P len) (htm : TimesC P times) (hc : ClipC P clip) (hA : OkN A) (hX : OkN X) (hM : OkN M) :
    D P (Is (res (powS (val B32 A) (val B32 X) (val B32 M)))) [] 3 [W M, W X, W A] (t_modExp check trim divide len times clip) := by
  obtain ⟨a, ea⟩ : ∃ a, a = val B32 A := ⟨_, rfl⟩
  obtain ⟨x, ex⟩ : ∃ x, x = val B32 X := ⟨_, rfl⟩
  obtain ⟨m, em⟩ : ∃ m, m = val B32 M := ⟨_, rfl⟩
  refine d_op (ev_mklst rfl) (d_op (ev_mksl1 rfl rfl) (d_call (hch [A, X, M] (by intro L hL; rcases List.mem_cons.1 hL with rfl | hL; exact hA; rcases List.mem_cons.1 hL with rfl | hL; exact hX; rcases List.mem_cons.1 hL with rfl | hL; exact hM; cases hL) (by show 3 ≤ 8; omega)) (fun _ => rfl) ?_))
  rw [show ([A, X, M].any fun L => long (val B32 L)) = ([a, x, m].any fun n => long n) by rw [ea, ex, em]; rfl, check3_of, ← ea, ← ex, ← em]
  unfold powS
  cases hh : (long a || long x || long m) with
  | true =>
    refine d_op ev_neq (d_if rfl (fun _ => d_op ev_mktup (d_ret (is_res ?_))) (fun h => absurd (by decide) h))
    exact Sub.res_nil
  | false =>
    have hl0 := Bool.or_eq_false_iff.1 hh
    have hl1 := Bool.or_eq_false_iff.1 hl0.1
    have la := long_pow hl1.1
    have lx := long_pow hl1.2
    have lm := long_pow hl0.2
    have p := pow_le (k := 1024) (m := 4096) (by omega)
    have one : 1 < B32 ^ 4096 := Nat.one_lt_pow (by decide) (by decide)
    refine d_op ev_neq (d_if rfl (fun h => absurd h (by decide)) (fun _ => ?_))
    rw [if_neg (by simp)]
    refine d_call (ht M hM.1 hM.2) (fun _ => rfl) ?_
    rw [show nrm M = digs B32 m by rw [em]; rfl]
    by_cases h0 : m = 0
    · subst h0
      rw [digs_zero, if_pos rfl]
      exact d_op ev_len (d_op ev_eql (d_yes rfl rfl (d_ret (is_res Sub.res_nil))))
    · have hne : ¬ ((digs B32 m).length : Int) = 0 := fun h => h0 ((digs_eq_nil (b := B32) (by decide)).1 (List.eq_nil_of_length_eq_zero (by omega)))
      rw [if_neg h0]
      have pm : ∀ z, z % m < B32 ^ 1024 := fun z => mod_lt_pow (by omega) lm
      have pp : ∀ y z, (y % m) * (z % m) < B32 ^ 4096 := fun y z => Nat.lt_of_lt_of_le (mul_lt_pow (pm y) (pm z)) (pow_le (by omega))
      refine d_op ev_len (d_op ev_eql (d_no hne rfl ?_))
      have d1 : digs B32 1 = [1] := by rw [digs_pos (by decide) (by decide), show 1 / B32 = 0 from rfl, digs_zero]; rfl
      have hd1 := hd.at (a := 1) (b := m) one (by omega) h0
      rw [d1] at hd1
      refine d_call hd1 (fun h => by cases h) (d_op (ev_ext rfl (fun _ => rfl)) (d_op (ev_ext rfl (fun _ => rfl)) ?_))
      refine d_call (ht A hA.1 hA.2) (fun _ => rfl) ?_
      rw [show nrm A = digs B32 a by rw [ea]; rfl]
      refine d_call (hd.at (a := a) (b := m) (by omega) (by omega) h0) (fun h => by cases h) (d_op (ev_ext rfl (fun _ => rfl)) (d_op (ev_ext rfl (fun _ => rfl)) ?_))
      refine d_call (hl X hX.1 hX.2) (fun _ => rfl) ?_
      rw [← ex]
      have hbl : blen x ≤ 32768 := blen_le.2 (Nat.lt_of_lt_of_le lx (by show (2 ^ 32) ^ 1024 ≤ 2 ^ 32768; rw [← Nat.pow_mul]; exact Nat.pow_le_pow_right (by decide) (by decide)))
      have hxx : blen x ≤ 32 * X.length := blen_le.2 (by rw [ex, Nat.pow_mul]; exact val_lt (by decide) hX.1)
      refine d_op (ev_sub (by constructor <;> omega)) ?_
      refine d_while (fun s : Nat => [W (digs B32 (a ^ (x / 2 ^ s) % m)), .int .i64 ((s : Int) - 1)]) (fun s => s ≤ blen x) (fun s => s) (blen x) (Nat.le_refl _) ?_ ?_
      · rw [Nat.div_eq_of_lt (blen_le.1 (Nat.le_refl (blen x))), Nat.pow_zero]; rfl
      · intro s hs
        refine d_op ev_geq (d_if rfl (fun h1 => ?_) (fun h1 => ?_))
        · obtain ⟨i, rfl⟩ : ∃ i, s = i + 1 := ⟨s - 1, by omega⟩
          have e1 : ((i + 1 : Nat) : Int) - 1 = (i : Int) := by omega
          rw [e1]
          obtain ⟨q, hq⟩ : ∃ q, q = a ^ (x / 2 ^ (i + 1)) := ⟨_, rfl⟩
          rw [← hq]
          have hpow := pow_one_bit (a := a) (m := m) (i := i) (e := x)
          rw [← hq] at hpow
          refine d_call (htm.at (a := q % m) (b := q % m) (by have := pm q; omega) (by have := pm q; omega)) (fun _ => rfl) ?_
          refine d_call (hd.at (a := q % m * (q % m)) (b := m) (pp _ _) (by omega) h0) (fun h => by cases h) (d_op (ev_ext rfl (fun _ => rfl)) (d_op (ev_ext rfl (fun _ => rfl)) ?_))
          refine d_op (ev_quo (by omega) (by omega) (by constructor <;> omega)) ?_
          have hb := bit_of hX.1 i
          rw [← ex] at hb
          have hxi : X.getD (i / 32) 0 < 4294967296 := hX.1.getD (by decide) _
          have hq2 : X.getD (i / 32) 0 / 2 ^ (i % 32) ≤ X.getD (i / 32) 0 := Nat.div_le_self _ _
          obtain ⟨u, eu⟩ : ∃ u, X.getD (i / 32) 0 / 2 ^ (i % 32) = u := ⟨_, rfl⟩
          rw [eu] at hq2 hb
          refine d_op (ev_eaddrN (i := i / 32) rfl (by omega)) (d_op (ev_rldN (by omega)) ?_)
          refine d_op (ev_rem (by omega) (by omega)) ?_
          refine d_op (ev_shr (y := i % 32) rfl (by show i % 32 ≤ 32; omega) eu) ?_
          refine d_op (ev_and (by constructor <;> omega) (y := 1) (by decide)) ?_
          rw [Nat.and_one_is_mod, hb]
          refine d_op ev_eql (d_if rfl (fun h3 => ?_) (fun h3 => ?_))
          · rw [if_pos (by omega)] at hpow
            refine d_call (htm.at (a := q % m * (q % m) % m) (b := a % m) (by have := pm (q % m * (q % m)); omega) (by have := pm a; omega)) (fun _ => rfl) ?_
            refine d_call (hd.at (a := q % m * (q % m) % m * (a % m)) (b := m) (pp _ _) (by omega) h0) (fun h => by cases h) (d_op (ev_ext rfl (fun _ => rfl)) (d_op (ev_ext rfl (fun _ => rfl)) ?_))
            refine d_op (ev_sub (by constructor <;> omega)) ?_
            exact d_back rfl ⟨i, by rw [hpow]; rfl, by omega, by omega⟩
          · rw [if_neg (by omega)] at hpow
            refine d_op (ev_sub (by constructor <;> omega)) ?_
            exact d_back rfl ⟨i, by rw [hpow]; rfl, by omega, by omega⟩
        · have hs0 : s = 0 := by omega
          subst hs0
          rw [Nat.pow_zero, Nat.div_one]
          exact d_call (hc _) (fun _ => rfl) (d_op ev_mktup (d_ret (is_res (Sub.refl _))))

theorem low_bit {a m i e : Nat} : a ^ (e % 2 ^ (i + 1)) % m = if e / 2 ^ i % 2 = 1 then (a ^ (e % 2 ^ i) % m) * (a ^ 2 ^ i % m) % m else a ^ (e % 2 ^ i) % m := by
  have e1 : e % 2 ^ (i + 1) = e % 2 ^ i + 2 ^ i * (e / 2 ^ i % 2) := by rw [Nat.pow_succ, Nat.mod_mul]
  rw [e1]
  split
  · rename_i h
    rw [h, Nat.mul_one, Nat.pow_add, Nat.mul_mod]
  · rename_i h
    have : e / 2 ^ i % 2 = 0 := by omega
    rw [this, Nat.mul_zero, Nat.add_zero]
theorem sq_step {a m i : Nat} : a ^ 2 ^ (i + 1) % m = (a ^ 2 ^ i % m) * (a ^ 2 ^ i % m) % m := by
  rw [← Nat.mul_mod, ← Nat.pow_add, Nat.pow_succ, Nat.mul_two]

def t_rmodExp (both rcheck plain rquo rlen digits product of : FuncId) : T :=
  .node (.call both [.v 0, .v 1] true) <| -- 3
  .node (.op (.bin .neq) [.v 3, .c (.int .i64 0)]) <| -- 4
  .br (.v 4) (
    .node (.op .mktup [.c .nils, .v 3]) <| -- 5
    .ret (.v 5)) (
    .node (.call rcheck [.v 2] true) <| -- 5
    .node (.op (.bin .neq) [.v 5, .c (.int .i64 0)]) <| -- 6
    .br (.v 6) (
      .node (.op .mktup [.c .nils, .v 5]) <| -- 7
      .ret (.v 7)) (
      .node (.call plain [.v 2] true) <| -- 7
      .node (.op .len [.v 7]) <| -- 8
      .node (.op (.bin .eql) [.v 8, .c (.int .i64 0)]) <| -- 9
      .br (.v 9) (
        .ret (.c (.tup [.nils, .int .i64 1]))) (
        .node (.call rquo [.c (.sl 1 [.int .u32 1]), .v 2] false) <| -- 10
        .node (.op (.ext 0 true) [.v 10]) <| -- 11
        .node (.op (.ext 1 true) [.v 10]) <| -- 12
        .node (.call rquo [.v 0, .v 2] false) <| -- 13
        .node (.op (.ext 0 true) [.v 13]) <| -- 14
        .node (.op (.ext 1 true) [.v 13]) <| -- 15
        .loop [.v 12, .v 15, .c (.int .i64 0)] [true, true, true] <| -- 16 to 18
          .node (.call rlen [.v 1] true) <| -- 19
          .node (.op (.bin .lss) [.v 18, .v 19]) <| -- 20
          .br (.v 20) (
            .node (.op (.bin .quo) [.v 18, .c (.int .i64 32)]) <| -- 21
            .node (.op (.eaddr 1) [.v 1, .v 21]) <| -- 22
            .node (.op (.rld false 1) [.v 22]) <| -- 23
            .node (.op (.bin .rem) [.v 18, .c (.int .i64 32)]) <| -- 24
            .node (.op (.cvt .u64) [.v 24]) <| -- 25
            .node (.op (.bin .shr) [.v 23, .v 25]) <| -- 26
            .node (.op (.bin .and) [.v 26, .c (.int .u32 1)]) <| -- 27
            .node (.op (.bin .eql) [.v 27, .c (.int .u32 1)]) <| -- 28
            .br (.v 28) (
              .node (.call digits [.v 16] true) <| -- 29
              .node (.call digits [.v 17] true) <| -- 30
              .node (.call product [.v 29, .v 30] true) <| -- 31
              .node (.call of [.v 31] true) <| -- 32
              .node (.call rquo [.v 32, .v 2] false) <| -- 33
              .node (.op (.ext 0 true) [.v 33]) <| -- 34
              .node (.op (.ext 1 true) [.v 33]) <| -- 35
              .node (.call digits [.v 17] true) <| -- 36
              .node (.call digits [.v 17] true) <| -- 37
              .node (.call product [.v 36, .v 37] true) <| -- 38
              .node (.call of [.v 38] true) <| -- 39
              .node (.call rquo [.v 39, .v 2] false) <| -- 40
              .node (.op (.ext 0 true) [.v 40]) <| -- 41
              .node (.op (.ext 1 true) [.v 40]) <| -- 42
              .node (.op (.bin .add) [.v 18, .c (.int .i64 1)]) <| -- 43
              .back 0 [.v 35, .v 42, .v 43]) (
              .node (.call digits [.v 17] true) <| -- 29
              .node (.call digits [.v 17] true) <| -- 30
              .node (.call product [.v 29, .v 30] true) <| -- 31
              .node (.call of [.v 31] true) <| -- 32
              .node (.call rquo [.v 32, .v 2] false) <| -- 33
              .node (.op (.ext 0 true) [.v 33]) <| -- 34
              .node (.op (.ext 1 true) [.v 33]) <| -- 35
              .node (.op (.bin .add) [.v 18, .c (.int .i64 1)]) <| -- 36
              .back 0 [.v 16, .v 35, .v 36])) (
            .node (.op .mktup [.v 16, .c (.int .i64 0)]) <| -- 21
            .ret (.v 21)))))
theorem rmodExp_den {both rcheck plain rquo rlen digits product of : FuncId} (hb : RBothC P both) (hrc : RCheckC P rcheck) (hp : PlainC P plain) (hq : RQuoC P rquo) (hl : BitLenC P rlen) (hd : DigitsC P digits) (hpr : ProductC P product) (ho : OfC P of)
    (hA : OkN A) (hX : OkN X) (hM : OkN M) :
    D P (Is (res (powS (val B32 A) (val B32 X) (val B32 M)))) [] 3 [W M, W X, W A] (t_rmodExp both rcheck plain rquo rlen digits product of) := by
  obtain ⟨a, ea⟩ : ∃ a, a = val B32 A := ⟨_, rfl⟩
  obtain ⟨x, ex⟩ : ∃ x, x = val B32 X := ⟨_, rfl⟩
  obtain ⟨m, em⟩ : ∃ m, m = val B32 M := ⟨_, rfl⟩
  refine d_call (hb A X hA hX) (fun _ => rfl) ?_
  rw [← ea, ← ex, ← em]
  unfold powS
  cases h1 : (long a || long x) with
  | true =>
    refine d_op ev_neq (d_if rfl (fun _ => d_op ev_mktup (d_ret (is_res ?_))) (fun h => absurd (by decide) h))
    exact Sub.res_nil
  | false =>
    refine d_op ev_neq (d_if rfl (fun h => absurd h (by decide)) (fun _ => ?_))
    refine d_call (hrc M hM) (fun _ => rfl) ?_
    rw [← em]
    cases h2 : long m with
    | true =>
      refine d_op ev_neq (d_if rfl (fun _ => d_op ev_mktup (d_ret (is_res ?_))) (fun h => absurd (by decide) h))
      exact Sub.res_nil
    | false =>
      have hl1 := Bool.or_eq_false_iff.1 h1
      have la := long_pow hl1.1
      have lx := long_pow hl1.2
      have lm := long_pow h2
      have p := pow_le (k := 1024) (m := 4096) (by omega)
      have one : 1 < B32 ^ 4096 := Nat.one_lt_pow (by decide) (by decide)
      refine d_op ev_neq (d_if rfl (fun h => absurd h (by decide)) (fun _ => ?_))
      rw [if_neg (by simp)]
      refine d_call (hp M hM.1 hM.2) (fun _ => rfl) ?_
      rw [show nrm M = digs B32 m by rw [em]; rfl]
      by_cases h0 : m = 0
      · subst h0
        rw [digs_zero, if_pos rfl]
        exact d_op ev_len (d_op ev_eql (d_yes rfl rfl (d_ret (is_res Sub.res_nil))))
      · have hne : ¬ ((digs B32 m).length : Int) = 0 := fun h => h0 ((digs_eq_nil (b := B32) (by decide)).1 (List.eq_nil_of_length_eq_zero (by omega)))
        rw [if_neg h0]
        have pm : ∀ z, z % m < B32 ^ 1024 := fun z => mod_lt_pow (by omega) lm
        have pp : ∀ y z, (y % m) * (z % m) < B32 ^ 4096 := fun y z => Nat.lt_of_lt_of_le (mul_lt_pow (pm y) (pm z)) (pow_le (by omega))
        refine d_op ev_len (d_op ev_eql (d_no hne rfl ?_))
        have d1 : digs B32 1 = [1] := by rw [digs_pos (by decide) (by decide), show 1 / B32 = 0 from rfl, digs_zero]; rfl
        have quo : ∀ z, z < B32 ^ 4096 → Ct P rquo [W (digs B32 z), W M] (fun e => e = .ret (resD z m)) := fun z hz => hq.at (a := z) (b := m) hM hz em (by omega) h0
        have hd1 := quo 1 one
        rw [d1] at hd1
        refine d_call hd1 (fun h => by cases h) (d_op (ev_ext rfl (fun _ => rfl)) (d_op (ev_ext rfl (fun _ => rfl)) ?_))
        have hdA : Ct P rquo [W A, W M] (fun e => e = .ret (resD a m)) := by
          rw [ea, em]
          exact hq A M hA hM (by omega) (Nat.le_trans (digs_len (ea ▸ la)) (by decide)) (Nat.le_trans (digs_len (em ▸ lm)) (by decide))
        refine d_call hdA (fun h => by cases h) (d_op (ev_ext rfl (fun _ => rfl)) (d_op (ev_ext rfl (fun _ => rfl)) ?_))
        have hbl : blen x ≤ 32768 := blen_le.2 (Nat.lt_of_lt_of_le lx (by show (2 ^ 32) ^ 1024 ≤ 2 ^ 32768; rw [← Nat.pow_mul]; exact Nat.pow_le_pow_right (by decide) (by decide)))
        have hxx : blen x ≤ 32 * X.length := blen_le.2 (by rw [ex, Nat.pow_mul]; exact val_lt (by decide) hX.1)
        -- one product, and what it leaves
        have dig : ∀ z, Ct P digits [W (digs B32 (z % m))] (fun e => e = .ret (SN .u64 (fdigs 65536 (2 * (digs B32 (z % m)).length) (z % m)))) := fun z => by
          have := hd (digs B32 (z % m)) (digs_lt (by decide) _) (Nat.le_trans (digs_len (pm z)) (by decide))
          rwa [vdigs] at this
        have dv : ∀ z, val 65536 (fdigs 65536 (2 * (digs B32 (z % m)).length) (z % m)) = z % m := fun z => by
          refine val_fdigs_lt ?_
          rw [pow16]
          have := val_lt (b := B32) (by decide) (digs_lt (b := B32) (by decide) (z % m))
          rwa [vdigs] at this
        have dl : ∀ z, (fdigs 65536 (2 * (digs B32 (z % m)).length) (z % m)).length ≤ 2048 := fun z => by
          have := digs_len (pm z)
          simp; omega
        have prod : ∀ y z, Ct P product [SN .u64 (fdigs 65536 (2 * (digs B32 (y % m)).length) (y % m)), SN .u64 (fdigs 65536 (2 * (digs B32 (z % m)).length) (z % m))]
            (fun e => e = .ret (SN .u64 (fdigs 65536 ((fdigs 65536 (2 * (digs B32 (y % m)).length) (y % m)).length + (fdigs 65536 (2 * (digs B32 (z % m)).length) (z % m)).length) ((y % m) * (z % m))))) := fun y z => by
          have := hpr (fdigs 65536 (2 * (digs B32 (y % m)).length) (y % m)) (fdigs 65536 (2 * (digs B32 (z % m)).length) (z % m)) (fdigs_lt (by decide) _ _) (fdigs_lt (by decide) _ _) (by have := dl y; have := dl z; omega)
          rwa [dv, dv] at this
        have mk : ∀ y z, Ct P of [SN .u64 (fdigs 65536 ((fdigs 65536 (2 * (digs B32 (y % m)).length) (y % m)).length + (fdigs 65536 (2 * (digs B32 (z % m)).length) (z % m)).length) ((y % m) * (z % m)))]
            (fun e => e = .ret (W (digs B32 ((y % m) * (z % m))))) := fun y z => by
          have h3 : (y % m) * (z % m) < 65536 ^ ((fdigs 65536 (2 * (digs B32 (y % m)).length) (y % m)).length + (fdigs 65536 (2 * (digs B32 (z % m)).length) (z % m)).length) := by
            have g1 := val_lt (b := 65536) (by decide) (fdigs_lt (b := 65536) (by decide) (2 * (digs B32 (y % m)).length) (y % m))
            have g2 := val_lt (b := 65536) (by decide) (fdigs_lt (b := 65536) (by decide) (2 * (digs B32 (z % m)).length) (z % m))
            rw [dv] at g1 g2
            rw [Nat.pow_add]; exact Nat.mul_lt_mul'' g1 g2
          have := ho _ (fdigs_lt (b := 65536) (by decide) ((fdigs 65536 (2 * (digs B32 (y % m)).length) (y % m)).length + (fdigs 65536 (2 * (digs B32 (z % m)).length) (z % m)).length) ((y % m) * (z % m))) (by have := dl y; have := dl z; simp at *; omega)
          rwa [val_fdigs_lt h3] at this
        refine d_while (fun i : Nat => [W (digs B32 (a ^ (x % 2 ^ i) % m)), W (digs B32 (a ^ 2 ^ i % m)), .int .i64 (i : Int)]) (fun i => i ≤ blen x) (fun i => blen x - i) 0 (Nat.zero_le _) ?_ ?_
        · rw [Nat.pow_zero, Nat.mod_one, Nat.pow_zero, Nat.pow_one]; rfl
        · intro i hi
          refine d_call (hl X hX.1 hX.2) (fun _ => rfl) ?_
          rw [← ex]
          refine d_op ev_lss (d_if rfl (fun h3 => ?_) (fun h3 => ?_))
          · have hil : i < blen x := by omega
            obtain ⟨y, hy⟩ : ∃ y, y = a ^ (x % 2 ^ i) := ⟨_, rfl⟩
            obtain ⟨z, hz⟩ : ∃ z, z = a ^ 2 ^ i := ⟨_, rfl⟩
            rw [← hy, ← hz]
            have hlow := low_bit (a := a) (m := m) (i := i) (e := x)
            have hsq := sq_step (a := a) (m := m) (i := i)
            rw [← hy, ← hz] at hlow
            rw [← hz] at hsq
            refine d_op (ev_quo (by omega) (by omega) (by constructor <;> omega)) ?_
            have hb := bit_of hX.1 i
            rw [← ex] at hb
            have hxi : X.getD (i / 32) 0 < 4294967296 := hX.1.getD (by decide) _
            have hq2 : X.getD (i / 32) 0 / 2 ^ (i % 32) ≤ X.getD (i / 32) 0 := Nat.div_le_self _ _
            obtain ⟨u, eu⟩ : ∃ u, X.getD (i / 32) 0 / 2 ^ (i % 32) = u := ⟨_, rfl⟩
            rw [eu] at hq2 hb
            refine d_op (ev_eaddrN (i := i / 32) rfl (by omega)) (d_op (ev_rldN (by omega)) ?_)
            refine d_op (ev_rem (by omega) (by omega)) (d_op (ev_cvt (by constructor <;> omega)) ?_)
            refine d_op (ev_shr (y := i % 32) rfl (by show i % 32 ≤ 32; omega) eu) ?_
            refine d_op (ev_and (by constructor <;> omega) (y := 1) (by decide)) ?_
            rw [Nat.and_one_is_mod, hb]
            refine d_op ev_eql (d_if rfl (fun h4 => ?_) (fun h4 => ?_))
            · rw [if_pos (by omega)] at hlow
              refine d_call (dig y) (fun _ => rfl) (d_call (dig z) (fun _ => rfl) (d_call (prod y z) (fun _ => rfl) (d_call (mk y z) (fun _ => rfl) (d_call (quo _ (pp y z)) (fun h => by cases h) (d_op (ev_ext rfl (fun _ => rfl)) (d_op (ev_ext rfl (fun _ => rfl)) ?_))))))
              refine d_call (dig z) (fun _ => rfl) (d_call (dig z) (fun _ => rfl) (d_call (prod z z) (fun _ => rfl) (d_call (mk z z) (fun _ => rfl) (d_call (quo _ (pp z z)) (fun h => by cases h) (d_op (ev_ext rfl (fun _ => rfl)) (d_op (ev_ext rfl (fun _ => rfl)) ?_))))))
              refine d_op (ev_add (by constructor <;> omega)) ?_
              exact d_back rfl ⟨i + 1, by rw [hlow, hsq]; rfl, by omega, by omega⟩
            · rw [if_neg (by omega)] at hlow
              refine d_call (dig z) (fun _ => rfl) (d_call (dig z) (fun _ => rfl) (d_call (prod z z) (fun _ => rfl) (d_call (mk z z) (fun _ => rfl) (d_call (quo _ (pp z z)) (fun h => by cases h) (d_op (ev_ext rfl (fun _ => rfl)) (d_op (ev_ext rfl (fun _ => rfl)) ?_))))))
              refine d_op (ev_add (by constructor <;> omega)) ?_
              exact d_back rfl ⟨i + 1, by rw [hlow, hsq]; rfl, by omega, by omega⟩
          · have : i = blen x := by omega
            subst this
            rw [Nat.mod_eq_of_lt (blen_le.1 (Nat.le_refl (blen x)))]
            exact d_op ev_mktup (d_ret (is_res (Sub.refl _)))

end Go.SE
