/- Nothing of the statement is proved here: this text lays generic laws: NRing; no conditions. -/
import Derived.Test.YtdgpkmphhjmdeaaNC

set_option linter.all false
set_option autoImplicit false
set_option exponentiation.threshold 5000
namespace Go.SE
open Go

variable {P : Program} {R : AEnd → Prop} {L A B C : List Nat}

theorem long_of {n : Nat} (h : n < B32 ^ 1024) : long n = false := by
  have := (digs_length_le (b := B32) (k := 1024) (by decide)).2 h
  simp [long, this]
theorem pow_le {k m : Nat} (h : k ≤ m) : B32 ^ k ≤ B32 ^ m := Nat.pow_le_pow_right (by decide) h
theorem told_of {n : Nat} (h : n < B32 ^ 1024) : told n = (digs B32 n, 0) := by unfold told; rw [long_of h]; rfl
theorem addS_of {a b : Nat} (ha : a < B32 ^ 1023) (hb : b < B32 ^ 1023) : addS a b = (digs B32 (a + b), 0) := by
  have h1 : B32 ^ 1024 = B32 ^ 1023 * B32 := Nat.pow_succ ..
  have h2 : B32 ^ 1023 * 2 ≤ B32 ^ 1023 * B32 := Nat.mul_le_mul_left _ (by decide)
  unfold addS
  rw [long_of (by omega), long_of (by omega), Bool.or_false, if_neg (by simp), told_of (by omega)]
theorem mul_lt_pow {a b i j : Nat} (ha : a < B32 ^ i) (hb : b < B32 ^ j) : a * b < B32 ^ (i + j) := by
  rw [Nat.pow_add]; exact Nat.mul_lt_mul'' ha hb
theorem mulS_of {a b i j : Nat} (ha : a < B32 ^ i) (hb : b < B32 ^ j) (h : i + j ≤ 1024) : mulS a b = (digs B32 (a * b), 0) := by
  unfold mulS
  rw [long_of (Nat.lt_of_lt_of_le ha (pow_le (by omega))), long_of (Nat.lt_of_lt_of_le hb (pow_le (by omega))), Bool.or_false, if_neg (by simp), told_of (Nat.lt_of_lt_of_le (mul_lt_pow ha hb) (pow_le h))]
theorem OkN.digs_of {n k : Nat} (h : n < B32 ^ k) (hk : k ≤ 35184372088832) : OkN (digs B32 n) := ⟨digs_lt (by decide) _, Nat.le_trans ((digs_length_le (by decide)).2 h) hk⟩
theorem OkN.take (h : OkN A) (n : Nat) : OkN (A.take n) := ⟨h.1.take n, by have := h.2; simp; omega⟩
theorem val_take_lt (h : OkN A) (n : Nat) : val B32 (A.take n) < B32 ^ n :=
  Nat.lt_of_lt_of_le (val_lt (by decide) (h.1.take n)) (pow_le (by simp; omega))

def t_natRing (few own add mul same lives : FuncId) : T :=
  .node (.call few [.v 0, .c (.int .i64 40)] true) <| -- 3
  .node (.call few [.v 1, .c (.int .i64 40)] true) <| -- 4
  .node (.call few [.v 2, .c (.int .i64 40)] true) <| -- 5
  .node (.call own [.v 3] true) <| -- 6
  .node (.call own [.v 4] true) <| -- 7
  .node (.call add [.v 6, .v 7] false) <| -- 8
  .node (.op (.ext 0 true) [.v 8]) <| -- 9
  .node (.op (.ext 1 true) [.v 8]) <| -- 10
  .node (.call own [.v 4] true) <| -- 11
  .node (.call own [.v 3] true) <| -- 12
  .node (.call add [.v 11, .v 12] false) <| -- 13
  .node (.op (.ext 0 true) [.v 13]) <| -- 14
  .node (.op (.ext 1 true) [.v 13]) <| -- 15
  .node (.call own [.v 3] true) <| -- 16
  .node (.call own [.v 4] true) <| -- 17
  .node (.call mul [.v 16, .v 17] false) <| -- 18
  .node (.op (.ext 0 true) [.v 18]) <| -- 19
  .node (.op (.ext 1 true) [.v 18]) <| -- 20
  .node (.call own [.v 4] true) <| -- 21
  .node (.call own [.v 3] true) <| -- 22
  .node (.call mul [.v 21, .v 22] false) <| -- 23
  .node (.op (.ext 0 true) [.v 23]) <| -- 24
  .node (.op (.ext 1 true) [.v 23]) <| -- 25
  .node (.call own [.v 5] true) <| -- 26
  .node (.call mul [.v 9, .v 26] false) <| -- 27
  .node (.op (.ext 0 true) [.v 27]) <| -- 28
  .node (.op (.ext 1 true) [.v 27]) <| -- 29
  .node (.call own [.v 3] true) <| -- 30
  .node (.call own [.v 5] true) <| -- 31
  .node (.call mul [.v 30, .v 31] false) <| -- 32
  .node (.op (.ext 0 true) [.v 32]) <| -- 33
  .node (.op (.ext 1 true) [.v 32]) <| -- 34
  .node (.call own [.v 4] true) <| -- 35
  .node (.call own [.v 5] true) <| -- 36
  .node (.call mul [.v 35, .v 36] false) <| -- 37
  .node (.op (.ext 0 true) [.v 37]) <| -- 38
  .node (.op (.ext 1 true) [.v 37]) <| -- 39
  .node (.call add [.v 33, .v 38] false) <| -- 40
  .node (.op (.ext 0 true) [.v 40]) <| -- 41
  .node (.op (.ext 1 true) [.v 40]) <| -- 42
  .node (.call same [.v 9, .v 14] true) <| -- 43
  .br (.v 43) (
    .node (.call same [.v 19, .v 24] true) <| -- 44
    .br (.v 44) (
      .node (.call same [.v 28, .v 41] true) <| -- 45
      .br (.v 45) (
        .node (.call lives [] true) <| -- 46
        .ret (.v 46)) (
        .ret (.c (.bool false)))) (
      .ret (.c (.bool false)))) (
    .ret (.c (.bool false)))
theorem natRing_den {few own add mul same lives : FuncId} (hf : FewC P few) (ho : OwnC P own) (ha : Bin P add addS) (hm : Bin P mul mulS) (hs : SameC P same) (hv : LivesC P lives)
    (hA : OkN A) (hB : OkN B) (hC : OkN C) : D P (fun e => e = .ret (.bool true)) [] 3 [W C, W B, W A] (t_natRing few own add mul same lives) := by
  refine d_call (hf A 40 hA.2) (fun _ => rfl) (d_call (hf B 40 hB.2) (fun _ => rfl) (d_call (hf C 40 hC.2) (fun _ => rfl) ?_))
  have oA := hA.take 40
  have oB := hB.take 40
  have oC := hC.take 40
  have la := val_take_lt hA 40
  have lb := val_take_lt hB 40
  have lc := val_take_lt hC 40
  generalize A.take 40 = X at *
  generalize B.take 40 = Y at *
  generalize C.take 40 = Z at *
  obtain ⟨a, ea⟩ : ∃ a, a = val B32 X := ⟨_, rfl⟩
  obtain ⟨b, eb⟩ : ∃ b, b = val B32 Y := ⟨_, rfl⟩
  obtain ⟨c, ec⟩ : ∃ c, c = val B32 Z := ⟨_, rfl⟩
  rw [← ea] at la
  rw [← eb] at lb
  rw [← ec] at lc
  have p1023 := pow_le (k := 40) (m := 1023) (by omega)
  have hsum : a + b < B32 ^ 41 := by
    have h1 : B32 ^ 41 = B32 ^ 40 * B32 := Nat.pow_succ ..
    have h2 : B32 ^ 40 * 2 ≤ B32 ^ 40 * B32 := Nat.mul_le_mul_left _ (by decide)
    omega
  have hab := addS_of (a := a) (b := b) (by omega) (by omega)
  have hba := addS_of (a := b) (b := a) (by omega) (by omega)
  have mab := mulS_of la lb (by omega)
  have mba := mulS_of lb la (by omega)
  have mac := mulS_of la lc (by omega)
  have mbc := mulS_of lb lc (by omega)
  have msc := mulS_of hsum lc (by omega)
  have lac := mul_lt_pow la lc
  have lbc := mul_lt_pow lb lc
  have q1023 := pow_le (k := 40 + 40) (m := 1023) (by omega)
  have hacbc := addS_of (a := a * c) (b := b * c) (by omega) (by omega)
  have own1 : ∀ {L : List Nat}, OkN L → Ct P own [W L] (fun e => e = .ret (W L)) := fun {L} h => ho L h.2
  have add1 : ∀ {L M : List Nat} {x y : Nat} {r : List Nat × Int}, OkN L → OkN M → x = val B32 L → y = val B32 M → addS x y = r → Ct P add [W L, W M] (fun e => e = .ret (res r)) := fun {L M x y r} h1 h2 h3 h4 h5 => by
    subst h3; subst h4; subst h5; exact ha L M h1 h2
  have mul1 : ∀ {L M : List Nat} {x y : Nat} {r : List Nat × Int}, OkN L → OkN M → x = val B32 L → y = val B32 M → mulS x y = r → Ct P mul [W L, W M] (fun e => e = .ret (res r)) := fun {L M x y r} h1 h2 h3 h4 h5 => by
    subst h3; subst h4; subst h5; exact hm L M h1 h2
  have vd : ∀ n, n = val B32 (digs B32 n) := fun n => (val_digs (by decide) n).symm
  have os : OkN (digs B32 (a + b)) := OkN.digs_of hsum (by decide)
  have oac : OkN (digs B32 (a * c)) := OkN.digs_of lac (by decide)
  have obc : OkN (digs B32 (b * c)) := OkN.digs_of lbc (by decide)
  have len : ∀ {L : List Nat}, OkN L → L.length ≤ 35184372088832 := fun h => h.2
  refine d_call (own1 oA) (fun _ => rfl) (d_call (own1 oB) (fun _ => rfl) (d_call (add1 oA oB ea eb hab) (fun h => by cases h) (d_op (ev_ext rfl (fun _ => rfl)) (d_op (ev_ext rfl (fun _ => rfl)) ?_))))
  refine d_call (own1 oB) (fun _ => rfl) (d_call (own1 oA) (fun _ => rfl) (d_call (add1 oB oA eb ea hba) (fun h => by cases h) (d_op (ev_ext rfl (fun _ => rfl)) (d_op (ev_ext rfl (fun _ => rfl)) ?_))))
  refine d_call (own1 oA) (fun _ => rfl) (d_call (own1 oB) (fun _ => rfl) (d_call (mul1 oA oB ea eb mab) (fun h => by cases h) (d_op (ev_ext rfl (fun _ => rfl)) (d_op (ev_ext rfl (fun _ => rfl)) ?_))))
  refine d_call (own1 oB) (fun _ => rfl) (d_call (own1 oA) (fun _ => rfl) (d_call (mul1 oB oA eb ea mba) (fun h => by cases h) (d_op (ev_ext rfl (fun _ => rfl)) (d_op (ev_ext rfl (fun _ => rfl)) ?_))))
  refine d_call (own1 oC) (fun _ => rfl) (d_call (mul1 os oC (vd _) ec msc) (fun h => by cases h) (d_op (ev_ext rfl (fun _ => rfl)) (d_op (ev_ext rfl (fun _ => rfl)) ?_)))
  refine d_call (own1 oA) (fun _ => rfl) (d_call (own1 oC) (fun _ => rfl) (d_call (mul1 oA oC ea ec mac) (fun h => by cases h) (d_op (ev_ext rfl (fun _ => rfl)) (d_op (ev_ext rfl (fun _ => rfl)) ?_))))
  refine d_call (own1 oB) (fun _ => rfl) (d_call (own1 oC) (fun _ => rfl) (d_call (mul1 oB oC eb ec mbc) (fun h => by cases h) (d_op (ev_ext rfl (fun _ => rfl)) (d_op (ev_ext rfl (fun _ => rfl)) ?_))))
  refine d_call (add1 oac obc (vd _) (vd _) hacbc) (fun h => by cases h) (d_op (ev_ext rfl (fun _ => rfl)) (d_op (ev_ext rfl (fun _ => rfl)) ?_))
  refine d_call (hs _ _ (len os)) (fun _ => rfl) (d_if rfl (fun _ => ?_) (fun h => absurd (by show digs B32 (a + b) = digs B32 (b + a); rw [Nat.add_comm]) h))
  refine d_call (hs _ _ (len (OkN.digs_of (mul_lt_pow la lb) (by decide)))) (fun _ => rfl) (d_if rfl (fun _ => ?_) (fun h => absurd (by show digs B32 (a * b) = digs B32 (b * a); rw [Nat.mul_comm]) h))
  refine d_call (hs _ _ (len (OkN.digs_of (mul_lt_pow hsum lc) (by decide)))) (fun _ => rfl) (d_if rfl (fun _ => ?_) (fun h => absurd (by show digs B32 ((a + b) * c) = digs B32 (a * c + b * c); rw [Nat.add_mul]) h))
  exact d_call hv (fun _ => rfl) (d_ret rfl)

end Go.SE
