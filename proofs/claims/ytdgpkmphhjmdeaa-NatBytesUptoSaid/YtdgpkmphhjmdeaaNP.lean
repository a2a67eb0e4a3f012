/- Nothing of the statement is proved here: this text lays generic laws: NP; no conditions. -/
import Derived.Test.YtdgpkmphhjmdeaaNO

set_option linter.all false
set_option autoImplicit false
set_option exponentiation.threshold 40000
namespace Go.SE
open Go

variable {P : Program} {R : AEnd → Prop} {L A B C X Y M : List Nat}

theorem divS_of {a b : Nat} (ha : a < B32 ^ 1024) (hb : b < B32 ^ 1024) (h0 : b ≠ 0) : divS a b = (digs B32 (a / b), digs B32 (a % b), 0) := by
  unfold divS; rw [long_of ha, long_of hb, if_neg (by simp), if_neg h0]
theorem divS_zero {a : Nat} (ha : a < B32 ^ 1024) : divS a 0 = ([], [], 1) := by
  unfold divS; rw [long_of ha, long_of (Nat.pow_pos (by decide)), if_neg (by simp), if_pos rfl]
theorem gcdS_of {a b : Nat} (ha : a < B32 ^ 1024) (hb : b < B32 ^ 1024) : gcdS a b = (digs B32 (Nat.gcd a b), 0) := by
  unfold gcdS; rw [long_of ha, long_of hb, if_neg (by simp)]
theorem powS_of {a e m : Nat} (ha : a < B32 ^ 1024) (he : e < B32 ^ 1024) (hm : m < B32 ^ 1024) (h0 : m ≠ 0) : powS a e m = (digs B32 (a ^ e % m), 0) := by
  unfold powS; rw [long_of ha, long_of he, long_of hm, if_neg (by simp), if_neg h0]
theorem powS_zero {a e : Nat} (ha : a < B32 ^ 1024) (he : e < B32 ^ 1024) : powS a e 0 = ([], 1) := by
  unfold powS; rw [long_of ha, long_of he, long_of (Nat.pow_pos (by decide)), if_neg (by simp), if_pos rfl]
theorem DivModC.of {f : FuncId} (h : DivModC P f) {a b : Nat} {r : List Nat × List Nat × Int} (hA : OkN A) (hB : OkN B) (ea : a = val B32 A) (eb : b = val B32 B) (hr : divS a b = r) : Ct P f [W A, W B] (fun e => e = .ret (res3 r)) := by
  subst ea; subst eb; subst hr; exact h A B hA hB
theorem Bin.of {f : FuncId} {s : Nat → Nat → List Nat × Int} (h : Bin P f s) {a b : Nat} {r : List Nat × Int} (hA : OkN A) (hB : OkN B) (ea : a = val B32 A) (eb : b = val B32 B) (hr : s a b = r) : Ct P f [W A, W B] (fun e => e = .ret (res r)) := by
  subst ea; subst eb; subst hr; exact h A B hA hB
theorem Tern.of {f : FuncId} {s : Nat → Nat → Nat → List Nat × Int} (h : Tern P f s) {a b c : Nat} {r : List Nat × Int} (hA : OkN A) (hB : OkN B) (hC : OkN C) (ea : a = val B32 A) (eb : b = val B32 B) (ec : c = val B32 C) (hr : s a b c = r) : Ct P f [W A, W B, W C] (fun e => e = .ret (res r)) := by
  subst ea; subst eb; subst ec; subst hr; exact h A B C hA hB hC
theorem PlainC.of {f : FuncId} (h : PlainC P f) {a : Nat} (hA : OkN A) (ea : a = val B32 A) : Ct P f [W A] (fun e => e = .ret (W (digs B32 a))) := by
  subst ea; exact h A hA.1 hA.2
theorem vdg (n : Nat) : n = val B32 (digs B32 n) := (val_digs (by decide) n).symm
theorem cmpN_lt {a b : Nat} (h : a < b) : cmpN a b = -1 := by unfold cmpN; rw [if_pos h]

def t_natDivides (few own divmod rdivmod same lives mul add plain cmp : FuncId) : T :=
  .node (.call few [.v 0, .c (.int .i64 60)] true) <| -- 2
  .node (.call few [.v 1, .c (.int .i64 60)] true) <| -- 3
  .node (.call own [.v 2] true) <| -- 4
  .node (.call own [.v 3] true) <| -- 5
  .node (.call divmod [.v 4, .v 5] false) <| -- 6
  .node (.op (.ext 0 true) [.v 6]) <| -- 7
  .node (.op (.ext 1 true) [.v 6]) <| -- 8
  .node (.op (.ext 2 true) [.v 6]) <| -- 9
  .node (.call rdivmod [.v 2, .v 3] false) <| -- 10
  .node (.op (.ext 0 true) [.v 10]) <| -- 11
  .node (.op (.ext 1 true) [.v 10]) <| -- 12
  .node (.op (.ext 2 true) [.v 10]) <| -- 13
  .node (.call same [.v 7, .v 11] true) <| -- 14
  .node (.op (.un .not) [.v 14]) <| -- 15
  .br (.v 15) (
    .ret (.c (.bool false))) (
    .node (.call same [.v 8, .v 12] true) <| -- 16
    .node (.op (.un .not) [.v 16]) <| -- 17
    .br (.v 17) (
      .ret (.c (.bool false))) (
      .node (.op (.bin .neq) [.v 9, .v 13]) <| -- 18
      .br (.v 18) (
        .ret (.c (.bool false))) (
        .node (.op (.bin .neq) [.v 9, .c (.int .i64 0)]) <| -- 19
        .br (.v 19) (
          .node (.call lives [] true) <| -- 20
          .ret (.v 20)) (
          .node (.call own [.v 3] true) <| -- 20
          .node (.call mul [.v 7, .v 20] false) <| -- 21
          .node (.op (.ext 0 true) [.v 21]) <| -- 22
          .node (.op (.ext 1 true) [.v 21]) <| -- 23
          .node (.call add [.v 22, .v 8] false) <| -- 24
          .node (.op (.ext 0 true) [.v 24]) <| -- 25
          .node (.op (.ext 1 true) [.v 24]) <| -- 26
          .node (.call plain [.v 2] true) <| -- 27
          .node (.call same [.v 25, .v 27] true) <| -- 28
          .br (.v 28) (
            .node (.call own [.v 3] true) <| -- 29
            .node (.call cmp [.v 8, .v 29] true) <| -- 30
            .node (.op (.bin .lss) [.v 30, .c (.int .i64 0)]) <| -- 31
            .br (.v 31) (
              .node (.call lives [] true) <| -- 32
              .ret (.v 32)) (
              .ret (.c (.bool false)))) (
            .ret (.c (.bool false)))))))
theorem natDivides_den {few own divmod rdivmod same lives mul add plain cmp : FuncId} (hf : FewC P few) (ho : OwnC P own) (hd : DivModC P divmod) (hrd : DivModC P rdivmod) (hs : SameC P same) (hv : LivesC P lives)
    (hm : Bin P mul mulS) (ha : Bin P add addS) (hp : PlainC P plain) (hc : CompareC P cmp) (hA : OkN A) (hB : OkN B) :
    D P (fun e => e = .ret (.bool true)) [] 2 [W B, W A] (t_natDivides few own divmod rdivmod same lives mul add plain cmp) := by
  refine d_call (hf A 60 hA.2) (fun _ => rfl) (d_call (hf B 60 hB.2) (fun _ => rfl) ?_)
  have oA := hA.take 60
  have oB := hB.take 60
  have la := val_take_lt hA 60
  have lb := val_take_lt hB 60
  generalize A.take 60 = X at *
  generalize B.take 60 = Y at *
  obtain ⟨a, ea⟩ : ∃ a, a = val B32 X := ⟨_, rfl⟩
  obtain ⟨b, eb⟩ : ∃ b, b = val B32 Y := ⟨_, rfl⟩
  rw [← ea] at la
  rw [← eb] at lb
  have own1 : ∀ {L : List Nat}, OkN L → Ct P own [W L] (fun e => e = .ret (W L)) := fun {L} h => ho L h.2
  have p1023 := pow_le (k := 60) (m := 1023) (by omega)
  have p1024 := pow_le (k := 60) (m := 1024) (by omega)
  obtain ⟨r, er⟩ : ∃ r, divS a b = r := ⟨_, rfl⟩
  have lq : a / b < B32 ^ 60 := Nat.lt_of_le_of_lt (Nat.div_le_self _ _) la
  have lr : a % b < B32 ^ 60 := Nat.lt_of_le_of_lt (Nat.mod_le _ _) la
  have hl : r.1.length ≤ 35184372088832 ∧ r.2.1.length ≤ 35184372088832 := by
    subst er
    by_cases h0 : b = 0
    · subst h0; rw [divS_zero (by omega)]; simp
    · rw [divS_of (by omega) (by omega) h0]; exact ⟨Nat.le_trans (digs_len lq) (by decide), Nat.le_trans (digs_len lr) (by decide)⟩
  refine d_call (own1 oA) (fun _ => rfl) (d_call (own1 oB) (fun _ => rfl) (d_call (hd.of oA oB ea eb er) (fun h => by cases h) (d_op (ev_ext rfl (fun _ => rfl)) (d_op (ev_ext rfl (fun _ => rfl)) (d_op (ev_ext rfl (fun _ => rfl)) ?_)))))
  refine d_call (hrd.of oA oB ea eb er) (fun h => by cases h) (d_op (ev_ext rfl (fun _ => rfl)) (d_op (ev_ext rfl (fun _ => rfl)) (d_op (ev_ext rfl (fun _ => rfl)) ?_)))
  refine d_call (hs _ _ hl.1) (fun _ => rfl) (d_op ev_not (d_not rfl rfl (d_call (hs _ _ hl.2) (fun _ => rfl) (d_op ev_not (d_not rfl rfl (d_op ev_neq (d_no (fun h => h rfl) rfl ?_)))))))
  by_cases h0 : b = 0
  · have : r = ([], [], 1) := by rw [← er, h0, divS_zero (by omega)]
    subst this
    exact d_op ev_neq (d_yes (by decide) rfl (d_call hv (fun _ => rfl) (d_ret rfl)))
  · have : r = (digs B32 (a / b), digs B32 (a % b), 0) := by rw [← er, divS_of (by omega) (by omega) h0]
    subst this
    have oq : OkN (digs B32 (a / b)) := OkN.digs_of lq (by decide)
    have or' : OkN (digs B32 (a % b)) := OkN.digs_of lr (by decide)
    have hdm : a / b * b + a % b = a := Nat.div_add_mod' a b
    have lm : a / b * b < B32 ^ 60 := by omega
    have hsum : addS (a / b * b) (a % b) = (digs B32 a, 0) := by rw [addS_of (by omega) (by omega), hdm]
    refine d_op ev_neq (d_no (fun h => h rfl) rfl ?_)
    refine d_call (own1 oB) (fun _ => rfl) (d_call (hm.of oq oB (vdg _) eb (mulS_of lq lb (by omega))) (fun h => by cases h) (d_op (ev_ext rfl (fun _ => rfl)) (d_op (ev_ext rfl (fun _ => rfl)) ?_)))
    refine d_call (ha.of (OkN.digs_of lm (by decide)) or' (vdg _) (vdg _) hsum) (fun h => by cases h) (d_op (ev_ext rfl (fun _ => rfl)) (d_op (ev_ext rfl (fun _ => rfl)) ?_))
    refine d_call (hp.of oA ea) (fun _ => rfl) (d_call (hs _ _ (OkN.digs_of la (by decide)).2) (fun _ => rfl) (d_yes rfl rfl ?_))
    refine d_call (own1 oB) (fun _ => rfl) (d_call (hc _ _ or'.1 oB.1 or'.2 oB.2) (fun _ => rfl) (d_op ev_lss (d_yes ?_ rfl (d_call hv (fun _ => rfl) (d_ret rfl)))))
    rw [← eb, vdigs, cmpN_lt (Nat.mod_lt _ (by omega))]; decide

def t_natDivisors (few own gcd rgcd same plain lives divmod : FuncId) : T :=
  .node (.call few [.v 0, .c (.int .i64 12)] true) <| -- 2
  .node (.call few [.v 1, .c (.int .i64 12)] true) <| -- 3
  .node (.call own [.v 2] true) <| -- 4
  .node (.call own [.v 3] true) <| -- 5
  .node (.call gcd [.v 4, .v 5] false) <| -- 6
  .node (.op (.ext 0 true) [.v 6]) <| -- 7
  .node (.op (.ext 1 true) [.v 6]) <| -- 8
  .node (.call rgcd [.v 2, .v 3] false) <| -- 9
  .node (.op (.ext 0 true) [.v 9]) <| -- 10
  .node (.op (.ext 1 true) [.v 9]) <| -- 11
  .node (.call same [.v 7, .v 10] true) <| -- 12
  .node (.op (.un .not) [.v 12]) <| -- 13
  .br (.v 13) (
    .ret (.c (.bool false))) (
    .node (.op (.bin .neq) [.v 8, .v 11]) <| -- 14
    .br (.v 14) (
      .ret (.c (.bool false))) (
      .node (.op .len [.v 7]) <| -- 15
      .node (.op (.bin .eql) [.v 15, .c (.int .i64 0)]) <| -- 16
      .br (.v 16) (
        .node (.call plain [.v 2] true) <| -- 17
        .node (.op .len [.v 17]) <| -- 18
        .node (.op (.bin .eql) [.v 18, .c (.int .i64 0)]) <| -- 19
        .br (.v 19) (
          .node (.call plain [.v 3] true) <| -- 20
          .node (.op .len [.v 20]) <| -- 21
          .node (.op (.bin .eql) [.v 21, .c (.int .i64 0)]) <| -- 22
          .br (.v 22) (
            .node (.call lives [] true) <| -- 23
            .ret (.v 23)) (
            .ret (.c (.bool false)))) (
          .ret (.c (.bool false)))) (
        .node (.call own [.v 2] true) <| -- 17
        .node (.call divmod [.v 17, .v 7] false) <| -- 18
        .node (.op (.ext 0 true) [.v 18]) <| -- 19
        .node (.op (.ext 1 true) [.v 18]) <| -- 20
        .node (.op (.ext 2 true) [.v 18]) <| -- 21
        .node (.call own [.v 3] true) <| -- 22
        .node (.call divmod [.v 22, .v 7] false) <| -- 23
        .node (.op (.ext 0 true) [.v 23]) <| -- 24
        .node (.op (.ext 1 true) [.v 23]) <| -- 25
        .node (.op (.ext 2 true) [.v 23]) <| -- 26
        .node (.op .len [.v 20]) <| -- 27
        .node (.op (.bin .neq) [.v 27, .c (.int .i64 0)]) <| -- 28
        .br (.v 28) (
          .ret (.c (.bool false))) (
          .node (.op .len [.v 25]) <| -- 29
          .node (.op (.bin .neq) [.v 29, .c (.int .i64 0)]) <| -- 30
          .br (.v 30) (
            .ret (.c (.bool false))) (
            .node (.call plain [.v 3] true) <| -- 31
            .node (.op .len [.v 31]) <| -- 32
            .node (.op (.bin .eql) [.v 32, .c (.int .i64 0)]) <| -- 33
            .br (.v 33) (
              .node (.call plain [.v 2] true) <| -- 34
              .node (.call same [.v 7, .v 34] true) <| -- 35
              .br (.v 35) (
                .node (.call lives [] true) <| -- 36
                .ret (.v 36)) (
                .ret (.c (.bool false)))) (
              .node (.call own [.v 2] true) <| -- 34
              .node (.call own [.v 3] true) <| -- 35
              .node (.call divmod [.v 34, .v 35] false) <| -- 36
              .node (.op (.ext 0 true) [.v 36]) <| -- 37
              .node (.op (.ext 1 true) [.v 36]) <| -- 38
              .node (.op (.ext 2 true) [.v 36]) <| -- 39
              .node (.call own [.v 3] true) <| -- 40
              .node (.call gcd [.v 40, .v 38] false) <| -- 41
              .node (.op (.ext 0 true) [.v 41]) <| -- 42
              .node (.op (.ext 1 true) [.v 41]) <| -- 43
              .node (.call same [.v 42, .v 7] true) <| -- 44
              .br (.v 44) (
                .node (.call lives [] true) <| -- 45
                .ret (.v 45)) (
                .ret (.c (.bool false)))))))))
theorem natDivisors_den {few own gcd rgcd same plain lives divmod : FuncId} (hf : FewC P few) (ho : OwnC P own) (hg : Bin P gcd gcdS) (hrg : Bin P rgcd gcdS) (hs : SameC P same) (hp : PlainC P plain) (hv : LivesC P lives)
    (hd : DivModC P divmod) (hA : OkN A) (hB : OkN B) :
    D P (fun e => e = .ret (.bool true)) [] 2 [W B, W A] (t_natDivisors few own gcd rgcd same plain lives divmod) := by
  refine d_call (hf A 12 hA.2) (fun _ => rfl) (d_call (hf B 12 hB.2) (fun _ => rfl) ?_)
  have oA := hA.take 12
  have oB := hB.take 12
  have la := val_take_lt hA 12
  have lb := val_take_lt hB 12
  generalize A.take 12 = X at *
  generalize B.take 12 = Y at *
  obtain ⟨a, ea⟩ : ∃ a, a = val B32 X := ⟨_, rfl⟩
  obtain ⟨b, eb⟩ : ∃ b, b = val B32 Y := ⟨_, rfl⟩
  rw [← ea] at la
  rw [← eb] at lb
  have own1 : ∀ {L : List Nat}, OkN L → Ct P own [W L] (fun e => e = .ret (W L)) := fun {L} h => ho L h.2
  have p1024 := pow_le (k := 12) (m := 1024) (by omega)
  have lg : Nat.gcd a b < B32 ^ 12 := by
    rcases Nat.eq_zero_or_pos a with h | h
    · subst h; rwa [Nat.gcd_zero_left]
    · exact Nat.lt_of_le_of_lt (Nat.gcd_le_left b h) la
  have og : OkN (digs B32 (Nat.gcd a b)) := OkN.digs_of lg (by decide)
  have hgd : gcdS a b = (digs B32 (Nat.gcd a b), 0) := gcdS_of (by omega) (by omega)
  have lz : ∀ {n : Nat}, ((digs B32 n).length : Int) = 0 ↔ n = 0 := fun {n} => by
    constructor
    · intro h
      have h1 : (digs B32 n).length = 0 := by omega
      exact (digs_eq_nil (b := B32) (by decide)).1 (List.eq_nil_of_length_eq_zero h1)
    · intro h; subst h; rw [digs_zero]; rfl
  refine d_call (own1 oA) (fun _ => rfl) (d_call (own1 oB) (fun _ => rfl) (d_call (hg.of oA oB ea eb hgd) (fun h => by cases h) (d_op (ev_ext rfl (fun _ => rfl)) (d_op (ev_ext rfl (fun _ => rfl)) ?_))))
  refine d_call (hrg.of oA oB ea eb hgd) (fun h => by cases h) (d_op (ev_ext rfl (fun _ => rfl)) (d_op (ev_ext rfl (fun _ => rfl)) ?_))
  refine d_call (hs _ _ og.2) (fun _ => rfl) (d_op ev_not (d_not rfl rfl (d_op ev_neq (d_no (fun h => h rfl) rfl (d_op ev_len (d_op ev_eql ?_))))))
  by_cases h0 : Nat.gcd a b = 0
  · obtain ⟨ha0, hb0⟩ := Nat.gcd_eq_zero_iff.1 h0
    refine d_yes (lz.2 h0) rfl (d_call (hp.of oA ea) (fun _ => rfl) (d_op ev_len (d_op ev_eql (d_yes (lz.2 ha0) rfl ?_))))
    exact d_call (hp.of oB eb) (fun _ => rfl) (d_op ev_len (d_op ev_eql (d_yes (lz.2 hb0) rfl (d_call hv (fun _ => rfl) (d_ret rfl)))))
  · have hda : divS a (Nat.gcd a b) = (digs B32 (a / Nat.gcd a b), digs B32 (a % Nat.gcd a b), 0) := divS_of (by omega) (by omega) h0
    have hdb : divS b (Nat.gcd a b) = (digs B32 (b / Nat.gcd a b), digs B32 (b % Nat.gcd a b), 0) := divS_of (by omega) (by omega) h0
    have ra : a % Nat.gcd a b = 0 := Nat.mod_eq_zero_of_dvd (Nat.gcd_dvd_left a b)
    have rb : b % Nat.gcd a b = 0 := Nat.mod_eq_zero_of_dvd (Nat.gcd_dvd_right a b)
    refine d_no (fun h => h0 (lz.1 h)) rfl ?_
    refine d_call (own1 oA) (fun _ => rfl) (d_call (hd.of oA og ea (vdg _) hda) (fun h => by cases h) (d_op (ev_ext rfl (fun _ => rfl)) (d_op (ev_ext rfl (fun _ => rfl)) (d_op (ev_ext rfl (fun _ => rfl)) ?_))))
    refine d_call (own1 oB) (fun _ => rfl) (d_call (hd.of oB og eb (vdg _) hdb) (fun h => by cases h) (d_op (ev_ext rfl (fun _ => rfl)) (d_op (ev_ext rfl (fun _ => rfl)) (d_op (ev_ext rfl (fun _ => rfl)) ?_))))
    refine d_op ev_len (d_op ev_neq (d_no (fun h => h (lz.2 ra)) rfl (d_op ev_len (d_op ev_neq (d_no (fun h => h (lz.2 rb)) rfl ?_)))))
    refine d_call (hp.of oB eb) (fun _ => rfl) (d_op ev_len (d_op ev_eql ?_))
    by_cases hb0 : b = 0
    · refine d_yes (lz.2 hb0) rfl (d_call (hp.of oA ea) (fun _ => rfl) (d_call (hs _ _ og.2) (fun _ => rfl) (d_yes ?_ rfl (d_call hv (fun _ => rfl) (d_ret rfl)))))
      rw [hb0, Nat.gcd_zero_right]
    · have hdab : divS a b = (digs B32 (a / b), digs B32 (a % b), 0) := divS_of (by omega) (by omega) hb0
      have lr : a % b < B32 ^ 12 := Nat.lt_of_le_of_lt (Nat.mod_le _ _) la
      have hgr : gcdS b (a % b) = (digs B32 (Nat.gcd a b), 0) := by rw [gcdS_of (by omega) (by omega), gcd_step]
      refine d_no (fun h => hb0 (lz.1 h)) rfl ?_
      refine d_call (own1 oA) (fun _ => rfl) (d_call (own1 oB) (fun _ => rfl) (d_call (hd.of oA oB ea eb hdab) (fun h => by cases h) (d_op (ev_ext rfl (fun _ => rfl)) (d_op (ev_ext rfl (fun _ => rfl)) (d_op (ev_ext rfl (fun _ => rfl)) ?_)))))
      refine d_call (own1 oB) (fun _ => rfl) (d_call (hg.of oB (OkN.digs_of lr (by decide)) eb (vdg _) hgr) (fun h => by cases h) (d_op (ev_ext rfl (fun _ => rfl)) (d_op (ev_ext rfl (fun _ => rfl)) ?_)))
      exact d_call (hs _ _ og.2) (fun _ => rfl) (d_yes rfl rfl (d_call hv (fun _ => rfl) (d_ret rfl)))

theorem digs_shift {a k : Nat} (h : a ≠ 0) : digs B32 (a * B32 ^ k) = List.replicate k 0 ++ digs B32 a := by
  have hne : digs B32 a ≠ [] := fun e => h ((digs_eq_nil (by decide)).1 e)
  have hv : a * B32 ^ k = val B32 (List.replicate k 0 ++ digs B32 a) := by
    rw [val_append, val_replicate, vdigs, List.length_replicate, Nat.zero_add, Nat.mul_comm]
  rw [hv]
  refine digs_val (by decide) ((LtAll.replicate (by decide) k).append (digs_lt (by decide) _)) (.inr ?_)
  have h1 := (digs_noTail (b := B32) (by decide) a).resolve_left hne
  cases hg : (digs B32 a).getLast? with
  | none => exact absurd (List.getLast?_eq_none_iff.1 hg) hne
  | some x => rw [List.getLast?_append, hg]; rw [hg] at h1; exact h1

def t_natShifts (few own mul plain divmod same lives : FuncId) : T :=
  .node (.call few [.v 0, .c (.int .i64 200)] true) <| -- 2
  .node (.op (.cvt .i64) [.v 1]) <| -- 3
  .node (.op (.chkmk 4) [.v 3, .v 3]) <| -- 4
  .node (.op (.lzero 4 [.int .u32 0]) [.v 3]) <| -- 5
  .node (.op (.lapp 1 4) [.v 5, .v 3, .c (.lst [.int .u32 1]), .c (.int .i64 1)]) <| -- 6
  .node (.op (.ofs 1) [.v 3, .c (.int .i64 1)]) <| -- 7
  .node (.call own [.v 2] true) <| -- 8
  .node (.op (.mksl 1) [.v 6, .c (.int .i64 0), .v 7]) <| -- 9
  .node (.call mul [.v 8, .v 9] false) <| -- 10
  .node (.op (.ext 0 true) [.v 10]) <| -- 11
  .node (.op (.ext 1 true) [.v 10]) <| -- 12
  .node (.op (.bin .neq) [.v 12, .c (.int .i64 0)]) <| -- 13
  .br (.v 13) (
    .ret (.c (.bool false))) (
    .node (.call plain [.v 2] true) <| -- 14
    .node (.op .len [.v 14]) <| -- 15
    .node (.op (.bin .gtr) [.v 15, .c (.int .i64 0)]) <| -- 16
    .br (.v 16) (
      .node (.op (.cvt .i64) [.v 1]) <| -- 17
      .node (.op (.chkmk 4) [.v 17, .v 17]) <| -- 18
      .node (.op (.lzero 4 [.int .u32 0]) [.v 17]) <| -- 19
      .node (.call plain [.v 2] true) <| -- 20
      .node (.op .len [.v 20]) <| -- 21
      .node (.op (.s2l 1) [.v 20]) <| -- 22
      .node (.op (.lapp 1 4) [.v 19, .v 17, .v 22, .v 21]) <| -- 23
      .node (.op (.ofs 1) [.v 17, .v 21]) <| -- 24
      .node (.op (.mksl 1) [.v 6, .c (.int .i64 0), .v 7]) <| -- 25
      .node (.call divmod [.v 11, .v 25] false) <| -- 26
      .node (.op (.ext 0 true) [.v 26]) <| -- 27
      .node (.op (.ext 1 true) [.v 26]) <| -- 28
      .node (.op (.ext 2 true) [.v 26]) <| -- 29
      .node (.op (.mksl 1) [.v 23, .c (.int .i64 0), .v 24]) <| -- 30
      .node (.call same [.v 11, .v 30] true) <| -- 31
      .br (.v 31) (
        .node (.call plain [.v 2] true) <| -- 32
        .node (.call same [.v 27, .v 32] true) <| -- 33
        .br (.v 33) (
          .node (.op .len [.v 28]) <| -- 34
          .node (.op (.bin .eql) [.v 34, .c (.int .i64 0)]) <| -- 35
          .br (.v 35) (
            .node (.op (.bin .eql) [.v 29, .c (.int .i64 0)]) <| -- 36
            .br (.v 36) (
              .node (.call lives [] true) <| -- 37
              .ret (.v 37)) (
              .ret (.c (.bool false)))) (
            .ret (.c (.bool false)))) (
          .ret (.c (.bool false)))) (
        .ret (.c (.bool false)))) (
      .node (.op (.mksl 1) [.v 6, .c (.int .i64 0), .v 7]) <| -- 17
      .node (.call divmod [.v 11, .v 17] false) <| -- 18
      .node (.op (.ext 0 true) [.v 18]) <| -- 19
      .node (.op (.ext 1 true) [.v 18]) <| -- 20
      .node (.op (.ext 2 true) [.v 18]) <| -- 21
      .node (.call same [.v 11, .c (.sl 0 [])] true) <| -- 22
      .br (.v 22) (
        .node (.call plain [.v 2] true) <| -- 23
        .node (.call same [.v 19, .v 23] true) <| -- 24
        .br (.v 24) (
          .node (.op .len [.v 20]) <| -- 25
          .node (.op (.bin .eql) [.v 25, .c (.int .i64 0)]) <| -- 26
          .br (.v 26) (
            .node (.op (.bin .eql) [.v 21, .c (.int .i64 0)]) <| -- 27
            .br (.v 27) (
              .node (.call lives [] true) <| -- 28
              .ret (.v 28)) (
              .ret (.c (.bool false)))) (
            .ret (.c (.bool false)))) (
          .ret (.c (.bool false)))) (
        .ret (.c (.bool false)))))
theorem natShifts_den {few own mul plain divmod same lives : FuncId} (hf : FewC P few) (ho : OwnC P own) (hm : Bin P mul mulS) (hp : PlainC P plain) (hd : DivModC P divmod) (hs : SameC P same) (hv : LivesC P lives)
    {n : Nat} (hA : OkN A) (hn : n < 256) :
    D P (fun e => e = .ret (.bool true)) [] 2 [.int .u8 (n : Int), W A] (t_natShifts few own mul plain divmod same lives) := by
  refine d_call (hf A 200 hA.2) (fun _ => rfl) ?_
  have oA := hA.take 200
  have la := val_take_lt hA 200
  generalize A.take 200 = X at *
  obtain ⟨a, ea⟩ : ∃ a, a = val B32 X := ⟨_, rfl⟩
  rw [← ea] at la
  have own1 : ∀ {L : List Nat}, OkN L → Ct P own [W L] (fun e => e = .ret (W L)) := fun {L} h => ho L h.2
  obtain ⟨Q, eQ⟩ : ∃ Q, Q = List.replicate n 0 ++ [1] := ⟨_, rfl⟩
  have hQl : Q.length = n + 1 := by subst eQ; simp
  have oQ : OkN Q := by
    refine ⟨?_, by omega⟩
    subst eQ
    exact (LtAll.replicate (by decide) n).append (fun x hx => by simp at hx; show x < 4294967296; omega)
  have vQ : B32 ^ n = val B32 Q := by subst eQ; rw [val_append, val_replicate]; simp [val]
  have lQ : B32 ^ n < B32 ^ 256 := Nat.pow_lt_pow_right (by decide) hn
  have hz : ∀ {a : Int}, a = (n : Int) → evalO (.lzero 4 [.int .u32 0]) [.int .i64 a] = some (.lst (CN .u32 (List.replicate n 0))) := fun h => ev_lzeroN h (by omega)
  have hap : evalO (.lapp 1 4) [.lst (CN .u32 (List.replicate n 0)), .int .i64 (n : Int), .lst (CN .u32 [1]), .int .i64 1] = some (.lst (CN .u32 Q)) := by
    rw [eQ]; exact ev_lappN (by simp) (by simp) (by simp; omega)
  refine d_op (ev_cvt (by constructor <;> omega)) (d_op (ev_chkmk rfl rfl (Nat.le_refl _) (by omega)) (d_op (hz rfl) (d_op hap (d_op (ev_ofs rfl (n := 1) rfl) ?_))))
  have hmk : evalO (.mksl 1) [.lst (CN .u32 Q), .int .i64 0, .int .i64 ((n + 1 * 1 : Nat) : Int)] = some (W Q) := ev_mkslN rfl (by rw [hQl])
  have p1024 := pow_le (k := 200) (m := 1024) (by omega)
  have q1024 := pow_le (k := 256) (m := 1024) (by omega)
  have r1024 := pow_le (k := 200 + 256) (m := 1024) (by omega)
  have lx := mul_lt_pow la lQ
  have ox : OkN (digs B32 (a * B32 ^ n)) := OkN.digs_of lx (by decide)
  have hne : B32 ^ n ≠ 0 := Nat.ne_of_gt (Nat.pow_pos (by decide))
  have hdv : divS (a * B32 ^ n) (B32 ^ n) = (digs B32 a, digs B32 0, 0) := by
    rw [divS_of (by omega) (by omega) hne, Nat.mul_div_cancel _ (Nat.pos_of_ne_zero hne), Nat.mul_mod_left]
  refine d_call (own1 oA) (fun _ => rfl) (d_op hmk (d_call (hm.of oA oQ ea vQ (mulS_of la lQ (by omega))) (fun h => by cases h) (d_op (ev_ext rfl (fun _ => rfl)) (d_op (ev_ext rfl (fun _ => rfl)) ?_))))
  refine d_op ev_neq (d_no (fun h => h rfl) rfl (d_call (hp.of oA ea) (fun _ => rfl) (d_op ev_len (d_op ev_gtr ?_))))
  by_cases h0 : a = 0
  · have e0 : digs B32 (a * B32 ^ n) = [] := by rw [h0, Nat.zero_mul, digs_zero]
    refine d_no (fun h => len_pos.1 h h0) rfl ?_
    refine d_op hmk (d_call (hd.of ox oQ (vdg _) vQ hdv) (fun h => by cases h) (d_op (ev_ext rfl (fun _ => rfl)) (d_op (ev_ext rfl (fun _ => rfl)) (d_op (ev_ext rfl (fun _ => rfl)) ?_))))
    refine d_call (hs _ [] ox.2) (fun _ => rfl) (d_yes e0 rfl (d_call (hp.of oA ea) (fun _ => rfl) (d_call (hs _ _ (OkN.digs_of la (by decide)).2) (fun _ => rfl) (d_yes rfl rfl ?_))))
    exact d_op ev_len (d_op ev_eql (d_yes (by rw [digs_zero]; rfl) rfl (d_op ev_eql (d_yes rfl rfl (d_call hv (fun _ => rfl) (d_ret rfl))))))
  · refine d_yes (len_pos.2 h0) rfl ?_
    have hld : (digs B32 a).length ≤ 200 := digs_len la
    refine d_op (ev_cvt (by constructor <;> omega)) (d_op (ev_chkmk rfl rfl (Nat.le_refl _) (by omega)) (d_op (hz rfl) ?_))
    refine d_call (hp.of oA ea) (fun _ => rfl) (d_op ev_len (d_op ev_s2lN (d_op (ev_lappN (by simp) (by simp) (by simp; omega)) (d_op (ev_ofs rfl rfl) (d_op hmk ?_)))))
    refine d_call (hd.of ox oQ (vdg _) vQ hdv) (fun h => by cases h) (d_op (ev_ext rfl (fun _ => rfl)) (d_op (ev_ext rfl (fun _ => rfl)) (d_op (ev_ext rfl (fun _ => rfl)) ?_)))
    refine d_op (ev_mkslN rfl (by simp)) (d_call (hs _ _ ox.2) (fun _ => rfl) (d_yes (digs_shift h0) rfl (d_call (hp.of oA ea) (fun _ => rfl) (d_call (hs _ _ (OkN.digs_of la (by decide)).2) (fun _ => rfl) (d_yes rfl rfl ?_)))))
    exact d_op ev_len (d_op ev_eql (d_yes (by rw [digs_zero]; rfl) rfl (d_op ev_eql (d_yes rfl rfl (d_call hv (fun _ => rfl) (d_ret rfl))))))

def t_natPowers (few own pow rpow same lives add mul divmod : FuncId) : T :=
  .node (.op (.cell 3 0) [.v 0]) <| -- 2
  .node (.op (.cell 3 1) [.v 0]) <| -- 3
  .node (.op (.cell 3 2) [.v 0]) <| -- 4
  .node (.call few [.v 2, .c (.int .i64 6)] true) <| -- 5
  .node (.call few [.v 3, .c (.int .i64 3)] true) <| -- 6
  .node (.call few [.v 4, .c (.int .i64 3)] true) <| -- 7
  .node (.call few [.v 1, .c (.int .i64 6)] true) <| -- 8
  .node (.call own [.v 5] true) <| -- 9
  .node (.call own [.v 6] true) <| -- 10
  .node (.call own [.v 8] true) <| -- 11
  .node (.call pow [.v 9, .v 10, .v 11] false) <| -- 12
  .node (.op (.ext 0 true) [.v 12]) <| -- 13
  .node (.op (.ext 1 true) [.v 12]) <| -- 14
  .node (.call rpow [.v 5, .v 6, .v 8] false) <| -- 15
  .node (.op (.ext 0 true) [.v 15]) <| -- 16
  .node (.op (.ext 1 true) [.v 15]) <| -- 17
  .node (.call same [.v 13, .v 16] true) <| -- 18
  .node (.op (.un .not) [.v 18]) <| -- 19
  .br (.v 19) (
    .ret (.c (.bool false))) (
    .node (.op (.bin .neq) [.v 14, .v 17]) <| -- 20
    .br (.v 20) (
      .ret (.c (.bool false))) (
      .node (.op (.bin .neq) [.v 14, .c (.int .i64 0)]) <| -- 21
      .br (.v 21) (
        .node (.call lives [] true) <| -- 22
        .ret (.v 22)) (
        .node (.call own [.v 6] true) <| -- 22
        .node (.call own [.v 7] true) <| -- 23
        .node (.call add [.v 22, .v 23] false) <| -- 24
        .node (.op (.ext 0 true) [.v 24]) <| -- 25
        .node (.op (.ext 1 true) [.v 24]) <| -- 26
        .node (.call own [.v 5] true) <| -- 27
        .node (.call own [.v 8] true) <| -- 28
        .node (.call pow [.v 27, .v 25, .v 28] false) <| -- 29
        .node (.op (.ext 0 true) [.v 29]) <| -- 30
        .node (.op (.ext 1 true) [.v 29]) <| -- 31
        .node (.call own [.v 5] true) <| -- 32
        .node (.call own [.v 7] true) <| -- 33
        .node (.call own [.v 8] true) <| -- 34
        .node (.call pow [.v 32, .v 33, .v 34] false) <| -- 35
        .node (.op (.ext 0 true) [.v 35]) <| -- 36
        .node (.op (.ext 1 true) [.v 35]) <| -- 37
        .node (.call mul [.v 13, .v 36] false) <| -- 38
        .node (.op (.ext 0 true) [.v 38]) <| -- 39
        .node (.op (.ext 1 true) [.v 38]) <| -- 40
        .node (.call own [.v 8] true) <| -- 41
        .node (.call divmod [.v 39, .v 41] false) <| -- 42
        .node (.op (.ext 0 true) [.v 42]) <| -- 43
        .node (.op (.ext 1 true) [.v 42]) <| -- 44
        .node (.op (.ext 2 true) [.v 42]) <| -- 45
        .node (.op (.bin .eql) [.v 45, .c (.int .i64 0)]) <| -- 46
        .br (.v 46) (
          .node (.call same [.v 30, .v 44] true) <| -- 47
          .br (.v 47) (
            .node (.call lives [] true) <| -- 48
            .ret (.v 48)) (
            .ret (.c (.bool false)))) (
          .ret (.c (.bool false))))))
theorem natPowers_den {few own pow rpow same lives add mul divmod : FuncId} (hf : FewC P few) (ho : OwnC P own) (hpw : Tern P pow powS) (hrp : Tern P rpow powS) (hs : SameC P same) (hv : LivesC P lives)
    (ha : Bin P add addS) (hm : Bin P mul mulS) (hd : DivModC P divmod) {E F : List Nat} (hA : OkN A) (hE : OkN E) (hF : OkN F) (hM : OkN M) :
    D P (fun e => e = .ret (.bool true)) [] 2 [W M, .agg [W A, W E, W F]] (t_natPowers few own pow rpow same lives add mul divmod) := by
  refine d_op (v := W A) rfl (d_op (v := W E) rfl (d_op (v := W F) rfl ?_))
  refine d_call (hf A 6 hA.2) (fun _ => rfl) (d_call (hf E 3 hE.2) (fun _ => rfl) (d_call (hf F 3 hF.2) (fun _ => rfl) (d_call (hf M 6 hM.2) (fun _ => rfl) ?_)))
  have oA := hA.take 6
  have oE := hE.take 3
  have oF := hF.take 3
  have oM := hM.take 6
  have la := val_take_lt hA 6
  have le := val_take_lt hE 3
  have lf := val_take_lt hF 3
  have lm := val_take_lt hM 6
  generalize A.take 6 = X at *
  generalize E.take 3 = Y at *
  generalize F.take 3 = Z at *
  generalize M.take 6 = V at *
  obtain ⟨a, ea⟩ : ∃ a, a = val B32 X := ⟨_, rfl⟩
  obtain ⟨e, ee⟩ : ∃ e, e = val B32 Y := ⟨_, rfl⟩
  obtain ⟨f, ef⟩ : ∃ f, f = val B32 Z := ⟨_, rfl⟩
  obtain ⟨m, em⟩ : ∃ m, m = val B32 V := ⟨_, rfl⟩
  rw [← ea] at la
  rw [← ee] at le
  rw [← ef] at lf
  rw [← em] at lm
  have own1 : ∀ {L : List Nat}, OkN L → Ct P own [W L] (fun e => e = .ret (W L)) := fun {L} h => ho L h.2
  have p6 := pow_le (k := 6) (m := 1024) (by omega)
  have p3 := pow_le (k := 3) (m := 1023) (by omega)
  have p3' := pow_le (k := 3) (m := 1024) (by omega)
  have p12 := pow_le (k := 6 + 6) (m := 1024) (by omega)
  obtain ⟨r, er⟩ : ∃ r, powS a e m = r := ⟨_, rfl⟩
  have hl : r.1.length ≤ 35184372088832 := by
    subst er
    by_cases h0 : m = 0
    · subst h0; rw [powS_zero (by omega) (by omega)]; simp
    · rw [powS_of (by omega) (by omega) (by omega) h0]; exact Nat.le_trans (digs_len (mod_lt_pow (Nat.pos_of_ne_zero h0) lm)) (by decide)
  refine d_call (own1 oA) (fun _ => rfl) (d_call (own1 oE) (fun _ => rfl) (d_call (own1 oM) (fun _ => rfl) (d_call (hpw.of oA oE oM ea ee em er) (fun h => by cases h) (d_op (ev_ext rfl (fun _ => rfl)) (d_op (ev_ext rfl (fun _ => rfl)) ?_)))))
  refine d_call (hrp.of oA oE oM ea ee em er) (fun h => by cases h) (d_op (ev_ext rfl (fun _ => rfl)) (d_op (ev_ext rfl (fun _ => rfl)) ?_))
  refine d_call (hs _ _ hl) (fun _ => rfl) (d_op ev_not (d_not rfl rfl (d_op ev_neq (d_no (fun h => h rfl) rfl ?_))))
  by_cases h0 : m = 0
  · have : r = ([], 1) := by rw [← er, h0, powS_zero (by omega) (by omega)]
    subst this
    exact d_op ev_neq (d_yes (by decide) rfl (d_call hv (fun _ => rfl) (d_ret rfl)))
  · have : r = (digs B32 (a ^ e % m), 0) := by rw [← er, powS_of (by omega) (by omega) (by omega) h0]
    subst this
    have hm0 := Nat.pos_of_ne_zero h0
    have lx : a ^ e % m < B32 ^ 6 := mod_lt_pow hm0 lm
    have lz : a ^ f % m < B32 ^ 6 := mod_lt_pow hm0 lm
    have lw : a ^ (e + f) % m < B32 ^ 6 := mod_lt_pow hm0 lm
    have ls : e + f < B32 ^ 4 := by
      have : B32 ^ 4 = B32 ^ 3 * B32 := Nat.pow_succ ..
      have : B32 ^ 3 * 2 ≤ B32 ^ 3 * B32 := Nat.mul_le_mul_left _ (by decide)
      omega
    have p4 := pow_le (k := 4) (m := 1024) (by omega)
    have lq := mul_lt_pow lx lz
    have hq : (a ^ e % m) * (a ^ f % m) % m = a ^ (e + f) % m := by rw [Nat.pow_add, ← Nat.mul_mod]
    have hdv : divS ((a ^ e % m) * (a ^ f % m)) m = (digs B32 ((a ^ e % m) * (a ^ f % m) / m), digs B32 (a ^ (e + f) % m), 0) := by
      rw [divS_of (by omega) (by omega) h0, hq]
    refine d_op ev_neq (d_no (fun h => h rfl) rfl ?_)
    refine d_call (own1 oE) (fun _ => rfl) (d_call (own1 oF) (fun _ => rfl) (d_call (ha.of oE oF ee ef (addS_of (by omega) (by omega))) (fun h => by cases h) (d_op (ev_ext rfl (fun _ => rfl)) (d_op (ev_ext rfl (fun _ => rfl)) ?_))))
    refine d_call (own1 oA) (fun _ => rfl) (d_call (own1 oM) (fun _ => rfl) (d_call (hpw.of oA (OkN.digs_of ls (by decide)) oM ea (vdg _) em (powS_of (by omega) (by omega) (by omega) h0)) (fun h => by cases h) (d_op (ev_ext rfl (fun _ => rfl)) (d_op (ev_ext rfl (fun _ => rfl)) ?_))))
    refine d_call (own1 oA) (fun _ => rfl) (d_call (own1 oF) (fun _ => rfl) (d_call (own1 oM) (fun _ => rfl) (d_call (hpw.of oA oF oM ea ef em (powS_of (by omega) (by omega) (by omega) h0)) (fun h => by cases h) (d_op (ev_ext rfl (fun _ => rfl)) (d_op (ev_ext rfl (fun _ => rfl)) ?_)))))
    refine d_call (hm.of (OkN.digs_of lx (by decide)) (OkN.digs_of lz (by decide)) (vdg _) (vdg _) (mulS_of lx lz (by omega))) (fun h => by cases h) (d_op (ev_ext rfl (fun _ => rfl)) (d_op (ev_ext rfl (fun _ => rfl)) ?_))
    refine d_call (own1 oM) (fun _ => rfl) (d_call (hd.of (OkN.digs_of lq (by decide)) oM (vdg _) em hdv) (fun h => by cases h) (d_op (ev_ext rfl (fun _ => rfl)) (d_op (ev_ext rfl (fun _ => rfl)) (d_op (ev_ext rfl (fun _ => rfl)) ?_))))
    exact d_op ev_eql (d_yes rfl rfl (d_call (hs _ _ (OkN.digs_of lw (by decide)).2) (fun _ => rfl) (d_yes rfl rfl (d_call hv (fun _ => rfl) (d_ret rfl)))))

end Go.SE
