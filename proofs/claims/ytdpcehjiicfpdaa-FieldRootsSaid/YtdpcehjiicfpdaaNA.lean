/- Nothing of the statement is proved here: this text lays generic laws: NA; no conditions. -/
import Derived.Test.YtdpcehjiicfpdaaSe6

set_option linter.all false
set_option autoImplicit false
namespace Go.SE
open Go

abbrev B32 : Nat := 4294967296
abbrev W (L : List Nat) : AV := SN .u32 L
/-- a number without noughts behind -/
def nrm (L : List Nat) : List Nat := digs B32 (val B32 L)
variable {P : Program} {R : AEnd → Prop} {L A B : List Nat}

theorem nrm_len (h : LtAll B32 L) : (nrm L).length ≤ L.length := digs_val_length (by decide) h
theorem nrm_lt : LtAll B32 (nrm L) := digs_lt (by decide) _
theorem nrm_val : val B32 (nrm L) = val B32 L := val_digs (by decide) _
theorem nrm_nrm : nrm (nrm L) = nrm L := by unfold nrm; rw [val_digs (by decide)]
theorem nrm_id (h : LtAll B32 L) (hn : NoTail L) : nrm L = L := digs_val (by decide) h hn

def TrimC (P : Program) (f : FuncId) : Prop := ∀ L, LtAll B32 L → L.length ≤ 35184372088832 → Ct P f [W L] (fun e => e = .ret (W (nrm L)))

def t_trim : T :=
  .loop [.v 0] [true] <| -- 1 to 1
    .node (.op .len [.v 1]) <| -- 2
    .node (.op (.bin .gtr) [.v 2, .c (.int .i64 0)]) <| -- 3
    .br (.v 3) (
      .node (.op .len [.v 1]) <| -- 4
      .node (.op (.bin .sub) [.v 4, .c (.int .i64 1)]) <| -- 5
      .node (.op (.eaddr 1) [.v 1, .v 5]) <| -- 6
      .node (.op (.rld false 1) [.v 6]) <| -- 7
      .node (.op (.bin .eql) [.v 7, .c (.int .u32 0)]) <| -- 8
      .br (.v 8) (
        .node (.op .len [.v 1]) <| -- 9
        .node (.op (.bin .sub) [.v 9, .c (.int .i64 1)]) <| -- 10
        .node (.op (.slc 1 false true false) [.v 1, .v 10]) <| -- 11
        .back 0 [.v 11]) (
        .ret (.v 1))) (
      .ret (.v 1))

theorem trim_den (h : LtAll B32 L) (hl : L.length ≤ 35184372088832) : D P (fun e => e = .ret (W (nrm L))) [] 1 [W L] t_trim := by
  refine d_while (fun M => [W M]) (fun M => LtAll B32 M ∧ val B32 M = val B32 L ∧ M.length ≤ L.length) List.length L ⟨h, rfl, Nat.le_refl _⟩ rfl ?_
  rintro M ⟨hM, hv, hlen⟩
  refine d_op ev_len (d_op ev_gtr (d_if rfl (fun hb => ?_) (fun hb => ?_)))
  · obtain ⟨N, x, rfl⟩ := eq_append_getLast (L := M) (by intro e; subst e; simp at hb)
    have hx : (N ++ [x]).getD N.length 0 = x := by simp
    simp only [List.length_append, List.length_singleton] at hlen
    refine d_op ev_len ?_
    refine d_op (ev_sub (by simp; omega)) ?_
    refine d_op (ev_eaddrN (i := N.length) (by simp) (by simp)) ?_
    refine d_op (ev_rldN' (by simp) hx) ?_
    refine d_op ev_eql ?_
    refine d_if rfl (fun hc => ?_) (fun hc => ?_)
    · have hc : x = 0 := by omega
      subst hc
      refine d_op ev_len ?_
      refine d_op (ev_sub (by simp; omega)) ?_
      refine d_op (ev_slc_hi' (y := N.length) (by simp) (by simp) List.take_left) ?_
      exact d_back rfl ⟨N, rfl, ⟨hM.left, by rw [← hv, val_append_zero], by omega⟩, by simp⟩
    · refine d_ret ?_
      show AEnd.ret (W (N ++ [x])) = _
      unfold nrm
      rw [← hv, digs_val (by decide) hM (noTail_append (by omega))]
  · have : M = [] := by cases M with
      | nil => rfl
      | cons _ _ => simp at hb
    subst this
    refine d_ret ?_
    show AEnd.ret (W []) = _
    unfold nrm
    rw [← hv, val_nil, digs_zero]

/-! ### compare -/

def cmpN (a b : Nat) : Int := if a < b then -1 else if b < a then 1 else 0

def NanC (P : Program) (f : FuncId) (k : IntKind) : Prop := ∀ x : Nat, Ct P f [.int k (x : Int)] (fun e => e = .ret (.bool false))
def CmpC (P : Program) (f : FuncId) (k : IntKind) : Prop := ∀ x y : Nat, Ct P f [.int k (x : Int), .int k (y : Int)] (fun e => e = .ret (.int .i64 (cmpN x y)))

def t_nan : T :=
  .node (.op (.bin .neq) [.v 0, .v 0]) <| -- 1
  .ret (.v 1)

theorem nan_den {k : IntKind} {x : Nat} : D P (fun e => e = .ret (.bool false)) [] 1 [.int k (x : Int)] t_nan :=
  d_op ev_neq (d_ret (by show AEnd.ret (.bool (decide _)) = _; simp))

def t_cmp (nan : FuncId) : T :=
  .node (.call nan [.v 0] true) <| -- 2
  .node (.call nan [.v 1] true) <| -- 3
  .br (.v 2) (
    .br (.v 3) (
      .ret (.c (.int .i64 0))) (
      .ret (.c (.int .i64 (-1))))) (
    .br (.v 3) (
      .ret (.c (.int .i64 1))) (
      .node (.op (.bin .lss) [.v 0, .v 1]) <| -- 4
      .br (.v 4) (
        .ret (.c (.int .i64 (-1)))) (
        .node (.op (.bin .gtr) [.v 0, .v 1]) <| -- 5
        .br (.v 5) (
          .ret (.c (.int .i64 1))) (
          .ret (.c (.int .i64 0))))))

theorem cmp_den {k : IntKind} {nan : FuncId} {x y : Nat} (hn : NanC P nan k) : D P (fun e => e = .ret (.int .i64 (cmpN x y))) [] 2 [.int k (y : Int), .int k (x : Int)] (t_cmp nan) := by
  refine d_call (hn x) (fun _ => rfl) ?_
  refine d_call (hn y) (fun _ => rfl) ?_
  refine d_br false rfl (fun h => by cases h) (fun _ => ?_)
  refine d_br false rfl (fun h => by cases h) (fun _ => ?_)
  refine d_op ev_lss (d_if rfl (fun h => ?_) (fun h => ?_))
  · refine d_ret ?_
    show AEnd.ret (.int .i64 (-1)) = _
    unfold cmpN; rw [if_pos (by omega)]
  · refine d_op ev_gtr (d_if rfl (fun h2 => ?_) (fun h2 => ?_))
    · refine d_ret ?_
      show AEnd.ret (.int .i64 1) = _
      unfold cmpN; rw [if_neg (by omega), if_pos (by omega)]
    · refine d_ret ?_
      show AEnd.ret (.int .i64 0) = _
      unfold cmpN; rw [if_neg (by omega), if_neg (by omega)]

def t_compare (trim cmpi cmpu : FuncId) : T :=
  .node (.call trim [.v 0] true) <| -- 2
  .node (.call trim [.v 1] true) <| -- 3
  .node (.op .len [.v 2]) <| -- 4
  .node (.op .len [.v 3]) <| -- 5
  .node (.call cmpi [.v 4, .v 5] true) <| -- 6
  .node (.op (.bin .neq) [.v 6, .c (.int .i64 0)]) <| -- 7
  .br (.v 7) (
    .ret (.v 6)) (
    .node (.op .len [.v 2]) <| -- 8
    .node (.op (.bin .sub) [.v 8, .c (.int .i64 1)]) <| -- 9
    .loop [.v 9] [true] <| -- 10 to 10
      .node (.op (.bin .geq) [.v 10, .c (.int .i64 0)]) <| -- 11
      .br (.v 11) (
        .node (.op (.eaddr 1) [.v 2, .v 10]) <| -- 12
        .node (.op (.rld false 1) [.v 12]) <| -- 13
        .node (.op (.eaddr 1) [.v 3, .v 10]) <| -- 14
        .node (.op (.rld false 1) [.v 14]) <| -- 15
        .node (.call cmpu [.v 13, .v 15] true) <| -- 16
        .node (.op (.bin .neq) [.v 16, .c (.int .i64 0)]) <| -- 17
        .br (.v 17) (
          .ret (.v 16)) (
          .node (.op (.bin .sub) [.v 10, .c (.int .i64 1)]) <| -- 18
          .back 0 [.v 18])) (
        .ret (.c (.int .i64 0))))

theorem cmpN_zero {a b : Nat} : cmpN a b = 0 ↔ a = b := by unfold cmpN; split <;> (try split) <;> omega

theorem cmpN_len {X Y : List Nat} (hX : LtAll B32 X) (hY : LtAll B32 Y) (hx : NoTail X) (hy : NoTail Y) (h : X.length ≠ Y.length) : cmpN X.length Y.length = cmpN (val B32 X) (val B32 Y) := by
  have key : ∀ {X Y : List Nat}, LtAll B32 X → LtAll B32 Y → NoTail X → NoTail Y → X.length < Y.length → val B32 X < val B32 Y := fun {X Y} hX hY hx hy h => by
    have h1 := val_lt (b := B32) (by decide) hX
    have h2 := (digs_length_lt (b := B32) (n := val B32 Y) (k := X.length) (by decide)).1 (by rw [digs_val (by decide) hY hy]; exact h)
    omega
  unfold cmpN
  rcases Nat.lt_or_gt_of_ne h with h | h
  · have := key hX hY hx hy h
    rw [if_pos h, if_pos this]
  · have := key hY hX hy hx h
    rw [if_neg (by omega), if_pos h, if_neg (by omega), if_pos this]

theorem split_at {X : List Nat} {i : Nat} (h : i < X.length) : X = X.take i ++ X.getD i 0 :: X.drop (i + 1) := by
  have h1 : X.getD i 0 = X[i] := by simp [h]
  rw [h1, ← List.drop_eq_getElem_cons h, List.take_append_drop]

theorem cmpN_at {X Y : List Nat} {i : Nat} (hX : LtAll B32 X) (hY : LtAll B32 Y) (hi : i < X.length) (hj : i < Y.length) (hd : X.drop (i + 1) = Y.drop (i + 1)) (h : X.getD i 0 ≠ Y.getD i 0) :
    cmpN (X.getD i 0) (Y.getD i 0) = cmpN (val B32 X) (val B32 Y) := by
  have hl : (X.take i).length = (Y.take i).length := by simp; omega
  unfold cmpN
  rcases Nat.lt_or_gt_of_ne h with h | h
  · have := val_lt_of_split (b := B32) (by decide) (hX.take i) hl h (split_at hi) (hd ▸ split_at hj)
    rw [if_pos h, if_pos this]
  · have := val_lt_of_split (b := B32) (by decide) (hY.take i) hl.symm h (split_at hj) (hd ▸ split_at hi)
    rw [if_neg (by omega), if_pos h, if_neg (by omega), if_pos this]

def CompareC (P : Program) (f : FuncId) : Prop := ∀ A B, LtAll B32 A → LtAll B32 B → A.length ≤ 35184372088832 → B.length ≤ 35184372088832 → Ct P f [W A, W B] (fun e => e = .ret (.int .i64 (cmpN (val B32 A) (val B32 B))))

theorem compare_den {trim cmpi cmpu : FuncId} (ht : TrimC P trim) (hi : CmpC P cmpi .i64) (hu : CmpC P cmpu .u32) (hA : LtAll B32 A) (hB : LtAll B32 B) (hal : A.length ≤ 35184372088832) (hbl : B.length ≤ 35184372088832) :
    D P (fun e => e = .ret (.int .i64 (cmpN (val B32 A) (val B32 B)))) [] 2 [W B, W A] (t_compare trim cmpi cmpu) := by
  have h1 := nrm_len hA
  have h2 := nrm_len hB
  rw [← nrm_val (L := A), ← nrm_val (L := B)]
  refine d_call (ht A hA hal) (fun _ => rfl) ?_
  refine d_call (ht B hB hbl) (fun _ => rfl) ?_
  refine d_op ev_len ?_
  refine d_op ev_len ?_
  refine d_call (hi _ _) (fun _ => rfl) ?_
  refine d_op ev_neq (d_if rfl (fun h => ?_) (fun h => ?_))
  · refine d_ret ?_
    show AEnd.ret (.int .i64 (cmpN (nrm A).length (nrm B).length)) = _
    rw [cmpN_len nrm_lt nrm_lt (digs_noTail (by decide) _) (digs_noTail (by decide) _)]
    exact fun e => h (cmpN_zero.2 e)
  · have hl : (nrm A).length = (nrm B).length := by
      have : cmpN (nrm A).length (nrm B).length = 0 := by omega
      exact cmpN_zero.1 this
    refine d_op ev_len ?_
    refine d_op (ev_sub (by constructor <;> omega)) ?_
    refine d_while (fun i : Nat => [.int .i64 ((i : Int) - 1)]) (fun i => i ≤ (nrm A).length ∧ (nrm A).drop i = (nrm B).drop i) id
      (nrm A).length ⟨Nat.le_refl _, by rw [List.drop_length, hl, List.drop_length]⟩ rfl ?_
    rintro i ⟨hi2, hd⟩
    refine d_op ev_geq (d_if rfl (fun h => ?_) (fun h => ?_))
    · obtain ⟨j, rfl⟩ : ∃ j, i = j + 1 := ⟨i - 1, by omega⟩
      refine d_op (ev_eaddrN (i := j) (by omega) (by omega)) ?_
      refine d_op (ev_rldN (by omega)) ?_
      refine d_op (ev_eaddrN (i := j) (by omega) (by omega)) ?_
      refine d_op (ev_rldN (by omega)) ?_
      refine d_call (hu _ _) (fun _ => rfl) ?_
      refine d_op ev_neq (d_if rfl (fun h => ?_) (fun h => ?_))
      · refine d_ret ?_
        show AEnd.ret (.int .i64 (cmpN ((nrm A).getD j 0) ((nrm B).getD j 0))) = _
        rw [cmpN_at nrm_lt nrm_lt (by omega) (by omega) hd]
        exact fun e => h (cmpN_zero.2 e)
      · have he : (nrm A).getD j 0 = (nrm B).getD j 0 := by
          have : cmpN ((nrm A).getD j 0) ((nrm B).getD j 0) = 0 := by omega
          exact cmpN_zero.1 this
        refine d_op (ev_sub (by constructor <;> omega)) ?_
        refine d_back rfl ⟨j, ?_, ⟨by omega, ?_⟩, Nat.lt_succ_self j⟩
        · show [AV.int .i64 _] = _
          congr 2; omega
        · have a1 : j < (nrm A).length := by omega
          have a2 : j < (nrm B).length := by omega
          rw [List.drop_eq_getElem_cons a1, List.drop_eq_getElem_cons a2, hd]
          congr 1
          simpa [a1, a2] using he
    · have : i = 0 := by omega
      subst this
      simp only [List.drop_zero] at hd
      refine d_ret ?_
      show AEnd.ret (.int .i64 0) = _
      rw [hd]
      have : cmpN (val B32 (nrm B)) (val B32 (nrm B)) = 0 := cmpN_zero.2 rfl
      rw [this]

/-! ### copies, and what is the same -/

def OwnC (P : Program) (f : FuncId) : Prop := ∀ L, L.length ≤ 35184372088832 → Ct P f [W L] (fun e => e = .ret (W L))
def OwnH (P : Program) (f : FuncId) : Prop := ∀ L, L.length ≤ 35184372088832 →
  CtH P f [.val (W L)] [] ⟨false, [.osl 0 1 true], 1⟩ (fun e => e = .ret (.tup [.int .i64 0, .int .i64 (L.length : Int), .int .i64 (L.length : Int), .lst (CN .u32 L)]))
def PlainC (P : Program) (f : FuncId) : Prop := ∀ L, LtAll B32 L → L.length ≤ 35184372088832 → Ct P f [W L] (fun e => e = .ret (W (nrm L)))
def SameC (P : Program) (f : FuncId) : Prop := ∀ A B : List Nat, A.length ≤ 35184372088832 → Ct P f [W A, W B] (fun e => e = .ret (.bool (decide (A = B))))

def t_own : T :=
  .node (.op .len [.v 0]) <| -- 1
  .node (.op (.s2l 1) [.v 0]) <| -- 2
  .node (.op (.lapp 1 4) [.c (.lst []), .c (.int .i64 0), .v 2, .v 1]) <| -- 3
  .node (.op (.ofs 1) [.c (.int .i64 0), .v 1]) <| -- 4
  .node (.op (.mksl 1) [.v 3, .c (.int .i64 0), .v 4]) <| -- 5
  .ret (.v 5)

theorem own_den (hl : L.length ≤ 35184372088832) : D P (fun e => e = .ret (W L)) [] 1 [W L] t_own :=
  d_op ev_len (d_op ev_s2lN (d_op (ev_lapp0N rfl rfl (by omega)) (d_op (ev_ofs (o := 0) rfl rfl) (d_op (ev_mkslN rfl (by simp)) (d_ret rfl)))))

def t_ownH : T :=
  .node (.op .len [.v 0]) <| -- 1
  .node (.op (.s2l 1) [.v 0]) <| -- 2
  .node (.op (.lapp 1 4) [.c (.lst []), .c (.int .i64 0), .v 2, .v 1]) <| -- 3
  .node (.op (.ofs 1) [.c (.int .i64 0), .v 1]) <| -- 4
  .node (.op .mktup [.c (.int .i64 0), .v 4, .v 4, .v 3]) <| -- 5
  .ret (.v 5)

theorem ownH_den (hl : L.length ≤ 35184372088832) : D P (fun e => e = .ret (.tup [.int .i64 0, .int .i64 (L.length : Int), .int .i64 (L.length : Int), .lst (CN .u32 L)])) [] 1 [W L] t_ownH := by
  refine d_op ev_len (d_op ev_s2lN (d_op (ev_lapp0N rfl rfl (by omega)) (d_op (ev_ofs (o := 0) rfl rfl) (d_op ev_mktup (d_ret ?_)))))
  show AEnd.ret (.tup [.int .i64 0, .int .i64 ((0 + L.length * 1 : Nat) : Int), .int .i64 ((0 + L.length * 1 : Nat) : Int), .lst (CN .u32 L)]) = _
  rw [Nat.zero_add, Nat.mul_one]

def t_clone : T :=
  .node (.op (.isnil .sl false) [.v 0]) <| -- 1
  .br (.v 1) (
    .ret (.c .nils)) (
    .node (.op .len [.v 0]) <| -- 2
    .node (.op (.s2l 1) [.v 0]) <| -- 3
    .node (.op (.lapp 1 4) [.c (.lst []), .c (.int .i64 0), .v 3, .v 2]) <| -- 4
    .node (.op (.ofs 1) [.c (.int .i64 0), .v 2]) <| -- 5
    .node (.op (.mksl 1) [.v 4, .c (.int .i64 0), .v 5]) <| -- 6
    .ret (.v 6))

theorem clone_den (h0 : 0 < L.length) (hl : L.length ≤ 35184372088832) : D P (fun e => e = .ret (W L)) [] 1 [W L] t_clone :=
  d_op (ev_nil_sl h0) (d_br false rfl (fun h => by cases h) (fun _ =>
    d_op ev_len (d_op ev_s2lN (d_op (ev_lapp0N rfl rfl (by omega)) (d_op (ev_ofs (o := 0) rfl rfl) (d_op (ev_mkslN rfl (by simp)) (d_ret rfl)))))))
theorem clone_den_nils : D P (Is (W [])) [] 1 [.nils] t_clone :=
  d_op ev_nil_nils (d_br true rfl (fun _ => d_ret ⟨_, rfl, Sub.nils_sl⟩) (fun h => by cases h))
theorem clone_den_emp : D P (Is (W [])) [] 1 [.emp] t_clone :=
  d_op ev_nil_emp (d_br false rfl (fun h => by cases h) (fun _ =>
    d_op ev_len_emp (d_op ev_s2l_emp (d_op (ev_lapp0N (k := .u32) (M := []) rfl rfl (by simp)) (d_op (ev_ofs (o := 0) (n := 0) rfl rfl) (d_op (ev_mkslN (k := .u32) (L := []) rfl (by simp)) (d_ret ⟨_, rfl, Sub.refl _⟩)))))))

def t_cloneH : T :=
  .node (.op (.isnil .sl false) [.v 0]) <| -- 1
  .br (.v 1) (
    .fail) (
    .node (.op .len [.v 0]) <| -- 2
    .node (.op (.s2l 1) [.v 0]) <| -- 3
    .node (.op (.lapp 1 4) [.c (.lst []), .c (.int .i64 0), .v 3, .v 2]) <| -- 4
    .node (.op (.ofs 1) [.c (.int .i64 0), .v 2]) <| -- 5
    .node (.op .mktup [.c (.int .i64 0), .v 5, .v 5, .v 4]) <| -- 6
    .ret (.v 6))

def CloneH (P : Program) (f : FuncId) : Prop := ∀ L, 0 < L.length → L.length ≤ 35184372088832 →
  CtH P f [.val (W L)] [] ⟨false, [.osl 0 1 true], 1⟩ (fun e => e = .ret (.tup [.int .i64 0, .int .i64 (L.length : Int), .int .i64 (L.length : Int), .lst (CN .u32 L)]))

theorem cloneH_den (h0 : 0 < L.length) (hl : L.length ≤ 35184372088832) : D P (fun e => e = .ret (.tup [.int .i64 0, .int .i64 (L.length : Int), .int .i64 (L.length : Int), .lst (CN .u32 L)])) [] 1 [W L] t_cloneH := by
  refine d_op (ev_nil_sl h0) (d_br false rfl (fun h => by cases h) (fun _ => ?_))
  refine d_op ev_len (d_op ev_s2lN (d_op (ev_lapp0N rfl rfl (by omega)) (d_op (ev_ofs (o := 0) rfl rfl) (d_op ev_mktup (d_ret ?_)))))
  show AEnd.ret (.tup [.int .i64 0, .int .i64 ((0 + L.length * 1 : Nat) : Int), .int .i64 ((0 + L.length * 1 : Nat) : Int), .lst (CN .u32 L)]) = _
  rw [Nat.zero_add, Nat.mul_one]

def t_plain (trim clone : FuncId) : T :=
  .node (.call trim [.v 0] true) <| -- 1
  .node (.call clone [.v 1] true) <| -- 2
  .ret (.v 2)

theorem plain_den {trim clone : FuncId} (ht : TrimC P trim) (hc : OwnC P clone) (h : LtAll B32 L) (hl : L.length ≤ 35184372088832) : D P (fun e => e = .ret (W (nrm L))) [] 1 [W L] (t_plain trim clone) :=
  d_call (ht L h hl) (fun _ => rfl) (d_call (hc _ (Nat.le_trans (nrm_len h) hl)) (fun _ => rfl) (d_ret rfl))

def t_refPlain : T :=
  .node (.op .len [.v 0]) <| -- 1
  .loop [.v 1] [true] <| -- 2 to 2
    .node (.op (.bin .gtr) [.v 2, .c (.int .i64 0)]) <| -- 3
    .br (.v 3) (
      .node (.op (.bin .sub) [.v 2, .c (.int .i64 1)]) <| -- 4
      .node (.op (.eaddr 1) [.v 0, .v 4]) <| -- 5
      .node (.op (.rld false 1) [.v 5]) <| -- 6
      .node (.op (.bin .eql) [.v 6, .c (.int .u32 0)]) <| -- 7
      .br (.v 7) (
        .node (.op (.bin .sub) [.v 2, .c (.int .i64 1)]) <| -- 8
        .back 0 [.v 8]) (
        .node (.op (.slc 1 false true false) [.v 0, .v 2]) <| -- 8
        .node (.op .len [.v 8]) <| -- 9
        .node (.op (.s2l 1) [.v 8]) <| -- 10
        .node (.op (.lapp 1 4) [.c (.lst []), .c (.int .i64 0), .v 10, .v 9]) <| -- 11
        .node (.op (.ofs 1) [.c (.int .i64 0), .v 9]) <| -- 12
        .node (.op (.mksl 1) [.v 11, .c (.int .i64 0), .v 12]) <| -- 13
        .ret (.v 13))) (
      .node (.op (.slc 1 false true false) [.v 0, .v 2]) <| -- 4
      .node (.op .len [.v 4]) <| -- 5
      .node (.op (.s2l 1) [.v 4]) <| -- 6
      .node (.op (.lapp 1 4) [.c (.lst []), .c (.int .i64 0), .v 6, .v 5]) <| -- 7
      .node (.op (.ofs 1) [.c (.int .i64 0), .v 5]) <| -- 8
      .node (.op (.mksl 1) [.v 7, .c (.int .i64 0), .v 8]) <| -- 9
      .ret (.v 9))

theorem nrm_take {M : List Nat} (hL : LtAll B32 L) (hM : L.take M.length = M) (hv : val B32 M = val B32 L) (hn : NoTail M) : nrm L = M := by
  unfold nrm
  rw [← hv]
  exact digs_val (by decide) (hM ▸ hL.take _) hn

theorem refPlain_den (h : LtAll B32 L) (hl : L.length ≤ 35184372088832) : D P (fun e => e = .ret (W (nrm L))) [] 1 [W L] t_refPlain := by
  refine d_op ev_len ?_
  refine d_while (fun i : Nat => [.int .i64 (i : Int)]) (fun i => i ≤ L.length ∧ val B32 (L.take i) = val B32 L) id L.length ⟨Nat.le_refl _, by rw [List.take_length]⟩ rfl ?_
  rintro i ⟨hi, hv⟩
  have hlen : (L.take i).length = i := by simp; omega
  refine d_op ev_gtr (d_if rfl (fun hb => ?_) (fun hb => ?_))
  · obtain ⟨j, rfl⟩ : ∃ j, i = j + 1 := ⟨i - 1, by omega⟩
    refine d_op (ev_sub (by constructor <;> omega)) ?_
    refine d_op (ev_eaddrN (i := j) (by omega) (by omega)) ?_
    refine d_op (ev_rldN (by omega)) ?_
    refine d_op ev_eql ?_
    have hx : L.take (j + 1) = L.take j ++ [L.getD j 0] := by
      rw [List.take_add_one, List.getD_eq_getElem?_getD, List.getElem?_eq_getElem (by omega)]; rfl
    refine d_if rfl (fun hc => ?_) (fun hc => ?_)
    · have hc : L.getD j 0 = 0 := by omega
      refine d_op (ev_sub (by constructor <;> omega)) ?_
      refine d_back rfl ⟨j, ?_, ⟨by omega, by rw [← hv, hx, hc, val_append_zero]⟩, Nat.lt_succ_self j⟩
      show [AV.int .i64 _] = _
      congr 2; omega
    · have hn : nrm L = L.take (j + 1) := by
        refine nrm_take h ?_ hv ?_
        · rw [hlen]
        · rw [hx]; exact noTail_append (by omega)
      rw [hn]
      refine d_op (ev_slc_hi (y := j + 1) rfl hi) ?_
      exact d_op ev_len (d_op ev_s2lN (d_op (ev_lapp0N rfl rfl (by omega)) (d_op (ev_ofs (o := 0) rfl rfl) (d_op (ev_mkslN rfl (by simp)) (d_ret rfl)))))
  · have : i = 0 := by omega
    subst this
    have hn : nrm L = L.take 0 := nrm_take h (by simp) hv (.inl (by simp))
    rw [hn]
    refine d_op (ev_slc_hi (y := 0) rfl (Nat.zero_le _)) ?_
    exact d_op ev_len (d_op ev_s2lN (d_op (ev_lapp0N rfl rfl (by simp)) (d_op (ev_ofs (o := 0) rfl rfl) (d_op (ev_mkslN rfl (by simp)) (d_ret rfl)))))

def t_same : T :=
  .node (.op .len [.v 0]) <| -- 2
  .node (.op .len [.v 1]) <| -- 3
  .node (.op (.bin .neq) [.v 2, .v 3]) <| -- 4
  .br (.v 4) (
    .ret (.c (.bool false))) (
    .loop [.c (.int .i64 0)] [true] <| -- 5 to 5
      .node (.op .len [.v 0]) <| -- 6
      .node (.op (.bin .lss) [.v 5, .v 6]) <| -- 7
      .br (.v 7) (
        .node (.op (.eaddr 1) [.v 0, .v 5]) <| -- 8
        .node (.op (.rld false 1) [.v 8]) <| -- 9
        .node (.op (.eaddr 1) [.v 1, .v 5]) <| -- 10
        .node (.op (.rld false 1) [.v 10]) <| -- 11
        .node (.op (.bin .neq) [.v 9, .v 11]) <| -- 12
        .br (.v 12) (
          .ret (.c (.bool false))) (
          .node (.op (.bin .add) [.v 5, .c (.int .i64 1)]) <| -- 13
          .back 0 [.v 13])) (
        .ret (.c (.bool true))))

theorem same_den (hl : A.length ≤ 35184372088832) : D P (fun e => e = .ret (.bool (decide (A = B)))) [] 2 [W B, W A] t_same := by
  refine d_op ev_len (d_op ev_len (d_op ev_neq (d_if rfl (fun h => ?_) (fun h => ?_))))
  · refine d_ret ?_
    show AEnd.ret (.bool false) = _
    have : A ≠ B := fun e => h (by rw [e])
    simp [this]
  · have hl2 : A.length = B.length := by omega
    refine d_while (fun i : Nat => [.int .i64 (i : Int)]) (fun i => i ≤ A.length ∧ A.take i = B.take i) (fun i => A.length - i) 0 ⟨Nat.zero_le _, by simp⟩ rfl ?_
    rintro i ⟨hi, he⟩
    refine d_op ev_len (d_op ev_lss (d_if rfl (fun h => ?_) (fun h => ?_)))
    · refine d_op (ev_eaddrN (i := i) rfl (by omega)) ?_
      refine d_op (ev_rldN (by omega)) ?_
      refine d_op (ev_eaddrN (i := i) rfl (by omega)) ?_
      refine d_op (ev_rldN (by omega)) ?_
      refine d_op ev_neq (d_if rfl (fun h => ?_) (fun h => ?_))
      · refine d_ret ?_
        show AEnd.ret (.bool false) = _
        have : A ≠ B := fun e => h (by rw [e])
        simp [this]
      · refine d_op (ev_add (by constructor <;> omega)) ?_
        refine d_back rfl ⟨i + 1, ?_, ⟨by omega, ?_⟩, by omega⟩
        · show [AV.int .i64 _] = _
          congr 2
        · have h1 : A.getD i 0 = B.getD i 0 := by omega
          have a1 : i < A.length := by omega
          have a2 : i < B.length := by omega
          rw [List.take_add_one, List.take_add_one, he]
          congr 1
          rw [List.getElem?_eq_getElem a1, List.getElem?_eq_getElem a2]
          simpa [a1, a2] using h1
    · have : i = A.length := by omega
      subst this
      rw [List.take_length, hl2, List.take_length] at he
      refine d_ret ?_
      show AEnd.ret (.bool true) = _
      simp [he]

/-! ### how many bits -/

def blen (x : Nat) : Nat := if x = 0 then 0 else x.log2 + 1

theorem blen_eq {x k : Nat} (h1 : 2 ^ k ≤ x) (h2 : x < 2 ^ (k + 1)) : blen x = k + 1 := by
  have hx : x ≠ 0 := by have := Nat.two_pow_pos k; omega
  unfold blen
  rw [if_neg hx]
  have a1 := (Nat.log2_lt hx).2 h2
  have a2 : ¬ x.log2 < k := fun h => by have := (Nat.log2_lt hx).1 h; omega
  omega

theorem blen_spec {x : Nat} (hx : x ≠ 0) : 2 ^ (blen x - 1) ≤ x ∧ x < 2 ^ blen x ∧ 0 < blen x := by
  have e : blen x = x.log2 + 1 := by unfold blen; rw [if_neg hx]
  rw [e]
  refine ⟨?_, (Nat.log2_lt hx).1 (by omega), by omega⟩
  have : ¬ x < 2 ^ (x.log2 + 1 - 1) := fun h => by have := (Nat.log2_lt hx).2 h; omega
  omega

theorem blen_zero : blen 0 = 0 := rfl

theorem blen_le {x k : Nat} : blen x ≤ k ↔ x < 2 ^ k := by
  by_cases hx : x = 0
  · subst hx; simp [blen_zero, Nat.two_pow_pos]
  · obtain ⟨h1, h2, h3⟩ := blen_spec hx
    constructor
    · intro h; exact Nat.lt_of_lt_of_le h2 (Nat.pow_le_pow_right (by omega) h)
    · intro h
      rcases Nat.lt_or_ge k (blen x) with h' | h'
      · have := Nat.pow_le_pow_right (n := 2) (by omega) (show k ≤ blen x - 1 by omega)
        omega
      · exact h'

theorem blen_mono {x y : Nat} (h : x ≤ y) : blen x ≤ blen y := blen_le.2 (Nat.lt_of_le_of_lt h (blen_le.1 (Nat.le_refl _)))

/-- a number's bits are those of its highest part and those below -/
theorem blen_split {x y s : Nat} (hy : y < 2 ^ s) (hx : x ≠ 0) : blen (y + 2 ^ s * x) = s + blen x := by
  obtain ⟨h1, h2, h3⟩ := blen_spec hx
  have e : s + blen x = (s + (blen x - 1)) + 1 := by omega
  rw [e]
  apply blen_eq
  · rw [Nat.pow_add]
    have := Nat.mul_le_mul_left (2 ^ s) h1
    omega
  · rw [show s + (blen x - 1) + 1 = s + blen x from by omega, Nat.pow_add]
    have : 2 ^ s * (x + 1) ≤ 2 ^ s * 2 ^ blen x := Nat.mul_le_mul_left _ h2
    rw [Nat.mul_add] at this
    omega

theorem blen_div {x s : Nat} (h : 2 ^ s ≤ x) : blen x = s + blen (x / 2 ^ s) := by
  have h1 : x / 2 ^ s ≠ 0 := by
    have := Nat.div_pos h (Nat.two_pow_pos s); omega
  have h2 := Nat.mod_add_div x (2 ^ s)
  have h3 := Nat.mod_lt x (Nat.two_pow_pos s)
  conv => lhs; rw [← h2]
  exact blen_split h3 h1

def lenTab : ByteArray := ⟨#[0, 1, 2, 2, 3, 3, 3, 3, 4, 4, 4, 4, 4, 4, 4, 4, 5, 5, 5, 5, 5, 5, 5, 5, 5, 5, 5, 5, 5, 5, 5, 5, 6, 6, 6, 6, 6, 6, 6, 6, 6, 6, 6, 6, 6, 6, 6, 6, 6, 6, 6, 6, 6, 6, 6, 6, 6, 6, 6, 6, 6, 6, 6, 6, 7, 7, 7, 7, 7, 7, 7, 7, 7, 7, 7, 7, 7, 7, 7, 7, 7, 7, 7, 7, 7, 7, 7, 7, 7, 7, 7, 7, 7, 7, 7, 7, 7, 7, 7, 7, 7, 7, 7, 7, 7, 7, 7, 7, 7, 7, 7, 7, 7, 7, 7, 7, 7, 7, 7, 7, 7, 7, 7, 7, 7, 7, 7, 7, 8, 8, 8, 8, 8, 8, 8, 8, 8, 8, 8, 8, 8, 8, 8, 8, 8, 8, 8, 8, 8, 8, 8, 8, 8, 8, 8, 8, 8, 8, 8, 8, 8, 8, 8, 8, 8, 8, 8, 8, 8, 8, 8, 8, 8, 8, 8, 8, 8, 8, 8, 8, 8, 8, 8, 8, 8, 8, 8, 8, 8, 8, 8, 8, 8, 8, 8, 8, 8, 8, 8, 8, 8, 8, 8, 8, 8, 8, 8, 8, 8, 8, 8, 8, 8, 8, 8, 8, 8, 8, 8, 8, 8, 8, 8, 8, 8, 8, 8, 8, 8, 8, 8, 8, 8, 8, 8, 8, 8, 8, 8, 8, 8, 8, 8, 8, 8, 8, 8, 8, 8, 8, 8, 8, 8, 8, 8, 8]⟩

theorem lenTab_at : ∀ y, y < 256 → lenTab[y]? = some (UInt8.ofNat (blen y)) := by decide +kernel

theorem ev_lenTab {k : IntKind} {a : Int} {y z : Nat} (ha : a = (y : Int)) (hy : y < 256) (hz : blen y = z) : evalO .sidx [.str lenTab, .int k a] = some (.int .u8 (z : Int)) := by
  subst ha hz
  have h8 : blen y ≤ 8 := blen_le.2 (by omega)
  have e : (UInt8.ofNat (blen y)).toNat = blen y := by
    rw [UInt8.toNat_ofNat']
    exact Nat.mod_eq_of_lt (by omega)
  simp only [evalO, Int.natCast_nonneg, if_true, Int.toNat_natCast, lenTab_at y hy, Option.map_some, e]

def Len32C (P : Program) (f : FuncId) : Prop := ∀ x : Nat, x < B32 → Ct P f [.int .u32 (x : Int)] (fun e => e = .ret (.int .i64 (blen x : Nat)))

def t_len32 : T :=
  .node (.op (.bin .geq) [.v 0, .c (.int .u32 65536)]) <| -- 1
  .br (.v 1) (
    .node (.op (.bin .shr) [.v 0, .c (.int .u64 16)]) <| -- 2
    .node (.op (.bin .geq) [.v 2, .c (.int .u32 256)]) <| -- 3
    .br (.v 3) (
      .node (.op (.bin .shr) [.v 2, .c (.int .u64 8)]) <| -- 4
      .node (.op (.cvt .u8) [.v 4]) <| -- 5
      .node (.op .sidx [.c (.str lenTab), .v 5]) <| -- 6
      .node (.op (.cvt .i64) [.v 6]) <| -- 7
      .node (.op (.bin .add) [.c (.int .i64 24), .v 7]) <| -- 8
      .ret (.v 8)) (
      .node (.op (.cvt .u8) [.v 2]) <| -- 4
      .node (.op .sidx [.c (.str lenTab), .v 4]) <| -- 5
      .node (.op (.cvt .i64) [.v 5]) <| -- 6
      .node (.op (.bin .add) [.c (.int .i64 16), .v 6]) <| -- 7
      .ret (.v 7))) (
    .node (.op (.bin .geq) [.v 0, .c (.int .u32 256)]) <| -- 2
    .br (.v 2) (
      .node (.op (.bin .shr) [.v 0, .c (.int .u64 8)]) <| -- 3
      .node (.op (.cvt .u8) [.v 3]) <| -- 4
      .node (.op .sidx [.c (.str lenTab), .v 4]) <| -- 5
      .node (.op (.cvt .i64) [.v 5]) <| -- 6
      .node (.op (.bin .add) [.c (.int .i64 8), .v 6]) <| -- 7
      .ret (.v 7)) (
      .node (.op (.cvt .u8) [.v 0]) <| -- 3
      .node (.op .sidx [.c (.str lenTab), .v 3]) <| -- 4
      .node (.op (.cvt .i64) [.v 4]) <| -- 5
      .node (.op (.bin .add) [.c (.int .i64 0), .v 5]) <| -- 6
      .ret (.v 6)))

theorem len32_den {x : Nat} (hx : x < B32) : D P (fun e => e = .ret (.int .i64 (blen x : Nat))) [] 1 [.int .u32 (x : Int)] t_len32 := by
  have hx : x < 4294967296 := hx
  refine d_op ev_geq (d_if rfl (fun h => ?_) (fun h => ?_))
  · have e1 : blen x = 16 + blen (x / 65536) := blen_div (s := 16) (by omega)
    have l1 : x / 65536 < 65536 := by omega
    refine d_op (ev_shr (y := 16) rfl (by decide) rfl) (d_op ev_geq (d_if rfl (fun h2 => ?_) (fun h2 => ?_)))
    · have e2 : blen (x / 65536) = 8 + blen (x / 65536 / 256) := blen_div (s := 8) (by omega)
      have h8 : blen (x / 65536 / 256) ≤ 8 := blen_le.2 (by omega)
      refine d_op (ev_shr (y := 8) rfl (by decide) rfl) (d_op (ev_cvt (by constructor <;> omega)) (d_op (ev_lenTab (y := x / 65536 / 256) rfl (by omega) rfl) (d_op (ev_cvt (by constructor <;> omega)) (d_op (ev_add (by constructor <;> omega)) (d_ret ?_)))))
      show AEnd.ret (.int .i64 _) = _
      congr 2; omega
    · have h8 : blen (x / 65536) ≤ 8 := blen_le.2 (by omega)
      refine d_op (ev_cvt (by constructor <;> omega)) (d_op (ev_lenTab (y := x / 65536) rfl (by omega) rfl) (d_op (ev_cvt (by constructor <;> omega)) (d_op (ev_add (by constructor <;> omega)) (d_ret ?_))))
      show AEnd.ret (.int .i64 _) = _
      congr 2; omega
  · refine d_op ev_geq (d_if rfl (fun h2 => ?_) (fun h2 => ?_))
    · have e2 : blen x = 8 + blen (x / 256) := blen_div (s := 8) (by omega)
      have h8 : blen (x / 256) ≤ 8 := blen_le.2 (by omega)
      refine d_op (ev_shr (y := 8) rfl (by decide) rfl) (d_op (ev_cvt (by constructor <;> omega)) (d_op (ev_lenTab (y := x / 256) rfl (by omega) rfl) (d_op (ev_cvt (by constructor <;> omega)) (d_op (ev_add (by constructor <;> omega)) (d_ret ?_)))))
      show AEnd.ret (.int .i64 _) = _
      congr 2; omega
    · have h8 : blen x ≤ 8 := blen_le.2 (by omega)
      refine d_op (ev_cvt (by constructor <;> omega)) (d_op (ev_lenTab (y := x) rfl (by omega) rfl) (d_op (ev_cvt (by constructor <;> omega)) (d_op (ev_add (by constructor <;> omega)) (d_ret ?_))))
      show AEnd.ret (.int .i64 _) = _
      congr 2; omega

def BitLenC (P : Program) (f : FuncId) : Prop := ∀ L, LtAll B32 L → L.length ≤ 35184372088832 → Ct P f [W L] (fun e => e = .ret (.int .i64 (blen (val B32 L) : Nat)))

def t_bitLen (trim len32 : FuncId) : T :=
  .node (.call trim [.v 0] true) <| -- 1
  .node (.op .len [.v 1]) <| -- 2
  .node (.op (.bin .eql) [.v 2, .c (.int .i64 0)]) <| -- 3
  .br (.v 3) (
    .ret (.c (.int .i64 0))) (
    .node (.op .len [.v 1]) <| -- 4
    .node (.op (.bin .sub) [.v 4, .c (.int .i64 1)]) <| -- 5
    .node (.op (.bin .mul) [.v 5, .c (.int .i64 32)]) <| -- 6
    .node (.op .len [.v 1]) <| -- 7
    .node (.op (.bin .sub) [.v 7, .c (.int .i64 1)]) <| -- 8
    .node (.op (.eaddr 1) [.v 1, .v 8]) <| -- 9
    .node (.op (.rld false 1) [.v 9]) <| -- 10
    .node (.call len32 [.v 10] true) <| -- 11
    .node (.op (.bin .add) [.v 6, .v 11]) <| -- 12
    .ret (.v 12))

theorem blen_top {M : List Nat} {x : Nat} (hM : LtAll B32 M) (hx : x ≠ 0) : blen (val B32 (M ++ [x])) = M.length * 32 + blen x := by
  rw [val_append]
  have e : B32 ^ M.length = 2 ^ (M.length * 32) := by
    show (2 ^ 32) ^ M.length = _
    rw [← Nat.pow_mul, Nat.mul_comm]
  have := val_lt (b := B32) (by decide) hM
  rw [e] at this ⊢
  rw [val_cons, val_nil, Nat.mul_zero, Nat.add_zero]
  exact blen_split this hx

theorem bitLen_den {trim len32 : FuncId} (ht : TrimC P trim) (h32 : Len32C P len32) (h : LtAll B32 L) (hl : L.length ≤ 35184372088832) : D P (fun e => e = .ret (.int .i64 (blen (val B32 L) : Nat))) [] 1 [W L] (t_bitLen trim len32) := by
  have h1 := nrm_len h
  rw [← nrm_val (L := L)]
  have h2 : NoTail (nrm L) := digs_noTail (by decide) _
  have h3 : LtAll B32 (nrm L) := nrm_lt
  refine d_call (ht L h hl) (fun _ => rfl) ?_
  refine d_op ev_len (d_op ev_eql (d_if rfl (fun h0 => ?_) (fun h0 => ?_)))
  · have : nrm L = [] := List.eq_nil_of_length_eq_zero (by omega)
    refine d_ret ?_
    show AEnd.ret (.int .i64 0) = _
    rw [this]; rfl
  · obtain ⟨M, x, hM⟩ := eq_append_getLast (L := nrm L) (by intro e; rw [e] at h0; simp at h0)
    rw [hM] at h1 h2 h3 h0 ⊢
    have hx : x ≠ 0 := by
      rcases h2 with h2 | h2
      · simp at h2
      · simpa using h2
    have hxl : x < 4294967296 := h3 x (by simp)
    have h32' : blen x ≤ 32 := blen_le.2 hxl
    simp only [List.length_append, List.length_singleton] at h1
    refine d_op ev_len ?_
    refine d_op (ev_sub (by simp; omega)) ?_
    refine d_op (ev_mul (by simp; omega)) ?_
    refine d_op ev_len ?_
    refine d_op (ev_sub (by simp; omega)) ?_
    refine d_op (ev_eaddrN (i := M.length) (by simp) (by simp)) ?_
    refine d_op (ev_rldN' (x := x) (by simp) (by simp)) ?_
    refine d_call (h32 x hxl) (fun _ => rfl) ?_
    refine d_op (ev_add (by simp; omega)) ?_
    refine d_ret ?_
    show AEnd.ret (.int .i64 _) = _
    rw [blen_top h3.left hx]
    congr 2
    simp

def LenC (P : Program) (f : FuncId) : Prop := BitLenC P f

/-! ### NatOrders -/

def t_natOrders (own cmp len plain refPlain same lives : FuncId) : T :=
  .node (.callH own [.val (.v 0)] [] (.mk false [.osl 0 1 true] 1)) <| -- 3
  .node (.op (.ext 0 true) [.v 3]) <| -- 4
  .node (.op (.ext 1 true) [.v 3]) <| -- 5
  .node (.op (.ext 2 true) [.v 3]) <| -- 6
  .node (.op (.ext 3 false) [.v 3]) <| -- 7
  .node (.op (.cvt .i64) [.v 2]) <| -- 8
  .node (.op (.bin .rem) [.v 8, .c (.int .i64 9)]) <| -- 9
  .node (.op (.lzero 4 [.int .u32 0]) [.v 9]) <| -- 10
  .node (.op (.lapp 1 4) [.v 7, .v 5, .v 10, .v 9]) <| -- 11
  .node (.op (.ofs 1) [.v 5, .v 9]) <| -- 12
  .node (.call own [.v 0] true) <| -- 13
  .node (.call own [.v 1] true) <| -- 14
  .node (.call cmp [.v 13, .v 14] true) <| -- 15
  .node (.call own [.v 1] true) <| -- 16
  .node (.call own [.v 0] true) <| -- 17
  .node (.call cmp [.v 16, .v 17] true) <| -- 18
  .node (.op (.un .neg) [.v 15]) <| -- 19
  .node (.op (.bin .neq) [.v 18, .v 19]) <| -- 20
  .br (.v 20) (
    .ret (.c (.bool false))) (
    .node (.call own [.v 1] true) <| -- 21
    .node (.op (.mksl 1) [.v 11, .c (.int .i64 0), .v 12]) <| -- 22
    .node (.call cmp [.v 22, .v 21] true) <| -- 23
    .node (.op (.bin .neq) [.v 23, .v 15]) <| -- 24
    .br (.v 24) (
      .ret (.c (.bool false))) (
      .node (.op (.mksl 1) [.v 11, .c (.int .i64 0), .v 12]) <| -- 25
      .node (.call len [.v 25] true) <| -- 26
      .node (.call own [.v 0] true) <| -- 27
      .node (.call len [.v 27] true) <| -- 28
      .node (.op (.bin .neq) [.v 26, .v 28]) <| -- 29
      .br (.v 29) (
        .ret (.c (.bool false))) (
        .node (.op (.mksl 1) [.v 11, .c (.int .i64 0), .v 12]) <| -- 30
        .node (.call plain [.v 30] true) <| -- 31
        .node (.call refPlain [.v 0] true) <| -- 32
        .node (.call same [.v 31, .v 32] true) <| -- 33
        .node (.op (.un .not) [.v 33]) <| -- 34
        .br (.v 34) (
          .ret (.c (.bool false))) (
          .node (.call own [.v 0] true) <| -- 35
          .node (.call len [.v 35] true) <| -- 36
          .node (.call own [.v 1] true) <| -- 37
          .node (.call len [.v 37] true) <| -- 38
          .node (.op (.bin .leq) [.v 36, .v 38]) <| -- 39
          .br (.v 39) (
            .node (.op (.bin .geq) [.v 36, .v 38]) <| -- 40
            .br (.v 40) (
              .node (.call lives [] true) <| -- 41
              .ret (.v 41)) (
              .node (.op (.bin .lss) [.v 15, .c (.int .i64 0)]) <| -- 41
              .br (.v 41) (
                .node (.call lives [] true) <| -- 42
                .ret (.v 42)) (
                .ret (.c (.bool false))))) (
            .node (.op (.bin .gtr) [.v 15, .c (.int .i64 0)]) <| -- 40
            .br (.v 40) (
              .node (.op (.bin .geq) [.v 36, .v 38]) <| -- 41
              .br (.v 41) (
                .node (.call lives [] true) <| -- 42
                .ret (.v 42)) (
                .node (.op (.bin .lss) [.v 15, .c (.int .i64 0)]) <| -- 42
                .br (.v 42) (
                  .node (.call lives [] true) <| -- 43
                  .ret (.v 43)) (
                  .ret (.c (.bool false))))) (
              .fail))))))

def LivesC (P : Program) (f : FuncId) : Prop := Ct P f [] (fun e => e = .ret (.bool true))

theorem cmpN_swap (a b : Nat) : cmpN b a = -cmpN a b := by unfold cmpN; split <;> split <;> (try split) <;> omega
theorem cmpN_range (a b : Nat) : -1 ≤ cmpN a b ∧ cmpN a b ≤ 1 := by unfold cmpN; split <;> (try split) <;> omega

theorem natOrders_den {own cmp len plain refPlain same lives : FuncId} (ho : OwnC P own) (hoh : OwnH P own) (hc : CompareC P cmp) (hn : BitLenC P len) (hp : PlainC P plain) (hr : PlainC P refPlain) (hs : SameC P same)
    (hv : LivesC P lives) {k : Nat} (hA : LtAll B32 A) (hB : LtAll B32 B) (hal : A.length ≤ 35184372087808) (hbl : B.length ≤ 35184372087808) (hk : k < 256) :
    D P (fun e => e = .ret (.bool true)) [] 3 [.int .u8 (k : Int), W B, W A] (t_natOrders own cmp len plain refPlain same lives) := by
  have hC : LtAll B32 (A ++ List.replicate (k % 9) 0) := hA.append (LtAll.replicate (by decide) _)
  have hcl : (A ++ List.replicate (k % 9) 0).length ≤ 35184372088832 := by simp; omega
  have hcv : val B32 (A ++ List.replicate (k % 9) 0) = val B32 A := val_append_zeros _
  have hcn : nrm (A ++ List.replicate (k % 9) 0) = nrm A := by unfold nrm; rw [hcv]
  have hr1 := cmpN_range (val B32 A) (val B32 B)
  have hrem : ((k : Int) % 9) = ((k % 9 : Nat) : Int) := rfl
  have hba := blen_mono (x := val B32 A) (y := val B32 B)
  have hab := blen_mono (x := val B32 B) (y := val B32 A)
  have own1 : ∀ {L : List Nat}, L.length ≤ 35184372087808 → Ct P own [W L] (fun e => e = .ret (W L)) := fun {L} h => ho L (by omega)
  refine d_callH (hoh A (by omega)) ?_
  refine d_op (ev_ext rfl (fun _ => rfl)) (d_op (ev_ext rfl (fun _ => rfl)) (d_op (ev_ext rfl (fun _ => rfl)) (d_op (ev_ext rfl (fun h => by cases h)) ?_)))
  refine d_op (ev_cvt (by constructor <;> omega)) ?_
  refine d_op (ev_rem (by omega) (by omega)) ?_
  refine d_op (ev_lzeroN (k := .u32) (n := k % 9) hrem (by omega)) ?_
  refine d_op (ev_lappN (M := List.replicate (k % 9) 0) rfl (by rw [List.length_replicate, hrem]) (by simp; omega)) ?_
  refine d_op (ev_ofs rfl hrem) ?_
  refine d_call (own1 hal) (fun _ => rfl) (d_call (own1 hbl) (fun _ => rfl) ?_)
  refine d_call (hc A B hA hB (by omega) (by omega)) (fun _ => rfl) ?_
  refine d_call (own1 hbl) (fun _ => rfl) (d_call (own1 hal) (fun _ => rfl) ?_)
  refine d_call (hc B A hB hA (by omega) (by omega)) (fun _ => rfl) ?_
  refine d_op (ev_neg (by constructor <;> omega)) ?_
  refine d_op ev_neq (d_if rfl (fun h => absurd (cmpN_swap _ _) h) (fun _ => ?_))
  have hmk : evalO (.mksl 1) [.lst (CN .u32 (A ++ List.replicate (k % 9) 0)), .int .i64 0, .int .i64 ((A.length + (k % 9) * 1 : Nat) : Int)] = some (W (A ++ List.replicate (k % 9) 0)) := ev_mkslN rfl (by simp)
  refine d_call (own1 hbl) (fun _ => rfl) ?_
  refine d_op hmk ?_
  refine d_call (hc _ B hC hB hcl (by omega)) (fun _ => rfl) ?_
  refine d_op ev_neq (d_if rfl (fun h => absurd (by rw [hcv]) h) (fun _ => ?_))
  refine d_op hmk ?_
  refine d_call (hn _ hC hcl) (fun _ => rfl) ?_
  refine d_call (own1 hal) (fun _ => rfl) ?_
  refine d_call (hn _ hA (by omega)) (fun _ => rfl) ?_
  refine d_op ev_neq (d_if rfl (fun h => absurd (by rw [hcv]) h) (fun _ => ?_))
  refine d_op hmk ?_
  refine d_call (hp _ hC hcl) (fun _ => rfl) ?_
  refine d_call (hr _ hA (by omega)) (fun _ => rfl) ?_
  refine d_call (hs _ _ (Nat.le_trans (nrm_len hC) hcl)) (fun _ => rfl) ?_
  refine d_op ev_not (d_br false (by rw [hcn]; show AV.bool (!decide _) = _; simp) (fun h => by cases h) (fun _ => ?_))
  refine d_call (own1 hal) (fun _ => rfl) ?_
  refine d_call (hn _ hA (by omega)) (fun _ => rfl) ?_
  refine d_call (own1 hbl) (fun _ => rfl) ?_
  refine d_call (hn _ hB (by omega)) (fun _ => rfl) ?_
  have big : ¬ ((blen (val B32 A) : Int) ≤ (blen (val B32 B) : Int)) → cmpN (val B32 A) (val B32 B) > 0 := fun h => by
    unfold cmpN; rw [if_neg (by omega), if_pos (by omega)]; decide
  have low : ¬ ((blen (val B32 A) : Int) ≥ (blen (val B32 B) : Int)) → cmpN (val B32 A) (val B32 B) < 0 := fun h => by
    unfold cmpN; rw [if_pos (by omega)]; decide
  refine d_op ev_leq (d_if rfl (fun h1 => ?_) (fun h1 => ?_))
  · refine d_op ev_geq (d_if rfl (fun h2 => d_call hv (fun _ => rfl) (d_ret rfl)) (fun h2 => ?_))
    exact d_op ev_lss (d_if rfl (fun _ => d_call hv (fun _ => rfl) (d_ret rfl)) (fun h => absurd (low h2) h))
  · refine d_op ev_gtr (d_if rfl (fun _ => ?_) (fun h => absurd (big h1) h))
    refine d_op ev_geq (d_if rfl (fun h2 => d_call hv (fun _ => rfl) (d_ret rfl)) (fun h2 => ?_))
    exact d_op ev_lss (d_if rfl (fun _ => d_call hv (fun _ => rfl) (d_ret rfl)) (fun h => absurd (low h2) h))

end Go.SE
