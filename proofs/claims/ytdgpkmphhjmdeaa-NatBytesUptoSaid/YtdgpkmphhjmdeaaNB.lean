/- Nothing of the statement is proved here: this text lays generic laws: NB; no conditions. -/
import Derived.Test.YtdgpkmphhjmdeaaNA

set_option linter.all false
set_option autoImplicit false
set_option exponentiation.threshold 5000
namespace Go.SE
open Go

variable {P : Program} {R : AEnd → Prop} {L A B : List Nat}

/-! ### What is asked -/

def long (n : Nat) : Bool := decide (1024 < (digs B32 n).length)
def told (n : Nat) : List Nat × Int := if long n then ([], 2) else (digs B32 n, 0)
def addS (a b : Nat) : List Nat × Int := if long a || long b then ([], 2) else told (a + b)
def mulS (a b : Nat) : List Nat × Int := if long a || long b then ([], 2) else told (a * b)
def res (p : List Nat × Int) : AV := .tup [W p.1, .int .i64 p.2]
/-- numbers that may come in -/
def OkN (L : List Nat) : Prop := LtAll B32 L ∧ L.length ≤ 35184372088832

theorem long_len : long (val B32 L) = decide (1024 < (nrm L).length) := rfl
theorem long_false {n : Nat} (h : long n = false) : (digs B32 n).length ≤ 1024 := by simpa [long] using h
theorem long_pow {n : Nat} (h : long n = false) : n < B32 ^ 1024 := (digs_length_le (by decide)).1 (long_false h)

theorem Sub.res_nil {e : Int} : Sub (.tup [.nils, .int .i64 e]) (.tup [W [], .int .i64 e]) := Sub.tup ⟨Sub.nils_sl, Sub.refl _, trivial⟩

/-- whatever else, the answer reads so -/
theorem is_res {u : AV} {p : List Nat × Int} (h : Sub u (res p)) : Is (res p) (.ret u) := ⟨u, rfl, h⟩

def CheckC (P : Program) (f : FuncId) : Prop := ∀ Ls : List (List Nat), (∀ L ∈ Ls, OkN L) → Ls.length ≤ 8 → Ct P f [.sl (Ls.map W).length (Ls.map W)] (fun e => e = .ret (.int .i64 (if Ls.any fun L => long (val B32 L) then 2 else 0)))
def ToldC (P : Program) (f : FuncId) : Prop := ∀ L, OkN L → Ct P f [W L] (fun e => e = .ret (res (told (val B32 L))))
def Bin (P : Program) (f : FuncId) (s : Nat → Nat → List Nat × Int) : Prop := ∀ A B, OkN A → OkN B → Ct P f [W A, W B] (fun e => e = .ret (res (s (val B32 A) (val B32 B))))
def FewC (P : Program) (f : FuncId) : Prop := ∀ (A : List Nat) (n : Nat), A.length ≤ 35184372088832 → Ct P f [W A, .int .i64 (n : Int)] (fun e => e = .ret (W (A.take n)))

def t_check (trim : FuncId) : T :=
  .node (.op .len [.v 0]) <| -- 1
  .loop [.c (.int .i64 0)] [true] <| -- 2 to 2
    .node (.op (.bin .lss) [.v 2, .v 1]) <| -- 3
    .br (.v 3) (
      .node (.op (.eaddr 1) [.v 0, .v 2]) <| -- 4
      .node (.op (.rld false 1) [.v 4]) <| -- 5
      .node (.call trim [.v 5] true) <| -- 6
      .node (.op .len [.v 6]) <| -- 7
      .node (.op (.bin .gtr) [.v 7, .c (.int .i64 1024)]) <| -- 8
      .br (.v 8) (
        .ret (.c (.int .i64 2))) (
        .node (.op (.bin .add) [.v 2, .c (.int .i64 1)]) <| -- 9
        .back 0 [.v 9])) (
      .ret (.c (.int .i64 0)))
theorem check_den {trim : FuncId} (ht : TrimC P trim) {Ls : List (List Nat)} (h : ∀ L ∈ Ls, OkN L) (hl : Ls.length ≤ 8) :
    D P (fun e => e = .ret (.int .i64 (if Ls.any fun L => long (val B32 L) then 2 else 0))) [] 1 [.sl (Ls.map W).length (Ls.map W)] (t_check trim) := by
  refine d_op ev_len ?_
  refine d_while (fun i : Nat => [.int .i64 (i : Int)]) (fun i => i ≤ Ls.length ∧ ((Ls.take i).any fun L => long (val B32 L)) = false) (fun i => Ls.length - i) 0 ⟨Nat.zero_le _, rfl⟩ rfl ?_
  rintro i ⟨hi, ha⟩
  have hml : (Ls.map W).length = Ls.length := by simp
  refine d_op ev_lss (d_if rfl (fun h1 => ?_) (fun h1 => ?_))
  · have hil : i < Ls.length := by omega
    have hd : (Ls.map W).drop i = W Ls[i] :: (Ls.map W).drop (i + 1) := by
      rw [List.drop_eq_getElem_cons (by simpa using hil)]; simp
    have hok := h Ls[i] (List.getElem_mem hil)
    refine d_op (ev_eaddr1 rfl (by omega) rfl hd) (d_op (ev_rld1 rfl) ?_)
    refine d_call (ht _ hok.1 hok.2) (fun _ => rfl) ?_
    have hn := nrm_len hok.1
    have hok2 := hok.2
    refine d_op ev_len (d_op ev_gtr (d_if rfl (fun h2 => ?_) (fun h2 => ?_)))
    · refine d_ret ?_
      show AEnd.ret (.int .i64 2) = _
      have : (Ls.any fun L => long (val B32 L)) = true := List.any_eq_true.2 ⟨Ls[i], List.getElem_mem hil, by rw [long_len]; simp; omega⟩
      rw [if_pos this]
    · refine d_op (ev_add (by constructor <;> omega)) ?_
      refine d_back rfl ⟨i + 1, rfl, ⟨by omega, ?_⟩, by omega⟩
      rw [List.take_add_one, List.getElem?_eq_getElem hil, List.any_append, ha]
      simp only [Option.toList_some, List.any_cons, List.any_nil, Bool.or_false, Bool.false_or]
      rw [long_len]; simp; omega
  · have : i = Ls.length := by omega
    subst this
    rw [List.take_length] at ha
    refine d_ret ?_
    show AEnd.ret (.int .i64 0) = _
    rw [if_neg (by simp [ha])]

def t_clip : T :=
  .node (.op .len [.v 0]) <| -- 1
  .node (.op .len [.v 0]) <| -- 2
  .node (.op (.slc 1 false true true) [.v 0, .v 1, .v 2]) <| -- 3
  .ret (.v 3)
theorem clip_den : D P (Is (W L)) [] 1 [W L] t_clip := by
  refine d_op ev_len (d_op ev_len (d_op (ev_slc3 rfl rfl) (d_ret ⟨_, rfl, ?_⟩)))
  show Sub (if L.length = 0 then .c0 else W L) (W L)
  split
  · rename_i h
    have : L = [] := List.eq_nil_of_length_eq_zero h
    subst this
    exact Sub.c0_sl
  · exact Sub.refl _

def ClipC (P : Program) (f : FuncId) : Prop := ∀ L, Ct P f [W L] (fun e => e = .ret (W L))

def t_told (trim clip : FuncId) : T :=
  .node (.call trim [.v 0] true) <| -- 1
  .node (.op .len [.v 1]) <| -- 2
  .node (.op (.bin .gtr) [.v 2, .c (.int .i64 1024)]) <| -- 3
  .br (.v 3) (
    .ret (.c (.tup [.nils, .int .i64 2]))) (
    .node (.call clip [.v 1] true) <| -- 4
    .node (.op .mktup [.v 4, .c (.int .i64 0)]) <| -- 5
    .ret (.v 5))
theorem told_den {trim clip : FuncId} (ht : TrimC P trim) (hc : ClipC P clip) (h : OkN L) : D P (Is (res (told (val B32 L)))) [] 1 [W L] (t_told trim clip) := by
  refine d_call (ht L h.1 h.2) (fun _ => rfl) ?_
  refine d_op ev_len (d_op ev_gtr (d_if rfl (fun h1 => ?_) (fun h1 => ?_)))
  · refine d_ret (is_res ?_)
    have : told (val B32 L) = ([], 2) := by unfold told; rw [long_len, if_pos (by simp; omega)]
    rw [this]
    exact Sub.res_nil
  · refine d_call (hc _) (fun _ => rfl) (d_op ev_mktup (d_ret (is_res ?_)))
    have : told (val B32 L) = (nrm L, 0) := by unfold told; rw [long_len, if_neg (by simp; omega)]; rfl
    rw [this]
    exact Sub.refl _

def t_add32 : T :=
  .node (.op (.cvt .u64) [.v 0]) <| -- 3
  .node (.op (.cvt .u64) [.v 1]) <| -- 4
  .node (.op (.bin .add) [.v 3, .v 4]) <| -- 5
  .node (.op (.cvt .u64) [.v 2]) <| -- 6
  .node (.op (.bin .add) [.v 5, .v 6]) <| -- 7
  .node (.op (.cvt .u32) [.v 7]) <| -- 8
  .node (.op (.bin .shr) [.v 7, .c (.int .u64 32)]) <| -- 9
  .node (.op (.cvt .u32) [.v 9]) <| -- 10
  .node (.op .mktup [.v 8, .v 10]) <| -- 11
  .ret (.v 11)
def Add32C (P : Program) (f : FuncId) : Prop := ∀ x y c : Nat, x < B32 → y < B32 → c ≤ 1 →
  Ct P f [.int .u32 (x : Int), .int .u32 (y : Int), .int .u32 (c : Int)] (fun e => e = .ret (.tup [.int .u32 (((x + y + c) % B32 : Nat) : Int), .int .u32 (((x + y + c) / B32 : Nat) : Int)]))
theorem add32_den {x y c : Nat} (hx : x < B32) (hy : y < B32) (hc : c ≤ 1) :
    D P (fun e => e = .ret (.tup [.int .u32 (((x + y + c) % B32 : Nat) : Int), .int .u32 (((x + y + c) / B32 : Nat) : Int)])) [] 3 [.int .u32 (c : Int), .int .u32 (y : Int), .int .u32 (x : Int)] t_add32 := by
  have hx : x < 4294967296 := hx
  have hy : y < 4294967296 := hy
  refine d_op (ev_cvt (by constructor <;> omega)) (d_op (ev_cvt (by constructor <;> omega)) (d_op (ev_add (by constructor <;> omega)) (d_op (ev_cvt (by constructor <;> omega)) (d_op (ev_add (by constructor <;> omega)) ?_))))
  have e : ((x : Int) + (y : Int) + (c : Int)) = ((x + y + c : Nat) : Int) := by omega
  rw [e]
  refine d_op ev_cvtw (d_op (ev_shr (y := 32) rfl (by decide) rfl) (d_op (ev_cvt (by constructor <;> omega)) (d_op ev_mktup (d_ret ?_))))
  show AEnd.ret (.tup [.int .u32 (IntKind.u32.wrap ((x + y + c : Nat) : Int)), _]) = _
  rw [wrap_u rfl]
  rfl

def t_add (check trim add32 told : FuncId) : T :=
  .node (.op .mklst [.v 0, .v 1]) <| -- 2
  .node (.op (.mksl 1) [.v 2, .c (.int .i64 0), .c (.int .i64 2)]) <| -- 3
  .node (.call check [.v 3] true) <| -- 4
  .node (.op (.bin .neq) [.v 4, .c (.int .i64 0)]) <| -- 5
  .br (.v 5) (
    .node (.op .mktup [.c .nils, .v 4]) <| -- 6
    .ret (.v 6)) (
    .node (.call trim [.v 0] true) <| -- 6
    .node (.call trim [.v 1] true) <| -- 7
    .node (.op .len [.v 6]) <| -- 8
    .node (.op .len [.v 7]) <| -- 9
    .node (.op .mx2 [.v 8, .v 9]) <| -- 10
    .node (.op (.bin .add) [.v 10, .c (.int .i64 1)]) <| -- 11
    .node (.op (.chkmk 4) [.v 11, .v 11]) <| -- 12
    .node (.op (.lzero 4 [.int .u32 0]) [.v 11]) <| -- 13
    .node (.op .len [.v 6]) <| -- 14
    .node (.op (.s2l 1) [.v 6]) <| -- 15
    .node (.op .imin [.v 14, .v 11]) <| -- 16
    .node (.op (.lcpy 1) [.v 13, .c (.int .i64 0), .v 15, .v 16]) <| -- 17
    .loop [.c (.int .u32 0), .c (.int .i64 0), .v 17] [true, true, false] <| -- 18 to 20
      .node (.op (.bin .lss) [.v 19, .v 11]) <| -- 21
      .br (.v 21) (
        .node (.op .len [.v 7]) <| -- 22
        .node (.op (.bin .lss) [.v 19, .v 22]) <| -- 23
        .br (.v 23) (
          .node (.op (.eaddr 1) [.v 7, .v 19]) <| -- 24
          .node (.op (.rld false 1) [.v 24]) <| -- 25
          .node (.op .chki [.v 19, .v 11]) <| -- 26
          .node (.op (.ofs 1) [.c (.int .i64 0), .v 19]) <| -- 27
          .node (.op (.lget false 1) [.v 20, .v 27]) <| -- 28
          .node (.call add32 [.v 28, .v 25, .v 18] false) <| -- 29
          .node (.op (.ext 0 true) [.v 29]) <| -- 30
          .node (.op (.ext 1 true) [.v 29]) <| -- 31
          .node (.op .chki [.v 19, .v 11]) <| -- 32
          .node (.op (.ofs 1) [.c (.int .i64 0), .v 19]) <| -- 33
          .node (.op .lset [.v 20, .v 33, .v 30]) <| -- 34
          .node (.op (.bin .add) [.v 19, .c (.int .i64 1)]) <| -- 35
          .back 0 [.v 31, .v 35, .v 34]) (
          .node (.op .chki [.v 19, .v 11]) <| -- 24
          .node (.op (.ofs 1) [.c (.int .i64 0), .v 19]) <| -- 25
          .node (.op (.lget false 1) [.v 20, .v 25]) <| -- 26
          .node (.call add32 [.v 26, .c (.int .u32 0), .v 18] false) <| -- 27
          .node (.op (.ext 0 true) [.v 27]) <| -- 28
          .node (.op (.ext 1 true) [.v 27]) <| -- 29
          .node (.op .chki [.v 19, .v 11]) <| -- 30
          .node (.op (.ofs 1) [.c (.int .i64 0), .v 19]) <| -- 31
          .node (.op .lset [.v 20, .v 31, .v 28]) <| -- 32
          .node (.op (.bin .add) [.v 19, .c (.int .i64 1)]) <| -- 33
          .back 0 [.v 29, .v 33, .v 32])) (
        .node (.op (.mksl 1) [.v 20, .c (.int .i64 0), .v 11]) <| -- 22
        .node (.call told [.v 22] false) <| -- 23
        .node (.op (.ext 0 true) [.v 23]) <| -- 24
        .node (.op (.ext 1 true) [.v 23]) <| -- 25
        .node (.op .mktup [.v 24, .v 25]) <| -- 26
        .ret (.v 26)))
theorem add_den {check trim add32 tl : FuncId} (hch : CheckC P check) (ht : TrimC P trim) (h32 : Add32C P add32) (htl : ToldC P tl) (hA : OkN A) (hB : OkN B) :
    D P (Is (res (addS (val B32 A) (val B32 B)))) [] 2 [W B, W A] (t_add check trim add32 tl) := by
  refine d_op (ev_mklst rfl) (d_op (ev_mksl1 rfl rfl) ?_)
  refine d_call (hch [A, B] (by simp [hA, hB]) (by simp)) (fun _ => rfl) ?_
  refine d_op ev_neq (d_if rfl (fun h => ?_) (fun h => ?_))
  · refine d_op ev_mktup (d_ret (is_res ?_))
    have hl : (long (val B32 A) || long (val B32 B)) = true := by
      cases hh : (long (val B32 A) || long (val B32 B)) with
      | true => rfl
      | false => exfalso; apply h; simp [List.any, hh]
    have : addS (val B32 A) (val B32 B) = ([], 2) := by unfold addS; rw [if_pos hl]
    rw [this]
    show Sub (.tup [.nils, .int .i64 (if (long (val B32 A) || (long (val B32 B) || false)) = true then 2 else 0)]) _
    rw [Bool.or_false, if_pos hl]
    exact Sub.res_nil
  · have hl : (long (val B32 A) || long (val B32 B)) = false := by
      cases hh : (long (val B32 A) || long (val B32 B)) with
      | false => rfl
      | true => exfalso; apply h; simp [List.any, hh]
    have hl0 := Bool.or_eq_false_iff.1 hl
    have lX : (nrm A).length ≤ 1024 := long_false hl0.1
    have lY : (nrm B).length ≤ 1024 := long_false hl0.2
    refine d_call (ht A hA.1 hA.2) (fun _ => rfl) (d_call (ht B hB.1 hB.2) (fun _ => rfl) ?_)
    obtain ⟨X, hX⟩ : ∃ X, X = nrm A := ⟨_, rfl⟩
    obtain ⟨Y, hY⟩ : ∃ Y, Y = nrm B := ⟨_, rfl⟩
    have vX : val B32 A = val B32 X := by rw [hX, nrm_val]
    have vY : val B32 B = val B32 Y := by rw [hY, nrm_val]
    have tX : LtAll B32 X := hX ▸ nrm_lt
    have tY : LtAll B32 Y := hY ▸ nrm_lt
    rw [← hX] at lX ⊢
    rw [← hY] at lY ⊢
    have hadd : addS (val B32 A) (val B32 B) = told (val B32 X + val B32 Y) := by unfold addS; rw [if_neg (by simp [hl]), vX, vY]
    rw [hadd]
    obtain ⟨n, hn⟩ : ∃ n, n = max X.length Y.length + 1 := ⟨_, rfl⟩
    have hmx : max (X.length : Int) (Y.length : Int) + 1 = (n : Int) := by omega
    refine d_op ev_len (d_op ev_len (d_op ev_mx2 (d_op (ev_add (by constructor <;> omega)) ?_)))
    rw [hmx]
    refine d_op (ev_chkmk rfl rfl (Nat.le_refl _) (by omega)) (d_op (ev_lzeroN (k := .u32) (n := n) rfl (by omega)) ?_)
    refine d_op ev_len (d_op ev_s2lN (d_op (ev_imin rfl rfl) ?_))
    refine d_op (ev_lcpyN (o := 0) (n := X.length) rfl (by omega) (by simp; omega) (Nat.le_refl _)) ?_
    have hO : (List.replicate n 0).take 0 ++ X.take X.length ++ (List.replicate n 0).drop (0 + X.length) = X ++ List.replicate (n - X.length) 0 := by simp
    rw [hO]
    refine d_while (fun s : Nat × Nat × List Nat => [.int .u32 (s.1 : Int), .int .i64 (s.2.1 : Int), .lst (CN .u32 s.2.2)])
      (fun s => s.1 ≤ 1 ∧ s.2.1 ≤ n ∧ s.2.2.length = n ∧ LtAll B32 s.2.2 ∧ val B32 s.2.2 + B32 ^ s.2.1 * s.1 = val B32 X + val B32 (Y.take s.2.1)) (fun s => n - s.2.1)
      (0, 0, X ++ List.replicate (n - X.length) 0) ⟨by simp, by simp, by simp; omega, tX.append (LtAll.replicate (by decide) _), by simp [val_append_zeros]⟩ rfl ?_
    rintro ⟨c, i, O⟩ ⟨hc, hi, hol, hot, hov⟩
    dsimp only at hc hi hol hot hov ⊢
    refine d_op ev_lss (d_if rfl (fun h1 => ?_) (fun h1 => ?_))
    · have hio : i < n := by omega
      have ho := hot.getD (by decide) i
      have hy := tY.getD (by decide) i
      have step : ∀ {O' : List Nat} {c' : Nat}, O' = O.set i ((O.getD i 0 + Y.getD i 0 + c) % B32) → c' = (O.getD i 0 + Y.getD i 0 + c) / B32 →
          (c' ≤ 1 ∧ i + 1 ≤ n ∧ O'.length = n ∧ LtAll B32 O' ∧ val B32 O' + B32 ^ (i + 1) * c' = val B32 X + val B32 (Y.take (i + 1))) := fun {O' c'} e1 e2 => by
        subst e1; subst e2
        have hoo : O.getD i 0 < 4294967296 := ho
        have hyy : Y.getD i 0 < 4294967296 := hy
        refine ⟨by show _ / 4294967296 ≤ 1; omega, by omega, by simp [hol], hot.set (Nat.mod_lt _ (by decide)) i, ?_⟩
        rw [val_take_succ, Nat.pow_succ]
        exact place_step (val_set (by omega) _) (Nat.mod_add_div _ _) hov
      have hq : (O.getD i 0 + Y.getD i 0 + c) / B32 ≤ 1 := by
        have hoo : O.getD i 0 < 4294967296 := ho
        have hyy : Y.getD i 0 < 4294967296 := hy
        show _ / 4294967296 ≤ 1; omega
      refine d_op ev_len (d_op ev_lss (d_if rfl (fun h2 => ?_) (fun h2 => ?_)))
      · refine d_op (ev_eaddrN (i := i) rfl (by omega)) (d_op (ev_rldN (by omega)) ?_)
        refine d_op (ev_chki (by omega) (by omega) rfl) (d_op (ev_ofs (o := 0) rfl rfl) (d_op (ev_lgetN (i := i) (by simp) (by omega)) ?_))
        refine d_call (h32 _ _ _ ho hy hc) (fun h => by cases h) ?_
        refine d_op (ev_ext rfl (fun _ => rfl)) (d_op (ev_ext rfl (fun _ => rfl)) ?_)
        refine d_op (ev_chki (by omega) (by omega) rfl) (d_op (ev_ofs (o := 0) rfl rfl) (d_op (ev_lsetN (i := i) (by simp) (by omega) rfl) ?_))
        refine d_op (ev_add (by constructor <;> omega)) ?_
        exact d_back rfl ⟨(_, i + 1, _), rfl, step rfl rfl, by simp only; omega⟩
      · have hy0 : Y.getD i 0 = 0 := getD_ge (by omega)
        refine d_op (ev_chki (by omega) (by omega) rfl) (d_op (ev_ofs (o := 0) rfl rfl) (d_op (ev_lgetN (i := i) (by simp) (by omega)) ?_))
        refine d_call (h32 _ 0 _ ho (by decide) hc) (fun h => by cases h) ?_
        refine d_op (ev_ext rfl (fun _ => rfl)) (d_op (ev_ext rfl (fun _ => rfl)) ?_)
        refine d_op (ev_chki (by omega) (by omega) rfl) (d_op (ev_ofs (o := 0) rfl rfl) (d_op (ev_lsetN (i := i) (by simp) (by omega) rfl) ?_))
        refine d_op (ev_add (by constructor <;> omega)) ?_
        exact d_back rfl ⟨(_, i + 1, _), rfl, step (by rw [hy0]) (by rw [hy0]), by simp only; omega⟩
    · have : i = n := by omega
      subst this
      have bX := val_lt (b := B32) (by decide) tX
      have bY := val_lt (b := B32) (by decide) tY
      have pX : B32 ^ X.length ≤ B32 ^ (i - 1) := Nat.pow_le_pow_right (by decide) (by omega)
      have pY : B32 ^ Y.length ≤ B32 ^ (i - 1) := Nat.pow_le_pow_right (by decide) (by omega)
      have pi : B32 ^ i = B32 ^ (i - 1) * B32 := by rw [← Nat.pow_succ]; congr 1; omega
      have hc0 : c = 0 := by
        rcases Nat.eq_zero_or_pos c with h0 | h0
        · exact h0
        · exfalso
          have h3 : B32 ^ i * 1 ≤ B32 ^ i * c := Nat.mul_le_mul_left _ h0
          rw [List.take_of_length_le (by omega)] at hov
          have h4 : B32 ^ (i - 1) * 2 ≤ B32 ^ (i - 1) * B32 := Nat.mul_le_mul_left _ (by decide)
          omega
      subst hc0
      rw [List.take_of_length_le (by omega), Nat.mul_zero, Nat.add_zero] at hov
      refine d_op (ev_mkslN rfl (by rw [hol])) ?_
      refine d_call (htl O ⟨hot, by omega⟩) (fun h => by cases h) ?_
      rw [hov]
      exact d_op (ev_ext rfl (fun _ => rfl)) (d_op (ev_ext rfl (fun _ => rfl)) (d_op ev_mktup (d_ret (is_res (Sub.refl _)))))

end Go.SE
