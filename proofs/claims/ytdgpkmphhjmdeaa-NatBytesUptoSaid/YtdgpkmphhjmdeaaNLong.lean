/- Nothing of the statement is proved here: this text lays generic laws: NLong; no conditions. -/
import Derived.Test.YtdgpkmphhjmdeaaNF

set_option linter.all false
set_option autoImplicit false
set_option exponentiation.threshold 5000
namespace Go.SE
open Go

variable {P : Program} {R : AEnd → Prop} {L A B X Y : List Nat}

def t_checkOne (check : FuncId) : T :=
  .node (.op .mklst [.v 0]) <| -- 1
  .node (.op (.mksl 1) [.v 1, .c (.int .i64 0), .c (.int .i64 1)]) <| -- 2
  .node (.call check [.v 2] true) <| -- 3
  .ret (.v 3)
theorem checkOne_den {check : FuncId} (hc : CheckC P check) (h : OkN L) : D P (fun e => e = .ret (.int .i64 (if long (val B32 L) then 2 else 0))) [] 1 [W L] (t_checkOne check) := by
  refine d_op (ev_mklst rfl) (d_op (ev_mksl1 rfl rfl) (d_call (hc [L] (by simp [h]) (by simp)) (fun _ => rfl) (d_ret ?_)))
  show AEnd.ret (.int .i64 (if (long (val B32 L) || false) = true then 2 else 0)) = _
  rw [Bool.or_false]

def t_natLong (own add radd mul rmul same chk rcheck plain rplain len rlen lives : FuncId) : T :=
  .node (.op (.cvt .i64) [.v 0]) <| -- 3
  .node (.op (.bin .rem) [.v 3, .c (.int .i64 1100)]) <| -- 4
  .node (.op (.bin .add) [.c (.int .i64 1), .v 4]) <| -- 5
  .node (.op (.chkmk 4) [.v 5, .v 5]) <| -- 6
  .node (.op (.lzero 4 [.int .u32 0]) [.v 5]) <| -- 7
  .node (.op (.bin .sub) [.v 5, .c (.int .i64 1)]) <| -- 8
  .node (.op .chki [.c (.int .i64 0), .v 5]) <| -- 9
  .node (.op .lset [.v 7, .c (.int .i64 0), .v 1]) <| -- 10
  .node (.op .chki [.v 8, .v 5]) <| -- 11
  .node (.op (.ofs 1) [.c (.int .i64 0), .v 8]) <| -- 12
  .node (.op .lset [.v 10, .v 12, .v 2]) <| -- 13
  .node (.op (.mksl 1) [.v 13, .c (.int .i64 0), .v 5]) <| -- 14
  .node (.call own [.v 14] true) <| -- 15
  .node (.call add [.v 15, .c (.sl 1 [.int .u32 1])] false) <| -- 16
  .node (.op (.ext 0 true) [.v 16]) <| -- 17
  .node (.op (.ext 1 true) [.v 16]) <| -- 18
  .node (.op (.mksl 1) [.v 13, .c (.int .i64 0), .v 5]) <| -- 19
  .node (.call radd [.v 19, .c (.sl 1 [.int .u32 1])] false) <| -- 20
  .node (.op (.ext 0 true) [.v 20]) <| -- 21
  .node (.op (.ext 1 true) [.v 20]) <| -- 22
  .node (.op (.mksl 1) [.v 13, .c (.int .i64 0), .v 5]) <| -- 23
  .node (.call own [.v 23] true) <| -- 24
  .node (.call mul [.v 24, .c (.sl 2 [.int .u32 0, .int .u32 1])] false) <| -- 25
  .node (.op (.ext 0 true) [.v 25]) <| -- 26
  .node (.op (.ext 1 true) [.v 25]) <| -- 27
  .node (.op (.mksl 1) [.v 13, .c (.int .i64 0), .v 5]) <| -- 28
  .node (.call rmul [.v 28, .c (.sl 2 [.int .u32 0, .int .u32 1])] false) <| -- 29
  .node (.op (.ext 0 true) [.v 29]) <| -- 30
  .node (.op (.ext 1 true) [.v 29]) <| -- 31
  .node (.call same [.v 17, .v 21] true) <| -- 32
  .br (.v 32) (
    .node (.op (.bin .eql) [.v 18, .v 22]) <| -- 33
    .br (.v 33) (
      .node (.call same [.v 26, .v 30] true) <| -- 34
      .br (.v 34) (
        .node (.op (.bin .eql) [.v 27, .v 31]) <| -- 35
        .br (.v 35) (
          .node (.op (.mksl 1) [.v 13, .c (.int .i64 0), .v 5]) <| -- 36
          .node (.call own [.v 36] true) <| -- 37
          .node (.call chk [.v 37] true) <| -- 38
          .node (.op (.mksl 1) [.v 13, .c (.int .i64 0), .v 5]) <| -- 39
          .node (.call rcheck [.v 39] true) <| -- 40
          .node (.op (.bin .eql) [.v 38, .v 40]) <| -- 41
          .br (.v 41) (
            .node (.op (.mksl 1) [.v 13, .c (.int .i64 0), .v 5]) <| -- 42
            .node (.call own [.v 42] true) <| -- 43
            .node (.call plain [.v 43] true) <| -- 44
            .node (.op (.mksl 1) [.v 13, .c (.int .i64 0), .v 5]) <| -- 45
            .node (.call rplain [.v 45] true) <| -- 46
            .node (.call same [.v 44, .v 46] true) <| -- 47
            .br (.v 47) (
              .node (.op (.mksl 1) [.v 13, .c (.int .i64 0), .v 5]) <| -- 48
              .node (.call own [.v 48] true) <| -- 49
              .node (.call len [.v 49] true) <| -- 50
              .node (.op (.mksl 1) [.v 13, .c (.int .i64 0), .v 5]) <| -- 51
              .node (.call rlen [.v 51] true) <| -- 52
              .node (.op (.bin .eql) [.v 50, .v 52]) <| -- 53
              .br (.v 53) (
                .node (.call lives [] true) <| -- 54
                .ret (.v 54)) (
                .ret (.c (.bool false)))) (
              .ret (.c (.bool false)))) (
            .ret (.c (.bool false)))) (
          .ret (.c (.bool false)))) (
        .ret (.c (.bool false)))) (
      .ret (.c (.bool false)))) (
    .ret (.c (.bool false)))
theorem natLong_den {own add radd mul rmul same chk rcheck plain rplain len rlen lives : FuncId} (ho : OwnC P own) (ha : Bin P add addS) (hra : Bin P radd addS) (hm : Bin P mul mulS) (hrm : Bin P rmul mulS)
    (hs : SameC P same) (hc : RCheckC P chk) (hrc : RCheckC P rcheck) (hp : PlainC P plain) (hrp : PlainC P rplain) (hl : BitLenC P len) (hrl : BitLenC P rlen) (hv : LivesC P lives)
    {n low high : Nat} (hn : n < 65536) (h1 : low < B32) (h2 : high < B32) :
    D P (fun e => e = .ret (.bool true)) [] 3 [.int .u32 (high : Int), .int .u32 (low : Int), .int .u16 (n : Int)] (t_natLong own add radd mul rmul same chk rcheck plain rplain len rlen lives) := by
  obtain ⟨m, em⟩ : ∃ m, m = 1 + n % 1100 := ⟨_, rfl⟩
  have e1 : (1 : Int) + (n : Int) % 1100 = (m : Int) := by omega
  have e2 : (m : Int) - 1 = ((m - 1 : Nat) : Int) := by omega
  refine d_op (ev_cvt (by constructor <;> omega)) (d_op (ev_rem (by omega) (by omega)) (d_op (ev_add (by constructor <;> omega)) ?_))
  rw [e1]
  refine d_op (ev_chkmk rfl rfl (Nat.le_refl _) (by omega)) (d_op (ev_lzeroN (k := .u32) (n := m) rfl (by omega)) (d_op (ev_sub (by constructor <;> omega)) ?_))
  rw [e2]
  refine d_op (ev_chki (by omega) (by omega) rfl) (d_op (ev_lsetN (i := 0) rfl (by simp; omega) rfl) ?_)
  refine d_op (ev_chki (by omega) (by omega) rfl) (d_op (ev_ofs (o := 0) rfl rfl) (d_op (ev_lsetN (i := m - 1) (by simp) (by simp; omega) rfl) ?_))
  have hok : OkN (((List.replicate m 0).set 0 low).set (m - 1) high) := ⟨((LtAll.replicate (by decide) m).set h1 0).set h2 _, by simp; omega⟩
  have hmk : ∀ {a : Int}, a = (m : Int) → evalO (.mksl 1) [.lst (CN .u32 (((List.replicate m 0).set 0 low).set (m - 1) high)), .int .i64 0, .int .i64 a] = some (W (((List.replicate m 0).set 0 low).set (m - 1) high)) := fun {a} e => ev_mkslN rfl (by rw [e]; simp)
  generalize ((List.replicate m 0).set 0 low).set (m - 1) high = A at *
  have o1 : OkN [1] := ⟨fun x hx => by simp at hx; show x < 4294967296; omega, by simp⟩
  have o2 : OkN [0, 1] := ⟨fun x hx => by simp at hx; show x < 4294967296; omega, by simp⟩
  have own1 : Ct P own [W A] (fun e => e = .ret (W A)) := ho A hok.2
  have len1 : ∀ n, (told n).1.length ≤ 1024 := fun n => by
    unfold told
    split
    · simp
    · rename_i h; exact long_false (by simpa using h)
  have lenS : (addS (val B32 A) (val B32 [1])).1.length ≤ 35184372088832 := by
    unfold addS
    split
    · simp
    · exact Nat.le_trans (len1 _) (by decide)
  have lenM : (mulS (val B32 A) (val B32 [0, 1])).1.length ≤ 35184372088832 := by
    unfold mulS
    split
    · simp
    · exact Nat.le_trans (len1 _) (by decide)
  have yes : ∀ {Q : Prop} [Decidable Q], Q → ∀ {a : Atom} {t e : T} {k : Nat} {ρ : List AV}, a.at k ρ = .bool (decide Q) → D P (fun e => e = .ret (.bool true)) [] k ρ t → D P (fun e => e = .ret (.bool true)) [] k ρ (.br a t e) :=
    fun hQ => fun h ht => d_if h (fun _ => ht) (fun hn => absurd hQ hn)
  refine d_op (hmk rfl) (d_call own1 (fun _ => rfl) (d_call (ha A [1] hok o1) (fun h => by cases h) (d_op (ev_ext rfl (fun _ => rfl)) (d_op (ev_ext rfl (fun _ => rfl)) ?_))))
  refine d_op (hmk rfl) (d_call (hra A [1] hok o1) (fun h => by cases h) (d_op (ev_ext rfl (fun _ => rfl)) (d_op (ev_ext rfl (fun _ => rfl)) ?_)))
  refine d_op (hmk rfl) (d_call own1 (fun _ => rfl) (d_call (hm A [0, 1] hok o2) (fun h => by cases h) (d_op (ev_ext rfl (fun _ => rfl)) (d_op (ev_ext rfl (fun _ => rfl)) ?_))))
  refine d_op (hmk rfl) (d_call (hrm A [0, 1] hok o2) (fun h => by cases h) (d_op (ev_ext rfl (fun _ => rfl)) (d_op (ev_ext rfl (fun _ => rfl)) ?_)))
  refine d_call (hs _ _ lenS) (fun _ => rfl) (yes rfl rfl (d_op ev_eql (yes rfl rfl (d_call (hs _ _ lenM) (fun _ => rfl) (yes rfl rfl (d_op ev_eql (yes rfl rfl ?_)))))))
  refine d_op (hmk rfl) (d_call own1 (fun _ => rfl) (d_call (hc A hok) (fun _ => rfl) (d_op (hmk rfl) (d_call (hrc A hok) (fun _ => rfl) (d_op ev_eql (yes rfl rfl ?_))))))
  refine d_op (hmk rfl) (d_call own1 (fun _ => rfl) (d_call (hp A hok.1 hok.2) (fun _ => rfl) (d_op (hmk rfl) (d_call (hrp A hok.1 hok.2) (fun _ => rfl) (d_call (hs _ _ (Nat.le_trans (nrm_len hok.1) hok.2)) (fun _ => rfl) (yes rfl rfl ?_))))))
  refine d_op (hmk rfl) (d_call own1 (fun _ => rfl) (d_call (hl A hok.1 hok.2) (fun _ => rfl) (d_op (hmk rfl) (d_call (hrl A hok.1 hok.2) (fun _ => rfl) (d_op ev_eql (yes rfl rfl ?_))))))
  exact d_call hv (fun _ => rfl) (d_ret rfl)

end Go.SE
