/- Nothing of the statement is proved here: this text lays generic laws: NE; no conditions. -/
import Derived.Test.YtdpcehjiicfpdaaND
set_option linter.all false
set_option autoImplicit false
set_option exponentiation.threshold 5000
namespace Go.SE
open Go
variable {P : Program} {R : AEnd → Prop} {L A B X Y : List Nat}
def SumC (P : Program) (f : FuncId) : Prop := ∀ X Y, LtAll 65536 X → LtAll 65536 Y → X.length ≤ 1099511627776 → Y.length ≤ 1099511627776 →
  Ct P f [SN .u64 X, SN .u64 Y] (fun e => e = .ret (SN .u64 (fdigs 65536 (max X.length Y.length + 1) (val 65536 X + val 65536 Y))))
def t_sum : T :=
 .loop [.c (.int .u64 0), .c (.int .i64 0), .c (.int .i64 0), .c (.int .i64 0), .c (.lst [])] [true, true, true, true, false] <|
 .node (.op .len [.v 0]) <|
 .node (.op (.bin .lss) [.v 5, .v 7]) <|
 .br (.v 8) (
 .node (.op .len [.v 0]) <|
 .node (.op (.bin .lss) [.v 5, .v 9]) <|
 .br (.v 10) (
 .node (.op (.eaddr 1) [.v 0, .v 5]) <|
 .node (.op (.rld false 1) [.v 11]) <|
 .node (.op (.bin .add) [.v 2, .v 12]) <|
 .node (.op .len [.v 1]) <|
 .node (.op (.bin .lss) [.v 5, .v 14]) <|
 .br (.v 15) (
 .node (.op (.eaddr 1) [.v 1, .v 5]) <|
 .node (.op (.rld false 1) [.v 16]) <|
 .node (.op (.bin .add) [.v 13, .v 17]) <|
 .node (.op (.bin .and) [.v 18, .c (.int .u64 65535)]) <|
 .node (.op .mklst [.v 19]) <|
 .node (.op (.lsl 1) [.v 20, .c (.int .i64 0), .c (.int .i64 1)]) <|
 .node (.op (.lapp 1 8) [.v 6, .v 3, .v 21, .c (.int .i64 1)]) <|
 .node (.op (.ofs 1) [.v 3, .c (.int .i64 1)]) <|
 .node (.op (.bin .shr) [.v 18, .c (.int .u64 16)]) <|
 .node (.op (.bin .add) [.v 5, .c (.int .i64 1)]) <|
 .back 0 [.v 24, .v 23, .v 23, .v 25, .v 22]) (
 .node (.op (.bin .and) [.v 13, .c (.int .u64 65535)]) <|
 .node (.op .mklst [.v 16]) <|
 .node (.op (.lsl 1) [.v 17, .c (.int .i64 0), .c (.int .i64 1)]) <|
 .node (.op (.lapp 1 8) [.v 6, .v 3, .v 18, .c (.int .i64 1)]) <|
 .node (.op (.ofs 1) [.v 3, .c (.int .i64 1)]) <|
 .node (.op (.bin .shr) [.v 13, .c (.int .u64 16)]) <|
 .node (.op (.bin .add) [.v 5, .c (.int .i64 1)]) <|
 .back 0 [.v 21, .v 20, .v 20, .v 22, .v 19])) (
 .node (.op .len [.v 1]) <|
 .node (.op (.bin .lss) [.v 5, .v 11]) <|
 .br (.v 12) (
 .node (.op (.eaddr 1) [.v 1, .v 5]) <|
 .node (.op (.rld false 1) [.v 13]) <|
 .node (.op (.bin .add) [.v 2, .v 14]) <|
 .node (.op (.bin .and) [.v 15, .c (.int .u64 65535)]) <|
 .node (.op .mklst [.v 16]) <|
 .node (.op (.lsl 1) [.v 17, .c (.int .i64 0), .c (.int .i64 1)]) <|
 .node (.op (.lapp 1 8) [.v 6, .v 3, .v 18, .c (.int .i64 1)]) <|
 .node (.op (.ofs 1) [.v 3, .c (.int .i64 1)]) <|
 .node (.op (.bin .shr) [.v 15, .c (.int .u64 16)]) <|
 .node (.op (.bin .add) [.v 5, .c (.int .i64 1)]) <|
 .back 0 [.v 21, .v 20, .v 20, .v 22, .v 19]) (
 .node (.op (.bin .and) [.v 2, .c (.int .u64 65535)]) <|
 .node (.op .mklst [.v 13]) <|
 .node (.op (.lsl 1) [.v 14, .c (.int .i64 0), .c (.int .i64 1)]) <|
 .node (.op (.lapp 1 8) [.v 6, .v 3, .v 15, .c (.int .i64 1)]) <|
 .node (.op (.ofs 1) [.v 3, .c (.int .i64 1)]) <|
 .node (.op (.bin .shr) [.v 2, .c (.int .u64 16)]) <|
 .node (.op (.bin .add) [.v 5, .c (.int .i64 1)]) <|
 .back 0 [.v 18, .v 17, .v 17, .v 19, .v 16]))) (
 .node (.op .len [.v 1]) <|
 .node (.op (.bin .lss) [.v 5, .v 9]) <|
 .br (.v 10) (
 .node (.op .len [.v 0]) <|
 .node (.op (.bin .lss) [.v 5, .v 11]) <|
 .br (.v 12) (
 .node (.op (.eaddr 1) [.v 0, .v 5]) <|
 .node (.op (.rld false 1) [.v 13]) <|
 .node (.op (.bin .add) [.v 2, .v 14]) <|
 .node (.op .len [.v 1]) <|
 .node (.op (.bin .lss) [.v 5, .v 16]) <|
 .br (.v 17) (
 .node (.op (.eaddr 1) [.v 1, .v 5]) <|
 .node (.op (.rld false 1) [.v 18]) <|
 .node (.op (.bin .add) [.v 15, .v 19]) <|
 .node (.op (.bin .and) [.v 20, .c (.int .u64 65535)]) <|
 .node (.op .mklst [.v 21]) <|
 .node (.op (.lsl 1) [.v 22, .c (.int .i64 0), .c (.int .i64 1)]) <|
 .node (.op (.lapp 1 8) [.v 6, .v 3, .v 23, .c (.int .i64 1)]) <|
 .node (.op (.ofs 1) [.v 3, .c (.int .i64 1)]) <|
 .node (.op (.bin .shr) [.v 20, .c (.int .u64 16)]) <|
 .node (.op (.bin .add) [.v 5, .c (.int .i64 1)]) <|
 .back 0 [.v 26, .v 25, .v 25, .v 27, .v 24]) (
 .node (.op (.bin .and) [.v 15, .c (.int .u64 65535)]) <|
 .node (.op .mklst [.v 18]) <|
 .node (.op (.lsl 1) [.v 19, .c (.int .i64 0), .c (.int .i64 1)]) <|
 .node (.op (.lapp 1 8) [.v 6, .v 3, .v 20, .c (.int .i64 1)]) <|
 .node (.op (.ofs 1) [.v 3, .c (.int .i64 1)]) <|
 .node (.op (.bin .shr) [.v 15, .c (.int .u64 16)]) <|
 .node (.op (.bin .add) [.v 5, .c (.int .i64 1)]) <|
 .back 0 [.v 23, .v 22, .v 22, .v 24, .v 21])) (
 .node (.op .len [.v 1]) <|
 .node (.op (.bin .lss) [.v 5, .v 13]) <|
 .br (.v 14) (
 .node (.op (.eaddr 1) [.v 1, .v 5]) <|
 .node (.op (.rld false 1) [.v 15]) <|
 .node (.op (.bin .add) [.v 2, .v 16]) <|
 .node (.op (.bin .and) [.v 17, .c (.int .u64 65535)]) <|
 .node (.op .mklst [.v 18]) <|
 .node (.op (.lsl 1) [.v 19, .c (.int .i64 0), .c (.int .i64 1)]) <|
 .node (.op (.lapp 1 8) [.v 6, .v 3, .v 20, .c (.int .i64 1)]) <|
 .node (.op (.ofs 1) [.v 3, .c (.int .i64 1)]) <|
 .node (.op (.bin .shr) [.v 17, .c (.int .u64 16)]) <|
 .node (.op (.bin .add) [.v 5, .c (.int .i64 1)]) <|
 .back 0 [.v 23, .v 22, .v 22, .v 24, .v 21]) (
 .node (.op (.bin .and) [.v 2, .c (.int .u64 65535)]) <|
 .node (.op .mklst [.v 15]) <|
 .node (.op (.lsl 1) [.v 16, .c (.int .i64 0), .c (.int .i64 1)]) <|
 .node (.op (.lapp 1 8) [.v 6, .v 3, .v 17, .c (.int .i64 1)]) <|
 .node (.op (.ofs 1) [.v 3, .c (.int .i64 1)]) <|
 .node (.op (.bin .shr) [.v 2, .c (.int .u64 16)]) <|
 .node (.op (.bin .add) [.v 5, .c (.int .i64 1)]) <|
 .back 0 [.v 20, .v 19, .v 19, .v 21, .v 18]))) (
 .node (.op .mklst [.v 2]) <|
 .node (.op (.lsl 1) [.v 11, .c (.int .i64 0), .c (.int .i64 1)]) <|
 .node (.op (.lapp 1 8) [.v 6, .v 3, .v 12, .c (.int .i64 1)]) <|
 .node (.op (.ofs 1) [.v 3, .c (.int .i64 1)]) <|
 .node (.op (.mksl 1) [.v 13, .c (.int .i64 0), .v 14]) <|
 .ret (.v 15)))
theorem sum_den (hX : LtAll 65536 X) (hY : LtAll 65536 Y) (hxl : X.length ≤ 1099511627776) (hyl : Y.length ≤ 1099511627776) :
    D P (fun e => e = .ret (SN .u64 (fdigs 65536 (max X.length Y.length + 1) (val 65536 X + val 65536 Y)))) [] 2 [SN .u64 Y, SN .u64 X] t_sum := by
  refine d_while (fun s : Nat × Nat × List Nat => [.int .u64 (s.1 : Int), .int .i64 (s.2.1 : Int), .int .i64 (s.2.1 : Int), .int .i64 (s.2.1 : Int), .lst (CN .u64 s.2.2)])
    (fun s => s.1 ≤ 1 ∧ s.2.1 ≤ max X.length Y.length ∧ s.2.2.length = s.2.1 ∧ LtAll 65536 s.2.2 ∧ val 65536 s.2.2 + 65536 ^ s.2.1 * s.1 = val 65536 (X.take s.2.1) + val 65536 (Y.take s.2.1)) (fun s => max X.length Y.length - s.2.1)
    (0, 0, []) ⟨by simp, by simp, rfl, LtAll.nil, by simp⟩ rfl ?_
  rintro ⟨c, i, O⟩ ⟨hc, hi, hol, hot, hov⟩
  dsimp only at hc hi hol hot hov ⊢
  have hx : X.getD i 0 < 65536 := hX.getD (by decide) i
  have hy : Y.getD i 0 < 65536 := hY.getD (by decide) i
  have step : ∀ {t : Nat}, t = X.getD i 0 + Y.getD i 0 + c → i < max X.length Y.length →
      (t / 2 ^ 16 ≤ 1 ∧ i + 1 ≤ max X.length Y.length ∧ (O ++ [t % 2 ^ 16]).length = i + 1 ∧ LtAll 65536 (O ++ [t % 2 ^ 16]) ∧
        val 65536 (O ++ [t % 2 ^ 16]) + 65536 ^ (i + 1) * (t / 2 ^ 16) = val 65536 (X.take (i + 1)) + val 65536 (Y.take (i + 1))) := fun {t} et hm => by
    subst et
    refine ⟨by show _ / 65536 ≤ 1; omega, by omega, by simp [hol], hot.append (LtAll.cons (Nat.mod_lt _ (by decide)) LtAll.nil), ?_⟩
    rw [val_append, hol, val_take_succ, val_take_succ, val_cons, val_nil, Nat.mul_zero, Nat.add_zero, show 65536 ^ (i + 1) = 65536 ^ i * 65536 from Nat.pow_succ ..]
    have := congrArg (65536 ^ i * ·) (Nat.mod_add_div (X.getD i 0 + Y.getD i 0 + c) 65536)
    simp only [Nat.mul_add] at this
    rw [Nat.mul_assoc]
    show _ + 65536 ^ i * (_ % 65536) + 65536 ^ i * (65536 * (_ / 65536)) = _
    omega
  refine d_op ev_len (d_op ev_lss (d_if rfl (fun h1 => ?_) (fun h1 => ?_)))
  · refine d_op ev_len (d_op ev_lss (d_if rfl (fun _ => ?_) (fun h => absurd h1 h)))
    refine d_op (ev_eaddrN (i := i) rfl (by omega)) (d_op (ev_rldN (by omega)) (d_op (ev_add (by constructor <;> omega)) ?_))
    refine d_op ev_len (d_op ev_lss (d_if rfl (fun h2 => ?_) (fun h2 => ?_)))
    · refine d_op (ev_eaddrN (i := i) rfl (by omega)) (d_op (ev_rldN (by omega)) (d_op (ev_add (by constructor <;> omega)) ?_))
      obtain ⟨t, et⟩ : ∃ t, t = X.getD i 0 + Y.getD i 0 + c := ⟨_, rfl⟩
      have e1 : (c : Int) + (X.getD i 0 : Int) + (Y.getD i 0 : Int) = (t : Int) := by omega
      rw [e1]
      refine d_op (ev_and (by constructor <;> omega) (y := 65535) (by decide)) ?_
      rw [Nat.and_two_pow_sub_one_eq_mod t 16]
      refine d_op (ev_mklst rfl) (d_op (ev_lslN (k := .u64) (L := [t % 2 ^ 16]) (o := 0) (n := 1) rfl rfl (by simp)) ?_)
      refine d_op (ev_lappN (k := .u64) (L := O) (M := [t % 2 ^ 16]) (by rw [hol]) rfl (by simp; omega)) ?_
      refine d_op (ev_ofs (n := 1) rfl rfl) (d_op (ev_shr (y := 16) rfl (by decide) rfl) (d_op (ev_add (by constructor <;> omega)) ?_))
      exact d_back rfl ⟨(t / 2 ^ 16, i + 1, O ++ [t % 2 ^ 16]), rfl, step et (by omega), by simp only; omega⟩
    · have hy0 : Y.getD i 0 = 0 := getD_ge (by omega)
      obtain ⟨t, et⟩ : ∃ t, t = X.getD i 0 + Y.getD i 0 + c := ⟨_, rfl⟩
      have e1 : (c : Int) + (X.getD i 0 : Int) = (t : Int) := by omega
      rw [e1]
      refine d_op (ev_and (by constructor <;> omega) (y := 65535) (by decide)) ?_
      rw [Nat.and_two_pow_sub_one_eq_mod t 16]
      refine d_op (ev_mklst rfl) (d_op (ev_lslN (k := .u64) (L := [t % 2 ^ 16]) (o := 0) (n := 1) rfl rfl (by simp)) ?_)
      refine d_op (ev_lappN (k := .u64) (L := O) (M := [t % 2 ^ 16]) (by rw [hol]) rfl (by simp; omega)) ?_
      refine d_op (ev_ofs (n := 1) rfl rfl) (d_op (ev_shr (y := 16) rfl (by decide) rfl) (d_op (ev_add (by constructor <;> omega)) ?_))
      exact d_back rfl ⟨(t / 2 ^ 16, i + 1, O ++ [t % 2 ^ 16]), rfl, step et (by omega), by simp only; omega⟩
  · refine d_op ev_len (d_op ev_lss (d_if rfl (fun h2 => ?_) (fun h2 => ?_)))
    · refine d_op ev_len (d_op ev_lss (d_if rfl (fun h => absurd h h1) (fun _ => ?_)))
      refine d_op ev_len (d_op ev_lss (d_if rfl (fun _ => ?_) (fun h => absurd h2 h)))
      refine d_op (ev_eaddrN (i := i) rfl (by omega)) (d_op (ev_rldN (by omega)) (d_op (ev_add (by constructor <;> omega)) ?_))
      have hx0 : X.getD i 0 = 0 := getD_ge (by omega)
      obtain ⟨t, et⟩ : ∃ t, t = X.getD i 0 + Y.getD i 0 + c := ⟨_, rfl⟩
      have e1 : (c : Int) + (Y.getD i 0 : Int) = (t : Int) := by omega
      rw [e1]
      refine d_op (ev_and (by constructor <;> omega) (y := 65535) (by decide)) ?_
      rw [Nat.and_two_pow_sub_one_eq_mod t 16]
      refine d_op (ev_mklst rfl) (d_op (ev_lslN (k := .u64) (L := [t % 2 ^ 16]) (o := 0) (n := 1) rfl rfl (by simp)) ?_)
      refine d_op (ev_lappN (k := .u64) (L := O) (M := [t % 2 ^ 16]) (by rw [hol]) rfl (by simp; omega)) ?_
      refine d_op (ev_ofs (n := 1) rfl rfl) (d_op (ev_shr (y := 16) rfl (by decide) rfl) (d_op (ev_add (by constructor <;> omega)) ?_))
      exact d_back rfl ⟨(t / 2 ^ 16, i + 1, O ++ [t % 2 ^ 16]), rfl, step et (by omega), by simp only; omega⟩
    · have him : i = max X.length Y.length := by omega
      refine d_op (ev_mklst rfl) (d_op (ev_lslN (k := .u64) (L := [c]) (o := 0) (n := 1) rfl rfl (by simp)) ?_)
      refine d_op (ev_lappN (k := .u64) (L := O) (M := [c]) (by rw [hol]) rfl (by simp; omega)) ?_
      refine d_op (ev_ofs (n := 1) rfl rfl) (d_op (ev_mkslN rfl (by simp [hol])) (d_ret ?_))
      show AEnd.ret (SN .u64 (O ++ [c])) = _
      rw [List.take_of_length_le (by omega), List.take_of_length_le (by omega)] at hov
      rw [eq_fdigs (b := 65536) (L := O ++ [c]) (k := max X.length Y.length + 1) (n := val 65536 X + val 65536 Y) (by decide) (hot.append (LtAll.cons (by omega) LtAll.nil)) (by simp [hol, him]) (by rw [val_append, hol, ← hov]; simp)]
end Go.SE
