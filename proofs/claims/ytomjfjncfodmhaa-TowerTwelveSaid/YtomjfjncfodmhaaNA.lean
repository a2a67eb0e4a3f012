/- Nothing of the statement is proved here: this text lays generic laws: NA; no conditions. -/
import Derived.Test.YtomjfjncfodmhaaSe6
set_option linter.all false
set_option autoImplicit false
namespace Go.SE
open Go
abbrev B32 : Nat := 4294967296
abbrev W (L : List Nat) : AV := SN .u32 L
def nrm (L : List Nat) : List Nat := digs B32 (val B32 L)
variable {P : Program} {R : AEnd → Prop} {L A B : List Nat}
theorem nrm_len (h : LtAll B32 L) : (nrm L).length ≤ L.length := digs_val_length (by decide) h
def TrimC (P : Program) (f : FuncId) : Prop := ∀ L, LtAll B32 L → L.length ≤ 35184372088832 → Ct P f [W L] (fun e => e = .ret (W (nrm L)))
def cmpN (a b : Nat) : Int := if a < b then -1 else if b < a then 1 else 0
def NanC (P : Program) (f : FuncId) (k : IntKind) : Prop := ∀ x : Nat, Ct P f [.int k (x : Int)] (fun e => e = .ret (.bool false))
def CmpC (P : Program) (f : FuncId) (k : IntKind) : Prop := ∀ x y : Nat, Ct P f [.int k (x : Int), .int k (y : Int)] (fun e => e = .ret (.int .i64 (cmpN x y)))
def t_nan : T :=
 .node (.op (.bin .neq) [.v 0, .v 0]) <|
 .ret (.v 1)
theorem nan_den {k : IntKind} {x : Nat} : D P (fun e => e = .ret (.bool false)) [] 1 [.int k (x : Int)] t_nan :=
  d_op ev_neq (d_ret (by show AEnd.ret (.bool (decide _)) = _; simp))
def t_cmp (nan : FuncId) : T :=
 .node (.call nan [.v 0] true) <|
 .node (.call nan [.v 1] true) <|
 .br (.v 2) (
 .br (.v 3) (
 .ret (.c (.int .i64 0))) (
 .ret (.c (.int .i64 (-1))))) (
 .br (.v 3) (
 .ret (.c (.int .i64 1))) (
 .node (.op (.bin .lss) [.v 0, .v 1]) <|
 .br (.v 4) (
 .ret (.c (.int .i64 (-1)))) (
 .node (.op (.bin .gtr) [.v 0, .v 1]) <|
 .br (.v 5) (
 .ret (.c (.int .i64 1))) (
 .ret (.c (.int .i64 0))))))
theorem cmp_den {k : IntKind} {nan : FuncId} {x y : Nat} (hn : NanC P nan k) : D P (fun e => e = .ret (.int .i64 (cmpN x y))) [] 2 [.int k (y : Int), .int k (x : Int)] (t_cmp nan) := by
  refine d_call (hn x) (fun _ => rfl) ?_
  refine d_call (hn y) (fun _ => rfl) ?_
  refine d_br false rfl (fun h => by cases h) (fun _ => ?_)
  refine d_br false rfl (fun h => by cases h) (fun _ => ?_)
  refine d_op ev_lss (d_if rfl (fun h => ?_) (fun h => ?_))
  · refine d_ret ?_
    show AEnd.ret (.int .i64 (-1)) = _
    unfold cmpN; rw [if_pos (by omega)]
  · refine d_op ev_gtr (d_if rfl (fun h2 => ?_) (fun h2 => ?_))
    · refine d_ret ?_
      show AEnd.ret (.int .i64 1) = _
      unfold cmpN; rw [if_neg (by omega), if_pos (by omega)]
    · refine d_ret ?_
      show AEnd.ret (.int .i64 0) = _
      unfold cmpN; rw [if_neg (by omega), if_neg (by omega)]
theorem cmpN_zero {a b : Nat} : cmpN a b = 0 ↔ a = b := by unfold cmpN; split <;> (try split) <;> omega
def OwnC (P : Program) (f : FuncId) : Prop := ∀ L, L.length ≤ 35184372088832 → Ct P f [W L] (fun e => e = .ret (W L))
def t_plain (trim clone : FuncId) : T :=
 .node (.call trim [.v 0] true) <|
 .node (.call clone [.v 1] true) <|
 .ret (.v 2)
theorem plain_den {trim clone : FuncId} (ht : TrimC P trim) (hc : OwnC P clone) (h : LtAll B32 L) (hl : L.length ≤ 35184372088832) : D P (fun e => e = .ret (W (nrm L))) [] 1 [W L] (t_plain trim clone) :=
  d_call (ht L h hl) (fun _ => rfl) (d_call (hc _ (Nat.le_trans (nrm_len h) hl)) (fun _ => rfl) (d_ret rfl))
def blen (x : Nat) : Nat := if x = 0 then 0 else x.log2 + 1
theorem blen_eq {x k : Nat} (h1 : 2 ^ k ≤ x) (h2 : x < 2 ^ (k + 1)) : blen x = k + 1 := by
  have hx : x ≠ 0 := by have := Nat.two_pow_pos k; omega
  unfold blen
  rw [if_neg hx]
  have a1 := (Nat.log2_lt hx).2 h2
  have a2 : ¬ x.log2 < k := fun h => by have := (Nat.log2_lt hx).1 h; omega
  omega
theorem blen_spec {x : Nat} (hx : x ≠ 0) : 2 ^ (blen x - 1) ≤ x ∧ x < 2 ^ blen x ∧ 0 < blen x := by
  have e : blen x = x.log2 + 1 := by unfold blen; rw [if_neg hx]
  rw [e]
  refine ⟨?_, (Nat.log2_lt hx).1 (by omega), by omega⟩
  have : ¬ x < 2 ^ (x.log2 + 1 - 1) := fun h => by have := (Nat.log2_lt hx).2 h; omega
  omega
theorem blen_zero : blen 0 = 0 := rfl
theorem blen_le {x k : Nat} : blen x ≤ k ↔ x < 2 ^ k := by
  by_cases hx : x = 0
  · subst hx; simp [blen_zero, Nat.two_pow_pos]
  · obtain ⟨h1, h2, h3⟩ := blen_spec hx
    constructor
    · intro h; exact Nat.lt_of_lt_of_le h2 (Nat.pow_le_pow_right (by omega) h)
    · intro h
      rcases Nat.lt_or_ge k (blen x) with h' | h'
      · have := Nat.pow_le_pow_right (n := 2) (by omega) (show k ≤ blen x - 1 by omega)
        omega
      · exact h'
theorem blen_split {x y s : Nat} (hy : y < 2 ^ s) (hx : x ≠ 0) : blen (y + 2 ^ s * x) = s + blen x := by
  obtain ⟨h1, h2, h3⟩ := blen_spec hx
  have e : s + blen x = (s + (blen x - 1)) + 1 := by omega
  rw [e]
  apply blen_eq
  · rw [Nat.pow_add]
    have := Nat.mul_le_mul_left (2 ^ s) h1
    omega
  · rw [show s + (blen x - 1) + 1 = s + blen x from by omega, Nat.pow_add]
    have : 2 ^ s * (x + 1) ≤ 2 ^ s * 2 ^ blen x := Nat.mul_le_mul_left _ h2
    rw [Nat.mul_add] at this
    omega
theorem blen_div {x s : Nat} (h : 2 ^ s ≤ x) : blen x = s + blen (x / 2 ^ s) := by
  have h1 : x / 2 ^ s ≠ 0 := by
    have := Nat.div_pos h (Nat.two_pow_pos s); omega
  have h2 := Nat.mod_add_div x (2 ^ s)
  have h3 := Nat.mod_lt x (Nat.two_pow_pos s)
  conv => lhs; rw [← h2]
  exact blen_split h3 h1
def lenTab : ByteArray := ⟨#[0, 1, 2, 2, 3, 3, 3, 3, 4, 4, 4, 4, 4, 4, 4, 4, 5, 5, 5, 5, 5, 5, 5, 5, 5, 5, 5, 5, 5, 5, 5, 5, 6, 6, 6, 6, 6, 6, 6, 6, 6, 6, 6, 6, 6, 6, 6, 6, 6, 6, 6, 6, 6, 6, 6, 6, 6, 6, 6, 6, 6, 6, 6, 6, 7, 7, 7, 7, 7, 7, 7, 7, 7, 7, 7, 7, 7, 7, 7, 7, 7, 7, 7, 7, 7, 7, 7, 7, 7, 7, 7, 7, 7, 7, 7, 7, 7, 7, 7, 7, 7, 7, 7, 7, 7, 7, 7, 7, 7, 7, 7, 7, 7, 7, 7, 7, 7, 7, 7, 7, 7, 7, 7, 7, 7, 7, 7, 7, 8, 8, 8, 8, 8, 8, 8, 8, 8, 8, 8, 8, 8, 8, 8, 8, 8, 8, 8, 8, 8, 8, 8, 8, 8, 8, 8, 8, 8, 8, 8, 8, 8, 8, 8, 8, 8, 8, 8, 8, 8, 8, 8, 8, 8, 8, 8, 8, 8, 8, 8, 8, 8, 8, 8, 8, 8, 8, 8, 8, 8, 8, 8, 8, 8, 8, 8, 8, 8, 8, 8, 8, 8, 8, 8, 8, 8, 8, 8, 8, 8, 8, 8, 8, 8, 8, 8, 8, 8, 8, 8, 8, 8, 8, 8, 8, 8, 8, 8, 8, 8, 8, 8, 8, 8, 8, 8, 8, 8, 8, 8, 8, 8, 8, 8, 8, 8, 8, 8, 8, 8, 8, 8, 8, 8, 8, 8, 8]⟩
theorem lenTab_at : ∀ y, y < 256 → lenTab[y]? = some (UInt8.ofNat (blen y)) := by decide +kernel
theorem ev_lenTab {k : IntKind} {a : Int} {y z : Nat} (ha : a = (y : Int)) (hy : y < 256) (hz : blen y = z) : evalO .sidx [.str lenTab, .int k a] = some (.int .u8 (z : Int)) := by
  subst ha hz
  have h8 : blen y ≤ 8 := blen_le.2 (by omega)
  have e : (UInt8.ofNat (blen y)).toNat = blen y := by
    rw [UInt8.toNat_ofNat']
    exact Nat.mod_eq_of_lt (by omega)
  simp only [evalO, Int.natCast_nonneg, if_true, Int.toNat_natCast, lenTab_at y hy, Option.map_some, e]
end Go.SE
set_option autoImplicit false
set_option exponentiation.threshold 5000
namespace Go.SE
open Go
variable {P : Program} {R : AEnd → Prop} {L A B : List Nat}
def long (n : Nat) : Bool := decide (1024 < (digs B32 n).length)
def told (n : Nat) : List Nat × Int := if long n then ([], 2) else (digs B32 n, 0)
def res (p : List Nat × Int) : AV := .tup [W p.1, .int .i64 p.2]
def OkN (L : List Nat) : Prop := LtAll B32 L ∧ L.length ≤ 35184372088832
end Go.SE
set_option autoImplicit false
set_option exponentiation.threshold 5000
namespace Go.SE
open Go
variable {P : Program} {R : AEnd → Prop} {L A B : List Nat}
end Go.SE
set_option autoImplicit false
set_option exponentiation.threshold 5000
namespace Go.SE
open Go
variable {P : Program} {R : AEnd → Prop} {L A B C : List Nat}
theorem OkN.take (h : OkN A) (n : Nat) : OkN (A.take n) := ⟨h.1.take n, by have := h.2; simp; omega⟩
end Go.SE
set_option autoImplicit false
set_option exponentiation.threshold 5000
namespace Go.SE
open Go
variable {P : Program} {R : AEnd → Prop} {L A B X Y : List Nat}
def SumC (P : Program) (f : FuncId) : Prop := ∀ X Y, LtAll 65536 X → LtAll 65536 Y → X.length ≤ 1099511627776 → Y.length ≤ 1099511627776 →
  Ct P f [SN .u64 X, SN .u64 Y] (fun e => e = .ret (SN .u64 (fdigs 65536 (max X.length Y.length + 1) (val 65536 X + val 65536 Y))))
def t_sum : T :=
 .loop [.c (.int .u64 0), .c (.int .i64 0), .c (.int .i64 0), .c (.int .i64 0), .c (.lst [])] [true, true, true, true, false] <|
 .node (.op .len [.v 0]) <|
 .node (.op (.bin .lss) [.v 5, .v 7]) <|
 .br (.v 8) (
 .node (.op .len [.v 0]) <|
 .node (.op (.bin .lss) [.v 5, .v 9]) <|
 .br (.v 10) (
 .node (.op (.eaddr 1) [.v 0, .v 5]) <|
 .node (.op (.rld false 1) [.v 11]) <|
 .node (.op (.bin .add) [.v 2, .v 12]) <|
 .node (.op .len [.v 1]) <|
 .node (.op (.bin .lss) [.v 5, .v 14]) <|
 .br (.v 15) (
 .node (.op (.eaddr 1) [.v 1, .v 5]) <|
 .node (.op (.rld false 1) [.v 16]) <|
 .node (.op (.bin .add) [.v 13, .v 17]) <|
 .node (.op (.bin .and) [.v 18, .c (.int .u64 65535)]) <|
 .node (.op .mklst [.v 19]) <|
 .node (.op (.lsl 1) [.v 20, .c (.int .i64 0), .c (.int .i64 1)]) <|
 .node (.op (.lapp 1 8) [.v 6, .v 3, .v 21, .c (.int .i64 1)]) <|
 .node (.op (.ofs 1) [.v 3, .c (.int .i64 1)]) <|
 .node (.op (.bin .shr) [.v 18, .c (.int .u64 16)]) <|
 .node (.op (.bin .add) [.v 5, .c (.int .i64 1)]) <|
 .back 0 [.v 24, .v 23, .v 23, .v 25, .v 22]) (
 .node (.op (.bin .and) [.v 13, .c (.int .u64 65535)]) <|
 .node (.op .mklst [.v 16]) <|
 .node (.op (.lsl 1) [.v 17, .c (.int .i64 0), .c (.int .i64 1)]) <|
 .node (.op (.lapp 1 8) [.v 6, .v 3, .v 18, .c (.int .i64 1)]) <|
 .node (.op (.ofs 1) [.v 3, .c (.int .i64 1)]) <|
 .node (.op (.bin .shr) [.v 13, .c (.int .u64 16)]) <|
 .node (.op (.bin .add) [.v 5, .c (.int .i64 1)]) <|
 .back 0 [.v 21, .v 20, .v 20, .v 22, .v 19])) (
 .node (.op .len [.v 1]) <|
 .node (.op (.bin .lss) [.v 5, .v 11]) <|
 .br (.v 12) (
 .node (.op (.eaddr 1) [.v 1, .v 5]) <|
 .node (.op (.rld false 1) [.v 13]) <|
 .node (.op (.bin .add) [.v 2, .v 14]) <|
 .node (.op (.bin .and) [.v 15, .c (.int .u64 65535)]) <|
 .node (.op .mklst [.v 16]) <|
 .node (.op (.lsl 1) [.v 17, .c (.int .i64 0), .c (.int .i64 1)]) <|
 .node (.op (.lapp 1 8) [.v 6, .v 3, .v 18, .c (.int .i64 1)]) <|
 .node (.op (.ofs 1) [.v 3, .c (.int .i64 1)]) <|
 .node (.op (.bin .shr) [.v 15, .c (.int .u64 16)]) <|
 .node (.op (.bin .add) [.v 5, .c (.int .i64 1)]) <|
 .back 0 [.v 21, .v 20, .v 20, .v 22, .v 19]) (
 .node (.op (.bin .and) [.v 2, .c (.int .u64 65535)]) <|
 .node (.op .mklst [.v 13]) <|
 .node (.op (.lsl 1) [.v 14, .c (.int .i64 0), .c (.int .i64 1)]) <|
 .node (.op (.lapp 1 8) [.v 6, .v 3, .v 15, .c (.int .i64 1)]) <|
 .node (.op (.ofs 1) [.v 3, .c (.int .i64 1)]) <|
 .node (.op (.bin .shr) [.v 2, .c (.int .u64 16)]) <|
 .node (.op (.bin .add) [.v 5, .c (.int .i64 1)]) <|
 .back 0 [.v 18, .v 17, .v 17, .v 19, .v 16]))) (
 .node (.op .len [.v 1]) <|
 .node (.op (.bin .lss) [.v 5, .v 9]) <|
 .br (.v 10) (
 .node (.op .len [.v 0]) <|
 .node (.op (.bin .lss) [.v 5, .v 11]) <|
 .br (.v 12) (
 .node (.op (.eaddr 1) [.v 0, .v 5]) <|
 .node (.op (.rld false 1) [.v 13]) <|
 .node (.op (.bin .add) [.v 2, .v 14]) <|
 .node (.op .len [.v 1]) <|
 .node (.op (.bin .lss) [.v 5, .v 16]) <|
 .br (.v 17) (
 .node (.op (.eaddr 1) [.v 1, .v 5]) <|
 .node (.op (.rld false 1) [.v 18]) <|
 .node (.op (.bin .add) [.v 15, .v 19]) <|
 .node (.op (.bin .and) [.v 20, .c (.int .u64 65535)]) <|
 .node (.op .mklst [.v 21]) <|
 .node (.op (.lsl 1) [.v 22, .c (.int .i64 0), .c (.int .i64 1)]) <|
 .node (.op (.lapp 1 8) [.v 6, .v 3, .v 23, .c (.int .i64 1)]) <|
 .node (.op (.ofs 1) [.v 3, .c (.int .i64 1)]) <|
 .node (.op (.bin .shr) [.v 20, .c (.int .u64 16)]) <|
 .node (.op (.bin .add) [.v 5, .c (.int .i64 1)]) <|
 .back 0 [.v 26, .v 25, .v 25, .v 27, .v 24]) (
 .node (.op (.bin .and) [.v 15, .c (.int .u64 65535)]) <|
 .node (.op .mklst [.v 18]) <|
 .node (.op (.lsl 1) [.v 19, .c (.int .i64 0), .c (.int .i64 1)]) <|
 .node (.op (.lapp 1 8) [.v 6, .v 3, .v 20, .c (.int .i64 1)]) <|
 .node (.op (.ofs 1) [.v 3, .c (.int .i64 1)]) <|
 .node (.op (.bin .shr) [.v 15, .c (.int .u64 16)]) <|
 .node (.op (.bin .add) [.v 5, .c (.int .i64 1)]) <|
 .back 0 [.v 23, .v 22, .v 22, .v 24, .v 21])) (
 .node (.op .len [.v 1]) <|
 .node (.op (.bin .lss) [.v 5, .v 13]) <|
 .br (.v 14) (
 .node (.op (.eaddr 1) [.v 1, .v 5]) <|
 .node (.op (.rld false 1) [.v 15]) <|
 .node (.op (.bin .add) [.v 2, .v 16]) <|
 .node (.op (.bin .and) [.v 17, .c (.int .u64 65535)]) <|
 .node (.op .mklst [.v 18]) <|
 .node (.op (.lsl 1) [.v 19, .c (.int .i64 0), .c (.int .i64 1)]) <|
 .node (.op (.lapp 1 8) [.v 6, .v 3, .v 20, .c (.int .i64 1)]) <|
 .node (.op (.ofs 1) [.v 3, .c (.int .i64 1)]) <|
 .node (.op (.bin .shr) [.v 17, .c (.int .u64 16)]) <|
 .node (.op (.bin .add) [.v 5, .c (.int .i64 1)]) <|
 .back 0 [.v 23, .v 22, .v 22, .v 24, .v 21]) (
 .node (.op (.bin .and) [.v 2, .c (.int .u64 65535)]) <|
 .node (.op .mklst [.v 15]) <|
 .node (.op (.lsl 1) [.v 16, .c (.int .i64 0), .c (.int .i64 1)]) <|
 .node (.op (.lapp 1 8) [.v 6, .v 3, .v 17, .c (.int .i64 1)]) <|
 .node (.op (.ofs 1) [.v 3, .c (.int .i64 1)]) <|
 .node (.op (.bin .shr) [.v 2, .c (.int .u64 16)]) <|
 .node (.op (.bin .add) [.v 5, .c (.int .i64 1)]) <|
 .back 0 [.v 20, .v 19, .v 19, .v 21, .v 18]))) (
 .node (.op .mklst [.v 2]) <|
 .node (.op (.lsl 1) [.v 11, .c (.int .i64 0), .c (.int .i64 1)]) <|
 .node (.op (.lapp 1 8) [.v 6, .v 3, .v 12, .c (.int .i64 1)]) <|
 .node (.op (.ofs 1) [.v 3, .c (.int .i64 1)]) <|
 .node (.op (.mksl 1) [.v 13, .c (.int .i64 0), .v 14]) <|
 .ret (.v 15)))
theorem sum_den (hX : LtAll 65536 X) (hY : LtAll 65536 Y) (hxl : X.length ≤ 1099511627776) (hyl : Y.length ≤ 1099511627776) :
    D P (fun e => e = .ret (SN .u64 (fdigs 65536 (max X.length Y.length + 1) (val 65536 X + val 65536 Y)))) [] 2 [SN .u64 Y, SN .u64 X] t_sum := by
  refine d_while (fun s : Nat × Nat × List Nat => [.int .u64 (s.1 : Int), .int .i64 (s.2.1 : Int), .int .i64 (s.2.1 : Int), .int .i64 (s.2.1 : Int), .lst (CN .u64 s.2.2)])
    (fun s => s.1 ≤ 1 ∧ s.2.1 ≤ max X.length Y.length ∧ s.2.2.length = s.2.1 ∧ LtAll 65536 s.2.2 ∧ val 65536 s.2.2 + 65536 ^ s.2.1 * s.1 = val 65536 (X.take s.2.1) + val 65536 (Y.take s.2.1)) (fun s => max X.length Y.length - s.2.1)
    (0, 0, []) ⟨by simp, by simp, rfl, LtAll.nil, by simp⟩ rfl ?_
  rintro ⟨c, i, O⟩ ⟨hc, hi, hol, hot, hov⟩
  dsimp only at hc hi hol hot hov ⊢
  have hx : X.getD i 0 < 65536 := hX.getD (by decide) i
  have hy : Y.getD i 0 < 65536 := hY.getD (by decide) i
  have step : ∀ {t : Nat}, t = X.getD i 0 + Y.getD i 0 + c → i < max X.length Y.length →
      (t / 2 ^ 16 ≤ 1 ∧ i + 1 ≤ max X.length Y.length ∧ (O ++ [t % 2 ^ 16]).length = i + 1 ∧ LtAll 65536 (O ++ [t % 2 ^ 16]) ∧
        val 65536 (O ++ [t % 2 ^ 16]) + 65536 ^ (i + 1) * (t / 2 ^ 16) = val 65536 (X.take (i + 1)) + val 65536 (Y.take (i + 1))) := fun {t} et hm => by
    subst et
    refine ⟨by show _ / 65536 ≤ 1; omega, by omega, by simp [hol], hot.append (LtAll.cons (Nat.mod_lt _ (by decide)) LtAll.nil), ?_⟩
    rw [val_append, hol, val_take_succ, val_take_succ, val_cons, val_nil, Nat.mul_zero, Nat.add_zero, show 65536 ^ (i + 1) = 65536 ^ i * 65536 from Nat.pow_succ ..]
    have := congrArg (65536 ^ i * ·) (Nat.mod_add_div (X.getD i 0 + Y.getD i 0 + c) 65536)
    simp only [Nat.mul_add] at this
    rw [Nat.mul_assoc]
    show _ + 65536 ^ i * (_ % 65536) + 65536 ^ i * (65536 * (_ / 65536)) = _
    omega
  refine d_op ev_len (d_op ev_lss (d_if rfl (fun h1 => ?_) (fun h1 => ?_)))
  · refine d_op ev_len (d_op ev_lss (d_if rfl (fun _ => ?_) (fun h => absurd h1 h)))
    refine d_op (ev_eaddrN (i := i) rfl (by omega)) (d_op (ev_rldN (by omega)) (d_op (ev_add (by constructor <;> omega)) ?_))
    refine d_op ev_len (d_op ev_lss (d_if rfl (fun h2 => ?_) (fun h2 => ?_)))
    · refine d_op (ev_eaddrN (i := i) rfl (by omega)) (d_op (ev_rldN (by omega)) (d_op (ev_add (by constructor <;> omega)) ?_))
      obtain ⟨t, et⟩ : ∃ t, t = X.getD i 0 + Y.getD i 0 + c := ⟨_, rfl⟩
      have e1 : (c : Int) + (X.getD i 0 : Int) + (Y.getD i 0 : Int) = (t : Int) := by omega
      rw [e1]
      refine d_op (ev_and (by constructor <;> omega) (y := 65535) (by decide)) ?_
      rw [Nat.and_two_pow_sub_one_eq_mod t 16]
      refine d_op (ev_mklst rfl) (d_op (ev_lslN (k := .u64) (L := [t % 2 ^ 16]) (o := 0) (n := 1) rfl rfl (by simp)) ?_)
      refine d_op (ev_lappN (k := .u64) (L := O) (M := [t % 2 ^ 16]) (by rw [hol]) rfl (by simp; omega)) ?_
      refine d_op (ev_ofs (n := 1) rfl rfl) (d_op (ev_shr (y := 16) rfl (by decide) rfl) (d_op (ev_add (by constructor <;> omega)) ?_))
      exact d_back rfl ⟨(t / 2 ^ 16, i + 1, O ++ [t % 2 ^ 16]), rfl, step et (by omega), by simp only; omega⟩
    · have hy0 : Y.getD i 0 = 0 := getD_ge (by omega)
      obtain ⟨t, et⟩ : ∃ t, t = X.getD i 0 + Y.getD i 0 + c := ⟨_, rfl⟩
      have e1 : (c : Int) + (X.getD i 0 : Int) = (t : Int) := by omega
      rw [e1]
      refine d_op (ev_and (by constructor <;> omega) (y := 65535) (by decide)) ?_
      rw [Nat.and_two_pow_sub_one_eq_mod t 16]
      refine d_op (ev_mklst rfl) (d_op (ev_lslN (k := .u64) (L := [t % 2 ^ 16]) (o := 0) (n := 1) rfl rfl (by simp)) ?_)
      refine d_op (ev_lappN (k := .u64) (L := O) (M := [t % 2 ^ 16]) (by rw [hol]) rfl (by simp; omega)) ?_
      refine d_op (ev_ofs (n := 1) rfl rfl) (d_op (ev_shr (y := 16) rfl (by decide) rfl) (d_op (ev_add (by constructor <;> omega)) ?_))
      exact d_back rfl ⟨(t / 2 ^ 16, i + 1, O ++ [t % 2 ^ 16]), rfl, step et (by omega), by simp only; omega⟩
  · refine d_op ev_len (d_op ev_lss (d_if rfl (fun h2 => ?_) (fun h2 => ?_)))
    · refine d_op ev_len (d_op ev_lss (d_if rfl (fun h => absurd h h1) (fun _ => ?_)))
      refine d_op ev_len (d_op ev_lss (d_if rfl (fun _ => ?_) (fun h => absurd h2 h)))
      refine d_op (ev_eaddrN (i := i) rfl (by omega)) (d_op (ev_rldN (by omega)) (d_op (ev_add (by constructor <;> omega)) ?_))
      have hx0 : X.getD i 0 = 0 := getD_ge (by omega)
      obtain ⟨t, et⟩ : ∃ t, t = X.getD i 0 + Y.getD i 0 + c := ⟨_, rfl⟩
      have e1 : (c : Int) + (Y.getD i 0 : Int) = (t : Int) := by omega
      rw [e1]
      refine d_op (ev_and (by constructor <;> omega) (y := 65535) (by decide)) ?_
      rw [Nat.and_two_pow_sub_one_eq_mod t 16]
      refine d_op (ev_mklst rfl) (d_op (ev_lslN (k := .u64) (L := [t % 2 ^ 16]) (o := 0) (n := 1) rfl rfl (by simp)) ?_)
      refine d_op (ev_lappN (k := .u64) (L := O) (M := [t % 2 ^ 16]) (by rw [hol]) rfl (by simp; omega)) ?_
      refine d_op (ev_ofs (n := 1) rfl rfl) (d_op (ev_shr (y := 16) rfl (by decide) rfl) (d_op (ev_add (by constructor <;> omega)) ?_))
      exact d_back rfl ⟨(t / 2 ^ 16, i + 1, O ++ [t % 2 ^ 16]), rfl, step et (by omega), by simp only; omega⟩
    · have him : i = max X.length Y.length := by omega
      refine d_op (ev_mklst rfl) (d_op (ev_lslN (k := .u64) (L := [c]) (o := 0) (n := 1) rfl rfl (by simp)) ?_)
      refine d_op (ev_lappN (k := .u64) (L := O) (M := [c]) (by rw [hol]) rfl (by simp; omega)) ?_
      refine d_op (ev_ofs (n := 1) rfl rfl) (d_op (ev_mkslN rfl (by simp [hol])) (d_ret ?_))
      show AEnd.ret (SN .u64 (O ++ [c])) = _
      rw [List.take_of_length_le (by omega), List.take_of_length_le (by omega)] at hov
      rw [eq_fdigs (b := 65536) (L := O ++ [c]) (k := max X.length Y.length + 1) (n := val 65536 X + val 65536 Y) (by decide) (hot.append (LtAll.cons (by omega) LtAll.nil)) (by simp [hol, him]) (by rw [val_append, hol, ← hov]; simp)]
end Go.SE
set_option autoImplicit false
set_option exponentiation.threshold 5000
namespace Go.SE
open Go
variable {P : Program} {R : AEnd → Prop} {L A B X Y : List Nat}
def ProductC (P : Program) (f : FuncId) : Prop := ∀ A B, LtAll 65536 A → LtAll 65536 B → A.length + B.length ≤ 1099511627776 →
  Ct P f [SN .u64 A, SN .u64 B] (fun e => e = .ret (SN .u64 (fdigs 65536 (A.length + B.length) (val 65536 A * val 65536 B))))
def t_product : T :=
 .node (.op .len [.v 0]) <|
 .node (.op .len [.v 1]) <|
 .node (.op (.bin .add) [.v 2, .v 3]) <|
 .node (.op (.chkmk 8) [.v 4, .v 4]) <|
 .node (.op (.lzero 8 [.int .u64 0]) [.v 4]) <|
 .loop [.c (.int .i64 0), .v 6] [true, false] <|
 .node (.op .len [.v 0]) <|
 .node (.op (.bin .lss) [.v 7, .v 9]) <|
 .br (.v 10) (
 .loop [.c (.int .u64 0), .c (.int .i64 0), .v 8] [true, true, false] <|
 .node (.op .len [.v 1]) <|
 .node (.op (.bin .lss) [.v 12, .v 14]) <|
 .br (.v 15) (
 .node (.op (.bin .add) [.v 7, .v 12]) <|
 .node (.op .chki [.v 16, .v 4]) <|
 .node (.op (.ofs 1) [.c (.int .i64 0), .v 16]) <|
 .node (.op (.lget false 1) [.v 13, .v 18]) <|
 .node (.op (.eaddr 1) [.v 0, .v 7]) <|
 .node (.op (.rld false 1) [.v 20]) <|
 .node (.op (.eaddr 1) [.v 1, .v 12]) <|
 .node (.op (.rld false 1) [.v 22]) <|
 .node (.op (.bin .mul) [.v 21, .v 23]) <|
 .node (.op (.bin .add) [.v 19, .v 24]) <|
 .node (.op (.bin .add) [.v 25, .v 11]) <|
 .node (.op (.bin .add) [.v 7, .v 12]) <|
 .node (.op (.bin .and) [.v 26, .c (.int .u64 65535)]) <|
 .node (.op (.bin .shr) [.v 26, .c (.int .u64 16)]) <|
 .node (.op .chki [.v 27, .v 4]) <|
 .node (.op (.ofs 1) [.c (.int .i64 0), .v 27]) <|
 .node (.op .lset [.v 13, .v 31, .v 28]) <|
 .node (.op (.bin .add) [.v 12, .c (.int .i64 1)]) <|
 .back 0 [.v 29, .v 33, .v 32]) (
 .node (.op .len [.v 1]) <|
 .node (.op (.bin .add) [.v 7, .v 16]) <|
 .node (.op .chki [.v 17, .v 4]) <|
 .node (.op (.ofs 1) [.c (.int .i64 0), .v 17]) <|
 .node (.op .lset [.v 13, .v 19, .v 11]) <|
 .node (.op (.bin .add) [.v 7, .c (.int .i64 1)]) <|
 .back 1 [.v 21, .v 20])) (
 .node (.op (.mksl 1) [.v 8, .c (.int .i64 0), .v 4]) <|
 .ret (.v 11))
theorem product_den (hA : LtAll 65536 A) (hB : LtAll 65536 B) (hl : A.length + B.length ≤ 1099511627776) :
    D P (fun e => e = .ret (SN .u64 (fdigs 65536 (A.length + B.length) (val 65536 A * val 65536 B)))) [] 2 [SN .u64 B, SN .u64 A] t_product := by
  obtain ⟨n, hn⟩ : ∃ n, n = A.length + B.length := ⟨_, rfl⟩
  have e1 : (A.length : Int) + (B.length : Int) = (n : Int) := by omega
  rw [← hn]
  refine d_op ev_len (d_op ev_len (d_op (ev_add (by constructor <;> omega)) ?_))
  rw [e1]
  refine d_op (ev_chkmk rfl rfl (Nat.le_refl _) (by omega)) (d_op (ev_lzeroN (k := .u64) (n := n) rfl (by omega)) ?_)
  refine d_while (fun s : Nat × List Nat => [.int .i64 (s.1 : Int), .lst (CN .u64 s.2)])
    (fun s => s.1 ≤ A.length ∧ s.2.length = n ∧ LtAll 65536 s.2 ∧ val 65536 s.2 = val 65536 (A.take s.1) * val 65536 B ∧ ∀ k, s.1 + B.length ≤ k → s.2.getD k 0 = 0) (fun s => A.length - s.1)
    (0, List.replicate n 0) ⟨Nat.zero_le _, by simp, LtAll.replicate (by decide) _, by simp [val_replicate], fun k _ => getD_replicate k⟩ rfl ?_
  rintro ⟨i, O⟩ ⟨hi, hol, hot, hov, hoz⟩
  dsimp only at hi hol hot hov hoz ⊢
  refine d_op ev_len (d_op ev_lss (d_if rfl (fun h1 => ?_) (fun h1 => ?_)))
  · have hia : i < A.length := by omega
    obtain ⟨x, hx⟩ : ∃ x, x = A.getD i 0 := ⟨_, rfl⟩
    have hxl : x < 65536 := hx ▸ hA.getD (by decide) i
    refine d_while (fun s : Nat × Nat × List Nat => [.int .u64 (s.1 : Int), .int .i64 (s.2.1 : Int), .lst (CN .u64 s.2.2)])
      (fun s => s.1 < 65536 ∧ s.2.1 ≤ B.length ∧ s.2.2.length = n ∧ LtAll 65536 s.2.2 ∧ val 65536 s.2.2 + 65536 ^ (i + s.2.1) * s.1 = val 65536 O + x * 65536 ^ i * val 65536 (B.take s.2.1) ∧
        ∀ k, i + B.length ≤ k → s.2.2.getD k 0 = 0) (fun s => B.length - s.2.1)
      (0, 0, O) ⟨by simp, Nat.zero_le _, hol, hot, by simp, hoz⟩ rfl ?_
    rintro ⟨c, j, O'⟩ ⟨hc, hj, hol', hot', hov', hoz'⟩
    dsimp only at hc hj hol' hot' hov' hoz' ⊢
    refine d_op ev_len (d_op ev_lss (d_if rfl (fun h2 => ?_) (fun h2 => ?_)))
    · have hjb : j < B.length := by omega
      obtain ⟨y, hy⟩ : ∃ y, y = B.getD j 0 := ⟨_, rfl⟩
      have hyl : y < 65536 := hy ▸ hB.getD (by decide) j
      obtain ⟨o, ho⟩ : ∃ o, o = O'.getD (i + j) 0 := ⟨_, rfl⟩
      have hol : o < 65536 := ho ▸ hot'.getD (by decide) _
      have hxy : x * y ≤ 4294836225 := by
        have : x * y ≤ 65535 * 65535 := Nat.mul_le_mul (by omega) (by omega)
        omega
      have eij : (i : Int) + (j : Int) = ((i + j : Nat) : Int) := by omega
      have exy : (x : Int) * (y : Int) = ((x * y : Nat) : Int) := by simp
      have et : (o : Int) + ((x * y : Nat) : Int) + (c : Int) = ((o + x * y + c : Nat) : Int) := by omega
      refine d_op (ev_add (by constructor <;> omega)) ?_
      rw [eij]
      refine d_op (ev_chki (by omega) (by omega) rfl) (d_op (ev_ofs (o := 0) rfl rfl) (d_op (ev_lgetN' (i := i + j) (by simp) (by omega) ho.symm) ?_))
      refine d_op (ev_eaddrN (i := i) rfl hia) (d_op (ev_rldN' hia hx.symm) ?_)
      refine d_op (ev_eaddrN (i := j) rfl hjb) (d_op (ev_rldN' hjb hy.symm) ?_)
      refine d_op (ev_mul (by rw [exy]; constructor <;> omega)) ?_
      rw [exy]
      refine d_op (ev_add (by constructor <;> omega)) (d_op (ev_add (by constructor <;> omega)) ?_)
      rw [et]
      refine d_op (ev_add (by constructor <;> omega)) ?_
      rw [eij]
      refine d_op (ev_and (by constructor <;> omega) (y := 65535) (by decide)) ?_
      rw [Nat.and_two_pow_sub_one_eq_mod (o + x * y + c) 16]
      refine d_op (ev_shr (y := 16) rfl (by decide) rfl) ?_
      refine d_op (ev_chki (by omega) (by omega) rfl) (d_op (ev_ofs (o := 0) rfl rfl) (d_op (ev_lsetN (i := i + j) (by simp) (by omega) rfl) ?_))
      refine d_op (ev_add (by constructor <;> omega)) ?_
      refine d_back rfl ⟨((o + x * y + c) / 65536, j + 1, O'.set (i + j) ((o + x * y + c) % 65536)), rfl, ⟨?_, by simp only; omega, by simp [hol'], hot'.set (Nat.mod_lt _ (by decide)) _, ?_, fun k hk => ?_⟩, by simp only; omega⟩
      · show (o + x * y + c) / 65536 < 65536
        omega
      · have hs := place_step (b := 65536) (p := 65536 ^ (i + j)) (o := O'.getD (i + j) 0) (y := x * y) (c := c) (r := (o + x * y + c) % 65536) (c' := (o + x * y + c) / 65536) (val_set (by omega) _) (by rw [ho]; exact Nat.mod_add_div _ _) hov'
        show val 65536 (O'.set (i + j) ((o + x * y + c) % 65536)) + 65536 ^ (i + j + 1) * ((o + x * y + c) / 65536) = _
        rw [Nat.pow_succ, hs, val_take_succ, Nat.mul_add, ← hy]
        congr 1
        rw [Nat.pow_add]
        ac_rfl
      · have hk : i + B.length ≤ k := hk
        show (O'.set (i + j) _).getD k 0 = 0
        rw [getD_set_ne (by omega)]
        exact hoz' k hk
    · have hjb : j = B.length := by omega
      subst hjb
      rw [List.take_length] at hov'
      have eij : (i : Int) + (B.length : Int) = ((i + B.length : Nat) : Int) := by omega
      refine d_op ev_len (d_op (ev_add (by constructor <;> omega)) ?_)
      rw [eij]
      refine d_op (ev_chki (by omega) (by omega) rfl) (d_op (ev_ofs (o := 0) rfl rfl) (d_op (ev_lsetN (i := i + B.length) (by simp) (by omega) rfl) ?_))
      refine d_op (ev_add (by constructor <;> omega)) ?_
      refine d_back rfl ⟨(i + 1, O'.set (i + B.length) c), rfl, ⟨by simp only; omega, by simp [hol'], hot'.set hc _, ?_, fun k hk => ?_⟩, by simp only; omega⟩
      · have hs := val_set (b := 65536) (L := O') (i := i + B.length) (by omega) c
        rw [hoz' _ (Nat.le_refl _), Nat.mul_zero, Nat.add_zero] at hs
        show val 65536 (O'.set (i + B.length) c) = val 65536 (A.take (i + 1)) * val 65536 B
        rw [hs, hov', hov, val_take_succ, ← hx, Nat.add_mul]
        congr 1
        ac_rfl
      · have hk : i + 1 + B.length ≤ k := hk
        show (O'.set (i + B.length) _).getD k 0 = 0
        rw [getD_set_ne (by omega)]
        exact hoz' k (by omega)
  · have : i = A.length := by omega
    subst this
    rw [List.take_length] at hov
    refine d_op (ev_mkslN rfl (by rw [hol])) (d_ret ?_)
    show AEnd.ret (SN .u64 O) = _
    rw [eq_fdigs (by decide) hot hol hov]
end Go.SE
