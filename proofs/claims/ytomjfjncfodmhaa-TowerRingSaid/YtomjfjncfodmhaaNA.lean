/- Nothing of the statement is proved here: this text lays generic laws: NA; no conditions. -/
import Derived.Test.YtomjfjncfodmhaaSe6
set_option linter.all false
set_option autoImplicit false
namespace Go.SE
open Go
abbrev B32 : Nat := 4294967296
abbrev W (L : List Nat) : AV := SN .u32 L
def nrm (L : List Nat) : List Nat := digs B32 (val B32 L)
variable {P : Program} {R : AEnd → Prop} {L A B : List Nat}
theorem nrm_len (h : LtAll B32 L) : (nrm L).length ≤ L.length := digs_val_length (by decide) h
def TrimC (P : Program) (f : FuncId) : Prop := ∀ L, LtAll B32 L → L.length ≤ 35184372088832 → Ct P f [W L] (fun e => e = .ret (W (nrm L)))
def cmpN (a b : Nat) : Int := if a < b then -1 else if b < a then 1 else 0
def NanC (P : Program) (f : FuncId) (k : IntKind) : Prop := ∀ x : Nat, Ct P f [.int k (x : Int)] (fun e => e = .ret (.bool false))
def CmpC (P : Program) (f : FuncId) (k : IntKind) : Prop := ∀ x y : Nat, Ct P f [.int k (x : Int), .int k (y : Int)] (fun e => e = .ret (.int .i64 (cmpN x y)))
def t_nan : T :=
 .node (.op (.bin .neq) [.v 0, .v 0]) <|
 .ret (.v 1)
theorem nan_den {k : IntKind} {x : Nat} : D P (fun e => e = .ret (.bool false)) [] 1 [.int k (x : Int)] t_nan :=
  d_op ev_neq (d_ret (by show AEnd.ret (.bool (decide _)) = _; simp))
def t_cmp (nan : FuncId) : T :=
 .node (.call nan [.v 0] true) <|
 .node (.call nan [.v 1] true) <|
 .br (.v 2) (
 .br (.v 3) (
 .ret (.c (.int .i64 0))) (
 .ret (.c (.int .i64 (-1))))) (
 .br (.v 3) (
 .ret (.c (.int .i64 1))) (
 .node (.op (.bin .lss) [.v 0, .v 1]) <|
 .br (.v 4) (
 .ret (.c (.int .i64 (-1)))) (
 .node (.op (.bin .gtr) [.v 0, .v 1]) <|
 .br (.v 5) (
 .ret (.c (.int .i64 1))) (
 .ret (.c (.int .i64 0))))))
theorem cmp_den {k : IntKind} {nan : FuncId} {x y : Nat} (hn : NanC P nan k) : D P (fun e => e = .ret (.int .i64 (cmpN x y))) [] 2 [.int k (y : Int), .int k (x : Int)] (t_cmp nan) := by
  refine d_call (hn x) (fun _ => rfl) ?_
  refine d_call (hn y) (fun _ => rfl) ?_
  refine d_br false rfl (fun h => by cases h) (fun _ => ?_)
  refine d_br false rfl (fun h => by cases h) (fun _ => ?_)
  refine d_op ev_lss (d_if rfl (fun h => ?_) (fun h => ?_))
  · refine d_ret ?_
    show AEnd.ret (.int .i64 (-1)) = _
    unfold cmpN; rw [if_pos (by omega)]
  · refine d_op ev_gtr (d_if rfl (fun h2 => ?_) (fun h2 => ?_))
    · refine d_ret ?_
      show AEnd.ret (.int .i64 1) = _
      unfold cmpN; rw [if_neg (by omega), if_pos (by omega)]
    · refine d_ret ?_
      show AEnd.ret (.int .i64 0) = _
      unfold cmpN; rw [if_neg (by omega), if_neg (by omega)]
theorem cmpN_zero {a b : Nat} : cmpN a b = 0 ↔ a = b := by unfold cmpN; split <;> (try split) <;> omega
def OwnC (P : Program) (f : FuncId) : Prop := ∀ L, L.length ≤ 35184372088832 → Ct P f [W L] (fun e => e = .ret (W L))
def t_plain (trim clone : FuncId) : T :=
 .node (.call trim [.v 0] true) <|
 .node (.call clone [.v 1] true) <|
 .ret (.v 2)
theorem plain_den {trim clone : FuncId} (ht : TrimC P trim) (hc : OwnC P clone) (h : LtAll B32 L) (hl : L.length ≤ 35184372088832) : D P (fun e => e = .ret (W (nrm L))) [] 1 [W L] (t_plain trim clone) :=
  d_call (ht L h hl) (fun _ => rfl) (d_call (hc _ (Nat.le_trans (nrm_len h) hl)) (fun _ => rfl) (d_ret rfl))
def blen (x : Nat) : Nat := if x = 0 then 0 else x.log2 + 1
theorem blen_eq {x k : Nat} (h1 : 2 ^ k ≤ x) (h2 : x < 2 ^ (k + 1)) : blen x = k + 1 := by
  have hx : x ≠ 0 := by have := Nat.two_pow_pos k; omega
  unfold blen
  rw [if_neg hx]
  have a1 := (Nat.log2_lt hx).2 h2
  have a2 : ¬ x.log2 < k := fun h => by have := (Nat.log2_lt hx).1 h; omega
  omega
theorem blen_spec {x : Nat} (hx : x ≠ 0) : 2 ^ (blen x - 1) ≤ x ∧ x < 2 ^ blen x ∧ 0 < blen x := by
  have e : blen x = x.log2 + 1 := by unfold blen; rw [if_neg hx]
  rw [e]
  refine ⟨?_, (Nat.log2_lt hx).1 (by omega), by omega⟩
  have : ¬ x < 2 ^ (x.log2 + 1 - 1) := fun h => by have := (Nat.log2_lt hx).2 h; omega
  omega
theorem blen_zero : blen 0 = 0 := rfl
theorem blen_le {x k : Nat} : blen x ≤ k ↔ x < 2 ^ k := by
  by_cases hx : x = 0
  · subst hx; simp [blen_zero, Nat.two_pow_pos]
  · obtain ⟨h1, h2, h3⟩ := blen_spec hx
    constructor
    · intro h; exact Nat.lt_of_lt_of_le h2 (Nat.pow_le_pow_right (by omega) h)
    · intro h
      rcases Nat.lt_or_ge k (blen x) with h' | h'
      · have := Nat.pow_le_pow_right (n := 2) (by omega) (show k ≤ blen x - 1 by omega)
        omega
      · exact h'
theorem blen_split {x y s : Nat} (hy : y < 2 ^ s) (hx : x ≠ 0) : blen (y + 2 ^ s * x) = s + blen x := by
  obtain ⟨h1, h2, h3⟩ := blen_spec hx
  have e : s + blen x = (s + (blen x - 1)) + 1 := by omega
  rw [e]
  apply blen_eq
  · rw [Nat.pow_add]
    have := Nat.mul_le_mul_left (2 ^ s) h1
    omega
  · rw [show s + (blen x - 1) + 1 = s + blen x from by omega, Nat.pow_add]
    have : 2 ^ s * (x + 1) ≤ 2 ^ s * 2 ^ blen x := Nat.mul_le_mul_left _ h2
    rw [Nat.mul_add] at this
    omega
theorem blen_div {x s : Nat} (h : 2 ^ s ≤ x) : blen x = s + blen (x / 2 ^ s) := by
  have h1 : x / 2 ^ s ≠ 0 := by
    have := Nat.div_pos h (Nat.two_pow_pos s); omega
  have h2 := Nat.mod_add_div x (2 ^ s)
  have h3 := Nat.mod_lt x (Nat.two_pow_pos s)
  conv => lhs; rw [← h2]
  exact blen_split h3 h1
def lenTab : ByteArray := ⟨#[0, 1, 2, 2, 3, 3, 3, 3, 4, 4, 4, 4, 4, 4, 4, 4, 5, 5, 5, 5, 5, 5, 5, 5, 5, 5, 5, 5, 5, 5, 5, 5, 6, 6, 6, 6, 6, 6, 6, 6, 6, 6, 6, 6, 6, 6, 6, 6, 6, 6, 6, 6, 6, 6, 6, 6, 6, 6, 6, 6, 6, 6, 6, 6, 7, 7, 7, 7, 7, 7, 7, 7, 7, 7, 7, 7, 7, 7, 7, 7, 7, 7, 7, 7, 7, 7, 7, 7, 7, 7, 7, 7, 7, 7, 7, 7, 7, 7, 7, 7, 7, 7, 7, 7, 7, 7, 7, 7, 7, 7, 7, 7, 7, 7, 7, 7, 7, 7, 7, 7, 7, 7, 7, 7, 7, 7, 7, 7, 8, 8, 8, 8, 8, 8, 8, 8, 8, 8, 8, 8, 8, 8, 8, 8, 8, 8, 8, 8, 8, 8, 8, 8, 8, 8, 8, 8, 8, 8, 8, 8, 8, 8, 8, 8, 8, 8, 8, 8, 8, 8, 8, 8, 8, 8, 8, 8, 8, 8, 8, 8, 8, 8, 8, 8, 8, 8, 8, 8, 8, 8, 8, 8, 8, 8, 8, 8, 8, 8, 8, 8, 8, 8, 8, 8, 8, 8, 8, 8, 8, 8, 8, 8, 8, 8, 8, 8, 8, 8, 8, 8, 8, 8, 8, 8, 8, 8, 8, 8, 8, 8, 8, 8, 8, 8, 8, 8, 8, 8, 8, 8, 8, 8, 8, 8, 8, 8, 8, 8, 8, 8, 8, 8, 8, 8, 8, 8]⟩
theorem lenTab_at : ∀ y, y < 256 → lenTab[y]? = some (UInt8.ofNat (blen y)) := by decide +kernel
theorem ev_lenTab {k : IntKind} {a : Int} {y z : Nat} (ha : a = (y : Int)) (hy : y < 256) (hz : blen y = z) : evalO .sidx [.str lenTab, .int k a] = some (.int .u8 (z : Int)) := by
  subst ha hz
  have h8 : blen y ≤ 8 := blen_le.2 (by omega)
  have e : (UInt8.ofNat (blen y)).toNat = blen y := by
    rw [UInt8.toNat_ofNat']
    exact Nat.mod_eq_of_lt (by omega)
  simp only [evalO, Int.natCast_nonneg, if_true, Int.toNat_natCast, lenTab_at y hy, Option.map_some, e]
end Go.SE
set_option autoImplicit false
set_option exponentiation.threshold 5000
namespace Go.SE
open Go
variable {P : Program} {R : AEnd → Prop} {L A B : List Nat}
def long (n : Nat) : Bool := decide (1024 < (digs B32 n).length)
def told (n : Nat) : List Nat × Int := if long n then ([], 2) else (digs B32 n, 0)
def res (p : List Nat × Int) : AV := .tup [W p.1, .int .i64 p.2]
def OkN (L : List Nat) : Prop := LtAll B32 L ∧ L.length ≤ 35184372088832
end Go.SE
set_option autoImplicit false
set_option exponentiation.threshold 5000
namespace Go.SE
open Go
variable {P : Program} {R : AEnd → Prop} {L A B : List Nat}
end Go.SE
set_option autoImplicit false
set_option exponentiation.threshold 5000
namespace Go.SE
open Go
variable {P : Program} {R : AEnd → Prop} {L A B C : List Nat}
theorem OkN.take (h : OkN A) (n : Nat) : OkN (A.take n) := ⟨h.1.take n, by have := h.2; simp; omega⟩
end Go.SE
set_option autoImplicit false
set_option exponentiation.threshold 5000
namespace Go.SE
open Go
variable {P : Program} {R : AEnd → Prop} {L A B X Y : List Nat}
end Go.SE
set_option autoImplicit false
set_option exponentiation.threshold 5000
namespace Go.SE
open Go
variable {P : Program} {R : AEnd → Prop} {L A B X Y : List Nat}
end Go.SE
