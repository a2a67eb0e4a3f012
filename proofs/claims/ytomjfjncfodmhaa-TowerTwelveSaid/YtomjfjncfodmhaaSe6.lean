/- Nothing of the statement is proved here: this text lays the symbolic executor and its soundness, part 6; no conditions. -/
import Derived.Test.YtomjfjncfodmhaaSe5
import Derived.ProofKit
import Derived.SizedLaws
import Derived.Carry
import Derived.DataShut
set_option linter.all false
set_option autoImplicit false
namespace Go.SE
def val (b : Nat) : List Nat → Nat
  | [] => 0
  | x :: l => x + b * val b l
def digs (b n : Nat) : List Nat :=
  if h : n = 0 ∨ b < 2 then [] else n % b :: digs b (n / b)
termination_by n
decreasing_by exact Nat.div_lt_self (by omega) (by omega)
def LtAll (m : Nat) (L : List Nat) : Prop := ∀ x ∈ L, x < m
variable {b : Nat} {L M : List Nat} {n m x k : Nat}
@[simp] theorem val_nil : val b [] = 0 := rfl
@[simp] theorem val_cons : val b (x :: L) = x + b * val b L := rfl
theorem digs_zero : digs b 0 = [] := by rw [digs]; simp
theorem digs_pos (hb : 2 ≤ b) (hn : n ≠ 0) : digs b n = n % b :: digs b (n / b) := by rw [digs, dif_neg (by omega)]
theorem LtAll.nil : LtAll m [] := fun _ h => by cases h
theorem LtAll.cons (hx : x < m) (h : LtAll m L) : LtAll m (x :: L) := fun y hy => by
  rcases List.mem_cons.1 hy with rfl | hy
  · exact hx
  · exact h y hy
theorem LtAll.head (h : LtAll m (x :: L)) : x < m := h x (by simp)
theorem LtAll.tail (h : LtAll m (x :: L)) : LtAll m L := fun y hy => h y (by simp [hy])
theorem LtAll.append (h : LtAll m L) (k : LtAll m M) : LtAll m (L ++ M) := fun y hy => by
  rcases List.mem_append.1 hy with hy | hy
  · exact h y hy
  · exact k y hy
theorem LtAll.left (h : LtAll m (L ++ M)) : LtAll m L := fun y hy => h y (by simp [hy])
theorem LtAll.right (h : LtAll m (L ++ M)) : LtAll m M := fun y hy => h y (by simp [hy])
theorem LtAll.take (h : LtAll m L) (k : Nat) : LtAll m (L.take k) := fun y hy => h y (List.mem_of_mem_take hy)
theorem LtAll.drop (h : LtAll m L) (k : Nat) : LtAll m (L.drop k) := fun y hy => h y (List.mem_of_mem_drop hy)
theorem LtAll.set (h : LtAll m L) (hx : x < m) (i : Nat) : LtAll m (L.set i x) := fun y hy => by
  rcases List.mem_or_eq_of_mem_set hy with hy | rfl
  · exact h y hy
  · exact hx
theorem LtAll.replicate (hx : x < m) (k : Nat) : LtAll m (List.replicate k x) := fun y hy => by
  rw [(List.mem_replicate.1 hy).2]; exact hx
theorem LtAll.getD (h : LtAll m L) (hm : 0 < m) (i : Nat) : L.getD i 0 < m := by
  rw [List.getD_eq_getElem?_getD]
  cases hi : L[i]? with
  | none => simpa using hm
  | some y => exact h y (List.mem_of_getElem? hi)
theorem LtAll.mono (h : LtAll m L) (hm : m ≤ n) : LtAll n L := fun y hy => Nat.lt_of_lt_of_le (h y hy) hm
theorem LtAll.reverse (h : LtAll m L) : LtAll m L.reverse := fun y hy => h y (by simpa using hy)
theorem val_append (L M : List Nat) : val b (L ++ M) = val b L + b ^ L.length * val b M := by
  induction L with
  | nil => simp
  | cons x L ih =>
    simp only [List.cons_append, val_cons, ih, List.length_cons, Nat.pow_succ]
    rw [Nat.mul_add, Nat.add_assoc]
    congr 2
    rw [← Nat.mul_assoc, Nat.mul_comm b]
theorem val_lt (hb : 0 < b) (h : LtAll b L) : val b L < b ^ L.length := by
  induction L with
  | nil => simp
  | cons x L ih =>
    have h1 := ih h.tail
    have h2 := h.head
    simp only [val_cons, List.length_cons, Nat.pow_succ]
    calc x + b * val b L < b + b * val b L := by omega
      _ = b * (val b L + 1) := by rw [Nat.mul_add]; omega
      _ ≤ b * b ^ L.length := Nat.mul_le_mul_left _ h1
      _ = b ^ L.length * b := Nat.mul_comm _ _
theorem val_replicate (k : Nat) : val b (List.replicate k 0) = 0 := by
  induction k with
  | zero => rfl
  | succ k ih => simp [List.replicate_succ, ih]
theorem digs_lt (hb : 2 ≤ b) (n : Nat) : LtAll b (digs b n) := by
  induction n using Nat.strongRecOn with
  | ind n ih =>
    by_cases hn : n = 0
    · subst hn; rw [digs_zero]; exact LtAll.nil
    · rw [digs_pos hb hn]
      exact LtAll.cons (Nat.mod_lt _ (by omega)) (ih _ (Nat.div_lt_self (by omega) (by omega)))
theorem val_digs (hb : 2 ≤ b) (n : Nat) : val b (digs b n) = n := by
  induction n using Nat.strongRecOn with
  | ind n ih =>
    by_cases hn : n = 0
    · subst hn; rw [digs_zero]; rfl
    · rw [digs_pos hb hn, val_cons, ih _ (Nat.div_lt_self (by omega) (by omega))]
      exact Nat.mod_add_div n b
theorem digs_length_le (hb : 2 ≤ b) : (digs b n).length ≤ k ↔ n < b ^ k := by
  constructor
  · intro h
    have h1 := val_lt (by omega) (digs_lt hb n)
    rw [val_digs hb] at h1
    exact Nat.lt_of_lt_of_le h1 (Nat.pow_le_pow_right (by omega) h)
  · intro h
    induction k generalizing n with
    | zero =>
      have : n = 0 := by simpa using h
      subst this; rw [digs_zero]; simp
    | succ k ih =>
      by_cases hn : n = 0
      · subst hn; rw [digs_zero]; simp
      · rw [digs_pos hb hn, List.length_cons]
        have := ih (n := n / b) (by
          rw [Nat.pow_succ] at h
          exact Nat.div_lt_of_lt_mul (by rw [Nat.mul_comm]; exact h))
        omega
theorem digs_val_length (hb : 2 ≤ b) (h : LtAll b L) : (digs b (val b L)).length ≤ L.length :=
  (digs_length_le hb).2 (val_lt (by omega) h)
theorem val_drop (hb : 0 < b) (h : LtAll b L) (k : Nat) : val b (L.drop k) = val b L / b ^ k := by
  induction k generalizing L with
  | zero => simp
  | succ k ih =>
    cases L with
    | nil => simp
    | cons x L =>
      rw [List.drop_succ_cons, ih h.tail, val_cons, Nat.pow_succ, Nat.mul_comm (b ^ k) b, ← Nat.div_div_eq_div_mul, Nat.add_mul_div_left _ _ hb, Nat.div_eq_of_lt h.head, Nat.zero_add]
theorem val_take (hb : 0 < b) (h : LtAll b L) (k : Nat) : val b (L.take k) = val b L % b ^ k := by
  induction k generalizing L with
  | zero => simp [Nat.mod_one]
  | succ k ih =>
    cases L with
    | nil => simp
    | cons x L =>
      rw [List.take_succ_cons, val_cons, ih h.tail, val_cons, Nat.pow_succ, Nat.mul_comm (b ^ k) b, Nat.mod_mul, Nat.add_mul_mod_self_left, Nat.mod_eq_of_lt h.head, Nat.add_mul_div_left _ _ hb, Nat.div_eq_of_lt h.head, Nat.zero_add]
theorem getD_digit (hb : 0 < b) (h : LtAll b L) (i : Nat) : L.getD i 0 = val b L / b ^ i % b := by
  have h1 := val_drop hb h i
  rw [← h1]
  cases hd : L.drop i with
  | nil =>
    have : L.length ≤ i := by simpa using hd
    rw [List.getD_eq_getElem?_getD, List.getElem?_eq_none this]; simp
  | cons y l =>
    have hy : L[i]? = some y := by
      have := congrArg (fun l => l[0]?) hd
      simpa using this
    have hlt : y < b := h y (List.mem_of_getElem? hy)
    rw [List.getD_eq_getElem?_getD, hy, val_cons, Nat.add_mul_mod_self_left, Nat.mod_eq_of_lt hlt]; rfl
theorem val_set {i : Nat} (h : i < L.length) (x : Nat) : val b (L.set i x) + b ^ i * L.getD i 0 = val b L + b ^ i * x := by
  induction L generalizing i with
  | nil => simp at h
  | cons y L ih =>
    cases i with
    | zero => simp; omega
    | succ i =>
      have := ih (i := i) (by simpa using h)
      simp only [List.set_cons_succ, val_cons, List.getD_cons_succ, Nat.pow_succ]
      have e : ∀ z, b ^ i * b * z = b * (b ^ i * z) := fun z => by rw [Nat.mul_comm (b ^ i) b, Nat.mul_assoc]
      rw [e, e, Nat.add_assoc, Nat.add_assoc, ← Nat.mul_add, ← Nat.mul_add, this]
theorem val_take_succ (L : List Nat) (i : Nat) : val b (L.take (i + 1)) = val b (L.take i) + b ^ i * L.getD i 0 := by
  by_cases h : i < L.length
  · have : L.take (i + 1) = L.take i ++ [L.getD i 0] := by
      rw [List.take_add_one, List.getD_eq_getElem?_getD, List.getElem?_eq_getElem h]; rfl
    rw [this, val_append]
    have hl : (L.take i).length = i := by simp; omega
    rw [hl]; simp
  · rw [List.take_of_length_le (by omega), List.take_of_length_le (by omega), List.getD_eq_getElem?_getD, List.getElem?_eq_none (by omega)]; simp
def fdigs (b : Nat) : Nat → Nat → List Nat
  | 0, _ => []
  | k + 1, n => n % b :: fdigs b k (n / b)
@[simp] theorem fdigs_length (k n : Nat) : (fdigs b k n).length = k := by
  induction k generalizing n with
  | zero => rfl
  | succ k ih => simp [fdigs, ih]
theorem fdigs_lt (hb : 0 < b) (k n : Nat) : LtAll b (fdigs b k n) := by
  induction k generalizing n with
  | zero => exact LtAll.nil
  | succ k ih => exact LtAll.cons (Nat.mod_lt _ hb) (ih _)
theorem val_fdigs (k n : Nat) : val b (fdigs b k n) = n % b ^ k := by
  induction k generalizing n with
  | zero => simp [fdigs, Nat.mod_one]
  | succ k ih => rw [fdigs, val_cons, ih, Nat.pow_succ, Nat.mul_comm (b ^ k) b, Nat.mod_mul]
theorem val_fdigs_lt (h : n < b ^ k) : val b (fdigs b k n) = n := by rw [val_fdigs, Nat.mod_eq_of_lt h]
theorem fdigs_val (hb : 0 < b) (h : LtAll b L) : fdigs b L.length (val b L) = L := by
  induction L with
  | nil => rfl
  | cons x L ih =>
    simp only [List.length_cons, fdigs, val_cons]
    rw [Nat.add_mul_mod_self_left, Nat.mod_eq_of_lt h.head, Nat.add_mul_div_left _ _ hb, Nat.div_eq_of_lt h.head, Nat.zero_add, ih h.tail]
theorem eq_fdigs (hb : 0 < b) (h : LtAll b L) (hl : L.length = k) (hv : val b L = n) : L = fdigs b k n := by
  rw [← hl, ← hv, fdigs_val hb h]
theorem place_step {p o y c r c' V V' X Z : Nat} (h1 : V' + p * o = V + p * r) (h2 : r + b * c' = o + y + c) (h3 : V + p * c = X + Z) : V' + p * b * c' = X + (Z + p * y) := by
  have := congrArg (p * ·) h2
  simp only [Nat.mul_add] at this
  rw [Nat.mul_assoc]
  omega
theorem getD_set_ne {i j x : Nat} (h : i ≠ j) : (L.set i x).getD j 0 = L.getD j 0 := by
  simp [List.getD_eq_getElem?_getD, List.getElem?_set, h]
theorem getD_replicate (i : Nat) : (List.replicate k 0).getD i 0 = 0 := by
  rw [List.getD_eq_getElem?_getD, List.getElem?_replicate]; split <;> rfl
theorem getD_ge {i : Nat} (h : L.length ≤ i) : L.getD i 0 = 0 := by
  rw [List.getD_eq_getElem?_getD, List.getElem?_eq_none h]; rfl
end Go.SE
set_option autoImplicit false
namespace Go.SE
open Go
abbrev InR : IntKind → Int → Prop
  | .i8, n => -128 ≤ n ∧ n ≤ 127
  | .i16, n => -32768 ≤ n ∧ n ≤ 32767
  | .i32, n => -2147483648 ≤ n ∧ n ≤ 2147483647
  | .i64, n => -9223372036854775808 ≤ n ∧ n ≤ 9223372036854775807
  | .u8, n => 0 ≤ n ∧ n ≤ 255
  | .u16, n => 0 ≤ n ∧ n ≤ 65535
  | .u32, n => 0 ≤ n ∧ n ≤ 4294967295
  | .u64, n => 0 ≤ n ∧ n ≤ 18446744073709551615
theorem wrap_in {k : IntKind} {n : Int} (h : InR k n) : k.wrap n = n := by
  cases k <;> simp only [InR] at h <;> simp only [IntKind.wrap, IntKind.bits, IntKind.signed, Bool.true_and, Bool.false_and, ge_iff_le, decide_eq_true_eq, Bool.false_eq_true, if_false] <;> (try split) <;> omega
theorem wrap_u {k : IntKind} {n : Int} (hs : k.signed = false) : k.wrap n = n % (2 ^ k.bits : Int) := by
  simp [IntKind.wrap, hs]
section ev
variable {k k' : IntKind} {a b : Int} {x y : Nat}
theorem ev_add (h : InR k (a + b)) : evalO (.bin .add) [.int k a, .int k b] = some (.int k (a + b)) := by
  simp [evalO, aBin, isShift, ibin, wrap_in h]
theorem ev_sub (h : InR k (a - b)) : evalO (.bin .sub) [.int k a, .int k b] = some (.int k (a - b)) := by
  simp [evalO, aBin, isShift, ibin, wrap_in h]
theorem ev_mul (h : InR k (a * b)) : evalO (.bin .mul) [.int k a, .int k b] = some (.int k (a * b)) := by
  simp [evalO, aBin, isShift, ibin, wrap_in h]
theorem ev_addw : evalO (.bin .add) [.int k a, .int k b] = some (.int k (k.wrap (a + b))) := by
  simp [evalO, aBin, isShift, ibin]
theorem ev_subw : evalO (.bin .sub) [.int k a, .int k b] = some (.int k (k.wrap (a - b))) := by
  simp [evalO, aBin, isShift, ibin]
theorem ev_mulw : evalO (.bin .mul) [.int k a, .int k b] = some (.int k (k.wrap (a * b))) := by
  simp [evalO, aBin, isShift, ibin]
theorem ev_quo (ha : 0 ≤ a) (hb : 0 < b) (h : InR k a) : evalO (.bin .quo) [.int k a, .int k b] = some (.int k (a / b)) := by
  have h1 : a.tdiv b = a / b := Int.tdiv_eq_ediv_of_nonneg ha
  have h2 : 0 ≤ a / b := Int.ediv_nonneg ha (Int.le_of_lt hb)
  have h3 : a / b ≤ a := Int.ediv_le_self _ ha
  have h4 : InR k (a / b) := by cases k <;> simp only [InR] at h ⊢ <;> omega
  simp [evalO, aBin, isShift, ibin, Int.ne_of_gt hb, h1, wrap_in h4]
theorem ev_rem (ha : 0 ≤ a) (hb : 0 < b) : evalO (.bin .rem) [.int k a, .int k b] = some (.int k (a % b)) := by
  have h1 : a.tmod b = a % b := Int.tmod_eq_emod_of_nonneg ha
  simp [evalO, aBin, isShift, ibin, Int.ne_of_gt hb, h1]
theorem ev_eql : evalO (.bin .eql) [.int k a, .int k b] = some (.bool (decide (a = b))) := by
  simp [evalO, aBin, isShift, ibin]; rfl
theorem ev_neq : evalO (.bin .neq) [.int k a, .int k b] = some (.bool (decide (a ≠ b))) := by
  simp [evalO, aBin, isShift, ibin]; rfl
theorem ev_lss : evalO (.bin .lss) [.int k a, .int k b] = some (.bool (decide (a < b))) := by
  simp [evalO, aBin, isShift, ibin]
theorem ev_leq : evalO (.bin .leq) [.int k a, .int k b] = some (.bool (decide (a ≤ b))) := by
  simp [evalO, aBin, isShift, ibin]
theorem ev_gtr : evalO (.bin .gtr) [.int k a, .int k b] = some (.bool (decide (a > b))) := by
  simp [evalO, aBin, isShift, ibin]
theorem ev_geq : evalO (.bin .geq) [.int k a, .int k b] = some (.bool (decide (a ≥ b))) := by
  simp [evalO, aBin, isShift, ibin]
theorem ev_cvt (h : InR k a) : evalO (.cvt k) [.int k' a] = some (.int k a) := by
  simp [evalO, wrap_in h]
theorem ev_not {p : Bool} : evalO (.un .not) [.bool p] = some (.bool (!p)) := rfl
theorem ev_shr {p : Nat} (hb : b = (y : Int)) (hy : y ≤ k.bits) (hp : x / 2 ^ y = p) : evalO (.bin .shr) [.int k (x : Int), .int k' b] = some (.int k (p : Int)) := by
  subst hb
  have h0 : ¬ (y : Int) < 0 := by omega
  have h1 : min y k.bits = y := by omega
  have h2 : Int.fdiv (x : Int) (2 ^ y) = (p : Int) := by
    have e : ((2 : Int) ^ y) = ((2 ^ y : Nat) : Int) := by simp
    rw [e, Int.fdiv_eq_ediv_of_nonneg _ (Int.natCast_nonneg _), ← hp]; rfl
  simp [evalO, aBin, isShift, ishift, h1, h2]
theorem ev_shl {p : Nat} (hb : b = (y : Int)) (hy : y ≤ k.bits) (hp : x * 2 ^ y = p) : evalO (.bin .shl) [.int k (x : Int), .int k' b] = some (.int k (k.wrap (p : Int))) := by
  subst hb
  have h1 : min y k.bits = y := by omega
  have h2 : (x : Int) * 2 ^ y = (p : Int) := by rw [← hp]; simp
  simp [evalO, aBin, isShift, ishift, h1, h2]
theorem ofInt_toNat {n x : Nat} (h : x < 2 ^ n) : (BitVec.ofInt n (x : Int)).toNat = x := by
  rw [BitVec.ofInt_natCast, BitVec.toNat_ofNat, Nat.mod_eq_of_lt h]
theorem bits_lt {x : Nat} (h : InR k (x : Int)) : x < 2 ^ k.bits := by
  cases k <;> simp only [InR] at h <;> simp only [IntKind.bits] <;> omega
theorem inR_le {x z : Nat} (h : InR k (x : Int)) (hz : z ≤ x) : InR k (z : Int) := by
  cases k <;> simp only [InR] at h ⊢ <;> omega
theorem ev_and (hx : InR k (x : Int)) (hy : InR k (y : Int)) : evalO (.bin .and) [.int k (x : Int), .int k (y : Int)] = some (.int k ((x &&& y : Nat) : Int)) := by
  have h1 : (BitVec.ofInt k.bits (x : Int) &&& BitVec.ofInt k.bits (y : Int)).toNat = x &&& y := by
    rw [BitVec.toNat_and, ofInt_toNat (bits_lt hx), ofInt_toNat (bits_lt hy)]
  have h2 := inR_le hx (Nat.and_le_left (n := x) (m := y))
  simp only [evalO, aBin, isShift, ibin, h1]
  simp [wrap_in h2]
theorem inR_or (hx : InR k (x : Int)) (hy : InR k (y : Int)) : InR k ((x ||| y : Nat) : Int) := by
  have key : ∀ n : Nat, x < 2 ^ n → y < 2 ^ n → x ||| y < 2 ^ n := fun n h1 h2 => Nat.or_lt_two_pow h1 h2
  cases k <;> simp only [InR] at hx hy ⊢
  · have := key 7 (by omega) (by omega); omega
  · have := key 15 (by omega) (by omega); omega
  · have := key 31 (by omega) (by omega); omega
  · have := key 63 (by omega) (by omega); omega
  · have := key 8 (by omega) (by omega); omega
  · have := key 16 (by omega) (by omega); omega
  · have := key 32 (by omega) (by omega); omega
  · have := key 64 (by omega) (by omega); omega
theorem ev_or (hx : InR k (x : Int)) (hy : InR k (y : Int)) : evalO (.bin .or) [.int k (x : Int), .int k (y : Int)] = some (.int k ((x ||| y : Nat) : Int)) := by
  have h1 : (BitVec.ofInt k.bits (x : Int) ||| BitVec.ofInt k.bits (y : Int)).toNat = x ||| y := by
    rw [BitVec.toNat_or, ofInt_toNat (bits_lt hx), ofInt_toNat (bits_lt hy)]
  simp only [evalO, aBin, isShift, ibin, h1]
  simp [wrap_in (inR_or hx hy)]
theorem inR_xor (hx : InR k (x : Int)) (hy : InR k (y : Int)) : InR k ((x ^^^ y : Nat) : Int) := by
  have key : ∀ n : Nat, x < 2 ^ n → y < 2 ^ n → x ^^^ y < 2 ^ n := fun n h1 h2 => Nat.xor_lt_two_pow h1 h2
  cases k <;> simp only [InR] at hx hy ⊢
  · have := key 7 (by omega) (by omega); omega
  · have := key 15 (by omega) (by omega); omega
  · have := key 31 (by omega) (by omega); omega
  · have := key 63 (by omega) (by omega); omega
  · have := key 8 (by omega) (by omega); omega
  · have := key 16 (by omega) (by omega); omega
  · have := key 32 (by omega) (by omega); omega
  · have := key 64 (by omega) (by omega); omega
theorem ev_xor (hx : InR k (x : Int)) (hy : InR k (y : Int)) : evalO (.bin .xor) [.int k (x : Int), .int k (y : Int)] = some (.int k ((x ^^^ y : Nat) : Int)) := by
  have h1 : (BitVec.ofInt k.bits (x : Int) ^^^ BitVec.ofInt k.bits (y : Int)).toNat = x ^^^ y := by
    rw [BitVec.toNat_xor, ofInt_toNat (bits_lt hx), ofInt_toNat (bits_lt hy)]
  simp only [evalO, aBin, isShift, ibin, h1]
  simp [wrap_in (inR_xor hx hy)]
end ev
abbrev CN (k : IntKind) (L : List Nat) : List AV := L.map fun (n : Nat) => AV.int k (n : Int)
abbrev SN (k : IntKind) (L : List Nat) : AV := .sl L.length (CN k L)
theorem CN_cell (k : IntKind) (L : List Nat) : (CN k L).all AV.isCell = true := by simp [CN, AV.isCell]
theorem nat?_int (n : Nat) : AV.nat? (.int .i64 (n : Int)) = some n := by simp [AV.nat?]
section rows
variable {k k' : IntKind} {a b : Int} {x y i n m : Nat} {cs : List AV} {L M : List Nat}
theorem ev_len : evalO .len [.sl n cs] = some (.int .i64 (n : Int)) := rfl
theorem ev_eaddr {sz : Nat} (ha : a = (i : Int)) (hi : i < n) (hc : (i + 1) * sz ≤ cs.length) : evalO (.eaddr sz) [.sl n cs, .int k a] = some (.rp (cs.drop (i * sz))) := by
  subst ha
  simp [evalO, asSlice, hi, hc]
theorem ev_eaddrN (ha : a = (i : Int)) (hi : i < L.length) : evalO (.eaddr 1) [SN k L, .int k' a] = some (.rp (CN k (L.drop i))) := by
  rw [ev_eaddr ha hi (by simp; omega)]; simp [CN, List.map_drop]
theorem ev_rldN (hi : i < L.length) : evalO (.rld false 1) [.rp (CN k (L.drop i))] = some (.int k (L.getD i 0 : Nat)) := by
  simp only [evalO, rdCells, CN, Bool.false_eq_true, if_false]
  rw [List.drop_eq_getElem_cons hi, List.map_cons]
  simp only [AV.isCell, if_true]
  simp [hi]
theorem ev_s2l {sz : Nat} (h : cs.length = n * sz) : evalO (.s2l sz) [.sl n cs] = some (.lst cs) := by simp [evalO, asSlice, h]
theorem ev_s2lN : evalO (.s2l 1) [SN k L] = some (.lst (CN k L)) := ev_s2l (by simp)
theorem ev_mksl {sz : Nat} {o : Nat} (ha : a = (o : Int)) (hb : b = (n : Int)) (h : o + n * sz ≤ cs.length) :
    evalO (.mksl sz) [.lst cs, .int .i64 a, .int .i64 b] = some (.sl n ((cs.drop o).take (n * sz))) := by
  subst ha hb
  simp [evalO, nat?_int, h]
theorem ev_mkslN (ha : a = 0) (hb : b = (L.length : Int)) : evalO (.mksl 1) [.lst (CN k L), .int .i64 a, .int .i64 b] = some (SN k L) := by
  rw [ev_mksl (o := 0) (n := L.length) (by simpa using ha) hb (by simp)]
  have e : (CN k L).length = L.length := by simp
  rw [List.drop_zero, Nat.mul_one, ← e, List.take_length, e]
theorem ev_ofs {sz o : Nat} (ha : a = (o : Int)) (hb : b = (n : Int)) : evalO (.ofs sz) [.int .i64 a, .int k b] = some (.int .i64 ((o + n * sz : Nat) : Int)) := by
  subst ha hb
  simp [evalO, nat?_int, num]
theorem ev_nsub (h0 : 0 ≤ b) (h : b ≤ a) : evalO .nsub [.int k a, .int k' b] = some (.int .i64 (a - b)) := by
  have e : ((a.toNat - b.toNat : Nat) : Int) = a - b := by omega
  simp [evalO, h0, h, num, e]
theorem ev_lzero {bytes : Nat} {z : List AV} (ha : a = (n : Int)) (h : bytes * n ≤ 2 ^ 48) : evalO (.lzero bytes z) [.int .i64 a] = some (.lst (repl n z)) := by
  subst ha
  simp only [evalO, nat?_int]
  rw [if_pos h]
theorem repl_CN (n x : Nat) : repl n [AV.int k (x : Int)] = CN k (List.replicate n x) := by
  induction n with
  | zero => rfl
  | succ n ih => simp only [repl, List.replicate_succ, List.flatten_cons] at ih ⊢; rw [ih]; rfl
theorem ev_lzeroN {bytes : Nat} (ha : a = (n : Int)) (h : bytes * n ≤ 2 ^ 48) : evalO (.lzero bytes [.int k 0]) [.int .i64 a] = some (.lst (CN k (List.replicate n 0))) := by
  rw [ev_lzero ha h]
  exact congrArg (fun l => some (AV.lst l)) (repl_CN n 0)
theorem ev_chkmk {bytes : Nat} (ha : a = (x : Int)) (hb : b = (y : Int)) (h : x ≤ y) (hs : bytes * y ≤ 2 ^ 48) : evalO (.chkmk bytes) [.int .i64 a, .int .i64 b] = some (.bool true) := by
  subst ha hb
  simp only [evalO, nat?_int]
  rw [if_pos ⟨h, hs⟩]
theorem ev_chki (ha : 0 ≤ a) (h : a < b) (hb : b = (n : Int)) : evalO .chki [.int k a, .int .i64 b] = some (.bool true) := by
  subst hb
  simp [evalO, nat?_int, ha, h]
theorem ev_chkle (ha : 0 ≤ a) (h : a ≤ b) : evalO .chkle [.int k a, .int k' b] = some (.bool true) := by
  simp [evalO, ha, h]
theorem ev_lgetN (ha : a = (i : Int)) (hi : i < L.length) : evalO (.lget false 1) [.lst (CN k L), .int .i64 a] = some (.int k (L.getD i 0 : Nat)) := by
  subst ha
  simp only [evalO, nat?_int, rdCells, CN, Bool.false_eq_true, if_false, ← List.map_drop]
  rw [List.drop_eq_getElem_cons hi, List.map_cons]
  simp only [AV.isCell, if_true]
  simp [hi]
theorem putCells_set {cs : List AV} {v : AV} (hi : i < cs.length) : putCells cs i [v] = cs.set i v := by
  simp only [putCells, List.length_singleton]
  rw [List.set_eq_take_append_cons_drop, if_pos hi]
  simp
theorem ev_lsetN (ha : a = (i : Int)) (hi : i < L.length) (hx : b = (x : Int)) : evalO .lset [.lst (CN k L), .int .i64 a, .int k b] = some (.lst (CN k (L.set i x))) := by
  subst ha hx
  simp only [evalO, nat?_int]
  rw [if_pos (by simp [AV.isCell]; omega), putCells_set (by simpa using hi)]
  simp [CN, List.map_set]
theorem ev_lapp {sz bytes : Nat} {A B : List AV} (ha : a = (m : Int)) (hb : b = (n : Int)) (h1 : m * sz ≤ A.length) (h2 : B.length = n * sz) (h3 : (m + n) * bytes ≤ 2 ^ 47) (h4 : B.all AV.isCell = true) :
    evalO (.lapp sz bytes) [.lst A, .int .i64 a, .lst B, .int .i64 b] = some (.lst (A.take (m * sz) ++ B)) := by
  subst ha hb
  simp only [evalO, nat?_int]
  rw [if_pos ⟨h1, h2, h3, h4⟩]
theorem ev_lappN {bytes : Nat} (ha : a = (L.length : Int)) (hb : b = (M.length : Int)) (h3 : (L.length + M.length) * bytes ≤ 2 ^ 47) :
    evalO (.lapp 1 bytes) [.lst (CN k L), .int .i64 a, .lst (CN k M), .int .i64 b] = some (.lst (CN k (L ++ M))) := by
  rw [ev_lapp ha hb (by simp) (by simp) h3 (CN_cell k M)]
  have e : (CN k L).length = L.length := by simp
  rw [Nat.mul_one, ← e, List.take_length, CN, CN, CN, List.map_append]
theorem ev_lslN {o : Nat} (ha : a = (o : Int)) (hb : b = (n : Int)) (h : o + n ≤ L.length) : evalO (.lsl 1) [.lst (CN k L), .int .i64 a, .int .i64 b] = some (.lst (CN k ((L.drop o).take n))) := by
  subst ha hb
  simp only [evalO, nat?_int]
  rw [if_pos (by simpa using h)]
  simp [CN, List.map_take, List.map_drop]
theorem ev_rldN' (hi : i < L.length) (hr : L.getD i 0 = x) : evalO (.rld false 1) [.rp (CN k (L.drop i))] = some (.int k (x : Int)) := by
  rw [ev_rldN hi, hr]
theorem ev_lgetN' (ha : a = (i : Int)) (hi : i < L.length) (hr : L.getD i 0 = x) : evalO (.lget false 1) [.lst (CN k L), .int .i64 a] = some (.int k (x : Int)) := by
  rw [ev_lgetN ha hi, hr]
theorem ev_mktup {vs : List AV} : evalO .mktup vs = some (.tup vs) := by cases vs <;> rfl
theorem ev_ext {vs : List AV} {v : AV} {c : Bool} (h : vs[i]? = some v) (hc : c = true → v.isCell = true) : evalO (.ext i c) [.tup vs] = some v := by
  simp only [evalO, h]
  cases c
  · rfl
  · simp [hc rfl]
end rows
theorem ev_rld1 {c : AV} {l : List AV} (h : c.isCell = true) : evalO (.rld false 1) [.rp (c :: l)] = some c := by
  simp only [evalO, rdCells, h]; rfl
theorem ev_mklst {l : List AV} (h : l.all AV.isCell = true) : evalO .mklst l = some (.lst l) := by
  cases l <;> simp only [evalO, h] <;> rfl
theorem Sub.tup {l m : List AV} (h : SubL l m) : Sub (.tup l) (.tup m) := fun Φ v hv => by
  simp only [Rep] at hv ⊢
  obtain ⟨vs, h1, h2, h3⟩ := hv
  exact ⟨vs, h1, by rw [h2, h.length], RepL.sub h vs.toList h3⟩
end Go.SE
set_option autoImplicit false
namespace Go.SE
open Go Go.RowKit Go.ChangeShapes Go.WideShapes
def memOf (W : World) : Fix := fun b => match W.heap[b]? with
  | some (.cells C _ _) => some C
  | _ => none
theorem WR_memOf (W : World) : WR (memOf W) W := fun b C h => by
  unfold memOf at h
  split at h
  · rename_i C' t fr hb
    cases h
    exact ⟨t, fr, hb⟩
  · cases h
theorem RepL_of_get {Φ : Fix} : ∀ {cs : List AV} {vs : List Value}, (∀ (i : Nat) (c : AV), cs[i]? = some c → ∃ v, vs[i]? = some v ∧ Rep Φ c v) → RepL Φ cs vs
  | [], _, _ => by simp [RepL]
  | c :: cs, vs, h => by
    obtain ⟨v, h1, h2⟩ := h 0 c rfl
    cases vs with
    | nil => simp at h1
    | cons u vs =>
      simp only [RepL]
      have : u = v := by simpa using h1
      exact ⟨this ▸ h2, RepL_of_get fun i d hd => by simpa using h (i + 1) d (by simpa using hd)⟩
variable {H : Type} {enc : TypeId × Value → H} {P : Program} {W : World} {t e : TypeId} {k : IntKind} {v : Value} {d : DataW H} {ps : List MemPlace} {base : Nat}
theorem TrodAll_below (hl : laidOutB P = true) {W' : World} (hb : Below W.heap.size W W') : ∀ {ts : List TypeId} {vs : List Value} {ds : List (DataW H)} {qs : List MemPlace},
    (∀ t ∈ ts, P.readableRec t = true ∧ t < P.types.size) → DataW.TrodAll enc P W 0 (fun _ => true) true ts vs ds qs → (∀ x ∈ qs, x.block < W.heap.size) →
      DataW.TrodAll enc P W' 0 (fun b => decide (b < W.heap.size)) true ts vs ds qs
  | [], [], [], _, _, h, _ => h
  | t :: ts, v :: vs, d :: ds, qs, hr, h, hlt => by
    obtain ⟨p, q, h1, h2, rfl⟩ := h
    have a := hr t (by simp)
    exact ⟨p, q, Below.trod hl a.1 a.2 h1 hb (fun x hx => hlt x (by simp [hx])), TrodAll_below hl hb (fun u hu => hr u (by simp [hu])) h2 (fun x hx => hlt x (by simp [hx])), rfl⟩
  | [], [], _ :: _, _, _, h, _ => h.elim
  | [], _ :: _, _, _, _, h, _ => h.elim
  | _ :: _, [], _, _, _, h, _ => h.elim
  | _ :: _, _ :: _, [], _, _, h, _ => h.elim
theorem law_calls {fn : Func} {s : ChangeSpec} {f : FuncId} {args : Array Value} {ds gs : List (DataW H)} {before : List MemPlace} {avs : List AV} {tb : TypeId}
    (hl : laidOutB P = true) (hr : ∀ t ∈ fn.params.toList, P.readableRec t = true ∧ t < P.types.size) (hv : s.vars = []) (hres : fn.resultTypes = #[tb]) (hb : P.underlying tb = some .bool)
    (hspec : (s.fn H (ds ++ gs)).results = [.lit (.bool true)] ∧ (s.fn H (ds ++ gs)).args = ds ∧ (s.fn H (ds ++ gs)).vars = [])
    (hW : DataW.Whole enc P fn.params.toList s.vars false W args.toList ds gs before) (hrep : RepE (memOf W) avs args.toList) (hct : Ct P f avs (fun e => e = .ret (.bool true))) :
    Calls P f args W fun e W' => ∃ v, e = .returned v ∧ s.post enc P fn false true false false W args v W' := by
  have hW0 := hW
  obtain ⟨p, q, hA, hV, rfl, hfz, hnd⟩ := hW
  rw [hv] at hV
  have hq : gs = [] ∧ q = [] := by
    cases gs with
    | nil => exact ⟨rfl, hV⟩
    | cons _ _ => exact hV.elim
  obtain ⟨rfl, rfl⟩ := hq
  have hlt : ∀ x ∈ p, x.block < W.heap.size := fun x hx => hW0.lt x (by simp [hx])
  have hc := hct (memOf W) W args.toList (WR_memOf W) hrep
  simp only [Array.toArray_toList] at hc
  refine hc.mono fun en W' hh => ?_
  obtain ⟨Φ', r, rfl, ⟨x, rfl, hx⟩, _, _, _, bel⟩ := hh
  simp only [Rep] at hx
  subst hx
  refine ⟨.bool true, rfl, ds, [], p ++ [], [], p, [], hW0, ?_, ?_, ?_, bel.frame _, fun h => by cases h⟩
  · rw [hspec.1, hres]
    exact trodAll_mk1 (shut_bool hb true)
  · rw [hspec.2.1]
    exact TrodAll_below hl bel hr hA hlt
  · rw [hv, hspec.2.2]
    exact rfl
end Go.SE
