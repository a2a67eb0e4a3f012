/- Nothing of the statement is proved here: this text lays generic laws: NJ; no conditions. -/
import Derived.Test.YtdgpkmphhjmdeaaNI
import Derived.Test.YtdgpkmphhjmdeaaNK

set_option linter.all false
set_option autoImplicit false
set_option exponentiation.threshold 5000
namespace Go.SE
open Go

variable {P : Program} {R : AEnd → Prop} {L A B X Y : List Nat} {b : Nat}

/-! ### Dividing -/

def resD (a b : Nat) : AV := .tup [W (digs B32 (a / b)), W (digs B32 (a % b))]
def DivideC (P : Program) (f : FuncId) : Prop := ∀ A B, LtAll B32 A → LtAll B32 B → NoTail A → NoTail B → B ≠ [] → A.length ≤ 17592186044416 → B.length ≤ 17592186044416 → Ct P f [W A, W B] (fun e => e = .ret (resD (val B32 A) (val B32 B)))

theorem noTail_len (hA : LtAll B32 A) (hB : LtAll B32 B) (nA : NoTail A) (nB : NoTail B) (h : val B32 B ≤ val B32 A) : B.length ≤ A.length := by
  rcases Nat.lt_or_ge A.length B.length with h1 | h1
  · exfalso
    have h2 := val_lt (b := B32) (by decide) hA
    have h3 := (digs_length_lt (b := B32) (n := val B32 B) (k := A.length) (by decide)).1 (by rw [digs_val (by decide) hB nB]; exact h1)
    omega
  · exact h1

/-- the divisor, moved up until its highest bit is at the top -/
theorem norm_facts (hB : LtAll B32 B) (nB : NoTail B) (hne : B ≠ []) :
    ∃ x, x = B.getD (B.length - 1) 0 ∧ 0 < x ∧ x < 4294967296 ∧ 32 - blen x < 32 ∧ val B32 B * 2 ^ (32 - blen x) < B32 ^ B.length ∧ 2147483648 * B32 ^ (B.length - 1) ≤ val B32 B * 2 ^ (32 - blen x) := by
  obtain ⟨M, x, rfl⟩ := eq_append_getLast hne
  have hx0 : x ≠ 0 := by
    rcases nB with h | h
    · simp at h
    · simpa using h
  have hxl : x < 4294967296 := hB x (by simp)
  have hbl : blen x ≤ 32 := blen_le.2 hxl
  obtain ⟨s1, s2, s3⟩ := blen_spec hx0
  refine ⟨x, by simp, by omega, hxl, by omega, ?_, ?_⟩
  · have hM := val_lt (b := B32) (by decide) hB.left
    have h1 : (x + 1) * 2 ^ (32 - blen x) ≤ 4294967296 := by
      have := Nat.mul_le_mul_right (2 ^ (32 - blen x)) s2
      rw [← Nat.pow_add, show blen x + (32 - blen x) = 32 from by omega] at this
      exact this
    rw [val_append, val_cons, val_nil, Nat.mul_zero, Nat.add_zero, List.length_append, List.length_singleton, Nat.pow_succ]
    have h2 : (val B32 M + B32 ^ M.length * x) < B32 ^ M.length * (x + 1) := by rw [Nat.mul_succ]; omega
    have h3 : (val B32 M + B32 ^ M.length * x) * 2 ^ (32 - blen x) < B32 ^ M.length * (x + 1) * 2 ^ (32 - blen x) := Nat.mul_lt_mul_of_pos_right h2 (Nat.two_pow_pos _)
    have h4 : B32 ^ M.length * ((x + 1) * 2 ^ (32 - blen x)) ≤ B32 ^ M.length * 4294967296 := Nat.mul_le_mul_left _ h1
    rw [Nat.mul_assoc] at h3
    exact Nat.lt_of_lt_of_le h3 h4
  · have h1 : 2147483648 ≤ x * 2 ^ (32 - blen x) := by
      have := Nat.mul_le_mul_right (2 ^ (32 - blen x)) s1
      rw [← Nat.pow_add, show blen x - 1 + (32 - blen x) = 31 from by omega] at this
      exact this
    rw [val_append, val_cons, val_nil, Nat.mul_zero, Nat.add_zero, List.length_append, List.length_singleton, Nat.add_sub_cancel, Nat.add_mul, Nat.mul_comm 2147483648, Nat.mul_assoc]
    have := Nat.mul_le_mul_left (B32 ^ M.length) h1
    omega

/-- the three highest places of what is divided, and the two of the divisor -/
theorem top3 {M : List Nat} {k : Nat} (hM : LtAll B32 M) (hl : M.length = k + 1) (hk : 2 ≤ k) :
    ∃ wr, wr < B32 ^ (k - 2) ∧ val B32 M = ((M.getD k 0 * B32 + M.getD (k - 1) 0) * B32 + M.getD (k - 2) 0) * B32 ^ (k - 2) + wr := by
  refine ⟨val B32 (M.take (k - 2)), Nat.lt_of_lt_of_le (val_lt (by decide) (hM.take _)) (Nat.pow_le_pow_right (by decide) (by simp; omega)), ?_⟩
  have e : M = M.take (k - 2) ++ [M.getD (k - 2) 0, M.getD (k - 1) 0, M.getD k 0] := by
    have h1 : M.drop (k - 2) = [M.getD (k - 2) 0, M.getD (k - 1) 0, M.getD k 0] := by
      rw [dropN_cons (by omega), dropN_cons (by omega), dropN_cons (by omega), List.drop_eq_nil_of_le (by omega)]
      rw [show k - 2 + 1 = k - 1 from by omega, show k - 1 + 1 = k from by omega]
    rw [← h1, List.take_append_drop]
  conv => lhs; rw [e]
  rw [val_append]
  have hlen : (M.take (k - 2)).length = k - 2 := by simp; omega
  rw [hlen]
  simp only [val_cons, val_nil, Nat.mul_zero, Nat.add_zero]
  rw [Nat.add_comm, Nat.mul_comm]
  congr 2
  rw [Nat.add_mul, Nat.mul_add]
  have e1 : M.getD k 0 * B32 * B32 = B32 * (B32 * M.getD k 0) := by ac_rfl
  have e2 : M.getD (k - 1) 0 * B32 = B32 * M.getD (k - 1) 0 := Nat.mul_comm _ _
  omega
theorem top2 {V : List Nat} {k : Nat} (hV : LtAll B32 V) (hl : V.length = k) (hk : 2 ≤ k) :
    ∃ vr, vr < B32 ^ (k - 2) ∧ val B32 V = (V.getD (k - 1) 0 * B32 + V.getD (k - 2) 0) * B32 ^ (k - 2) + vr := by
  refine ⟨val B32 (V.take (k - 2)), Nat.lt_of_lt_of_le (val_lt (by decide) (hV.take _)) (Nat.pow_le_pow_right (by decide) (by simp; omega)), ?_⟩
  have e : V = V.take (k - 2) ++ [V.getD (k - 2) 0, V.getD (k - 1) 0] := by
    have h1 : V.drop (k - 2) = [V.getD (k - 2) 0, V.getD (k - 1) 0] := by
      rw [dropN_cons (by omega), dropN_cons (by omega), List.drop_eq_nil_of_le (by omega)]
      rw [show k - 2 + 1 = k - 1 from by omega]
    rw [← h1, List.take_append_drop]
  conv => lhs; rw [e]
  rw [val_append]
  have hlen : (V.take (k - 2)).length = k - 2 := by simp; omega
  rw [hlen]
  simp only [val_cons, val_nil, Nat.mul_zero, Nat.add_zero]
  rw [Nat.add_comm, Nat.mul_comm]
  congr 2
  have e2 : V.getD (k - 1) 0 * B32 = B32 * V.getD (k - 1) 0 := Nat.mul_comm _ _
  omega

/-- how far the division is: what is left is U, what is found is Q -/
structure DivI (a v la m J : Nat) (U Q : List Nat) : Prop where
  le : J ≤ m
  ul : U.length = la + 1
  ut : LtAll B32 U
  ql : Q.length = m
  qt : LtAll B32 Q
  eq : a = val B32 U + v * val B32 Q
  top : val B32 (U.drop J) < v
  zero : ∀ i, i < J → Q.getD i 0 = 0

/-- one place of the division, before and behind -/
structure DivS (a v la m k j : Nat) (U Q Pre M Suf : List Nat) : Prop where
  cut : U = Pre ++ M ++ Suf
  pl : Pre.length = j
  ml : M.length = k + 1
  mt : LtAll B32 M
  sum : Pre.length + M.length + Suf.length = la + 1
  lt : val B32 M < B32 * v
  next : ∀ qd R, R < v → val B32 M = R + qd * v → qd < B32 → DivI a v la m j (Pre ++ fdigs B32 (k + 1) R ++ Suf) (Q.set j qd)

theorem div_step {a v la m k j : Nat} {U Q : List Nat} (h : DivI a v la m (j + 1) U Q) (hm : m + k = la + 1) (hv : v < B32 ^ k) : ∃ Pre M Suf, DivS a v la m k j U Q Pre M Suf := by
  obtain ⟨hle, hul, hut, hql, hqt, heq, htop, hz⟩ := h
  have hcut : U = U.take j ++ (U.drop j).take (k + 1) ++ U.drop (j + (k + 1)) := by
    rw [List.append_assoc, ← List.drop_drop, List.take_append_drop, List.take_append_drop]
  have pl : (U.take j).length = j := by simp; omega
  have ml : ((U.drop j).take (k + 1)).length = k + 1 := by simp; omega
  have sl : (U.drop (j + (k + 1))).length = la + 1 - (j + (k + 1)) := by simp; omega
  have mt : LtAll B32 ((U.drop j).take (k + 1)) := (hut.drop j).take _
  generalize U.take j = Pre at *
  generalize (U.drop j).take (k + 1) = M at *
  generalize U.drop (j + (k + 1)) = Suf at *
  subst hcut
  have hd : (Pre ++ M ++ Suf).drop (j + 1) = M.drop 1 ++ Suf := by
    rw [List.append_assoc, ← pl, List.drop_append, List.drop_append]
    rw [List.drop_eq_nil_of_le (by omega), show Pre.length + 1 - Pre.length = 1 from by omega, show 1 - M.length = 0 from by omega]
    simp
  rw [hd, val_append] at htop
  have hdl : (M.drop 1).length = k := by simp; omega
  rw [hdl] at htop
  have hs0 : val B32 Suf = 0 := by
    rcases Nat.eq_zero_or_pos (val B32 Suf) with h | h
    · exact h
    · exfalso
      have := Nat.mul_le_mul_left (B32 ^ k) h
      omega
  rw [hs0, Nat.mul_zero, Nat.add_zero] at htop
  have hM : val B32 M = M.getD 0 0 + B32 * val B32 (M.drop 1) := by
    have : M = M.getD 0 0 :: M.drop 1 := by
      have := dropN_cons (L := M) (i := 0) (by omega)
      simpa using this
    conv => lhs; rw [this]
    rw [val_cons]
  have hm0 : M.getD 0 0 < B32 := mt.getD (by decide) 0
  have hlt : val B32 M < B32 * v := by
    have := Nat.mul_le_mul_left B32 htop
    rw [Nat.mul_succ] at this
    omega
  refine ⟨Pre, M, Suf, rfl, pl, ml, mt, by omega, hlt, fun qd R hR hw hq => ?_⟩
  have hRk : R < B32 ^ (k + 1) := by
    rw [Nat.pow_succ]
    have : B32 ^ k * 1 ≤ B32 ^ k * B32 := Nat.mul_le_mul_left _ (by decide)
    omega
  have vU : val B32 (Pre ++ M ++ Suf) = val B32 Pre + B32 ^ j * val B32 M := by
    rw [List.append_assoc, val_append, val_append, hs0, pl]; simp
  have vU2 : val B32 (Pre ++ fdigs B32 (k + 1) R ++ Suf) = val B32 Pre + B32 ^ j * R := by
    rw [List.append_assoc, val_append, val_append, hs0, pl, val_fdigs_lt hRk]; simp
  have vQ : val B32 (Q.set j qd) = val B32 Q + B32 ^ j * qd := by
    have := val_set (b := B32) (L := Q) (i := j) (by omega) qd
    rw [hz j (by omega), Nat.mul_zero, Nat.add_zero] at this
    exact this
  refine ⟨by omega, by simp; omega, ?_, by simp [hql], hqt.set hq j, ?_, ?_, fun i hi => ?_⟩
  · exact (hut.left.left.append (fdigs_lt (by decide) _ _)).append hut.right
  · rw [vU2, vQ, heq, vU, hw, Nat.mul_add, Nat.mul_add]
    have : v * (B32 ^ j * qd) = B32 ^ j * (qd * v) := by ac_rfl
    omega
  · have : (Pre ++ fdigs B32 (k + 1) R ++ Suf).drop j = fdigs B32 (k + 1) R ++ Suf := by
      rw [List.append_assoc, ← pl, List.drop_left]
    rw [this, val_append, hs0, val_fdigs_lt hRk]
    simpa using hR
  · rw [getD_set_ne (by omega)]
    exact hz i (by omega)

/-- what is left at the end -/
theorem div_end {a v la m : Nat} {U Q : List Nat} (h : DivI a v la m 0 U Q) : val B32 U = a % v ∧ val B32 Q = a / v := by
  have htop := h.top
  rw [List.drop_zero] at htop
  have := h.eq
  constructor
  · rw [this, Nat.add_mul_mod_self_left, Nat.mod_eq_of_lt htop]
  · rw [this, Nat.add_mul_div_left _ _ (by omega), Nat.div_eq_of_lt htop, Nat.zero_add]

end Go.SE
