/- Nothing of the statement is proved here: this text lays generic laws: FJ; no conditions. -/
import Derived.Test.YtomjfjncfodmhaaFA
set_option linter.all false
set_option autoImplicit false
set_option maxRecDepth 4000
set_option maxHeartbeats 2000000
namespace Go.SE
open Go
theorem word_of {L : List Nat} (hl : L.length = 4) (h : LtAll 18446744073709551616 L) : ∃ n, n < W256 ∧ AV.agg (CN .u64 L) = WV n := by
  match L, hl, h with
  | [a, b, c, d], _, h =>
    have h0 : a < B64 := h a (by simp)
    have h1 : b < B64 := h b (by simp)
    have h2 : c < B64 := h c (by simp)
    have h3 : d < B64 := h d (by simp)
    exact ⟨V4 a b c d, V4_lt h0 h1 h2 h3, by rw [WV_eq h0 h1 h2 h3]; rfl⟩
def WS (l : List Nat) : AV := .agg (CN .u64 (l.flatMap fun n => [n % 18446744073709551616, n / 18446744073709551616 % 18446744073709551616, n / 340282366920938463463374607431768211456 % 18446744073709551616, n / 6277101735386680763835789423207666416102355444464034512896 % 18446744073709551616]))
theorem words_of : ∀ (k : Nat) {L : List Nat}, L.length = 4 * k → LtAll 18446744073709551616 L → ∃ l : List Nat, l.length = k ∧ (∀ n ∈ l, n < W256) ∧ AV.agg (CN .u64 L) = WS l
  | 0, L, hl, _ => ⟨[], rfl, by simp, by have : L = [] := List.eq_nil_of_length_eq_zero (by omega); subst this; rfl⟩
  | k + 1, L, hl, h => by
    obtain ⟨l, g1, g2, g3⟩ := words_of k (L := L.drop 4) (by simp; omega) (fun x hx => h x (List.mem_of_mem_drop hx))
    obtain ⟨n, n1, n2⟩ := word_of (L := L.take 4) (by simp; omega) (fun x hx => h x (List.mem_of_mem_take hx))
    refine ⟨n :: l, by simp [g1], fun x hx => ?_, ?_⟩
    · rcases List.mem_cons.1 hx with rfl | hx
      · exact n1
      · exact g2 x hx
    · have e : L = L.take 4 ++ L.drop 4 := (List.take_append_drop 4 L).symm
      have e1 : CN .u64 L = CN .u64 (L.take 4) ++ CN .u64 (L.drop 4) := by unfold CN; rw [← List.map_append, List.take_append_drop]
      rw [e1]
      unfold WS at g3 ⊢
      cases g3' : CN .u64 (L.drop 4) with
      | nil =>
        rw [g3'] at g3
        simp only [AV.agg.injEq] at g3
        rw [List.flatMap_cons, show ∀ A B : List Nat, CN .u64 (A ++ B) = CN .u64 A ++ CN .u64 B from fun A B => by unfold CN; rw [List.map_append], ← g3]
        simp only [AV.agg.injEq]
        congr 1
        unfold WV WL at n2
        simp only [AV.agg.injEq] at n2
        rw [n2]; rfl
      | cons z zs =>
        rw [g3'] at g3
        simp only [AV.agg.injEq] at g3
        rw [List.flatMap_cons, show ∀ A B : List Nat, CN .u64 (A ++ B) = CN .u64 A ++ CN .u64 B from fun A B => by unfold CN; rw [List.map_append], ← g3]
        simp only [AV.agg.injEq]
        congr 1
        unfold WV WL at n2
        simp only [AV.agg.injEq] at n2
        rw [n2]; rfl
end Go.SE
