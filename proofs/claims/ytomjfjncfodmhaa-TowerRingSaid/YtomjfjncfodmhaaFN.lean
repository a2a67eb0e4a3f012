/- Nothing of the statement is proved here: this text lays generic laws: FN; no conditions. -/
import Derived.Test.YtomjfjncfodmhaaFG
import Derived.Test.YtomjfjncfodmhaaNG
set_option linter.all false
set_option autoImplicit false
set_option maxRecDepth 4000
set_option maxHeartbeats 2000000
set_option exponentiation.threshold 5000
namespace Go.SE
open Go
variable {P : Program} {R : AEnd → Prop}
def ws (a : Nat) : List Nat := fdigs B64 4 a
end Go.SE
set_option autoImplicit false
set_option maxRecDepth 4000
set_option maxHeartbeats 2000000
set_option exponentiation.threshold 5000
namespace Go.SE
open Go
variable {P : Program} {R : AEnd → Prop}
def expl (N : Nat) (x : Atom) : Nat → Nat → T → T
  | _, 0, t => t
  | i, k + 1, t => .node (.op (.cell N i) [x]) (expl N x (i + 1) k t)
theorem d_expl_aux {N : Nat} {x : Atom} {L : List AV} {H : List (List AV → Prop)} {t : T} (hl : L.length = N) (hc : L.all AV.isCell = true) :
    ∀ k i n ρ, i + k = N → (∀ ρ', x.at (n + ρ'.length) (ρ' ++ ρ) = .agg L) → D P R H (n + k) (pushL (L.drop i) ρ) t → D P R H n ρ (expl N x i k t)
  | 0, i, n, ρ, hi, hx, h => by
    have : L.drop i = [] := List.drop_eq_nil_of_le (by omega)
    rw [this] at h
    exact h
  | k + 1, i, n, ρ, hi, hx, h => by
    have hil : i < L.length := by omega
    have h0 := hx []
    refine d_op (v := L[i]) ?_ (d_expl_aux hl hc k (i + 1) (n + 1) (L[i] :: ρ) (by omega) (fun ρ' => ?_) ?_)
    · show evalO (.cell N i) [x.at n ρ] = _
      have h1 : x.at n ρ = .agg L := h0
      rw [h1]
      have hci : L[i].isCell = true := List.all_eq_true.mp hc _ (List.getElem_mem hil)
      show (if L.length = N then _ else _) = _
      rw [if_pos hl, List.getElem?_eq_getElem hil]
      show (if L[i].isCell then _ else _) = _
      rw [if_pos hci]
    · have h2 := hx (ρ' ++ [L[i]])
      simp only [List.length_append, List.length_cons, List.length_nil, List.append_assoc, List.cons_append, List.nil_append] at h2
      rw [← h2]
      congr 1
      omega
    · rw [List.drop_eq_getElem_cons hil] at h
      rw [show n + 1 + k = n + (k + 1) by omega]
      exact h
theorem look_app (ρ' ρ : List AV) (i : Nat) : look (ρ' ++ ρ) (ρ'.length + i) = look ρ i := by
  induction ρ' with
  | nil => simp
  | cons a l ih => simp only [List.cons_append, List.length_cons]; rw [show l.length + 1 + i = (l.length + i) + 1 by omega]; exact ih
theorem at_app {x : Atom} {n : Nat} {ρ : List AV} (h : ∀ i, x = .v i → i < n) (ρ' : List AV) : x.at (n + ρ'.length) (ρ' ++ ρ) = x.at n ρ := by
  cases x with
  | c a => rfl
  | v i =>
    have hi := h i rfl
    have e1 : Nat.blt i n = true := by simpa [Nat.blt_eq] using hi
    have e2 : Nat.blt i (n + ρ'.length) = true := by simp [Nat.blt_eq]; omega
    simp only [Atom.at, e1, e2, cond_true]
    rw [show n + ρ'.length - 1 - i = ρ'.length + (n - 1 - i) by omega, look_app]
theorem d_expl {N : Nat} {i : Nat} {L : List AV} {H : List (List AV → Prop)} {t : T} {n : Nat} {ρ : List AV} (h : Nat.blt i n = true) (hx : (Atom.v i).at n ρ = .agg L) (hl : L.length = N) (hc : L.all AV.isCell = true)
    (k : D P R H (n + N) (pushL L ρ) t) : D P R H n ρ (expl N (.v i) 0 N t) :=
  d_expl_aux hl hc N 0 n ρ (by omega) (fun ρ' => by rw [at_app (fun j hj => by cases hj; simpa [Nat.blt_eq] using h), hx]) k
end Go.SE
