/- Nothing of the statement is proved here: this text lays generic laws: FQ; no conditions. -/
import Derived.Test.YtdpcehjiicfpdaaFO
set_option linter.all false
set_option autoImplicit false
set_option maxRecDepth 4000
set_option maxHeartbeats 4000000
set_option exponentiation.threshold 5000
namespace Go.SE
open Go
variable {P : Program} {R : AEnd → Prop}
theorem in64 {z : Nat} (h : z < 18446744073709551616) : InR .u64 (z : Int) := by constructor <;> omega
def RP (m low sq : Nat) : AV := .rp (CN .u64 (fdigs B64 4 m ++ (fdigs b32 8 m ++ ([low] ++ fdigs B64 4 sq))))
def Rok (m low sq : Nat) : Prop := m % 2 = 1 ∧ m < W256 ∧ low < b32 ∧ low * m % b32 = 4294967295 ∧ sq = W256 * W256 % m
theorem Rok.pos {m low sq : Nat} (h : Rok m low sq) : 0 < m := by have := h.1; omega
theorem Rok.sq_lt {m low sq : Nat} (h : Rok m low sq) : sq < m := by rw [h.2.2.2.2]; exact Nat.mod_lt _ h.pos
theorem Rok.sq_lt' {m low sq : Nat} (h : Rok m low sq) : sq < W256 := Nat.lt_trans h.sq_lt h.2.1
theorem len_four {L : List Nat} (h : L.length = 4) : ∃ a b c d, L = [a, b, c, d] := by
  match L, h with
  | [a, b, c, d], _ => exact ⟨a, b, c, d, rfl⟩
theorem WV_fd {a : Nat} (h : a < W256) : WV a = .agg (CN .u64 (fdigs B64 4 a)) := WV_ws h
theorem RP_parts {m low sq : Nat} (hm : m < W256) (hs : sq < W256) : ∃ m0 m1 m2 m3 p0 p1 p2 p3 p4 p5 p6 p7 s0 s1 s2 s3,
    fdigs b32 8 m = [p0, p1, p2, p3, p4, p5, p6, p7] ∧ WV m = WL m0 m1 m2 m3 ∧ WV sq = WL s0 s1 s2 s3 ∧
    RP m low sq = .rp (CN .u64 [m0, m1, m2, m3, p0, p1, p2, p3, p4, p5, p6, p7, low, s0, s1, s2, s3]) := by
  obtain ⟨m0, m1, m2, m3, em⟩ := len_four (fdigs_length (b := B64) 4 m)
  obtain ⟨s0, s1, s2, s3, es⟩ := len_four (fdigs_length (b := B64) 4 sq)
  obtain ⟨p0, p1, p2, p3, p4, p5, p6, p7, ep⟩ := len_eight (fdigs_length (b := b32) 8 m)
  refine ⟨m0, m1, m2, m3, p0, p1, p2, p3, p4, p5, p6, p7, s0, s1, s2, s3, ep, ?_, ?_, ?_⟩
  · rw [WV_fd hm, em]; rfl
  · rw [WV_fd hs, es]; rfl
  · unfold RP; rw [em, es, ep]; rfl
end Go.SE
