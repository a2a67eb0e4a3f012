/- Nothing of the statement is proved here: this text lays generic laws: FJ; no conditions. -/
import Derived.Test.YtdpcehjiicfpdaaFB
set_option linter.all false
set_option autoImplicit false
set_option maxRecDepth 4000
set_option maxHeartbeats 2000000
namespace Go.SE
open Go
theorem word_of {L : List Nat} (hl : L.length = 4) (h : LtAll 18446744073709551616 L) : ∃ n, n < W256 ∧ AV.agg (CN .u64 L) = WV n := by
  match L, hl, h with
  | [a, b, c, d], _, h =>
    have h0 : a < B64 := h a (by simp)
    have h1 : b < B64 := h b (by simp)
    have h2 : c < B64 := h c (by simp)
    have h3 : d < B64 := h d (by simp)
    exact ⟨V4 a b c d, V4_lt h0 h1 h2 h3, by rw [WV_eq h0 h1 h2 h3]; rfl⟩
end Go.SE
