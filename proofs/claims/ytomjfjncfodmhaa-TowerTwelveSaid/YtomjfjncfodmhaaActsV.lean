/- What the upper field's functions answer, and the reference's, each for every number. -/
import Derived.Test.YtomjfjncfodmhaaTM
import Derived.Test.YtomjfjncfodmhaaActsU
import Derived.Test.YtomjfjncfodmhaaProg
set_option autoImplicit false
set_option linter.all false
set_option maxHeartbeats 0
namespace Go.Proofs.Ytomjfjncfodmhaa
open Go Go.SE
def cfgV : Cfg := { anns := [(26, 0, { tmps := [8], blks := [4], vals := [10004, 10001, 10002] }), (26, 2, { tmps := [9], blks := [4], vals := [10004, 10001, 10002] }), (26, 4, { tmps := [11], blks := [5], vals := [10005, 10004] })], fuel := 8, pre := [(54, 21, [3, 4, 5])] }
theorem c82_12 : ∀ a b : Tri, Ct Try.prog 82 [.int .i64 1, .int .i64 2, .rp [fBase], .rp (LC (l3 a)), .rp (LC (l3 b))] (fun e => e = .ret (w2 (a.d1 * b.d2 + a.d2 * b.d1))) := fun _ _ => ct_of mixed (cfg := cfgV) (args := [.c (.int .i64 1), .c (.int .i64 2), .v 0, .v 1, .v 2]) (kinds := [true, true, true]) rfl (t := t_cross12 47 36) (by decide +kernel)
  [_, _, _] 3 rfl ⟨fun _ => rfl, fun _ => rfl, fun _ => rfl, trivial⟩ rfl (cross12_den c47 c36)
theorem c82_01 : ∀ a b : Tri, Ct Try.prog 82 [.int .i64 0, .int .i64 1, .rp [fBase], .rp (LC (l3 a)), .rp (LC (l3 b))] (fun e => e = .ret (w2 (a.d0 * b.d1 + a.d1 * b.d0))) := fun _ _ => ct_of mixed (cfg := cfgV) (args := [.c (.int .i64 0), .c (.int .i64 1), .v 0, .v 1, .v 2]) (kinds := [true, true, true]) rfl (t := t_cross01 47 36) (by decide +kernel)
  [_, _, _] 3 rfl ⟨fun _ => rfl, fun _ => rfl, fun _ => rfl, trivial⟩ rfl (cross01_den c47 c36)
theorem c82_02 : ∀ a b : Tri, Ct Try.prog 82 [.int .i64 0, .int .i64 2, .rp [fBase], .rp (LC (l3 a)), .rp (LC (l3 b))] (fun e => e = .ret (w2 (a.d0 * b.d2 + a.d2 * b.d0))) := fun _ _ => ct_of mixed (cfg := cfgV) (args := [.c (.int .i64 0), .c (.int .i64 2), .v 0, .v 1, .v 2]) (kinds := [true, true, true]) rfl (t := t_cross02 47 36) (by decide +kernel)
  [_, _, _] 3 rfl ⟨fun _ => rfl, fun _ => rfl, fun _ => rfl, trivial⟩ rfl (cross02_den c47 c36)
theorem c82 : CrossC Try.prog 82 := ⟨c82_12, c82_01, c82_02⟩
theorem c54 : M6C Try.prog 54 := fun _ _ => ct_of mixed (cfg := cfgV) (args := [.v 0, .v 1, .v 2]) (kinds := [false, false, false]) rfl (t := t_mul6 47 82 56 36) (by decide +kernel)
  [_, _, _] 3 rfl ⟨fun h => (by cases h), fun h => (by cases h), fun h => (by cases h), trivial⟩ rfl (mul6_den c47 c82 c56 c36)
theorem c55 : I6C Try.prog 55 := fun _ => ct_of mixed (cfg := cfgV) (args := [.v 0, .v 1]) (kinds := [false, false]) rfl (t := t_inv6 47 56 45 36 41) (by decide +kernel)
  [_, _] 2 rfl ⟨fun h => (by cases h), fun h => (by cases h), trivial⟩ rfl (inv6_den c47 c56 c45 c36 c41)
theorem c53 : N6C Try.prog 53 := fun _ => ct_of mixed (cfg := cfgV) (args := [.v 0, .v 1]) (kinds := [false, false]) rfl (t := t_neg6 45) (by decide +kernel)
  [_, _] 2 rfl ⟨fun h => (by cases h), fun h => (by cases h), trivial⟩ rfl (neg6_den c45)
theorem c50 : ∀ s : Six pBase, Ct Try.prog 50 [w6 s] (fun e => e = .ret (.tup [w3 (evn s), w3 (odd s)])) := fun _ => ct_of mixed (cfg := cfgV) (args := [.v 0]) (kinds := [false]) rfl (t := t_halves) (by decide +kernel)
  [_] 1 rfl ⟨fun h => (by cases h), trivial⟩ rfl (halves_den)
theorem c52 : ∀ a b : Tri, Ct Try.prog 52 [w3 a, w3 b] (fun e => e = .ret (w6 (wh a b))) := fun _ _ => ct_of mixed (cfg := cfgV) (args := [.v 0, .v 1]) (kinds := [false, false]) rfl (t := t_whole6) (by decide +kernel)
  [_, _] 2 rfl ⟨fun h => (by cases h), fun h => (by cases h), trivial⟩ rfl (whole6_den)
theorem c81 : ∀ x y, x < W256 → y < W256 → Ct Try.prog 81 [TT, WW x y] (fun e => e = .ret (w2 (c2 x y))) := fun _ _ hx hy => ct_of mixed (cfg := cfgV) (args := [.v 0, .v 1]) (kinds := [false, false]) rfl (t := t_tof2 48) (by decide +kernel)
  [_, _] 2 rfl ⟨fun h => (by cases h), fun h => (by cases h), trivial⟩ rfl (tof2_den (bf_of c48) hx hy)
theorem c51 : O12C Try.prog 51 TT := fun _ hg => ct_of mixed (cfg := cfgV) (args := [.v 0, .v 1]) (kinds := [false, false]) rfl (t := t_tof12 81) (by decide +kernel)
  [_, _] 2 rfl ⟨fun h => (by cases h), fun h => (by cases h), trivial⟩ rfl (tof12_den c81 hg)
theorem c23 : O12C Try.prog 23 RT := fun _ hg => ct_of mixed (cfg := cfgV) (args := [.v 0, .v 1]) (kinds := [false, false]) rfl (t := t_tof12 12) (by decide +kernel)
  [_, _] 2 rfl ⟨fun h => (by cases h), fun h => (by cases h), trivial⟩ rfl (tof12_den c12 hg)
theorem c25 : RM12C Try.prog 25 Six.add := fun _ _ => ct_of mixed (cfg := cfgV) (args := [.v 0, .v 1, .v 2]) (kinds := [false, false, false]) rfl (t := t_radd12 16) (by decide +kernel)
  [_, _, _] 3 rfl ⟨fun h => (by cases h), fun h => (by cases h), fun h => (by cases h), trivial⟩ rfl (radd12_den c16)
theorem c26 : RM12C Try.prog 26 (Six.mul xi) := fun _ _ => ct_of mixed (cfg := cfgV) (args := [.v 0, .v 1, .v 2]) (kinds := [false, false, false]) rfl (t := t_rmul12 20 16) (by decide +kernel)
  [_, _, _] 3 rfl ⟨fun h => (by cases h), fun h => (by cases h), fun h => (by cases h), trivial⟩ rfl (rmul12_den c20 c16)
theorem c24 : ∀ g, Wok g → Ct Try.prog 24 [W6 g] (fun e => e = .ret (w6 (wh (evn (r6 g)) (Tri.neg (odd (r6 g)))))) := fun _ hg => ct_of mixed (cfg := cfgV) (args := [.v 0]) (kinds := [false]) rfl (t := t_Conj12 34 51 50 53 52) (by decide +kernel)
  [_] 1 rfl ⟨fun h => (by cases h), trivial⟩ rfl (Conj12_den c34 c51 c50 c53 c52 hg)
theorem c27 : ∀ g, Wok g → Ct Try.prog 27 [W6 g] (fun e => e = .ret (inv12R (r6 g))) := fun _ hg => ct_of mixed (cfg := cfgV) (args := [.v 0]) (kinds := [false]) rfl (t := t_Inv12 34 51 50 54 56 45 55 53 52) (by decide +kernel)
  [_] 1 rfl ⟨fun h => (by cases h), trivial⟩ rfl (Inv12_den c34 c51 c50 c54 c56 c45 c55 c53 c52 hg)
end Go.Proofs.Ytomjfjncfodmhaa
