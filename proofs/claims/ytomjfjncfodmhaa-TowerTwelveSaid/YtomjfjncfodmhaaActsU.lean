/- What the reference's tower answers, and the lower field's inverses, each for every number. -/
import Derived.Test.YtomjfjncfodmhaaTG
import Derived.Test.YtomjfjncfodmhaaActsT
import Derived.Test.YtomjfjncfodmhaaActsR
import Derived.Test.YtomjfjncfodmhaaProg
set_option autoImplicit false
set_option linter.all false
set_option maxHeartbeats 0
namespace Go.Proofs.Ytomjfjncfodmhaa
open Go Go.SE
theorem c11 : Ct Try.prog 11 [] (fun e => e = .ret RT) := ct_of mixed (cfg := cfgT) (args := []) (kinds := []) rfl (t := t_rtnew 39 38) (by decide +kernel)
  [] 0 rfl trivial rfl (rtnew_den c39 c38)
theorem c12 : ∀ x y, x < W256 → y < W256 → Ct Try.prog 12 [RT, WW x y] (fun e => e = .ret (w2 (c2 x y))) := fun _ _ hx hy => ct_of mixed (cfg := cfgT) (args := [.v 0, .v 1]) (kinds := [false, false]) rfl (t := t_rof2 40) (by decide +kernel)
  [_, _] 2 rfl ⟨fun h => (by cases h), fun h => (by cases h), trivial⟩ rfl (rof2_den c40 hx hy)
theorem c16 : RT2 Try.prog 16 (· + ·) := fun _ _ => ct_of mixed (cfg := cfgT) (args := [.v 0, .v 1, .v 2]) (kinds := [false, false, false]) rfl (t := t_tadd 44) (by decide +kernel)
  [_, _, _] 3 rfl ⟨fun h => (by cases h), fun h => (by cases h), fun h => (by cases h), trivial⟩ rfl (rtadd_den (rf_add c44))
theorem c18 : RT2 Try.prog 18 (· - ·) := fun _ _ => ct_of mixed (cfg := cfgT) (args := [.v 0, .v 1, .v 2]) (kinds := [false, false, false]) rfl (t := t_tadd 46) (by decide +kernel)
  [_, _, _] 3 rfl ⟨fun h => (by cases h), fun h => (by cases h), fun h => (by cases h), trivial⟩ rfl (rtsub_den (rf_sub c46))
theorem c20 : RT2 Try.prog 20 (· * ·) := fun _ _ => ct_of mixed (cfg := cfgT) (args := [.v 0, .v 1, .v 2]) (kinds := [false, false, false]) rfl (t := t_rtmul 43 46 44) (by decide +kernel)
  [_, _, _] 3 rfl ⟨fun h => (by cases h), fun h => (by cases h), fun h => (by cases h), trivial⟩ rfl (rtmul_den (rf_mul c43) (rf_sub c46) (rf_add c44))
theorem c45 : T2C Try.prog 45 (· - ·) := fun _ _ _ _ hx hy hz hw => ct_of mixed (cfg := cfgT) (args := [.v 0, .v 1, .v 2]) (kinds := [false, false, false]) rfl (t := t_tadd 78) (by decide +kernel)
  [_, _, _] 3 rfl ⟨fun h => (by cases h), fun h => (by cases h), fun h => (by cases h), trivial⟩ rfl (tsub_den (bf_sub c78) hx hy hz hw)
theorem c41 : ∀ x y, x < W256 → y < W256 → Ct Try.prog 41 [TT, WW x y] (fun e => e = .ret (cinvR (c2 x y))) := fun _ _ hx hy => ct_of mixed (cfg := cfgT) (args := [.v 0, .v 1]) (kinds := [false, false]) rfl (t := t_tinv 73 67 72 49) (by decide +kernel)
  [_, _] 2 rfl ⟨fun h => (by cases h), fun h => (by cases h), trivial⟩ rfl (tinv_den (bf_mul c73) (bf_add c67) c72 (bf_neg c49) hx hy)
end Go.Proofs.Ytomjfjncfodmhaa
