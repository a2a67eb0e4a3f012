/- What the tower's functions answer, each for every number. -/
import Derived.Test.YtomjfjncfodmhaaTE
import Derived.Test.YtomjfjncfodmhaaActs
import Derived.Test.YtomjfjncfodmhaaProg
set_option autoImplicit false
set_option linter.all false
set_option maxHeartbeats 0
namespace Go.Proofs.Ytomjfjncfodmhaa
open Go Go.SE
def cfgT : Cfg := { anns := [(35, 0, { tmps := [11], blks := [4], vals := [10004, 10001, 10002] }), (35, 2, { tmps := [19], blks := [4], vals := [10004, 10001, 10002] })], fuel := 8 }
theorem c66 : Ct Try.prog 66 [] (fun e => e = .ret fBase) := ct_of mixed (cfg := cfgT) (args := []) (kinds := []) rfl (t := t_base) (by decide +kernel)
  [] 0 rfl trivial rfl (base_den)
theorem c34 : Ct Try.prog 34 [] (fun e => e = .ret TT) := ct_of mixed (cfg := cfgT) (args := []) (kinds := []) rfl (t := t_tof 66) (by decide +kernel)
  [] 0 rfl trivial rfl (tof_den c66)
theorem c36 : T2C Try.prog 36 (· + ·) := fun _ _ _ _ hx hy hz hw => ct_of mixed (cfg := cfgT) (args := [.v 0, .v 1, .v 2]) (kinds := [false, false, false]) rfl (t := t_tadd 67) (by decide +kernel)
  [_, _, _] 3 rfl ⟨fun h => (by cases h), fun h => (by cases h), fun h => (by cases h), trivial⟩ rfl (tadd_den (bf_add c67) hx hy hz hw)
theorem c47 : T2C Try.prog 47 (· * ·) := fun _ _ _ _ hx hy hz hw => ct_of mixed (cfg := cfgT) (args := [.v 0, .v 1, .v 2]) (kinds := [false, false, false]) rfl (t := t_tmul 73 67 78) (by decide +kernel)
  [_, _, _] 3 rfl ⟨fun h => (by cases h), fun h => (by cases h), fun h => (by cases h), trivial⟩ rfl (tmul_den (bf_mul c73) (bf_add c67) (bf_sub c78) hx hy hz hw)
theorem c56 : T1C Try.prog 56 (· * xi) := fun _ _ hx hy => ct_of mixed (cfg := cfgT) (args := [.v 0, .v 1]) (kinds := [false, false]) rfl (t := t_tup 47) (by decide +kernel)
  [_, _] 2 rfl ⟨fun h => (by cases h), fun h => (by cases h), trivial⟩ rfl (tup_den c47 hx hy)
theorem c35 : M12C Try.prog 35 := fun _ _ hg hh => ct_of mixed (cfg := cfgT) (args := [.v 0, .v 1, .v 2]) (kinds := [false, false, false]) rfl (t := t_mul12 47 56 36) (by decide +kernel)
  [_, _, _] 3 rfl ⟨fun h => (by cases h), fun h => (by cases h), fun h => (by cases h), trivial⟩ rfl (mul12_den c47 c56 c36 hg hh)
theorem c8 : S12C Try.prog 8 (Six.mul xi) := fun _ _ hg hh => ct_of mixed (cfg := cfgT) (args := [.v 0, .v 1]) (kinds := [false, false]) rfl (t := t_Mul12 34 35) (by decide +kernel)
  [_, _] 2 rfl ⟨fun h => (by cases h), fun h => (by cases h), trivial⟩ rfl (Mul12_den c34 c35 hg hh)
theorem c9 : S12C Try.prog 9 Six.add := fun _ _ hg hh => ct_of mixed (cfg := cfgT) (args := [.v 0, .v 1]) (kinds := [false, false]) rfl (t := t_Add12 34 36) (by decide +kernel)
  [_, _] 2 rfl ⟨fun h => (by cases h), fun h => (by cases h), trivial⟩ rfl (Add12_den c34 c36 hg hh)
theorem c19 : E2C Try.prog 19 (· * ·) := fun _ _ _ _ hx hy hz hw => ct_of mixed (cfg := cfgT) (args := [.v 0, .v 1]) (kinds := [false, false]) rfl (t := t_Mul2 34 47) (by decide +kernel)
  [_, _] 2 rfl ⟨fun h => (by cases h), fun h => (by cases h), trivial⟩ rfl (Mul2_den c34 c47 hx hy hz hw)
theorem c15 : E2C Try.prog 15 (· + ·) := fun _ _ _ _ hx hy hz hw => ct_of mixed (cfg := cfgT) (args := [.v 0, .v 1]) (kinds := [false, false]) rfl (t := t_Add2 34 36) (by decide +kernel)
  [_, _] 2 rfl ⟨fun h => (by cases h), fun h => (by cases h), trivial⟩ rfl (Mul2_den c34 c36 hx hy hz hw)
theorem c63 : Ct Try.prog 63 [] (fun e => e = .ret one6) := ct_of mixed (cfg := cfgT) (args := []) (kinds := []) rfl (t := t_one) (by decide +kernel)
  [] 0 rfl trivial rfl (one_den)
theorem c28 : Ct Try.prog 28 [] (fun e => e = .ret one6) := ct_of mixed (cfg := cfgT) (args := []) (kinds := []) rfl (t := t_one) (by decide +kernel)
  [] 0 rfl trivial rfl (one_den)
theorem c37 : Ct Try.prog 37 [] (fun e => e = .ret one6) := ct_of mixed (cfg := cfgT) (args := []) (kinds := []) rfl (t := t_One 63) (by decide +kernel)
  [] 0 rfl trivial rfl (One_den c63)
theorem c10 : Ct Try.prog 10 [] (fun e => e = .ret (.bool true)) := ct_of mixed (cfg := cfgT) (args := []) (kinds := []) rfl (t := t_tlives 19 15 8 37 28) (by decide +kernel)
  [] 0 rfl trivial rfl (tlives_den c19 c15 c8 c37 c28)
end Go.Proofs.Ytomjfjncfodmhaa
