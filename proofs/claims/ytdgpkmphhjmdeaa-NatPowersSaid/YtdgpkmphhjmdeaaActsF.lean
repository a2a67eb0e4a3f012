/- What quotients, divisors and powers of numbers are, the reference's too, each for every number that is short enough for memory. -/
import Derived.Test.YtdgpkmphhjmdeaaNO
import Derived.Test.YtdgpkmphhjmdeaaActsD
import Derived.Test.YtdgpkmphhjmdeaaActsE
set_option autoImplicit false
set_option linter.all false
set_option maxHeartbeats 0
namespace Go.Proofs.Ytdgpkmphhjmdeaa
open Go Go.SE

def cfgF : Cfg := { anns := [(72, 0, { tmps := [5, 6, 7], blks := [0], live := some [1, 0] }), (67, 0, { tmps := [7, 8], blks := [0], live := some [1, 0, 6], vals := [7] }), (67, 2, { tmps := [7, 9], blks := [0], live := some [1, 0, 6, 8], vals := [7] }), (27, 0, { tmps := [0, 1], blks := [] }), (28, 0, { tmps := [7, 8], blks := [] }), (35, 0, { tmps := [10, 11], blks := [], live := some [1, 2, 0] }), (36, 0, { tmps := [11, 13, 14], blks := [], live := some [1, 2] })], fuel := 3 }

theorem c72 : RMinusC Try.prog 72 := fun _ _ hX hY hx hy hle => ct_of mixed (cfg := cfgF) (args := [.v 0, .v 1]) (kinds := [true, true]) rfl (t := t_rminus) (by decide +kernel)
  [_, _] 2 rfl ⟨fun _ => rfl, fun _ => rfl, trivial⟩ rfl (rminus_den hX hY hx hy hle)
theorem c67 : RDivC Try.prog 67 := fun _ _ hA hB h0 ha hb => ct_of mixed (cfg := cfgF) (args := [.v 0, .v 1]) (kinds := [true, true]) rfl (t := t_rdivide 56 46 72) (by decide +kernel)
  [_, _] 2 rfl ⟨fun _ => rfl, fun _ => rfl, trivial⟩ rfl (rdivide_den c56 c46 c72 hA hB h0 ha hb)
theorem c52 : RQuoC Try.prog 52 := fun _ _ hA hB h0 la lb => ct_of mixed (cfg := cfgF) (args := [.v 0, .v 1]) (kinds := [true, true]) rfl (t := t_rquo 17 47 67 57) (by decide +kernel)
  [_, _] 2 rfl ⟨fun _ => rfl, fun _ => rfl, trivial⟩ rfl (rquo_den c17 c47 c67 c57 hA hB h0 la lb)
theorem c26 : DivModC Try.prog 26 := fun _ _ hA hB => Ct.is (ct_of mixed (cfg := cfgF) (args := [.v 0, .v 1]) (kinds := [true, true]) rfl (t := t_divMod 45 43 49 50) (by decide +kernel)
  [_, _] 2 rfl ⟨fun _ => rfl, fun _ => rfl, trivial⟩ rfl (divMod_den c45 c43 c49 c50 hA hB))
theorem c37 : DivModC Try.prog 37 := fun _ _ hA hB => Ct.is (ct_of mixed (cfg := cfgF) (args := [.v 0, .v 1]) (kinds := [true, true]) rfl (t := t_rdivMod 51 17 52) (by decide +kernel)
  [_, _] 2 rfl ⟨fun _ => rfl, fun _ => rfl, trivial⟩ rfl (rdivMod_den c51 c17 c52 hA hB))
theorem c27 : Bin Try.prog 27 gcdS := fun _ _ hA hB => Ct.is (ct_of mixed (cfg := cfgF) (args := [.v 0, .v 1]) (kinds := [true, true]) rfl (t := t_gcd 45 43 42 49) (by decide +kernel)
  [_, _] 2 rfl ⟨fun _ => rfl, fun _ => rfl, trivial⟩ rfl (gcd_den c45 c43 c42 c49 hA hB))
theorem c28 : Bin Try.prog 28 gcdS := fun _ _ hA hB => Ct.is (ct_of mixed (cfg := cfgF) (args := [.v 0, .v 1]) (kinds := [true, true]) rfl (t := t_rgcd 51 17 52) (by decide +kernel)
  [_, _] 2 rfl ⟨fun _ => rfl, fun _ => rfl, trivial⟩ rfl (rgcd_den c51 c17 c52 hA hB))
theorem c35 : Tern Try.prog 35 powS := fun _ _ _ hA hB hC => Ct.is (ct_of mixed (cfg := cfgF) (args := [.v 0, .v 1, .v 2]) (kinds := [true, true, true]) rfl (t := t_modExp 45 43 49 41 48 50) (by decide +kernel)
  [_, _, _] 3 rfl ⟨fun _ => rfl, fun _ => rfl, fun _ => rfl, trivial⟩ rfl (modExp_den c45 c43 c49 c41 c48 c50 hA hB hC))
theorem c36 : Tern Try.prog 36 powS := fun _ _ _ hA hB hC => Ct.is (ct_of mixed (cfg := cfgF) (args := [.v 0, .v 1, .v 2]) (kinds := [true, true, true]) rfl (t := t_rmodExp 51 33 17 52 34 47 56 57) (by decide +kernel)
  [_, _, _] 3 rfl ⟨fun _ => rfl, fun _ => rfl, fun _ => rfl, trivial⟩ rfl (rmodExp_den c51 c33 c17 c52 c34 c47 c56 c57 hA hB hC))

end Go.Proofs.Ytdgpkmphhjmdeaa
