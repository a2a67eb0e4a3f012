/- What the reference answers of sums, products and lengths, each for every number that is short enough for memory. -/
import Derived.Test.YtdgpkmphhjmdeaaNLong
import Derived.Test.YtdgpkmphhjmdeaaActsB
set_option autoImplicit false
set_option linter.all false
set_option maxHeartbeats 0
namespace Go.Proofs.Ytdgpkmphhjmdeaa
open Go Go.SE

def cfgC : Cfg := { anns := [(47, 0, { tmps := [3, 4], blks := [0], live := some [0] }), (57, 0, { tmps := [3, 4], blks := [0], live := some [0] }), (55, 0, { tmps := [6, 5, 7], blks := [0], live := some [0, 1] }), (56, 0, { tmps := [6], blks := [0], live := some [5, 1, 0] }), (56, 2, { tmps := [7, 8], blks := [0], live := some [0, 1, 5, 6] }), (34, 0, { tmps := [4], blks := [] })], fuel := 3 }

theorem c32 : RCheckC Try.prog 32 := fun _ h => ct_of mixed (cfg := cfgC) (args := [.v 0]) (kinds := [true]) rfl (t := t_checkOne 45) (by decide +kernel)
  [_] 1 rfl ⟨fun _ => rfl, trivial⟩ rfl (checkOne_den c45 h)
theorem c33 : RCheckC Try.prog 33 := fun _ h => ct_of mixed (cfg := cfgC) (args := [.v 0]) (kinds := [true]) rfl (t := t_rcheck 17) (by decide +kernel)
  [_] 1 rfl ⟨fun _ => rfl, trivial⟩ rfl (rcheck_den c17 h)
theorem c51 : RBothC Try.prog 51 := fun _ _ hA hB => ct_of mixed (cfg := cfgC) (args := [.v 0, .v 1]) (kinds := [true, true]) rfl (t := t_both 33) (by decide +kernel)
  [_, _] 2 rfl ⟨fun _ => rfl, fun _ => rfl, trivial⟩ rfl (both_den c33 hA hB)
theorem c47 : DigitsC Try.prog 47 := fun _ h hl => ct_of mixed (cfg := cfgC) (args := [.v 0]) (kinds := [true]) rfl (t := t_digits) (by decide +kernel)
  [_] 1 rfl ⟨fun _ => rfl, trivial⟩ rfl (digits_den h hl)
theorem c57 : OfC Try.prog 57 := fun _ h hl => ct_of mixed (cfg := cfgC) (args := [.v 0]) (kinds := [true]) rfl (t := t_of 17) (by decide +kernel)
  [_] 1 rfl ⟨fun _ => rfl, trivial⟩ rfl (of_den c17 h hl)
theorem c55 : SumC Try.prog 55 := fun _ _ hX hY hx hy => ct_of mixed (cfg := cfgC) (args := [.v 0, .v 1]) (kinds := [true, true]) rfl (t := t_sum) (by decide +kernel)
  [_, _] 2 rfl ⟨fun _ => rfl, fun _ => rfl, trivial⟩ rfl (sum_den hX hY hx hy)
theorem c56 : ProductC Try.prog 56 := fun _ _ hA hB hl => ct_of mixed (cfg := cfgC) (args := [.v 0, .v 1]) (kinds := [true, true]) rfl (t := t_product) (by decide +kernel)
  [_, _] 2 rfl ⟨fun _ => rfl, fun _ => rfl, trivial⟩ rfl (product_den hA hB hl)
theorem c54 : RToldC Try.prog 54 := fun X h hl => Ct.is (ct_of mixed (cfg := cfgC) (args := [.v 0]) (kinds := [true]) rfl (t := t_rtold 57 33) (by decide +kernel) [_] 1 rfl ⟨fun _ => rfl, trivial⟩ rfl (rtold_den c57 c33 h hl))
theorem c30 : Bin Try.prog 30 addS := fun A B hA hB => Ct.is (ct_of mixed (cfg := cfgC) (args := [.v 0, .v 1]) (kinds := [true, true]) rfl (t := t_radd 51 17 47 55 54) (by decide +kernel)
  [_, _] 2 rfl ⟨fun _ => rfl, fun _ => rfl, trivial⟩ rfl (radd_den c51 c17 c47 c55 c54 hA hB))
theorem c31 : Bin Try.prog 31 mulS := fun A B hA hB => Ct.is (ct_of mixed (cfg := cfgC) (args := [.v 0, .v 1]) (kinds := [true, true]) rfl (t := t_rmul 51 17 47 56 54) (by decide +kernel)
  [_, _] 2 rfl ⟨fun _ => rfl, fun _ => rfl, trivial⟩ rfl (rmul_den c51 c17 c47 c56 c54 hA hB))
theorem c34 : BitLenC Try.prog 34 := fun _ h hl => ct_of mixed (cfg := cfgC) (args := [.v 0]) (kinds := [true]) rfl (t := t_rlen 17) (by decide +kernel)
  [_] 1 rfl ⟨fun _ => rfl, trivial⟩ rfl (rlen_den c17 h hl)

end Go.Proofs.Ytdgpkmphhjmdeaa
