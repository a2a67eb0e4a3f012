/- What sums and products of numbers answer, each for every number that is short enough for memory. -/
import Derived.Test.YtdgpkmphhjmdeaaNC
import Derived.Test.YtdgpkmphhjmdeaaActs
set_option autoImplicit false
set_option linter.all false
set_option maxHeartbeats 0
namespace Go.Proofs.Ytdgpkmphhjmdeaa
open Go Go.SE

def cfgB : Cfg := { anns := [(45, 0, { tmps := [7], blks := [] }), (48, 0, { tmps := [19], blks := [0] }), (48, 2, { tmps := [8, 26], blks := [0] }), (29, 0, { tmps := [8, 34], blks := [1], live := some [7, 1, 33] })], fuel := 3 }

theorem c45 : CheckC Try.prog 45 := fun _ h hl => ct_of mixed (cfg := cfgB) (args := [.v 0]) (kinds := [true]) rfl (t := t_check 43) (by decide +kernel)
  [_] 1 rfl ⟨fun _ => rfl, trivial⟩ rfl (check_den c43 h hl)
theorem c50 : ClipC Try.prog 50 := fun L => Ct.is (ct_of mixed (cfg := cfgB) (args := [.v 0]) (kinds := [true]) rfl (t := t_clip) (by decide +kernel) [_] 1 rfl ⟨fun _ => rfl, trivial⟩ rfl clip_den)
theorem c44 : ToldC Try.prog 44 := fun L h => Ct.is (ct_of mixed (cfg := cfgB) (args := [.v 0]) (kinds := [true]) rfl (t := t_told 43 50) (by decide +kernel) [_] 1 rfl ⟨fun _ => rfl, trivial⟩ rfl (told_den c43 c50 h))
theorem c53 : Add32C Try.prog 53 := fun _ _ _ hx hy hc => ct_of mixed (cfg := cfgB) (args := [.v 0, .v 1, .v 2]) (kinds := [true, true, true]) rfl (t := t_add32) (by decide +kernel)
  [_, _, _] 3 rfl ⟨fun _ => rfl, fun _ => rfl, fun _ => rfl, trivial⟩ rfl (add32_den hx hy hc)
theorem c29 : Bin Try.prog 29 addS := fun A B hA hB => Ct.is (ct_of mixed (cfg := cfgB) (args := [.v 0, .v 1]) (kinds := [true, true]) rfl (t := t_add 45 43 53 44) (by decide +kernel)
  [_, _] 2 rfl ⟨fun _ => rfl, fun _ => rfl, trivial⟩ rfl (add_den c45 c43 c53 c44 hA hB))
theorem c48 : TimesC Try.prog 48 := fun _ _ hA hB hl => ct_of mixed (cfg := cfgB) (args := [.v 0, .v 1]) (kinds := [true, true]) rfl (t := t_times 43) (by decide +kernel)
  [_, _] 2 rfl ⟨fun _ => rfl, fun _ => rfl, trivial⟩ rfl (times_den c43 hA hB hl)
theorem c25 : Bin Try.prog 25 mulS := fun A B hA hB => Ct.is (ct_of mixed (cfg := cfgB) (args := [.v 0, .v 1]) (kinds := [true, true]) rfl (t := t_mul 45 43 48 44) (by decide +kernel)
  [_, _] 2 rfl ⟨fun _ => rfl, fun _ => rfl, trivial⟩ rfl (mul_den c45 c43 c48 c44 hA hB))
theorem c24 : FewC Try.prog 24 := fun _ _ _ => ct_of mixed (cfg := cfgB) (args := [.v 0, .v 1]) (kinds := [true, true]) rfl (t := t_few) (by decide +kernel)
  [_, _] 2 rfl ⟨fun _ => rfl, fun _ => rfl, trivial⟩ rfl few_den

end Go.Proofs.Ytdgpkmphhjmdeaa
