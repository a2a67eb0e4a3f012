/- What the reference's words and its field answer, each for every number. -/
import Derived.Test.YtdpcehjiicfpdaaFX
import Derived.Test.YtdpcehjiicfpdaaFT
import Derived.Test.YtdpcehjiicfpdaaFU
import Derived.Test.YtdpcehjiicfpdaaNF
import Derived.Test.YtdpcehjiicfpdaaNM
import Derived.Test.YtdpcehjiicfpdaaActsL
import Derived.Test.YtdpcehjiicfpdaaProg
set_option autoImplicit false
set_option linter.all false
set_option maxHeartbeats 0
namespace Go.Proofs.Ytdpcehjiicfpdaa
open Go Go.SE
def cfgR : Cfg := { anns := [(37, 0, { tmps := [6, 5, 7], blks := [0], live := some [0, 1] }), (40, 0, { tmps := [6], blks := [0], live := some [5, 1, 0] }), (40, 2, { tmps := [7, 8], blks := [0], live := some [0, 1, 5, 6] }), (62, 0, { tmps := [6], blks := [], live := some [0, 1] }), (63, 0, { tmps := [5, 6, 7], blks := [0], live := some [1, 0] }), (36, 0, { tmps := [7, 8], blks := [0], live := some [1, 0, 6], vals := [7] }), (36, 2, { tmps := [7, 9], blks := [0], live := some [1, 0, 6, 8], vals := [7] }), (41, 0, { tmps := [4], blks := [2], vals := [10002] }), (64, 0, { tmps := [4], blks := [2], vals := [10002] }), (38, 0, { tmps := [3, 4], blks := [1], live := some [1] }), (39, 0, { tmps := [4], blks := [1], vals := [10001] }), (44, 0, { tmps := [5, 6], blks := [0], vals := [10000] }), (45, 0, { tmps := [6, 7], blks := [0], vals := [10000] }), (51, 0, { tmps := [10], blks := [5], vals := [10005] }), (51, 2, { tmps := [11, 12], blks := [5] }), (51, 4, { tmps := [11, 14], blks := [5] }), (51, 6, { tmps := [16], blks := [6], vals := [10006] })], fuel := 8 }
def cfgRH : Cfg := { anns := [], fuel := 8, base := 1 }
def cfgN : Cfg := { anns := [(20, 0, { tmps := [], blks := [1] }), (20, 2, { tmps := [5], blks := [1], vals := [10001] })], fuel := 8, muts := ⟨[{ f := 42, dst := none, flags := [true, false, false], sh := ⟨false, [.val false], 1⟩ }], []⟩ }
theorem c37 : SumC Try.prog 37 := fun _ _ hX hY hx hy => ct_of mixed (cfg := cfgR) (args := [.v 0, .v 1]) (kinds := [true, true]) rfl (t := t_sum) (by decide +kernel)
  [_, _] 2 rfl ⟨fun _ => rfl, fun _ => rfl, trivial⟩ rfl (sum_den hX hY hx hy)
theorem c40 : ProductC Try.prog 40 := fun _ _ hA hB hl => ct_of mixed (cfg := cfgR) (args := [.v 0, .v 1]) (kinds := [true, true]) rfl (t := t_product) (by decide +kernel)
  [_, _] 2 rfl ⟨fun _ => rfl, fun _ => rfl, trivial⟩ rfl (product_den hA hB hl)
theorem c62 : LessC Try.prog 62 := fun _ _ hX hY hx hy => ct_of mixed (cfg := cfgR) (args := [.v 0, .v 1]) (kinds := [true, true]) rfl (t := t_less) (by decide +kernel)
  [_, _] 2 rfl ⟨fun _ => rfl, fun _ => rfl, trivial⟩ rfl (less_den hX hY hx hy)
theorem c63 : RMinusC Try.prog 63 := fun _ _ hX hY hx hy hle => ct_of mixed (cfg := cfgR) (args := [.v 0, .v 1]) (kinds := [true, true]) rfl (t := t_rminus) (by decide +kernel)
  [_, _] 2 rfl ⟨fun _ => rfl, fun _ => rfl, trivial⟩ rfl (rminus_den hX hY hx hy hle)
theorem c36 : RDivC Try.prog 36 := fun _ _ hA hB h0 ha hb => ct_of mixed (cfg := cfgR) (args := [.v 0, .v 1]) (kinds := [true, true]) rfl (t := t_rdivide 40 62 63) (by decide +kernel)
  [_, _] 2 rfl ⟨fun _ => rfl, fun _ => rfl, trivial⟩ rfl (rdivide_den c40 c62 c63 hA hB h0 ha hb)
theorem c38 : WDigsC Try.prog 38 := fun _ ha => ct_of mixed (cfg := cfgR) (args := [.v 0]) (kinds := [false]) rfl (t := t_wdigs) (by decide +kernel)
  [_] 1 rfl ⟨fun h => (by cases h), trivial⟩ rfl (wdigs_den ha)
theorem c39 : WWordC Try.prog 39 := fun _ hL hl => ct_of mixed (cfg := cfgR) (args := [.v 0]) (kinds := [true]) rfl (t := t_wword) (by decide +kernel)
  [_] 1 rfl ⟨fun _ => rfl, trivial⟩ rfl (wword_den hL hl)
theorem c50 : WDivModC Try.prog 50 := fun _ _ ha hb => ct_of mixed (cfg := cfgR) (args := [.v 0, .v 1]) (kinds := [false, false]) rfl (t := t_wdivmod 38 36 39) (by decide +kernel)
  [_, _] 2 rfl ⟨fun h => (by cases h), fun h => (by cases h), trivial⟩ rfl (wdivmod_den c38 c36 c39 ha hb)
theorem c44 : W2 Try.prog 44 (fun a b => (a + W256 - b) % W256) := fun _ _ ha hb => ct_of mixed (cfg := cfgR) (args := [.v 0, .v 1]) (kinds := [false, false]) rfl (t := t_rminusW) (by decide +kernel)
  [_, _] 2 rfl ⟨fun h => (by cases h), fun h => (by cases h), trivial⟩ rfl (rminusW_den ha hb)
theorem c45 : RPlusC Try.prog 45 := fun _ _ ha hb => ct_of mixed (cfg := cfgR) (args := [.v 0, .v 1]) (kinds := [false, false]) rfl (t := t_rplusW) (by decide +kernel)
  [_, _] 2 rfl ⟨fun h => (by cases h), fun h => (by cases h), trivial⟩ rfl (rplusW_den ha hb)
theorem c43 : RMoreC Try.prog 43 := fun _ _ ha hb => ct_of mixed (cfg := cfgR) (args := [.v 0, .v 1]) (kinds := [false, false]) rfl (t := t_rmore) (by decide +kernel)
  [_, _] 2 rfl ⟨fun h => (by cases h), fun h => (by cases h), trivial⟩ rfl (rmore_den ha hb)
theorem c41 : PartsC Try.prog 41 := fun _ ha => ct_of mixed (cfg := cfgR) (args := [.v 0]) (kinds := [false]) rfl (t := t_parts) (by decide +kernel)
  [_] 1 rfl ⟨fun h => (by cases h), trivial⟩ rfl (parts_den ha)
theorem c64 : WholeC Try.prog 64 := fun _ ha => ct_of mixed (cfg := cfgR) (args := [.v 0]) (kinds := [false]) rfl (t := t_whole) (by decide +kernel)
  [_] 1 rfl ⟨fun h => (by cases h), trivial⟩ rfl (whole_den ha)
theorem h42 : R2H Try.prog 42 addM := fun _ _ _ _ _ hm hsq ha hb => ctH_of mixed (cfg := cfgRH) (args := [.ptr 0 (.c (.int .i64 0)), .val (.v 1), .val (.v 2)]) (bs := [.v 0]) (outs := []) (kinds := [false, false, false]) (t := t_rfaddH 45 44 43) (by decide +kernel)
  [_, _, _] 3 rfl ⟨fun h => (by cases h), fun h => (by cases h), fun h => (by cases h), trivial⟩ rfl rfl (fun _ h => by cases h) (rfaddH_den c45 c44 c43 hm hsq ha hb)
theorem c26 : ROfC Try.prog 26 := fun _ _ _ _ h0 hm hsq ha => ct_of mixed (cfg := cfgR) (args := [.v 0, .v 1]) (kinds := [true, false]) rfl (t := t_rfof 43 50) (by decide +kernel)
  [_, _] 2 rfl ⟨fun _ => rfl, fun h => (by cases h), trivial⟩ rfl (rfof_den c43 c50 h0 hm hsq ha)
theorem c51 : RCutC Try.prog 51 := fun _ _ _ _ _ hF ha hb => ct_of mixed (cfg := cfgR) (args := [.v 0, .v 1, .v 2]) (kinds := [true, false, false]) rfl (t := t_rcut 41 64 44 43) (by decide +kernel)
  [_, _, _] 3 rfl ⟨fun _ => rfl, fun h => (by cases h), fun h => (by cases h), trivial⟩ rfl (rcut_den c41 c64 c44 c43 hF ha hb)
theorem c27 : RMulC Try.prog 27 mulM := fun _ _ _ _ _ hF ha hb => ct_of mixed (cfg := cfgR) (args := [.v 0, .v 1, .v 2]) (kinds := [true, false, false]) rfl (t := t_rfmul 51) (by decide +kernel)
  [_, _, _] 3 rfl ⟨fun _ => rfl, fun h => (by cases h), fun h => (by cases h), trivial⟩ rfl (rfmul_den c51 hF ha hb)
theorem c20 : RNewC Try.prog 20 := fun _ ho h1 hm => ct_of mixed (cfg := cfgN) (args := [.v 0]) (kinds := [false]) rfl (t := t_rnew 41 42) (by decide +kernel)
  [_] 1 rfl ⟨fun h => (by cases h), trivial⟩ rfl (rnew_den c41 h42 ho h1 hm)
end Go.Proofs.Ytdpcehjiicfpdaa
