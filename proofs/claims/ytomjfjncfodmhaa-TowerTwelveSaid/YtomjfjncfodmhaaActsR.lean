/- What the reference's words and its field answer, each for every number. -/
import Derived.Test.YtomjfjncfodmhaaFY
import Derived.Test.YtomjfjncfodmhaaFV
import Derived.Test.YtomjfjncfodmhaaNA
import Derived.Test.YtomjfjncfodmhaaNG
import Derived.Test.YtomjfjncfodmhaaActs
import Derived.Test.YtomjfjncfodmhaaProg
set_option autoImplicit false
set_option linter.all false
set_option maxHeartbeats 0
namespace Go.Proofs.Ytomjfjncfodmhaa
open Go Go.SE
def cfgR : Cfg := { anns := [(90, 0, { tmps := [6, 5, 7], blks := [0], live := some [0, 1] }), (91, 0, { tmps := [6], blks := [0], live := some [5, 1, 0] }), (91, 2, { tmps := [7, 8], blks := [0], live := some [0, 1, 5, 6] }), (109, 0, { tmps := [6], blks := [], live := some [0, 1] }), (110, 0, { tmps := [5, 6, 7], blks := [0], live := some [1, 0] }), (93, 0, { tmps := [7, 8], blks := [0], live := some [1, 0, 6], vals := [7] }), (93, 2, { tmps := [7, 9], blks := [0], live := some [1, 0, 6, 8], vals := [7] }), (68, 0, { tmps := [4], blks := [2], vals := [10002] }), (98, 0, { tmps := [4], blks := [2], vals := [10002] }), (94, 0, { tmps := [3, 4], blks := [1], live := some [1] }), (92, 0, { tmps := [4], blks := [1], vals := [10001] }), (75, 0, { tmps := [5, 6], blks := [0], vals := [10000] }), (77, 0, { tmps := [6, 7], blks := [0], vals := [10000] }), (76, 0, { tmps := [10], blks := [5], vals := [10005] }), (76, 2, { tmps := [11, 12], blks := [5] }), (76, 4, { tmps := [11, 14], blks := [5] }), (76, 6, { tmps := [16], blks := [6], vals := [10006] }), (74, 0, { tmps := [10], blks := [4] })], fuel := 8 }
def cfgRH : Cfg := { anns := [], fuel := 8, base := 1 }
def cfgN : Cfg := { anns := [(38, 0, { tmps := [], blks := [1] }), (38, 2, { tmps := [5], blks := [1], vals := [10001] })], fuel := 8, muts := ⟨[{ f := 44, dst := none, flags := [true, false, false], sh := ⟨false, [.val false], 1⟩ }], []⟩ }
theorem c90 : SumC Try.prog 90 := fun _ _ hX hY hx hy => ct_of mixed (cfg := cfgR) (args := [.v 0, .v 1]) (kinds := [true, true]) rfl (t := t_sum) (by decide +kernel)
  [_, _] 2 rfl ⟨fun _ => rfl, fun _ => rfl, trivial⟩ rfl (sum_den hX hY hx hy)
theorem c91 : ProductC Try.prog 91 := fun _ _ hA hB hl => ct_of mixed (cfg := cfgR) (args := [.v 0, .v 1]) (kinds := [true, true]) rfl (t := t_product) (by decide +kernel)
  [_, _] 2 rfl ⟨fun _ => rfl, fun _ => rfl, trivial⟩ rfl (product_den hA hB hl)
theorem c109 : LessC Try.prog 109 := fun _ _ hX hY hx hy => ct_of mixed (cfg := cfgR) (args := [.v 0, .v 1]) (kinds := [true, true]) rfl (t := t_less) (by decide +kernel)
  [_, _] 2 rfl ⟨fun _ => rfl, fun _ => rfl, trivial⟩ rfl (less_den hX hY hx hy)
theorem c110 : RMinusC Try.prog 110 := fun _ _ hX hY hx hy hle => ct_of mixed (cfg := cfgR) (args := [.v 0, .v 1]) (kinds := [true, true]) rfl (t := t_rminus) (by decide +kernel)
  [_, _] 2 rfl ⟨fun _ => rfl, fun _ => rfl, trivial⟩ rfl (rminus_den hX hY hx hy hle)
theorem c93 : RDivC Try.prog 93 := fun _ _ hA hB h0 ha hb => ct_of mixed (cfg := cfgR) (args := [.v 0, .v 1]) (kinds := [true, true]) rfl (t := t_rdivide 91 109 110) (by decide +kernel)
  [_, _] 2 rfl ⟨fun _ => rfl, fun _ => rfl, trivial⟩ rfl (rdivide_den c91 c109 c110 hA hB h0 ha hb)
theorem c94 : WDigsC Try.prog 94 := fun _ ha => ct_of mixed (cfg := cfgR) (args := [.v 0]) (kinds := [false]) rfl (t := t_wdigs) (by decide +kernel)
  [_] 1 rfl ⟨fun h => (by cases h), trivial⟩ rfl (wdigs_den ha)
theorem c92 : WWordC Try.prog 92 := fun _ hL hl => ct_of mixed (cfg := cfgR) (args := [.v 0]) (kinds := [true]) rfl (t := t_wword) (by decide +kernel)
  [_] 1 rfl ⟨fun _ => rfl, trivial⟩ rfl (wword_den hL hl)
theorem c71 : WDivModC Try.prog 71 := fun _ _ ha hb => ct_of mixed (cfg := cfgR) (args := [.v 0, .v 1]) (kinds := [false, false]) rfl (t := t_wdivmod 94 93 92) (by decide +kernel)
  [_, _] 2 rfl ⟨fun h => (by cases h), fun h => (by cases h), trivial⟩ rfl (wdivmod_den c94 c93 c92 ha hb)
theorem c75 : W2 Try.prog 75 (fun a b => (a + W256 - b) % W256) := fun _ _ ha hb => ct_of mixed (cfg := cfgR) (args := [.v 0, .v 1]) (kinds := [false, false]) rfl (t := t_rminusW) (by decide +kernel)
  [_, _] 2 rfl ⟨fun h => (by cases h), fun h => (by cases h), trivial⟩ rfl (rminusW_den ha hb)
theorem c77 : RPlusC Try.prog 77 := fun _ _ ha hb => ct_of mixed (cfg := cfgR) (args := [.v 0, .v 1]) (kinds := [false, false]) rfl (t := t_rplusW) (by decide +kernel)
  [_, _] 2 rfl ⟨fun h => (by cases h), fun h => (by cases h), trivial⟩ rfl (rplusW_den ha hb)
theorem c70 : RMoreC Try.prog 70 := fun _ _ ha hb => ct_of mixed (cfg := cfgR) (args := [.v 0, .v 1]) (kinds := [false, false]) rfl (t := t_rmore) (by decide +kernel)
  [_, _] 2 rfl ⟨fun h => (by cases h), fun h => (by cases h), trivial⟩ rfl (rmore_den ha hb)
theorem c68 : PartsC Try.prog 68 := fun _ ha => ct_of mixed (cfg := cfgR) (args := [.v 0]) (kinds := [false]) rfl (t := t_parts) (by decide +kernel)
  [_] 1 rfl ⟨fun h => (by cases h), trivial⟩ rfl (parts_den ha)
theorem c98 : WholeC Try.prog 98 := fun _ ha => ct_of mixed (cfg := cfgR) (args := [.v 0]) (kinds := [false]) rfl (t := t_whole) (by decide +kernel)
  [_] 1 rfl ⟨fun h => (by cases h), trivial⟩ rfl (whole_den ha)
theorem c44 : R2C Try.prog 44 addM := fun _ _ _ _ _ hm hsq ha hb => ct_of mixed (cfg := cfgR) (args := [.v 0, .v 1, .v 2]) (kinds := [true, false, false]) rfl (t := t_rfadd 77 75 70) (by decide +kernel)
  [_, _, _] 3 rfl ⟨fun _ => rfl, fun h => (by cases h), fun h => (by cases h), trivial⟩ rfl (rfadd_den c77 c75 c70 hm hsq ha hb)
theorem h44 : R2H Try.prog 44 addM := fun _ _ _ _ _ hm hsq ha hb => ctH_of mixed (cfg := cfgRH) (args := [.ptr 0 (.c (.int .i64 0)), .val (.v 1), .val (.v 2)]) (bs := [.v 0]) (outs := []) (kinds := [false, false, false]) (t := t_rfaddH 77 75 70) (by decide +kernel)
  [_, _, _] 3 rfl ⟨fun h => (by cases h), fun h => (by cases h), fun h => (by cases h), trivial⟩ rfl rfl (fun _ h => by cases h) (rfaddH_den c77 c75 c70 hm hsq ha hb)
theorem c46 : R2C Try.prog 46 subM := fun _ _ _ _ _ hm hsq ha hb => ct_of mixed (cfg := cfgR) (args := [.v 0, .v 1, .v 2]) (kinds := [true, false, false]) rfl (t := t_rfsub 77 75 70) (by decide +kernel)
  [_, _, _] 3 rfl ⟨fun _ => rfl, fun h => (by cases h), fun h => (by cases h), trivial⟩ rfl (rfsub_den c77 c75 c70 hm hsq ha hb)
theorem c40 : ROfC Try.prog 40 := fun _ _ _ _ h0 hm hsq ha => ct_of mixed (cfg := cfgR) (args := [.v 0, .v 1]) (kinds := [true, false]) rfl (t := t_rfof 70 71) (by decide +kernel)
  [_, _] 2 rfl ⟨fun _ => rfl, fun h => (by cases h), trivial⟩ rfl (rfof_den c70 c71 h0 hm hsq ha)
theorem c76 : RCutC Try.prog 76 := fun _ _ _ _ _ hF ha hb => ct_of mixed (cfg := cfgR) (args := [.v 0, .v 1, .v 2]) (kinds := [true, false, false]) rfl (t := t_rcut 68 98 75 70) (by decide +kernel)
  [_, _, _] 3 rfl ⟨fun _ => rfl, fun h => (by cases h), fun h => (by cases h), trivial⟩ rfl (rcut_den c68 c98 c75 c70 hF ha hb)
theorem c43 : RMulC Try.prog 43 mulM := fun _ _ _ _ _ hF ha hb => ct_of mixed (cfg := cfgR) (args := [.v 0, .v 1, .v 2]) (kinds := [true, false, false]) rfl (t := t_rfmul 76) (by decide +kernel)
  [_, _, _] 3 rfl ⟨fun _ => rfl, fun h => (by cases h), fun h => (by cases h), trivial⟩ rfl (rfmul_den c76 hF ha hb)
theorem c38 : RNewC Try.prog 38 := fun _ ho h1 hm => ct_of mixed (cfg := cfgN) (args := [.v 0]) (kinds := [false]) rfl (t := t_rnew 68 44) (by decide +kernel)
  [_] 1 rfl ⟨fun h => (by cases h), trivial⟩ rfl (rnew_den c68 h44 ho h1 hm)
def cfgP : Cfg := { anns := [(69, 0, { tmps := [4, 5], blks := [], vals := [4] }), (69, 2, { tmps := [6], blks := [] })], fuel := 8 }
theorem c69 : ParseB Try.prog 69 := ct_of mixed (cfg := cfgP) (args := [.c (.str baseS)]) (kinds := []) rfl (t := t_parseB 91 90 92) (by decide +kernel)
  [] 0 rfl trivial rfl (parseB_den c91 c90 c92)
theorem c39 : Ct Try.prog 39 [] (fun e => e = .ret (WV pBase)) := ct_of mixed (cfg := cfgF) (args := []) (kinds := []) rfl (t := t_rBase 69) (by decide +kernel)
  [] 0 rfl trivial rfl (rBase_den c69)
end Go.Proofs.Ytomjfjncfodmhaa
