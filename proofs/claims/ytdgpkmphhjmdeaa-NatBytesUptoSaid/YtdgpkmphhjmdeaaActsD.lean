/- What differences of numbers answer, the reference's too, each for every number that is short enough for memory. -/
import Derived.Test.YtdgpkmphhjmdeaaNG
import Derived.Test.YtdgpkmphhjmdeaaActsC
set_option autoImplicit false
set_option linter.all false
set_option maxHeartbeats 0
namespace Go.Proofs.Ytdgpkmphhjmdeaa
open Go Go.SE

def cfgD : Cfg := { anns := [(46, 0, { tmps := [6], blks := [], live := some [0, 1] }), (39, 0, { tmps := [7, 8, 11], blks := [0], live := some [9, 10] })], fuel := 3 }
def cfg58 : Cfg := { anns := [(58, 0, { tmps := [4, 9], blks := [0] })], fuel := 3, base := 1 }
def cfg38 : Cfg := { anns := [], fuel := 3, muts := ⟨[{ f := 42, dst := none, flags := [false], sh := ⟨false, [.osl 0 1 true], 1⟩ }, { f := 58, dst := none, flags := [true, false], sh := ⟨true, [], 1⟩ }], []⟩ }

theorem c68 : Sub32C Try.prog 68 := fun _ _ _ hx hy hc => ct_of mixed (cfg := cfgD) (args := [.v 0, .v 1, .v 2]) (kinds := [true, true, true]) rfl (t := t_sub32) (by decide +kernel)
  [_, _, _] 3 rfl ⟨fun _ => rfl, fun _ => rfl, fun _ => rfl, trivial⟩ rfl (sub32_den hx hy hc)
theorem c46 : LessC Try.prog 46 := fun _ _ hX hY hx hy => ct_of mixed (cfg := cfgD) (args := [.v 0, .v 1]) (kinds := [true, true]) rfl (t := t_less) (by decide +kernel)
  [_, _] 2 rfl ⟨fun _ => rfl, fun _ => rfl, trivial⟩ rfl (less_den hX hY hx hy)
theorem c23 : RCmpC Try.prog 23 := fun _ _ hA hB hx hy => ct_of mixed (cfg := cfgD) (args := [.v 0, .v 1]) (kinds := [true, true]) rfl (t := t_rcmp 17 47 46) (by decide +kernel)
  [_, _] 2 rfl ⟨fun _ => rfl, fun _ => rfl, trivial⟩ rfl (rcmp_den c17 c47 c46 hA hB hx hy)
theorem h42 : CloneH Try.prog 42 := fun L h0 hl => ctH_of mixed (cfg := { anns := [], fuel := 3 }) (args := [.val (.v 0)]) (bs := []) (outs := [1]) (kinds := [true]) (t := t_cloneH) (by decide +kernel) [W L] 1 rfl ⟨fun _ => rfl, trivial⟩ rfl rfl (fun _ h => by cases h) (cloneH_den h0 hl)
theorem h58 : MinusH Try.prog 58 := fun X Y hX hY hx hy hle => ctH_of mixed (cfg := cfg58) (args := [.osl 0 1 (.v 1) (.v 2) (.v 3), .val (.v 4)]) (bs := [.v 0]) (outs := []) (kinds := [false, true, true, true, true]) (t := t_minusH 68) (by decide +kernel)
  [_, _, _, _, _] 5 rfl ⟨fun h => (by cases h), fun _ => rfl, fun _ => rfl, fun _ => rfl, fun _ => rfl, trivial⟩ rfl rfl (fun _ h => by cases h) (minusH_den c68 hX hY hx hy hle)
theorem c58 : Minus0 Try.prog 58 := fun Y => ct_of mixed (cfg := { anns := [], fuel := 3 }) (args := [.v 0, .v 1]) (kinds := [true, true]) rfl (t := t_minus0 68) (by decide +kernel) [_, _] 2 rfl ⟨fun _ => rfl, fun _ => rfl, trivial⟩ rfl minus0_den
theorem c38 : Bin Try.prog 38 subS := fun A B hA hB => by
  rcases Nat.eq_zero_or_pos (nrm A).length with h | h
  · exact Ct.is (ct_of mixed (cfg := cfgD) (args := [.v 0, .v 1]) (kinds := [true, true]) rfl (t := t_sub0 45 40 43 42 58 44) (by decide +kernel) [_, _] 2 rfl ⟨fun _ => rfl, fun _ => rfl, trivial⟩ rfl
      (sub0_den c45 c40 c43 c42 c58 c44 hA hB (List.eq_nil_of_length_eq_zero h)))
  · exact Ct.is (ct_of mixed (cfg := cfg38) (args := [.v 0, .v 1]) (kinds := [true, true]) rfl (t := t_subH 45 40 43 42 58 44) (by decide +kernel) [_, _] 2 rfl ⟨fun _ => rfl, fun _ => rfl, trivial⟩ rfl
      (subH_den c45 c40 c43 h42 h58 c44 hA hB h))
theorem c39 : Bin Try.prog 39 subS := fun A B hA hB => Ct.is (ct_of mixed (cfg := cfgD) (args := [.v 0, .v 1]) (kinds := [true, true]) rfl (t := t_rsub 51 23 17) (by decide +kernel)
  [_, _] 2 rfl ⟨fun _ => rfl, fun _ => rfl, trivial⟩ rfl (rsub_den c51 c23 c17 hA hB))

end Go.Proofs.Ytdgpkmphhjmdeaa
