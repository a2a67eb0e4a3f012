/- What division of numbers answers, for every number that is short enough for memory. -/
import Derived.Test.YtdgpkmphhjmdeaaNL
import Derived.Test.YtdgpkmphhjmdeaaActsB
set_option autoImplicit false
set_option linter.all false
set_option maxHeartbeats 0
namespace Go.Proofs.Ytdgpkmphhjmdeaa
open Go Go.SE

def cfgE : Cfg := { anns := [(62, 0, { tmps := [7, 8], blks := [0] }), (64, 0, { tmps := [14], blks := [0] })], fuel := 3 }
def cfgE1 : Cfg := { anns := [(65, 0, { tmps := [7, 13], blks := [0] }), (66, 0, { tmps := [4, 9], blks := [0] }), (43, 0, { tmps := [0], blks := [] })], fuel := 3, base := 1 }
def cfgE64 : Cfg := { anns := [(64, 0, { tmps := [14], blks := [0] })], fuel := 3 }
def cfgE49 : Cfg := { anns := [(49, 1, { tmps := [11], blks := [0, 1], live := some [6, 10, 8, 9, 7] }), (49, 3, { tmps := [13, 14], blks := [], live := some [7, 9, 8, 10, 6, 11] }), (49, 5, { tmps := [163], blks := [0], live := some [15, 10, 6, 162] })], fuel := 3, muts := ⟨[{ f := 64, dst := some 48, flags := [false, false], sh := ⟨false, [.osl 0 1 true], 1⟩ }, { f := 65, dst := none, flags := [true, false, false], sh := ⟨false, [.val true], 1⟩ },
  { f := 66, dst := none, flags := [true, false], sh := ⟨true, [], 1⟩ }, { f := 43, dst := some 160, flags := [true], sh := ⟨false, [.osl 0 1 false], 1⟩ }], []⟩ }

theorem c71 : Div32C Try.prog 71 := fun _ _ _ hx hd hy => ct_of mixed (cfg := cfgE) (args := [.v 0, .v 1, .v 2]) (kinds := [true, true, true]) rfl (t := t_div32) (by decide +kernel)
  [_, _, _] 3 rfl ⟨fun _ => rfl, fun _ => rfl, fun _ => rfl, trivial⟩ rfl (div32_den hx hd hy)
theorem c63 : Lz32C Try.prog 63 := fun _ hx => ct_of mixed (cfg := cfgE) (args := [.v 0]) (kinds := [true]) rfl (t := t_lz32 61) (by decide +kernel)
  [_] 1 rfl ⟨fun _ => rfl, trivial⟩ rfl (lz32_den c61 hx)
theorem c62 : SmallC Try.prog 62 := fun _ _ hA hl h0 hd => ct_of mixed (cfg := cfgE) (args := [.v 0, .v 1]) (kinds := [true, true]) rfl (t := t_small 71 43) (by decide +kernel)
  [_, _] 2 rfl ⟨fun _ => rfl, fun _ => rfl, trivial⟩ rfl (small_den c71 c43 hA hl h0 hd)
theorem c64 : ShiftedC Try.prog 64 := fun _ _ hA hl hn => ct_of mixed (cfg := cfgE) (args := [.v 0, .v 1]) (kinds := [true, true]) rfl (t := t_shifted) (by decide +kernel)
  [_, _] 2 rfl ⟨fun _ => rfl, fun _ => rfl, trivial⟩ rfl (shifted_den hA hl hn)
theorem h64 : ShiftedH Try.prog 64 := fun A n hA hl hn => ctH_of mixed (cfg := cfgE64) (args := [.val (.v 0), .val (.v 1)]) (bs := []) (outs := [0]) (kinds := [true, true]) (t := t_shiftedH) (by decide +kernel) [_, _] 2 rfl ⟨fun _ => rfl, fun _ => rfl, trivial⟩ rfl rfl (fun _ h => by cases h) (shiftedH_den hA hl hn)
theorem h65 : TakesH Try.prog 65 := fun Pre U Suf V n cap hU hV hvl hl hn hle => ctH_of mixed (cfg := cfgE1) (args := [.osl 0 1 (.v 1) (.v 2) (.v 3), .val (.v 4), .val (.v 5)]) (bs := [.v 0]) (outs := []) (kinds := [false, true, true, true, true, true]) (t := t_takesH) (by decide +kernel)
  [_, _, _, _, _, _] 6 rfl ⟨fun h => (by cases h), fun _ => rfl, fun _ => rfl, fun _ => rfl, fun _ => rfl, fun _ => rfl, trivial⟩ rfl rfl (fun _ h => by cases h) (takesH_den hU hV hvl hl hn hle)
theorem h66 : GivesH Try.prog 66 := fun Pre U Suf V cap hU hV hvl hl => ctH_of mixed (cfg := cfgE1) (args := [.osl 0 1 (.v 1) (.v 2) (.v 3), .val (.v 4)]) (bs := [.v 0]) (outs := []) (kinds := [false, true, true, true, true]) (t := t_givesH 53) (by decide +kernel)
  [_, _, _, _, _] 5 rfl ⟨fun h => (by cases h), fun _ => rfl, fun _ => rfl, fun _ => rfl, fun _ => rfl, trivial⟩ rfl rfl (fun _ h => by cases h) (givesH_den c53 hU hV hvl hl)
theorem h43 : TrimH Try.prog 43 := fun C hC hl => ctH_of mixed (cfg := cfgE1) (args := [.osl 0 1 (.v 1) (.v 2) (.v 3)]) (bs := [.v 0]) (outs := []) (kinds := [false, true, true, true]) (t := t_trimH) (by decide +kernel)
  [_, _, _, _] 4 rfl ⟨fun h => (by cases h), fun _ => rfl, fun _ => rfl, fun _ => rfl, trivial⟩ rfl rfl (fun _ h => by cases h) (trimH_den hC hl)
theorem c49 : DivideC Try.prog 49 := fun A B hA hB nA nB hne hal hbl => Ct.is (ct_of mixed (cfg := cfgE49) (args := [.v 0, .v 1]) (kinds := [true, true]) rfl (t := t_divide 40 42 62 63 64 43 65 66) (by decide +kernel)
  [_, _] 2 rfl ⟨fun _ => rfl, fun _ => rfl, trivial⟩ rfl (divide_den c40 c42 c62 c63 c64 h64 c43 h43 h65 h66 hA hB nA nB hne hal hbl))

end Go.Proofs.Ytdgpkmphhjmdeaa
