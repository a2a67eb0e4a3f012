/- Bytes and numbers, the reference's too, each for every input that is short enough for memory. -/
import Derived.Test.YtdgpkmphhjmdeaaNQ
import Derived.Test.YtdgpkmphhjmdeaaActsD
set_option autoImplicit false
set_option linter.all false
set_option maxHeartbeats 0
namespace Go.Proofs.Ytdgpkmphhjmdeaa
open Go Go.SE

def cfgG : Cfg := { anns := [(19, 0, { tmps := [13], blks := [0] }), (20, 0, { tmps := [4, 5], blks := [0], live := some [0] }), (21, 0, { tmps := [35], blks := [1], live := some [7, 33, 1, 34] }), (21, 2, { tmps := [10], blks := [1], live := some [34, 1, 33, 7, 35, 8, 9] }), (22, 0, { tmps := [9], blks := [0] })], fuel := 3 }

theorem c19 : FromC Try.prog 19 := fun _ h hl => Ct.is (ct_of mixed (cfg := cfgG) (args := [.v 0]) (kinds := [true]) rfl (t := t_from 44) (by decide +kernel)
  [_] 1 rfl ⟨fun _ => rfl, trivial⟩ rfl (from_den c44 h hl))
theorem c20 : FromC Try.prog 20 := fun _ h hl => Ct.is (ct_of mixed (cfg := cfgG) (args := [.v 0]) (kinds := [true]) rfl (t := t_rfrom 33 17) (by decide +kernel)
  [_] 1 rfl ⟨fun _ => rfl, trivial⟩ rfl (rfrom_den c33 c17 h hl))
theorem c21 : BytesC Try.prog 21 := fun _ _ hA => Ct.is (ct_of mixed (cfg := cfgG) (args := [.v 0, .v 1]) (kinds := [true, true]) rfl (t := t_bytes 45 41 43) (by decide +kernel)
  [_, _] 2 rfl ⟨fun _ => rfl, fun _ => rfl, trivial⟩ rfl (bytes_den c45 c41 c43 hA))
theorem c22 : BytesC Try.prog 22 := fun _ _ hA => Ct.is (ct_of mixed (cfg := cfgG) (args := [.v 0, .v 1]) (kinds := [true, true]) rfl (t := t_rbytes 33 34 17) (by decide +kernel)
  [_, _] 2 rfl ⟨fun _ => rfl, fun _ => rfl, trivial⟩ rfl (rbytes_den c33 c34 c17 hA))

end Go.Proofs.Ytdgpkmphhjmdeaa
