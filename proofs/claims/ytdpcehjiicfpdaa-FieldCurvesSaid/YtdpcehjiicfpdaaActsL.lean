/- The three fields of the curves. -/
import Derived.Test.YtdpcehjiicfpdaaFK
import Derived.Test.YtdpcehjiicfpdaaActs
import Derived.Test.YtdpcehjiicfpdaaProg
set_option autoImplicit false
set_option linter.all false
set_option maxHeartbeats 0
namespace Go.Proofs.Ytdpcehjiicfpdaa
open Go Go.SE
theorem c46 : Ct Try.prog 46 [] (fun e => e = .ret fCurve) := ct_of mixed (cfg := cfgF) (args := []) (kinds := []) rfl (t := t_fCurve) (by decide +kernel)
  [] 0 rfl trivial rfl (fCurve_den)
theorem c47 : Ct Try.prog 47 [] (fun e => e = .ret fOrder) := ct_of mixed (cfg := cfgF) (args := []) (kinds := []) rfl (t := t_fOrder) (by decide +kernel)
  [] 0 rfl trivial rfl (fOrder_den)
theorem c48 : Ct Try.prog 48 [] (fun e => e = .ret fBase) := ct_of mixed (cfg := cfgF) (args := []) (kinds := []) rfl (t := t_fBase) (by decide +kernel)
  [] 0 rfl trivial rfl (fBase_den)
theorem c22 : Fields Try.prog 22 := ct_of mixed (cfg := cfgF) (args := []) (kinds := []) rfl (t := t_fields 46 47 48) (by decide +kernel)
  [] 0 rfl trivial rfl (fields_den c46 c47 c48)
end Go.Proofs.Ytdpcehjiicfpdaa
