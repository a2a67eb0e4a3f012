/- What the field's functions answer, each for every number. -/
import Derived.Test.YtomjfjncfodmhaaFG
import Derived.Test.YtomjfjncfodmhaaProg
set_option autoImplicit false
set_option linter.all false
set_option maxHeartbeats 0
namespace Go.Proofs.Ytomjfjncfodmhaa
open Go Go.SE
theorem mixed : Try.prog.follows .mixedOrders = true := by decide +kernel
def cfgF : Cfg := { anns := [(111, 0, { tmps := [17], blks := [3] }), (105, 0, { tmps := [15, 16], blks := [] }), (105, 2, { tmps := [18, 16], blks := [] }), (106, 0, { tmps := [8], blks := [2, 3] }), (95, 0, { tmps := [10], blks := [4] })], fuel := 8 }
theorem c85 : WSubC Try.prog 85 := fun _ _ ha hb => ct_of mixed (cfg := cfgF) (args := [.v 0, .v 1]) (kinds := [false, false]) rfl (t := t_wsub) (by decide +kernel)
  [_, _] 2 rfl ⟨fun h => (by cases h), fun h => (by cases h), trivial⟩ rfl (wsub_den ha hb)
theorem c108 : FLessC Try.prog 108 := fun _ _ _ _ _ hm hsq ha ho hlt => ct_of mixed (cfg := cfgF) (args := [.v 0, .v 1, .v 2]) (kinds := [true, false, true]) rfl (t := t_fless) (by decide +kernel)
  [_, _, _] 3 rfl ⟨fun _ => rfl, fun h => (by cases h), fun _ => rfl, trivial⟩ rfl (fless_den hm hsq ha ho hlt)
theorem c89 : F2C Try.prog 89 addM := fun _ _ _ _ _ hm hsq ha hb => ct_of mixed (cfg := cfgF) (args := [.v 0, .v 1, .v 2]) (kinds := [true, false, false]) rfl (t := t_fadd 108) (by decide +kernel)
  [_, _, _] 3 rfl ⟨fun _ => rfl, fun h => (by cases h), fun h => (by cases h), trivial⟩ rfl (fadd_den c108 hm hsq ha hb)
theorem c80 : F2C Try.prog 80 subM := fun _ _ _ _ _ hm hsq ha hb => ct_of mixed (cfg := cfgF) (args := [.v 0, .v 1, .v 2]) (kinds := [true, false, false]) rfl (t := t_fsub) (by decide +kernel)
  [_, _, _] 3 rfl ⟨fun _ => rfl, fun h => (by cases h), fun h => (by cases h), trivial⟩ rfl (fsub_den hm hsq ha hb)
theorem c118 : Mul64C Try.prog 118 := fun _ _ hx hy => ct_of mixed (cfg := cfgF) (args := [.v 0, .v 1]) (kinds := [true, true]) rfl (t := t_mul64) (by decide +kernel)
  [_, _] 2 rfl ⟨fun _ => rfl, fun _ => rfl, trivial⟩ rfl (mul64_den hx hy)
theorem c116 : MulAddC Try.prog 116 := fun _ _ _ _ hx hy hz hw => ct_of mixed (cfg := cfgF) (args := [.v 0, .v 1, .v 2, .v 3]) (kinds := [true, true, true, true]) rfl (t := t_mulAdd 118) (by decide +kernel)
  [_, _, _, _] 4 rfl ⟨fun _ => rfl, fun _ => rfl, fun _ => rfl, fun _ => rfl, trivial⟩ rfl (mulAdd_den c118 hx hy hz hw)
theorem c111 : MontC Try.prog 111 := fun _ _ _ _ _ hF ha hb => ct_of mixed (cfg := cfgF) (args := [.v 0, .v 1, .v 2]) (kinds := [true, false, false]) rfl (t := t_mont 116 108) (by decide +kernel)
  [_, _, _] 3 rfl ⟨fun _ => rfl, fun h => (by cases h), fun h => (by cases h), trivial⟩ rfl (mont_den c116 c108 hF ha hb)
theorem c96 : FmC Try.prog 96 mulM := fun _ _ _ _ _ hF ha hb => ct_of mixed (cfg := cfgF) (args := [.v 0, .v 1, .v 2]) (kinds := [true, false, false]) rfl (t := t_fmul 111) (by decide +kernel)
  [_, _, _] 3 rfl ⟨fun _ => rfl, fun h => (by cases h), fun h => (by cases h), trivial⟩ rfl (fmul_den c111 hF ha hb)
theorem c112 : Len64C Try.prog 112 := fun _ hx => ct_of mixed (cfg := cfgF) (args := [.v 0]) (kinds := [true]) rfl (t := t_len64) (by decide +kernel)
  [_] 1 rfl ⟨fun _ => rfl, trivial⟩ rfl (len64_den hx)
theorem c114 : Lz64C Try.prog 114 := fun _ hx => ct_of mixed (cfg := cfgF) (args := [.v 0]) (kinds := [true]) rfl (t := t_lz64 112) (by decide +kernel)
  [_] 1 rfl ⟨fun _ => rfl, trivial⟩ rfl (lz64_den c112 hx)
theorem c105 : Div64C Try.prog 105 := fun _ _ _ hy hh hl => ct_of mixed (cfg := cfgF) (args := [.v 0, .v 1, .v 2]) (kinds := [true, true, true]) rfl (t := t_div64 114) (by decide +kernel)
  [_, _, _] 3 rfl ⟨fun _ => rfl, fun _ => rfl, fun _ => rfl, trivial⟩ rfl (div64_den c114 hy hh hl)
theorem c117 : NanC Try.prog 117 .u64 := fun _ => ct_of mixed (cfg := cfgF) (args := [.v 0]) (kinds := [true]) rfl (t := t_nan) (by decide +kernel)
  [_] 1 rfl ⟨fun _ => rfl, trivial⟩ rfl (nan_den)
theorem c113 : CmpC Try.prog 113 .u64 := fun _ _ => ct_of mixed (cfg := cfgF) (args := [.v 0, .v 1]) (kinds := [true, true]) rfl (t := t_cmp 117) (by decide +kernel)
  [_, _] 2 rfl ⟨fun _ => rfl, fun _ => rfl, trivial⟩ rfl (cmp_den c117)
theorem c104 : WCmpC Try.prog 104 := fun _ _ ha hb => ct_of mixed (cfg := cfgF) (args := [.v 0, .v 1]) (kinds := [false, false]) rfl (t := t_cmpr 113) (by decide +kernel)
  [_, _] 2 rfl ⟨fun h => (by cases h), fun h => (by cases h), trivial⟩ rfl (cmpr_den c113 ha hb)
theorem c99 : WCmpC Try.prog 99 := fun _ _ ha hb => ct_of mixed (cfg := cfgF) (args := [.v 0, .v 1]) (kinds := [false, false]) rfl (t := t_wCmp 104) (by decide +kernel)
  [_, _] 2 rfl ⟨fun h => (by cases h), fun h => (by cases h), trivial⟩ rfl (wCmp_den c104 ha hb)
theorem c115 : DoubleC Try.prog 115 := fun _ _ ha hb => ct_of mixed (cfg := cfgF) (args := [.v 0, .v 1]) (kinds := [false, true]) rfl (t := t_double) (by decide +kernel)
  [_, _] 2 rfl ⟨fun h => (by cases h), fun _ => rfl, trivial⟩ rfl (double_den ha hb)
theorem c106 : DivideWC Try.prog 106 := fun _ _ hL h0 hl hm hmW => ct_of mixed (cfg := cfgF) (args := [.v 0, .v 1]) (kinds := [true, false]) rfl (t := t_divideW 115 85) (by decide +kernel)
  [_, _] 2 rfl ⟨fun _ => rfl, fun h => (by cases h), trivial⟩ rfl (divideW_den c115 c85 hL h0 hl hm hmW)
theorem c84 : WDivC Try.prog 84 := fun _ _ ha hb h0 => ct_of mixed (cfg := cfgF) (args := [.v 0, .v 1]) (kinds := [false, false]) rfl (t := t_wdiv 104 105 106) (by decide +kernel)
  [_, _] 2 rfl ⟨fun h => (by cases h), fun h => (by cases h), trivial⟩ rfl (wdiv_den c104 c105 c106 ha hb h0)
theorem c100 : WModC Try.prog 100 := fun _ _ ha hb h0 => ct_of mixed (cfg := cfgF) (args := [.v 0, .v 1]) (kinds := [false, false]) rfl (t := t_wMod 84) (by decide +kernel)
  [_, _] 2 rfl ⟨fun h => (by cases h), fun h => (by cases h), trivial⟩ rfl (wMod_den c84 ha hb h0)
theorem c79 : OfMC Try.prog 79 := fun _ _ _ _ h0 hm hsq ha => ct_of mixed (cfg := cfgF) (args := [.v 0, .v 1]) (kinds := [true, false]) rfl (t := t_ofM 99 100) (by decide +kernel)
  [_, _] 2 rfl ⟨fun _ => rfl, fun h => (by cases h), trivial⟩ rfl (ofM_den c99 c100 h0 hm hsq ha)
theorem c67 : FWC Try.prog 67 aAdd := fun _ _ _ _ _ hF ha hb => ct_of mixed (cfg := cfgF) (args := [.v 0, .v 1, .v 2]) (kinds := [true, false, false]) rfl (t := t_Add 79 89) (by decide +kernel)
  [_, _, _] 3 rfl ⟨fun _ => rfl, fun h => (by cases h), fun h => (by cases h), trivial⟩ rfl (Add_den c79 c89 hF ha hb)
theorem c73 : FWC Try.prog 73 aMul := fun _ _ _ _ _ hF ha hb => ct_of mixed (cfg := cfgF) (args := [.v 0, .v 1, .v 2]) (kinds := [true, false, false]) rfl (t := t_Mul 79 96) (by decide +kernel)
  [_, _, _] 3 rfl ⟨fun _ => rfl, fun h => (by cases h), fun h => (by cases h), trivial⟩ rfl (Mul_den c79 c96 hF ha hb)
theorem c78 : FWC Try.prog 78 aSub := fun _ _ _ _ _ hF ha hb => ct_of mixed (cfg := cfgF) (args := [.v 0, .v 1, .v 2]) (kinds := [true, false, false]) rfl (t := t_Sub 79 80) (by decide +kernel)
  [_, _, _] 3 rfl ⟨fun _ => rfl, fun h => (by cases h), fun h => (by cases h), trivial⟩ rfl (Sub_den c79 c80 hF ha hb)
end Go.Proofs.Ytomjfjncfodmhaa
