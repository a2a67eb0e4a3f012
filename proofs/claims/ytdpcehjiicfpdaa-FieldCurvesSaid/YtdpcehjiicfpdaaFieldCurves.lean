/- The law FieldCurves answers true for every input and leaves it as it was. -/
import Derived.Test.YtdpcehjiicfpdaaBE
import Derived.Test.YtdpcehjiicfpdaaFJ
import Derived.Test.YtdpcehjiicfpdaaActsR
import Derived.Test.YtdpcehjiicfpdaaRows
set_option autoImplicit false
set_option linter.all false
set_option maxHeartbeats 0
namespace Go.Proofs.Ytdpcehjiicfpdaa
open Go Go.SE Go.ChangeShapes Go.WideShapes Go.ChangeAt Go.RowKit
theorem Try.own : ownKnob Try.prog.godebug = none := by kernel_rfl
theorem Try.laidOut : laidOutB Try.prog = true := by kernel_rfl
theorem c23 : Ct Try.prog 23 [] (fun e => e = .ret (WV pCurve)) := ct_of mixed (cfg := cfgF) (args := []) (kinds := []) rfl (t := t_rCurve) (by decide +kernel)
  [] 0 rfl trivial rfl (rCurve_den)
theorem c24 : Ct Try.prog 24 [] (fun e => e = .ret (WV pOrder)) := ct_of mixed (cfg := cfgF) (args := []) (kinds := []) rfl (t := t_rOrder) (by decide +kernel)
  [] 0 rfl trivial rfl (rOrder_den)
def cfgP : Cfg := { anns := [(49, 0, { tmps := [4, 5], blks := [], vals := [4] }), (49, 2, { tmps := [6], blks := [] })], fuel := 8 }
theorem c49 : ParseB Try.prog 49 := ct_of mixed (cfg := cfgP) (args := [.c (.str baseS)]) (kinds := []) rfl (t := t_parseB 40 37 39) (by decide +kernel)
  [] 0 rfl trivial rfl (parseB_den c40 c37 c39)
theorem c25 : Ct Try.prog 25 [] (fun e => e = .ret (WV pBase)) := ct_of mixed (cfg := cfgF) (args := []) (kinds := []) rfl (t := t_rBase 49) (by decide +kernel)
  [] 0 rfl trivial rfl (rBase_den c49)
def cfgK : Cfg := { anns := [(5, 0, { tmps := [7], blks := [] })], fuel := 8 }
theorem c5 : ∀ {a b : Nat}, a < W256 → b < W256 → Ct Try.prog 5 [WV a, WV b] (fun e => e = .ret (.bool true)) := fun {_ _} ha hb => ct_of mixed (cfg := cfgK) (args := [.v 0, .v 1]) (kinds := [false, false]) rfl (t := t_fieldCurves 22 23 24 25 20 26 16 12 27 28 10) (by decide +kernel)
  [_, _] 2 rfl ⟨fun h => (by cases h), fun h => (by cases h), trivial⟩ rfl (fieldCurves_den c22 c23 c24 c25 c20 c26 c16 c12 c27 c28 c10 ha hb)
set_option maxRecDepth 100000 in
theorem fieldCurves_lifted (os : Os) (started : os.Started) (H : Type) (enc : TypeId × Value → H) :
    ReturnsInHanded {} Try.checked os 5 .any (Rows.fieldCurvesSpec.pre6 enc Try.prog Try.f5 Rows.fieldCurvesRow.domain false) (Rows.fieldCurvesSpec.post enc Try.prog Try.f5 false true false false) := by
  refine returnsInHanded_of_change_sized (C := Try.checked) Try.own started (by kernel_rfl) Try.func5
    (ChangeSpec.witness6 (enc := enc) (C := Try.checked) false ⟨#[], #[.agg #[.int .u64 0, .int .u64 0, .int .u64 0, .int .u64 0], .agg #[.int .u64 0, .int .u64 0, .int .u64 0, .int .u64 0]], []⟩ 8 (by kernel_rfl) (by kernel_rfl) (by kernel_rfl) (by kernel_rfl)) ?_
  intro Wd base args ds gs before hval0 hW hcnd hsz0 _
  have hval : ∀ (j : Nat) t v, Try.f5.params[j]? = some t → args[j]? = some v → Value.okWide Try.prog Wd .any base t v := hval0
  have hsz : (DataW.weightsEach Try.prog (Try.f5.params.toList ++ Rows.fieldCurvesSpec.plain.varTypes Try.prog) (ds ++ gs)).all (· ≤ reachBytes) = true := hsz0
  have hW' := hW
  obtain ⟨p, q, hA0, hV, rfl, hfz, hnd⟩ := hW
  have hA : DataW.TrodAll enc Try.prog Wd 0 (fun _ => true) true Try.f5.params.toList args.toList ds p := hA0
  rw [Try.params5] at hA hval hsz
  obtain ⟨v0, v1, d0, d1, p0, p1, rfl, rfl, rfl, h0, h1⟩ := trodAll_two hA
  obtain ⟨rfl, rfl⟩ := trodVars_none hV
  obtain ⟨La, la, ta, ra⟩ := rep_u64s (Φ := memOf Wd) (t := 24) (e := 22) (n := 4) (ts := [22, 22, 22, 22]) (by kernel_rfl) (by kernel_rfl) (fun u hu => by
    simp only [List.mem_cons, List.not_mem_nil, or_false, or_self] at hu
    subst hu; kernel_rfl) (hval 0 24 v0 rfl rfl)
  have za : Try.prog.cellsOf 24 = 4 := by kernel_rfl
  rw [za] at la
  obtain ⟨a, ha, ea⟩ := word_of la ta
  rw [ea] at ra
  obtain ⟨Lb, lb, tb, rb⟩ := rep_u64s (Φ := memOf Wd) (t := 24) (e := 22) (n := 4) (ts := [22, 22, 22, 22]) (by kernel_rfl) (by kernel_rfl) (fun u hu => by
    simp only [List.mem_cons, List.not_mem_nil, or_false, or_self] at hu
    subst hu; kernel_rfl) (hval 1 24 v1 rfl rfl)
  have zb : Try.prog.cellsOf 24 = 4 := by kernel_rfl
  rw [zb] at lb
  obtain ⟨b, hb, eb⟩ := word_of lb tb
  rw [eb] at rb
  exact law_calls (tb := 4) Try.laidOut (by decide +kernel) rfl (by kernel_rfl) (by kernel_rfl) ⟨rfl, rfl, rfl⟩ hW' (avs := [WV a, WV b]) ⟨rfl, ra, rb, trivial⟩
    (c5 ha hb)
theorem fieldCurves_holds : Rows.FieldCurvesSaid :=
  OpenClaim.holds_of_wide 5 Try.f5 rfl rfl rfl rfl rfl rfl rfl ⟨rfl, rfl, rfl, rfl, rfl⟩ rfl rfl rfl rfl rfl (by kernel_rfl) Try.func5 (by kernel_rfl)
    (of_decide_eq_true (by kernel_rfl)) (by unfold Func.isWrapper; first | (rw [if_pos (by decide +kernel)]; kernel_rfl) | (rw [if_neg (by decide +kernel)]; exact ⟨rfl, rfl⟩))
    (fun os started H enc _ => fieldCurves_lifted os started H enc)
end Go.Proofs.Ytdpcehjiicfpdaa
