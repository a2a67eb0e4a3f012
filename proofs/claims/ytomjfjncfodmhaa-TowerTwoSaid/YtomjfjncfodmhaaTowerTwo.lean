/- The law TowerTwo answers true for every input and leaves it as it was. -/
import Derived.Test.YtomjfjncfodmhaaBE
import Derived.Test.YtomjfjncfodmhaaFJ
import Derived.Test.YtomjfjncfodmhaaActsU
import Derived.Test.YtomjfjncfodmhaaRows
set_option autoImplicit false
set_option linter.all false
set_option maxHeartbeats 0
namespace Go.Proofs.Ytomjfjncfodmhaa
open Go Go.SE Go.ChangeShapes Go.WideShapes Go.ChangeAt Go.RowKit
theorem Try.own : ownKnob Try.prog.godebug = none := by kernel_rfl
theorem Try.laidOut : laidOutB Try.prog = true := by kernel_rfl
theorem c4 : ∀ {x y z w : Nat}, x < W256 → y < W256 → z < W256 → w < W256 → Ct Try.prog 4 [WW x y, WW z w] (fun e => e = .ret (.bool true)) := fun {_ _ _ _} hx hy hz hw => ct_of mixed (cfg := cfgT) (args := [.v 0, .v 1]) (kinds := [false, false]) rfl (t := t_towerTwo 11 12 13 14 15 16 17 18 19 20 21 22 10) (by decide +kernel)
  [_, _] 2 rfl ⟨fun h => (by cases h), fun h => (by cases h), trivial⟩ rfl (towerTwo_den c11 c12 c13 c14 c15 c16 c17 c18 c19 c20 c21 c22 c10 hx hy hz hw)
set_option maxRecDepth 100000 in
theorem towerTwo_lifted (os : Os) (started : os.Started) (H : Type) (enc : TypeId × Value → H) :
    ReturnsInHanded {} Try.checked os 4 .any (Rows.towerTwoSpec.pre6 enc Try.prog Try.f4 Rows.towerTwoRow.domain false) (Rows.towerTwoSpec.post enc Try.prog Try.f4 false true false false) := by
  refine returnsInHanded_of_change_sized (C := Try.checked) Try.own started (by kernel_rfl) Try.func4
    (ChangeSpec.witness6 (enc := enc) (C := Try.checked) false ⟨#[], #[.agg #[.int .u64 0, .int .u64 0, .int .u64 0, .int .u64 0, .int .u64 0, .int .u64 0, .int .u64 0, .int .u64 0], .agg #[.int .u64 0, .int .u64 0, .int .u64 0, .int .u64 0, .int .u64 0, .int .u64 0, .int .u64 0, .int .u64 0]], []⟩ 8 (by kernel_rfl) (by kernel_rfl) (by kernel_rfl) (by kernel_rfl)) ?_
  intro Wd base args ds gs before hval0 hW hcnd hsz0 _
  have hval : ∀ (j : Nat) t v, Try.f4.params[j]? = some t → args[j]? = some v → Value.okWide Try.prog Wd .any base t v := hval0
  have hsz : (DataW.weightsEach Try.prog (Try.f4.params.toList ++ Rows.towerTwoSpec.plain.varTypes Try.prog) (ds ++ gs)).all (· ≤ reachBytes) = true := hsz0
  have hW' := hW
  obtain ⟨p, q, hA0, hV, rfl, hfz, hnd⟩ := hW
  have hA : DataW.TrodAll enc Try.prog Wd 0 (fun _ => true) true Try.f4.params.toList args.toList ds p := hA0
  rw [Try.params4] at hA hval hsz
  obtain ⟨v0, v1, d0, d1, p0, p1, rfl, rfl, rfl, h0, h1⟩ := trodAll_two hA
  obtain ⟨rfl, rfl⟩ := trodVars_none hV
  obtain ⟨La, la, ta, ra⟩ := rep_u64s (Φ := memOf Wd) (t := 26) (e := 24) (n := 2) (ts := [22, 22, 22, 22, 22, 22, 22, 22]) (by kernel_rfl) (by kernel_rfl) (fun u hu => by
    simp only [List.mem_cons, List.not_mem_nil, or_false, or_self] at hu
    subst hu; kernel_rfl) (hval 0 26 v0 rfl rfl)
  have za : Try.prog.cellsOf 26 = 8 := by kernel_rfl
  rw [za] at la
  obtain ⟨la, na, ga, ea⟩ := words_of 2 la ta
  rw [ea] at ra
  obtain ⟨Lb, lb, tb, rb⟩ := rep_u64s (Φ := memOf Wd) (t := 26) (e := 24) (n := 2) (ts := [22, 22, 22, 22, 22, 22, 22, 22]) (by kernel_rfl) (by kernel_rfl) (fun u hu => by
    simp only [List.mem_cons, List.not_mem_nil, or_false, or_self] at hu
    subst hu; kernel_rfl) (hval 1 26 v1 rfl rfl)
  have zb : Try.prog.cellsOf 26 = 8 := by kernel_rfl
  rw [zb] at lb
  obtain ⟨lb, nb, gb, eb⟩ := words_of 2 lb tb
  rw [eb] at rb
  match la, na, ga with
  | [x, y], _, ga =>
    match lb, nb, gb with
    | [z, w], _, gb =>
      exact law_calls (tb := 4) Try.laidOut (by decide +kernel) rfl (by kernel_rfl) (by kernel_rfl) ⟨rfl, rfl, rfl⟩ hW' (avs := [WW x y, WW z w]) ⟨rfl, ra, rb, trivial⟩
        (c4 (ga x (by simp)) (ga y (by simp)) (gb z (by simp)) (gb w (by simp)))
theorem towerTwo_holds : Rows.TowerTwoSaid :=
  OpenClaim.holds_of_wide 4 Try.f4 rfl rfl rfl rfl rfl rfl rfl ⟨rfl, rfl, rfl, rfl, rfl⟩ rfl rfl rfl rfl rfl (by kernel_rfl) Try.func4 (by kernel_rfl)
    (of_decide_eq_true (by kernel_rfl)) (by unfold Func.isWrapper; first | (rw [if_pos (by decide +kernel)]; kernel_rfl) | (rw [if_neg (by decide +kernel)]; exact ⟨rfl, rfl⟩))
    (fun os started H enc _ => towerTwo_lifted os started H enc)
end Go.Proofs.Ytomjfjncfodmhaa
