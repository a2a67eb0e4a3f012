/- The law TowerTwelve answers true for every input and leaves it as it was. -/
import Derived.Test.YtomjfjncfodmhaaBE
import Derived.Test.YtomjfjncfodmhaaFJ
import Derived.Test.YtomjfjncfodmhaaTN
import Derived.Test.YtomjfjncfodmhaaActsV
import Derived.Test.YtomjfjncfodmhaaRows
set_option autoImplicit false
set_option linter.all false
set_option maxHeartbeats 0
namespace Go.Proofs.Ytomjfjncfodmhaa
open Go Go.SE Go.ChangeShapes Go.WideShapes Go.ChangeAt Go.RowKit
theorem Try.own : ownKnob Try.prog.godebug = none := by kernel_rfl
theorem Try.laidOut : laidOutB Try.prog = true := by kernel_rfl
theorem c5 : ∀ {a b : Nat → Nat × Nat}, Wok a → Wok b → Ct Try.prog 5 [W6 a, W6 b] (fun e => e = .ret (.bool true)) := fun {_ _} ha hb => ct_of mixed (cfg := cfgV) (args := [.v 0, .v 1]) (kinds := [false, false]) rfl (t := t_towerTwelve 11 23 24 18 9 25 8 26 27 28 10) (by decide +kernel)
  [_, _] 2 rfl ⟨fun h => (by cases h), fun h => (by cases h), trivial⟩ rfl (towerTwelve_den c11 c23 c24 c18 c9 c25 c8 c26 c27 c28 c10 ha hb)
set_option maxRecDepth 100000 in
theorem towerTwelve_lifted (os : Os) (started : os.Started) (H : Type) (enc : TypeId × Value → H) :
    ReturnsInHanded {} Try.checked os 5 .any (Rows.towerTwelveSpec.pre6 enc Try.prog Try.f5 Rows.towerTwelveRow.domain false) (Rows.towerTwelveSpec.post enc Try.prog Try.f5 false true false false) := by
  refine returnsInHanded_of_change_sized (C := Try.checked) Try.own started (by kernel_rfl) Try.func5
    (ChangeSpec.witness6 (enc := enc) (C := Try.checked) false ⟨#[], #[.agg #[.int .u64 0, .int .u64 0, .int .u64 0, .int .u64 0, .int .u64 0, .int .u64 0, .int .u64 0, .int .u64 0, .int .u64 0, .int .u64 0, .int .u64 0, .int .u64 0, .int .u64 0, .int .u64 0, .int .u64 0, .int .u64 0, .int .u64 0, .int .u64 0, .int .u64 0, .int .u64 0, .int .u64 0, .int .u64 0, .int .u64 0, .int .u64 0, .int .u64 0, .int .u64 0, .int .u64 0, .int .u64 0, .int .u64 0, .int .u64 0, .int .u64 0, .int .u64 0, .int .u64 0, .int .u64 0, .int .u64 0, .int .u64 0, .int .u64 0, .int .u64 0, .int .u64 0, .int .u64 0, .int .u64 0, .int .u64 0, .int .u64 0, .int .u64 0, .int .u64 0, .int .u64 0, .int .u64 0, .int .u64 0], .agg #[.int .u64 0, .int .u64 0, .int .u64 0, .int .u64 0, .int .u64 0, .int .u64 0, .int .u64 0, .int .u64 0, .int .u64 0, .int .u64 0, .int .u64 0, .int .u64 0, .int .u64 0, .int .u64 0, .int .u64 0, .int .u64 0, .int .u64 0, .int .u64 0, .int .u64 0, .int .u64 0, .int .u64 0, .int .u64 0, .int .u64 0, .int .u64 0, .int .u64 0, .int .u64 0, .int .u64 0, .int .u64 0, .int .u64 0, .int .u64 0, .int .u64 0, .int .u64 0, .int .u64 0, .int .u64 0, .int .u64 0, .int .u64 0, .int .u64 0, .int .u64 0, .int .u64 0, .int .u64 0, .int .u64 0, .int .u64 0, .int .u64 0, .int .u64 0, .int .u64 0, .int .u64 0, .int .u64 0, .int .u64 0]], []⟩ 8 (by kernel_rfl) (by kernel_rfl) (by kernel_rfl) (by kernel_rfl)) ?_
  intro Wd base args ds gs before hval0 hW hcnd hsz0 _
  have hval : ∀ (j : Nat) t v, Try.f5.params[j]? = some t → args[j]? = some v → Value.okWide Try.prog Wd .any base t v := hval0
  have hsz : (DataW.weightsEach Try.prog (Try.f5.params.toList ++ Rows.towerTwelveSpec.plain.varTypes Try.prog) (ds ++ gs)).all (· ≤ reachBytes) = true := hsz0
  have hW' := hW
  obtain ⟨p, q, hA0, hV, rfl, hfz, hnd⟩ := hW
  have hA : DataW.TrodAll enc Try.prog Wd 0 (fun _ => true) true Try.f5.params.toList args.toList ds p := hA0
  rw [Try.params5] at hA hval hsz
  obtain ⟨v0, v1, d0, d1, p0, p1, rfl, rfl, rfl, h0, h1⟩ := trodAll_two hA
  obtain ⟨rfl, rfl⟩ := trodVars_none hV
  obtain ⟨La, la, ta, ra⟩ := rep_u64s (Φ := memOf Wd) (t := 28) (e := 26) (n := 6) (ts := [22, 22, 22, 22, 22, 22, 22, 22, 22, 22, 22, 22, 22, 22, 22, 22, 22, 22, 22, 22, 22, 22, 22, 22, 22, 22, 22, 22, 22, 22, 22, 22, 22, 22, 22, 22, 22, 22, 22, 22, 22, 22, 22, 22, 22, 22, 22, 22]) (by kernel_rfl) (by kernel_rfl) (fun u hu => by
    simp only [List.mem_cons, List.not_mem_nil, or_false, or_self] at hu
    subst hu; kernel_rfl) (hval 0 28 v0 rfl rfl)
  have za : Try.prog.cellsOf 28 = 48 := by kernel_rfl
  rw [za] at la
  obtain ⟨la, na, wa, ea⟩ := words_of 12 la ta
  obtain ⟨ga, oka, sa⟩ := six_of na wa
  rw [ea, sa] at ra
  obtain ⟨Lb, lb, tb, rb⟩ := rep_u64s (Φ := memOf Wd) (t := 28) (e := 26) (n := 6) (ts := [22, 22, 22, 22, 22, 22, 22, 22, 22, 22, 22, 22, 22, 22, 22, 22, 22, 22, 22, 22, 22, 22, 22, 22, 22, 22, 22, 22, 22, 22, 22, 22, 22, 22, 22, 22, 22, 22, 22, 22, 22, 22, 22, 22, 22, 22, 22, 22]) (by kernel_rfl) (by kernel_rfl) (fun u hu => by
    simp only [List.mem_cons, List.not_mem_nil, or_false, or_self] at hu
    subst hu; kernel_rfl) (hval 1 28 v1 rfl rfl)
  have zb : Try.prog.cellsOf 28 = 48 := by kernel_rfl
  rw [zb] at lb
  obtain ⟨lb, nb, wb, eb⟩ := words_of 12 lb tb
  obtain ⟨gb, okb, sb⟩ := six_of nb wb
  rw [eb, sb] at rb
  exact law_calls (tb := 4) Try.laidOut (by decide +kernel) rfl (by kernel_rfl) (by kernel_rfl) ⟨rfl, rfl, rfl⟩ hW' (avs := [W6 ga, W6 gb]) ⟨rfl, ra, rb, trivial⟩
    (c5 oka okb)
theorem towerTwelve_holds : Rows.TowerTwelveSaid :=
  OpenClaim.holds_of_wide 5 Try.f5 rfl rfl rfl rfl rfl rfl rfl ⟨rfl, rfl, rfl, rfl, rfl⟩ rfl rfl rfl rfl rfl (by kernel_rfl) Try.func5 (by kernel_rfl)
    (of_decide_eq_true (by kernel_rfl)) (by unfold Func.isWrapper; first | (rw [if_pos (by decide +kernel)]; kernel_rfl) | (rw [if_neg (by decide +kernel)]; exact ⟨rfl, rfl⟩))
    (fun os started H enc _ => towerTwelve_lifted os started H enc)
end Go.Proofs.Ytomjfjncfodmhaa
