/- The law FieldRing answers true for every input and leaves it as it was. -/
import Derived.Test.YtdpcehjiicfpdaaBE
import Derived.Test.YtdpcehjiicfpdaaFJ
import Derived.Test.YtdpcehjiicfpdaaActs
import Derived.Test.YtdpcehjiicfpdaaRows
set_option autoImplicit false
set_option linter.all false
set_option maxHeartbeats 0
namespace Go.Proofs.Ytdpcehjiicfpdaa
open Go Go.SE Go.ChangeShapes Go.WideShapes Go.ChangeAt Go.RowKit

theorem Try.own : ownKnob Try.prog.godebug = none := by kernel_rfl
theorem Try.laidOut : laidOutB Try.prog = true := by kernel_rfl

theorem c3 {m x y z w : Nat} (hm : m < W256) (hx : x < W256) (hy : y < W256) (hz : z < W256) : Ct Try.prog 3 [WV m, WW x y, WW z w] (fun e => e = .ret (.bool true)) :=
  ct_of mixed (cfg := cfgF) (args := [.v 0, .v 1, .v 2]) (kinds := [false, false, false]) rfl (t := t_fieldRing 8 9 10 11 12 13 14 15) (by decide +kernel) [_, _, _] 3 rfl ⟨fun h => (by cases h), fun h => (by cases h), fun h => (by cases h), trivial⟩ rfl
    (fieldRing_den c8 c9 c10 c11 c12 c13 c14 c15 hm hx hy hz)

set_option maxRecDepth 100000 in
theorem fieldRing_lifted (os : Os) (started : os.Started) (H : Type) (enc : TypeId × Value → H) :
    ReturnsInHanded {} Try.checked os 3 .any (Rows.fieldRingSpec.pre6 enc Try.prog Try.f3 Rows.fieldRingRow.domain false) (Rows.fieldRingSpec.post enc Try.prog Try.f3 false true false false) := by
  refine returnsInHanded_of_change_sized (C := Try.checked) Try.own started (by kernel_rfl) Try.func3
    (ChangeSpec.witness6 (enc := enc) (C := Try.checked) false ⟨#[], #[.agg #[.int .u64 0, .int .u64 0, .int .u64 0, .int .u64 0], .agg #[.int .u64 0, .int .u64 0, .int .u64 0, .int .u64 0, .int .u64 0, .int .u64 0, .int .u64 0, .int .u64 0], .agg #[.int .u64 0, .int .u64 0, .int .u64 0, .int .u64 0, .int .u64 0, .int .u64 0, .int .u64 0, .int .u64 0]], []⟩ 8 (by kernel_rfl) (by kernel_rfl) (by kernel_rfl) (by kernel_rfl)) ?_
  intro Wd base args ds gs before hval0 hW hcnd hsz0 _
  have hval : ∀ (j : Nat) t v, Try.f3.params[j]? = some t → args[j]? = some v → Value.okWide Try.prog Wd .any base t v := hval0
  have hsz : (DataW.weightsEach Try.prog (Try.f3.params.toList ++ Rows.fieldRingSpec.plain.varTypes Try.prog) (ds ++ gs)).all (· ≤ reachBytes) = true := hsz0
  have hW' := hW
  obtain ⟨p, q, hA0, hV, rfl, hfz, hnd⟩ := hW
  have hA : DataW.TrodAll enc Try.prog Wd 0 (fun _ => true) true Try.f3.params.toList args.toList ds p := hA0
  rw [Try.params3] at hA hval hsz
  obtain ⟨v0, v1, v2, d0, d1, d2, p0, p1, p2, rfl, rfl, rfl, h0, h1, h2⟩ := trodAll_three hA
  obtain ⟨rfl, rfl⟩ := trodVars_none hV
  obtain ⟨Lm, lm, tm, rm⟩ := rep_u64s (Φ := memOf Wd) (t := 24) (e := 22) (n := 4) (ts := [22, 22, 22, 22]) (by kernel_rfl) (by kernel_rfl) (fun u hu => by
    simp only [List.mem_cons, List.not_mem_nil, or_false, or_self] at hu
    subst hu; kernel_rfl) (hval 0 24 v0 rfl rfl)
  have zm : Try.prog.cellsOf 24 = 4 := by kernel_rfl
  rw [zm] at lm
  obtain ⟨m, hm, em⟩ := word_of lm tm
  rw [em] at rm
  obtain ⟨La, la, ta, ra⟩ := rep_u64s (Φ := memOf Wd) (t := 25) (e := 24) (n := 2) (ts := [22, 22, 22, 22, 22, 22, 22, 22]) (by kernel_rfl) (by kernel_rfl) (fun u hu => by
    simp only [List.mem_cons, List.not_mem_nil, or_false, or_self] at hu
    subst hu; kernel_rfl) (hval 1 25 v1 rfl rfl)
  have za : Try.prog.cellsOf 25 = 8 := by kernel_rfl
  rw [za] at la
  obtain ⟨la, na, ga, ea⟩ := words_of 2 la ta
  rw [ea] at ra
  obtain ⟨Lb, lb, tb, rb⟩ := rep_u64s (Φ := memOf Wd) (t := 25) (e := 24) (n := 2) (ts := [22, 22, 22, 22, 22, 22, 22, 22]) (by kernel_rfl) (by kernel_rfl) (fun u hu => by
    simp only [List.mem_cons, List.not_mem_nil, or_false, or_self] at hu
    subst hu; kernel_rfl) (hval 2 25 v2 rfl rfl)
  have zb : Try.prog.cellsOf 25 = 8 := by kernel_rfl
  rw [zb] at lb
  obtain ⟨lb, nb, gb, eb⟩ := words_of 2 lb tb
  rw [eb] at rb
  match la, na, ga with
  | [x, y], _, ga =>
    match lb, nb, gb with
    | [z, w], _, gb =>
      exact law_calls (tb := 4) Try.laidOut (by decide +kernel) rfl (by kernel_rfl) (by kernel_rfl) ⟨rfl, rfl, rfl⟩ hW' (avs := [WV m, WW x y, WW z w]) ⟨rfl, rm, ra, rb, trivial⟩
        (c3 hm (ga x (by simp)) (ga y (by simp)) (gb z (by simp)))

/-- the statement -/
theorem fieldRing_holds : Rows.FieldRingSaid :=
  OpenClaim.holds_of_wide 3 Try.f3 rfl rfl rfl rfl rfl rfl rfl ⟨rfl, rfl, rfl, rfl, rfl⟩ rfl rfl rfl rfl rfl (by kernel_rfl) Try.func3 (by kernel_rfl)
    (of_decide_eq_true (by kernel_rfl)) (by unfold Func.isWrapper; first | (rw [if_pos (by decide +kernel)]; kernel_rfl) | (rw [if_neg (by decide +kernel)]; exact ⟨rfl, rfl⟩))
    (fun os started H enc _ => fieldRing_lifted os started H enc)

end Go.Proofs.Ytdpcehjiicfpdaa
