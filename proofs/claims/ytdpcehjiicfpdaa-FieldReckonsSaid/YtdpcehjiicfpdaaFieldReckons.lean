/- The law FieldReckons answers true for every input and leaves it as it was. -/
import Derived.Test.YtdpcehjiicfpdaaBE
import Derived.Test.YtdpcehjiicfpdaaFJ
import Derived.Test.YtdpcehjiicfpdaaActsR
import Derived.Test.YtdpcehjiicfpdaaRows
set_option autoImplicit false
set_option linter.all false
set_option maxHeartbeats 0
namespace Go.Proofs.Ytdpcehjiicfpdaa
open Go Go.SE Go.ChangeShapes Go.WideShapes Go.ChangeAt Go.RowKit
theorem Try.own : ownKnob Try.prog.godebug = none := by kernel_rfl
theorem Try.laidOut : laidOutB Try.prog = true := by kernel_rfl
theorem c4 : ∀ {m a b : Nat}, m < W256 → a < W256 → b < W256 → Ct Try.prog 4 [WV m, WV a, WV b] (fun e => e = .ret (.bool true)) := fun {_ _ _} hm ha hb => ct_of mixed (cfg := cfgF) (args := [.v 0, .v 1, .v 2]) (kinds := [false, false, false]) rfl (t := t_fieldReckons 8 9 10 16 17 18 14 11 12 19 20 21 13) (by decide +kernel)
  [_, _, _] 3 rfl ⟨fun h => (by cases h), fun h => (by cases h), fun h => (by cases h), trivial⟩ rfl (fieldReckons_den c8 c9 c10 c16 c17 c18 c14 c11 c12 c19 c20 c21 c13 hm ha hb)
set_option maxRecDepth 100000 in
theorem fieldReckons_lifted (os : Os) (started : os.Started) (H : Type) (enc : TypeId × Value → H) :
    ReturnsInHanded {} Try.checked os 4 .any (Rows.fieldReckonsSpec.pre6 enc Try.prog Try.f4 Rows.fieldReckonsRow.domain false) (Rows.fieldReckonsSpec.post enc Try.prog Try.f4 false true false false) := by
  refine returnsInHanded_of_change_sized (C := Try.checked) Try.own started (by kernel_rfl) Try.func4
    (ChangeSpec.witness6 (enc := enc) (C := Try.checked) false ⟨#[], #[.agg #[.int .u64 0, .int .u64 0, .int .u64 0, .int .u64 0], .agg #[.int .u64 0, .int .u64 0, .int .u64 0, .int .u64 0], .agg #[.int .u64 0, .int .u64 0, .int .u64 0, .int .u64 0]], []⟩ 8 (by kernel_rfl) (by kernel_rfl) (by kernel_rfl) (by kernel_rfl)) ?_
  intro Wd base args ds gs before hval0 hW hcnd hsz0 _
  have hval : ∀ (j : Nat) t v, Try.f4.params[j]? = some t → args[j]? = some v → Value.okWide Try.prog Wd .any base t v := hval0
  have hsz : (DataW.weightsEach Try.prog (Try.f4.params.toList ++ Rows.fieldReckonsSpec.plain.varTypes Try.prog) (ds ++ gs)).all (· ≤ reachBytes) = true := hsz0
  have hW' := hW
  obtain ⟨p, q, hA0, hV, rfl, hfz, hnd⟩ := hW
  have hA : DataW.TrodAll enc Try.prog Wd 0 (fun _ => true) true Try.f4.params.toList args.toList ds p := hA0
  rw [Try.params4] at hA hval hsz
  obtain ⟨v0, v1, v2, d0, d1, d2, p0, p1, p2, rfl, rfl, rfl, h0, h1, h2⟩ := trodAll_three hA
  obtain ⟨rfl, rfl⟩ := trodVars_none hV
  obtain ⟨Lm, lm, tm, rm⟩ := rep_u64s (Φ := memOf Wd) (t := 24) (e := 22) (n := 4) (ts := [22, 22, 22, 22]) (by kernel_rfl) (by kernel_rfl) (fun u hu => by
    simp only [List.mem_cons, List.not_mem_nil, or_false, or_self] at hu
    subst hu; kernel_rfl) (hval 0 24 v0 rfl rfl)
  have zm : Try.prog.cellsOf 24 = 4 := by kernel_rfl
  rw [zm] at lm
  obtain ⟨m, hm, em⟩ := word_of lm tm
  rw [em] at rm
  obtain ⟨La, la, ta, ra⟩ := rep_u64s (Φ := memOf Wd) (t := 24) (e := 22) (n := 4) (ts := [22, 22, 22, 22]) (by kernel_rfl) (by kernel_rfl) (fun u hu => by
    simp only [List.mem_cons, List.not_mem_nil, or_false, or_self] at hu
    subst hu; kernel_rfl) (hval 1 24 v1 rfl rfl)
  have za : Try.prog.cellsOf 24 = 4 := by kernel_rfl
  rw [za] at la
  obtain ⟨a, ha, ea⟩ := word_of la ta
  rw [ea] at ra
  obtain ⟨Lb, lb, tb, rb⟩ := rep_u64s (Φ := memOf Wd) (t := 24) (e := 22) (n := 4) (ts := [22, 22, 22, 22]) (by kernel_rfl) (by kernel_rfl) (fun u hu => by
    simp only [List.mem_cons, List.not_mem_nil, or_false, or_self] at hu
    subst hu; kernel_rfl) (hval 2 24 v2 rfl rfl)
  have zb : Try.prog.cellsOf 24 = 4 := by kernel_rfl
  rw [zb] at lb
  obtain ⟨b, hb, eb⟩ := word_of lb tb
  rw [eb] at rb
  exact law_calls (tb := 4) Try.laidOut (by decide +kernel) rfl (by kernel_rfl) (by kernel_rfl) ⟨rfl, rfl, rfl⟩ hW' (avs := [WV m, WV a, WV b]) ⟨rfl, rm, ra, rb, trivial⟩
    (c4 hm ha hb)
theorem fieldReckons_holds : Rows.FieldReckonsSaid :=
  OpenClaim.holds_of_wide 4 Try.f4 rfl rfl rfl rfl rfl rfl rfl ⟨rfl, rfl, rfl, rfl, rfl⟩ rfl rfl rfl rfl rfl (by kernel_rfl) Try.func4 (by kernel_rfl)
    (of_decide_eq_true (by kernel_rfl)) (by unfold Func.isWrapper; first | (rw [if_pos (by decide +kernel)]; kernel_rfl) | (rw [if_neg (by decide +kernel)]; exact ⟨rfl, rfl⟩))
    (fun os started H enc _ => fieldReckons_lifted os started H enc)
end Go.Proofs.Ytdpcehjiicfpdaa
