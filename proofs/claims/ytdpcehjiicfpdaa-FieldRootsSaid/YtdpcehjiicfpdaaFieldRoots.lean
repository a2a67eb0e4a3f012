/- The law FieldRoots answers true for every input and leaves it as it was. -/
import Derived.Test.YtdpcehjiicfpdaaBE
import Derived.Test.YtdpcehjiicfpdaaFJ
import Derived.Test.YtdpcehjiicfpdaaFM
import Derived.Test.YtdpcehjiicfpdaaActsL
import Derived.Test.YtdpcehjiicfpdaaRows
set_option autoImplicit false
set_option linter.all false
set_option maxHeartbeats 0
namespace Go.Proofs.Ytdpcehjiicfpdaa
open Go Go.SE Go.ChangeShapes Go.WideShapes Go.ChangeAt Go.RowKit

theorem Try.own : ownKnob Try.prog.godebug = none := by kernel_rfl
theorem Try.laidOut : laidOutB Try.prog = true := by kernel_rfl
theorem c7 : ∀ {a : Nat}, a < W256 → Ct Try.prog 7 [WV a] (fun e => e = .ret (.bool true)) := fun {_} ha => ct_of mixed (cfg := cfgL) (args := [.v 0]) (kinds := [false]) rfl (t := t_fieldRoots 22 29 19 12 14 10) (by decide +kernel)
  [_] 1 rfl ⟨fun h => (by cases h), trivial⟩ rfl (fieldRoots_den c22 c29 c19 c12 c14 c10 ha)

set_option maxRecDepth 100000 in
theorem fieldRoots_lifted (os : Os) (started : os.Started) (H : Type) (enc : TypeId × Value → H) :
    ReturnsInHanded {} Try.checked os 7 .any (Rows.fieldRootsSpec.pre6 enc Try.prog Try.f7 Rows.fieldRootsRow.domain false) (Rows.fieldRootsSpec.post enc Try.prog Try.f7 false true false false) := by
  refine returnsInHanded_of_change_sized (C := Try.checked) Try.own started (by kernel_rfl) Try.func7
    (ChangeSpec.witness6 (enc := enc) (C := Try.checked) false ⟨#[], #[.agg #[.int .u64 0, .int .u64 0, .int .u64 0, .int .u64 0]], []⟩ 8 (by kernel_rfl) (by kernel_rfl) (by kernel_rfl) (by kernel_rfl)) ?_
  intro Wd base args ds gs before hval0 hW hcnd hsz0 _
  have hval : ∀ (j : Nat) t v, Try.f7.params[j]? = some t → args[j]? = some v → Value.okWide Try.prog Wd .any base t v := hval0
  have hsz : (DataW.weightsEach Try.prog (Try.f7.params.toList ++ Rows.fieldRootsSpec.plain.varTypes Try.prog) (ds ++ gs)).all (· ≤ reachBytes) = true := hsz0
  have hW' := hW
  obtain ⟨p, q, hA0, hV, rfl, hfz, hnd⟩ := hW
  have hA : DataW.TrodAll enc Try.prog Wd 0 (fun _ => true) true Try.f7.params.toList args.toList ds p := hA0
  rw [Try.params7] at hA hval hsz
  obtain ⟨v0, d0, rfl, rfl, h0⟩ := trodAll_one hA
  obtain ⟨rfl, rfl⟩ := trodVars_none hV
  obtain ⟨La, la, ta, ra⟩ := rep_u64s (Φ := memOf Wd) (t := 24) (e := 22) (n := 4) (ts := [22, 22, 22, 22]) (by kernel_rfl) (by kernel_rfl) (fun u hu => by
    simp only [List.mem_cons, List.not_mem_nil, or_false, or_self] at hu
    subst hu; kernel_rfl) (hval 0 24 v0 rfl rfl)
  have za : Try.prog.cellsOf 24 = 4 := by kernel_rfl
  rw [za] at la
  obtain ⟨a, ha, ea⟩ := word_of la ta
  rw [ea] at ra
  exact law_calls (tb := 4) Try.laidOut (by decide +kernel) rfl (by kernel_rfl) (by kernel_rfl) ⟨rfl, rfl, rfl⟩ hW' (avs := [WV a]) ⟨rfl, ra, trivial⟩
    (c7 ha)

/-- the statement -/
theorem fieldRoots_holds : Rows.FieldRootsSaid :=
  OpenClaim.holds_of_wide 7 Try.f7 rfl rfl rfl rfl rfl rfl rfl ⟨rfl, rfl, rfl, rfl, rfl⟩ rfl rfl rfl rfl rfl (by kernel_rfl) Try.func7 (by kernel_rfl)
    (of_decide_eq_true (by kernel_rfl)) (by unfold Func.isWrapper; first | (rw [if_pos (by decide +kernel)]; kernel_rfl) | (rw [if_neg (by decide +kernel)]; exact ⟨rfl, rfl⟩))
    (fun os started H enc _ => fieldRoots_lifted os started H enc)

end Go.Proofs.Ytdpcehjiicfpdaa
