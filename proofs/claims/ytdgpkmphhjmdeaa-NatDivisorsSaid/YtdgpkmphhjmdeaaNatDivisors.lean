/- The law NatDivisors answers true for every input and leaves it as it was, where the input fits in memory as the row itself says. -/
import Derived.Test.YtdgpkmphhjmdeaaNP
import Derived.Test.YtdgpkmphhjmdeaaActsF
import Derived.Test.YtdgpkmphhjmdeaaRows
set_option autoImplicit false
set_option linter.all false
set_option maxHeartbeats 0
namespace Go.Proofs.Ytdgpkmphhjmdeaa
open Go Go.SE Go.ChangeShapes Go.WideShapes Go.ChangeAt Go.RowKit

theorem Try.own : ownKnob Try.prog.godebug = none := by kernel_rfl
theorem Try.laidOut : laidOutB Try.prog = true := by kernel_rfl
theorem Try.bytes38 : Try.prog.bytesOf 38 = 4 := by kernel_rfl

theorem c6 {A B : List Nat} (hA : OkN A) (hB : OkN B) : Ct Try.prog 6 [W A, W B] (fun e => e = .ret (.bool true)) :=
  ct_of mixed (cfg := cfgF) (args := [.v 0, .v 1]) (kinds := [true, true]) rfl (t := t_natDivisors 24 12 27 28 15 17 18 26) (by decide +kernel) [_, _] 2 rfl ⟨fun _ => rfl, fun _ => rfl, trivial⟩ rfl
    (natDivisors_den c24 c12 c27 c28 c15 c17 lives18 c26 hA hB)

set_option maxRecDepth 100000 in
theorem natDivisors_lifted (os : Os) (started : os.Started) (H : Type) (enc : TypeId × Value → H) :
    ReturnsInHanded {} Try.checked os 6 .any (Rows.natDivisorsSpec.pre6 enc Try.prog Try.f6 Rows.natDivisorsRow.domain false) (Rows.natDivisorsSpec.post enc Try.prog Try.f6 false true false false) := by
  refine returnsInHanded_of_change_sized (C := Try.checked) Try.own started (by kernel_rfl) Try.func6
    (ChangeSpec.witness6 (enc := enc) (C := Try.checked) false ⟨#[], #[.slice none 0 0, .slice none 0 0], []⟩ 8 (by kernel_rfl) (by kernel_rfl) (by kernel_rfl) (by kernel_rfl)) ?_
  intro Wd base args ds gs before hval0 hW hcnd hsz0 _
  have hval : ∀ (j : Nat) t v, Try.f6.params[j]? = some t → args[j]? = some v → Value.okWide Try.prog Wd .any base t v := hval0
  have hsz : (DataW.weightsEach Try.prog (Try.f6.params.toList ++ Rows.natDivisorsSpec.plain.varTypes Try.prog) (ds ++ gs)).all (· ≤ reachBytes) = true := hsz0
  have hW' := hW
  obtain ⟨p, q, hA0, hV, rfl, hfz, hnd⟩ := hW
  have hA : DataW.TrodAll enc Try.prog Wd 0 (fun _ => true) true Try.f6.params.toList args.toList ds p := hA0
  rw [Try.params6] at hA hval hsz
  obtain ⟨v0, v1, d0, d1, p0, p1, rfl, rfl, rfl, h0, h1⟩ := trodAll_two hA
  obtain ⟨rfl, rfl⟩ := trodVars_none hV
  obtain ⟨A, rA, lA, bA⟩ := rep_nums (t := 23) (e := 38) (k := .u32) (by kernel_rfl) (by kernel_rfl) (by kernel_rfl) rfl (hval 0 23 v0 rfl rfl) h0
  have kA := bA hsz (j := 0) rfl rfl
  rw [Try.bytes38] at kA
  simp only [reachBytes] at kA
  obtain ⟨B, rB, lB, bB⟩ := rep_nums (t := 23) (e := 38) (k := .u32) (by kernel_rfl) (by kernel_rfl) (by kernel_rfl) rfl (hval 1 23 v1 rfl rfl) h1
  have kB := bB hsz (j := 1) rfl rfl
  rw [Try.bytes38] at kB
  simp only [reachBytes] at kB

  exact law_calls (tb := 4) Try.laidOut (by decide +kernel) rfl (by kernel_rfl) (by kernel_rfl) ⟨rfl, rfl, rfl⟩ hW' (avs := [W A, W B]) ⟨rfl, rA, rB, trivial⟩
    (c6 ⟨lA, by omega⟩ ⟨lB, by omega⟩)

/-- the statement -/
theorem natDivisors_holds : Rows.NatDivisorsSaid :=
  OpenClaim.holds_of_wide 6 Try.f6 rfl rfl rfl rfl rfl rfl rfl ⟨rfl, rfl, rfl, rfl, rfl⟩ rfl rfl rfl rfl rfl (by kernel_rfl) Try.func6 (by kernel_rfl)
    (of_decide_eq_true (by kernel_rfl)) (by unfold Func.isWrapper; first | (rw [if_pos (by decide +kernel)]; kernel_rfl) | (rw [if_neg (by decide +kernel)]; exact ⟨rfl, rfl⟩))
    (fun os started H enc _ => natDivisors_lifted os started H enc)

end Go.Proofs.Ytdgpkmphhjmdeaa
