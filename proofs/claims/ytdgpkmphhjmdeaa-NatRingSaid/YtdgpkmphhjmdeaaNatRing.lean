/- The law NatRing answers true for every input and leaves it as it was, where the input fits in memory as the row itself says. -/
import Derived.Test.YtdgpkmphhjmdeaaNRing
import Derived.Test.YtdgpkmphhjmdeaaActsB
import Derived.Test.YtdgpkmphhjmdeaaRows
set_option autoImplicit false
set_option linter.all false
set_option maxHeartbeats 0
namespace Go.Proofs.Ytdgpkmphhjmdeaa
open Go Go.SE Go.ChangeShapes Go.WideShapes Go.ChangeAt Go.RowKit

theorem Try.own : ownKnob Try.prog.godebug = none := by kernel_rfl
theorem Try.laidOut : laidOutB Try.prog = true := by kernel_rfl
theorem Try.bytes38 : Try.prog.bytesOf 38 = 4 := by kernel_rfl

theorem c7 {A B C : List Nat} (hA : OkN A) (hB : OkN B) (hC : OkN C) : Ct Try.prog 7 [W A, W B, W C] (fun e => e = .ret (.bool true)) :=
  ct_of mixed (cfg := cfgB) (args := [.v 0, .v 1, .v 2]) (kinds := [true, true, true]) rfl (t := t_natRing 24 12 29 25 15 18) (by decide +kernel) [_, _, _] 3 rfl ⟨fun _ => rfl, fun _ => rfl, fun _ => rfl, trivial⟩ rfl
    (natRing_den c24 c12 c29 c25 c15 lives18 hA hB hC)

set_option maxRecDepth 100000 in
theorem natRing_lifted (os : Os) (started : os.Started) (H : Type) (enc : TypeId × Value → H) :
    ReturnsInHanded {} Try.checked os 7 .any (Rows.natRingSpec.pre6 enc Try.prog Try.f7 Rows.natRingRow.domain false) (Rows.natRingSpec.post enc Try.prog Try.f7 false true false false) := by
  refine returnsInHanded_of_change_sized (C := Try.checked) Try.own started (by kernel_rfl) Try.func7
    (ChangeSpec.witness6 (enc := enc) (C := Try.checked) false ⟨#[], #[.slice none 0 0, .slice none 0 0, .slice none 0 0], []⟩ 8 (by kernel_rfl) (by kernel_rfl) (by kernel_rfl) (by kernel_rfl)) ?_
  intro Wd base args ds gs before hval0 hW hcnd hsz0 _
  have hval : ∀ (j : Nat) t v, Try.f7.params[j]? = some t → args[j]? = some v → Value.okWide Try.prog Wd .any base t v := hval0
  have hsz : (DataW.weightsEach Try.prog (Try.f7.params.toList ++ Rows.natRingSpec.plain.varTypes Try.prog) (ds ++ gs)).all (· ≤ reachBytes) = true := hsz0
  have hW' := hW
  obtain ⟨p, q, hA0, hV, rfl, hfz, hnd⟩ := hW
  have hA : DataW.TrodAll enc Try.prog Wd 0 (fun _ => true) true Try.f7.params.toList args.toList ds p := hA0
  rw [Try.params7] at hA hval hsz
  obtain ⟨v0, v1, v2, d0, d1, d2, p0, p1, p2, rfl, rfl, rfl, h0, h1, h2⟩ := trodAll_three hA
  obtain ⟨rfl, rfl⟩ := trodVars_none hV
  obtain ⟨A, rA, lA, bA⟩ := rep_nums (t := 23) (e := 38) (k := .u32) (by kernel_rfl) (by kernel_rfl) (by kernel_rfl) rfl (hval 0 23 v0 rfl rfl) h0
  have kA := bA hsz (j := 0) rfl rfl
  rw [Try.bytes38] at kA
  simp only [reachBytes] at kA
  obtain ⟨B, rB, lB, bB⟩ := rep_nums (t := 23) (e := 38) (k := .u32) (by kernel_rfl) (by kernel_rfl) (by kernel_rfl) rfl (hval 1 23 v1 rfl rfl) h1
  have kB := bB hsz (j := 1) rfl rfl
  rw [Try.bytes38] at kB
  simp only [reachBytes] at kB
  obtain ⟨C, rC, lC, bC⟩ := rep_nums (t := 23) (e := 38) (k := .u32) (by kernel_rfl) (by kernel_rfl) (by kernel_rfl) rfl (hval 2 23 v2 rfl rfl) h2
  have kC := bC hsz (j := 2) rfl rfl
  rw [Try.bytes38] at kC
  simp only [reachBytes] at kC

  exact law_calls (tb := 4) Try.laidOut (by decide +kernel) rfl (by kernel_rfl) (by kernel_rfl) ⟨rfl, rfl, rfl⟩ hW' (avs := [W A, W B, W C]) ⟨rfl, rA, rB, rC, trivial⟩
    (c7 ⟨lA, by omega⟩ ⟨lB, by omega⟩ ⟨lC, by omega⟩)

/-- the statement -/
theorem natRing_holds : Rows.NatRingSaid :=
  OpenClaim.holds_of_wide 7 Try.f7 rfl rfl rfl rfl rfl rfl rfl ⟨rfl, rfl, rfl, rfl, rfl⟩ rfl rfl rfl rfl rfl (by kernel_rfl) Try.func7 (by kernel_rfl)
    (of_decide_eq_true (by kernel_rfl)) (by unfold Func.isWrapper; first | (rw [if_pos (by decide +kernel)]; kernel_rfl) | (rw [if_neg (by decide +kernel)]; exact ⟨rfl, rfl⟩))
    (fun os started H enc _ => natRing_lifted os started H enc)

end Go.Proofs.Ytdgpkmphhjmdeaa
