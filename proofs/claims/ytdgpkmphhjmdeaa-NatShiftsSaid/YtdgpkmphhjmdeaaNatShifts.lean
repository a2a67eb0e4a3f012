/- The law NatShifts answers true for every input and leaves it as it was, where the input fits in memory as the row itself says. -/
import Derived.Test.YtdgpkmphhjmdeaaNP
import Derived.Test.YtdgpkmphhjmdeaaActsF
import Derived.Test.YtdgpkmphhjmdeaaRows
set_option autoImplicit false
set_option linter.all false
set_option maxHeartbeats 0
namespace Go.Proofs.Ytdgpkmphhjmdeaa
open Go Go.SE Go.ChangeShapes Go.WideShapes Go.ChangeAt Go.RowKit

theorem Try.own : ownKnob Try.prog.godebug = none := by kernel_rfl
theorem Try.laidOut : laidOutB Try.prog = true := by kernel_rfl
theorem Try.bytes38 : Try.prog.bytesOf 38 = 4 := by kernel_rfl

theorem c5 {A : List Nat} {n : Nat} (hA : OkN A) (hn : n < 256) : Ct Try.prog 5 [W A, .int .u8 (n : Int)] (fun e => e = .ret (.bool true)) :=
  ct_of mixed (cfg := cfgF) (args := [.v 0, .v 1]) (kinds := [true, true]) rfl (t := t_natShifts 24 12 25 17 26 15 18) (by decide +kernel) [_, _] 2 rfl ⟨fun _ => rfl, fun _ => rfl, trivial⟩ rfl
    (natShifts_den c24 c12 c25 c17 c26 c15 lives18 hA hn)

set_option maxRecDepth 100000 in
theorem natShifts_lifted (os : Os) (started : os.Started) (H : Type) (enc : TypeId × Value → H) :
    ReturnsInHanded {} Try.checked os 5 .any (Rows.natShiftsSpec.pre6 enc Try.prog Try.f5 Rows.natShiftsRow.domain false) (Rows.natShiftsSpec.post enc Try.prog Try.f5 false true false false) := by
  refine returnsInHanded_of_change_sized (C := Try.checked) Try.own started (by kernel_rfl) Try.func5
    (ChangeSpec.witness6 (enc := enc) (C := Try.checked) false ⟨#[], #[.slice none 0 0, .int .u8 0], []⟩ 8 (by kernel_rfl) (by kernel_rfl) (by kernel_rfl) (by kernel_rfl)) ?_
  intro Wd base args ds gs before hval0 hW hcnd hsz0 _
  have hval : ∀ (j : Nat) t v, Try.f5.params[j]? = some t → args[j]? = some v → Value.okWide Try.prog Wd .any base t v := hval0
  have hsz : (DataW.weightsEach Try.prog (Try.f5.params.toList ++ Rows.natShiftsSpec.plain.varTypes Try.prog) (ds ++ gs)).all (· ≤ reachBytes) = true := hsz0
  have hW' := hW
  obtain ⟨p, q, hA0, hV, rfl, hfz, hnd⟩ := hW
  have hA : DataW.TrodAll enc Try.prog Wd 0 (fun _ => true) true Try.f5.params.toList args.toList ds p := hA0
  rw [Try.params5] at hA hval hsz
  obtain ⟨v0, v1, d0, d1, p0, p1, rfl, rfl, rfl, h0, h1⟩ := trodAll_two hA
  obtain ⟨rfl, rfl⟩ := trodVars_none hV
  obtain ⟨A, rA, lA, bA⟩ := rep_nums (t := 23) (e := 38) (k := .u32) (by kernel_rfl) (by kernel_rfl) (by kernel_rfl) rfl (hval 0 23 v0 rfl rfl) h0
  have kA := bA hsz (j := 0) rfl rfl
  rw [Try.bytes38] at kA
  simp only [reachBytes] at kA
  obtain ⟨nk, rk, wk⟩ := rep_int (t := 5) (k := .u8) (by kernel_rfl) (hval 1 5 v1 rfl rfl) h1
  obtain ⟨pk, qk⟩ := wf_unsigned rfl wk
  obtain ⟨k, rfl⟩ : ∃ k : Nat, nk = (k : Int) := ⟨nk.toNat, by omega⟩

  exact law_calls (tb := 4) Try.laidOut (by decide +kernel) rfl (by kernel_rfl) (by kernel_rfl) ⟨rfl, rfl, rfl⟩ hW' (avs := [W A, .int .u8 (k : Int)]) ⟨rfl, rA, rk, trivial⟩
    (c5 ⟨lA, by omega⟩ qk)

/-- the statement -/
theorem natShifts_holds : Rows.NatShiftsSaid :=
  OpenClaim.holds_of_wide 5 Try.f5 rfl rfl rfl rfl rfl rfl rfl ⟨rfl, rfl, rfl, rfl, rfl⟩ rfl rfl rfl rfl rfl (by kernel_rfl) Try.func5 (by kernel_rfl)
    (of_decide_eq_true (by kernel_rfl)) (by unfold Func.isWrapper; first | (rw [if_pos (by decide +kernel)]; kernel_rfl) | (rw [if_neg (by decide +kernel)]; exact ⟨rfl, rfl⟩))
    (fun os started H enc _ => natShifts_lifted os started H enc)

end Go.Proofs.Ytdgpkmphhjmdeaa
