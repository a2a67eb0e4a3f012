/- The law NatPowers answers true for every input and leaves it as it was, where the input fits in memory as the row itself says. -/
import Derived.Test.YtdgpkmphhjmdeaaBE
import Derived.Test.YtdgpkmphhjmdeaaNP
import Derived.Test.YtdgpkmphhjmdeaaActsF
import Derived.Test.YtdgpkmphhjmdeaaRows
set_option autoImplicit false
set_option linter.all false
set_option maxHeartbeats 0
namespace Go.Proofs.Ytdgpkmphhjmdeaa
open Go Go.SE Go.ChangeShapes Go.WideShapes Go.ChangeAt Go.RowKit

theorem Try.own : ownKnob Try.prog.godebug = none := by kernel_rfl
theorem Try.laidOut : laidOutB Try.prog = true := by kernel_rfl
theorem Try.bytes38 : Try.prog.bytesOf 38 = 4 := by kernel_rfl

def fsP : Array Field := #[⟨"A", 23, 0, false, "", "", 0⟩, ⟨"E", 23, 1, false, "", "", 24⟩, ⟨"F", 23, 2, false, "", "", 48⟩]
theorem c9 {A E F M : List Nat} (hA : OkN A) (hE : OkN E) (hF : OkN F) (hM : OkN M) : Ct Try.prog 9 [.agg [W A, W E, W F], W M] (fun e => e = .ret (.bool true)) :=
  ct_of mixed (cfg := cfgF) (args := [.v 0, .v 1]) (kinds := [false, true]) rfl (t := t_natPowers 24 12 35 36 15 18 29 25 26) (by decide +kernel) [_, _] 2 rfl ⟨fun h => (by cases h), fun _ => rfl, trivial⟩ rfl
    (natPowers_den c24 c12 c35 c36 c15 lives18 c29 c25 c26 hA hE hF hM)

set_option maxRecDepth 100000 in
theorem natPowers_lifted (os : Os) (started : os.Started) (H : Type) (enc : TypeId × Value → H) :
    ReturnsInHanded {} Try.checked os 9 .any (Rows.natPowersSpec.pre6 enc Try.prog Try.f9 Rows.natPowersRow.domain false) (Rows.natPowersSpec.post enc Try.prog Try.f9 false true false false) := by
  refine returnsInHanded_of_change_sized (C := Try.checked) Try.own started (by kernel_rfl) Try.func9
    (ChangeSpec.witness6 (enc := enc) (C := Try.checked) false ⟨#[], #[.agg #[.slice none 0 0, .slice none 0 0, .slice none 0 0], .slice none 0 0], []⟩ 8 (by kernel_rfl) (by kernel_rfl) (by kernel_rfl) (by kernel_rfl)) ?_
  intro Wd base args ds gs before hval0 hW hcnd hsz0 _
  have hval : ∀ (j : Nat) t v, Try.f9.params[j]? = some t → args[j]? = some v → Value.okWide Try.prog Wd .any base t v := hval0
  have hsz : (DataW.weightsEach Try.prog (Try.f9.params.toList ++ Rows.natPowersSpec.plain.varTypes Try.prog) (ds ++ gs)).all (· ≤ reachBytes) = true := hsz0
  have hW' := hW
  obtain ⟨p, q, hA0, hV, rfl, hfz, hnd⟩ := hW
  have hA : DataW.TrodAll enc Try.prog Wd 0 (fun _ => true) true Try.f9.params.toList args.toList ds p := hA0
  rw [Try.params9] at hA hval hsz
  obtain ⟨v0, v1, d0, d1, p0, p1, rfl, rfl, rfl, h0, h1⟩ := trodAll_two hA
  obtain ⟨rfl, rfl⟩ := trodVars_none hV
  obtain ⟨M, rM, lM, bM⟩ := rep_nums (t := 23) (e := 38) (k := .u32) (by kernel_rfl) (by kernel_rfl) (by kernel_rfl) rfl (hval 1 23 v1 rfl rfl) h1
  have kM := bM hsz (j := 1) rfl rfl
  rw [Try.bytes38] at kM
  simp only [reachBytes] at kM
  obtain ⟨cs, parts, rfl, rfl, hcs, hparts⟩ := rep_struct (t := 48) (fs := fsP) (ts := [23, 23, 23]) (by kernel_rfl) (by kernel_rfl) (hval 0 48 v0 rfl rfl) h0
  have hszp := sized_struct (fs := fsP) hsz (j := 0) rfl rfl (by kernel_rfl)
  have hc48 : Try.prog.cellsOf 48 = 3 := by kernel_rfl
  rw [hc48] at hcs
  obtain ⟨A, ⟨uA, gA, rA⟩, lA, kA⟩ := hparts.nums (i := 0) (e := 38) (k := .u32) (f := ⟨"A", 23, 0, false, "", "", 0⟩) rfl (by kernel_rfl) (by kernel_rfl) (by kernel_rfl) rfl (by kernel_rfl) (by rw [hcs]; decide) (by kernel_rfl) hszp
  rw [Try.bytes38] at kA
  simp only [reachBytes] at kA
  obtain ⟨E, ⟨uE, gE, rE⟩, lE, kE⟩ := hparts.nums (i := 1) (e := 38) (k := .u32) (f := ⟨"E", 23, 1, false, "", "", 24⟩) rfl (by kernel_rfl) (by kernel_rfl) (by kernel_rfl) rfl (by kernel_rfl) (by rw [hcs]; decide) (by kernel_rfl) hszp
  rw [Try.bytes38] at kE
  simp only [reachBytes] at kE
  obtain ⟨F, ⟨uF, gF, rF⟩, lF, kF⟩ := hparts.nums (i := 2) (e := 38) (k := .u32) (f := ⟨"F", 23, 2, false, "", "", 48⟩) rfl (by kernel_rfl) (by kernel_rfl) (by kernel_rfl) rfl (by kernel_rfl) (by rw [hcs]; decide) (by kernel_rfl) hszp
  rw [Try.bytes38] at kF
  simp only [reachBytes] at kF
  have hr0 : Rep (memOf Wd) (.agg [W A, W E, W F]) (.agg cs) := by
    refine rep_agg hcs fun i c hi => ?_
    match i, hi with
    | 0, hi => cases hi; exact ⟨uA, gA, rA⟩
    | 1, hi => cases hi; exact ⟨uE, gE, rE⟩
    | 2, hi => cases hi; exact ⟨uF, gF, rF⟩
    | n + 3, hi => exact absurd hi (by simp)

  exact law_calls (tb := 4) Try.laidOut (by decide +kernel) rfl (by kernel_rfl) (by kernel_rfl) ⟨rfl, rfl, rfl⟩ hW' (avs := [.agg [W A, W E, W F], W M]) ⟨rfl, hr0, rM, trivial⟩
    (c9 ⟨lA, by omega⟩ ⟨lE, by omega⟩ ⟨lF, by omega⟩ ⟨lM, by omega⟩)

/-- the statement -/
theorem natPowers_holds : Rows.NatPowersSaid :=
  OpenClaim.holds_of_wide 9 Try.f9 rfl rfl rfl rfl rfl rfl rfl ⟨rfl, rfl, rfl, rfl, rfl⟩ rfl rfl rfl rfl rfl (by kernel_rfl) Try.func9 (by kernel_rfl)
    (of_decide_eq_true (by kernel_rfl)) (by unfold Func.isWrapper; first | (rw [if_pos (by decide +kernel)]; kernel_rfl) | (rw [if_neg (by decide +kernel)]; exact ⟨rfl, rfl⟩))
    (fun os started H enc _ => natPowers_lifted os started H enc)

end Go.Proofs.Ytdgpkmphhjmdeaa
