/- The law NatLong answers true for every input and leaves it as it was, where the input fits in memory as the row itself says. -/
import Derived.Test.YtdgpkmphhjmdeaaActsC
import Derived.Test.YtdgpkmphhjmdeaaRows
set_option autoImplicit false
set_option linter.all false
set_option maxHeartbeats 0
namespace Go.Proofs.Ytdgpkmphhjmdeaa
open Go Go.SE Go.ChangeShapes Go.WideShapes Go.ChangeAt Go.RowKit

theorem Try.own : ownKnob Try.prog.godebug = none := by kernel_rfl
theorem Try.laidOut : laidOutB Try.prog = true := by kernel_rfl
theorem Try.bytes38 : Try.prog.bytesOf 38 = 4 := by kernel_rfl

theorem c8 {n low high : Nat} (hn : n < 65536) (h1 : low < B32) (h2 : high < B32) : Ct Try.prog 8 [.int .u16 (n : Int), .int .u32 (low : Int), .int .u32 (high : Int)] (fun e => e = .ret (.bool true)) :=
  ct_of mixed (cfg := cfgC) (args := [.v 0, .v 1, .v 2]) (kinds := [true, true, true]) rfl (t := t_natLong 12 29 30 25 31 15 32 33 16 17 14 34 18) (by decide +kernel) [_, _, _] 3 rfl ⟨fun _ => rfl, fun _ => rfl, fun _ => rfl, trivial⟩ rfl
    (natLong_den c12 c29 c30 c25 c31 c15 c32 c33 c16 c17 c14 c34 lives18 hn h1 h2)

set_option maxRecDepth 100000 in
theorem natLong_lifted (os : Os) (started : os.Started) (H : Type) (enc : TypeId × Value → H) :
    ReturnsInHanded {} Try.checked os 8 .any (Rows.natLongSpec.pre6 enc Try.prog Try.f8 Rows.natLongRow.domain false) (Rows.natLongSpec.post enc Try.prog Try.f8 false true false false) := by
  refine returnsInHanded_of_change_sized (C := Try.checked) Try.own started (by kernel_rfl) Try.func8
    (ChangeSpec.witness6 (enc := enc) (C := Try.checked) false ⟨#[], #[.int .u16 0, .int .u32 0, .int .u32 0], []⟩ 8 (by kernel_rfl) (by kernel_rfl) (by kernel_rfl) (by kernel_rfl)) ?_
  intro Wd base args ds gs before hval0 hW hcnd hsz0 _
  have hval : ∀ (j : Nat) t v, Try.f8.params[j]? = some t → args[j]? = some v → Value.okWide Try.prog Wd .any base t v := hval0
  have hsz : (DataW.weightsEach Try.prog (Try.f8.params.toList ++ Rows.natLongSpec.plain.varTypes Try.prog) (ds ++ gs)).all (· ≤ reachBytes) = true := hsz0
  have hW' := hW
  obtain ⟨p, q, hA0, hV, rfl, hfz, hnd⟩ := hW
  have hA : DataW.TrodAll enc Try.prog Wd 0 (fun _ => true) true Try.f8.params.toList args.toList ds p := hA0
  rw [Try.params8] at hA hval hsz
  obtain ⟨v0, v1, v2, d0, d1, d2, p0, p1, p2, rfl, rfl, rfl, h0, h1, h2⟩ := trodAll_three hA
  obtain ⟨rfl, rfl⟩ := trodVars_none hV
  obtain ⟨nn, rn, wn⟩ := rep_int (t := 44) (k := .u16) (by kernel_rfl) (hval 0 44 v0 rfl rfl) h0
  obtain ⟨pn, qn⟩ := wf_unsigned rfl wn
  obtain ⟨n, rfl⟩ : ∃ k : Nat, nn = (k : Int) := ⟨nn.toNat, by omega⟩
  obtain ⟨nlow, rlow, wlow⟩ := rep_int (t := 38) (k := .u32) (by kernel_rfl) (hval 1 38 v1 rfl rfl) h1
  obtain ⟨plow, qlow⟩ := wf_unsigned rfl wlow
  obtain ⟨low, rfl⟩ : ∃ k : Nat, nlow = (k : Int) := ⟨nlow.toNat, by omega⟩
  obtain ⟨nhigh, rhigh, whigh⟩ := rep_int (t := 38) (k := .u32) (by kernel_rfl) (hval 2 38 v2 rfl rfl) h2
  obtain ⟨phigh, qhigh⟩ := wf_unsigned rfl whigh
  obtain ⟨high, rfl⟩ : ∃ k : Nat, nhigh = (k : Int) := ⟨nhigh.toNat, by omega⟩

  exact law_calls (tb := 4) Try.laidOut (by decide +kernel) rfl (by kernel_rfl) (by kernel_rfl) ⟨rfl, rfl, rfl⟩ hW' (avs := [.int .u16 (n : Int), .int .u32 (low : Int), .int .u32 (high : Int)]) ⟨rfl, rn, rlow, rhigh, trivial⟩
    (c8 qn qlow qhigh)

/-- the statement -/
theorem natLong_holds : Rows.NatLongSaid :=
  OpenClaim.holds_of_wide 8 Try.f8 rfl rfl rfl rfl rfl rfl rfl ⟨rfl, rfl, rfl, rfl, rfl⟩ rfl rfl rfl rfl rfl (by kernel_rfl) Try.func8 (by kernel_rfl)
    (of_decide_eq_true (by kernel_rfl)) (by unfold Func.isWrapper; first | (rw [if_pos (by decide +kernel)]; kernel_rfl) | (rw [if_neg (by decide +kernel)]; exact ⟨rfl, rfl⟩))
    (fun os started H enc _ => natLong_lifted os started H enc)

end Go.Proofs.Ytdgpkmphhjmdeaa
