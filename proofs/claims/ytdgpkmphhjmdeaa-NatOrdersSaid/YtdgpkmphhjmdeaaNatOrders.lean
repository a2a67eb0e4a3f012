/- The law NatOrders answers true for every input and leaves it as it was, where the input fits in memory as the row itself says. -/
import Derived.Test.YtdgpkmphhjmdeaaActs
import Derived.Test.YtdgpkmphhjmdeaaRows
set_option autoImplicit false
set_option linter.all false
set_option maxHeartbeats 0
namespace Go.Proofs.Ytdgpkmphhjmdeaa
open Go Go.SE Go.ChangeShapes Go.WideShapes Go.ChangeAt Go.RowKit

theorem Try.own : ownKnob Try.prog.godebug = none := by kernel_rfl
theorem Try.laidOut : laidOutB Try.prog = true := by kernel_rfl
theorem Try.bytes38 : Try.prog.bytesOf 38 = 4 := by kernel_rfl

def cfgL : Cfg := { anns := [], fuel := 3, muts := ⟨[{ f := 12, dst := some 12, flags := [false], sh := ⟨false, [.osl 0 1 true], 1⟩ }], []⟩ }
theorem c3 {A B : List Nat} {k : Nat} (hA : LtAll B32 A) (hB : LtAll B32 B) (hal : A.length ≤ 35184372087808) (hbl : B.length ≤ 35184372087808) (hk : k < 256) :
    Ct Try.prog 3 [W A, W B, .int .u8 (k : Int)] (fun e => e = .ret (.bool true)) :=
  ct_of mixed (cfg := cfgL) (args := [.v 0, .v 1, .v 2]) (kinds := [true, true, true]) rfl (t := t_natOrders 12 13 14 16 17 15 18) (by decide +kernel) [_, _, _] 3 rfl ⟨fun _ => rfl, fun _ => rfl, fun _ => rfl, trivial⟩ rfl
    (natOrders_den c12 h12 c13 c14 c16 c17 c15 lives18 hA hB hal hbl hk)

set_option maxRecDepth 100000 in
theorem natOrders_lifted (os : Os) (started : os.Started) (H : Type) (enc : TypeId × Value → H) :
    ReturnsInHanded {} Try.checked os 3 .any (Rows.natOrdersSpec.pre6 enc Try.prog Try.f3 Rows.natOrdersRow.domain false) (Rows.natOrdersSpec.post enc Try.prog Try.f3 false true false false) := by
  refine returnsInHanded_of_change_sized (C := Try.checked) Try.own started (by kernel_rfl) Try.func3
    (ChangeSpec.witness6 (enc := enc) (C := Try.checked) false ⟨#[], #[.slice none 0 0, .slice none 0 0, .int .u8 0], []⟩ 8 (by kernel_rfl) (by kernel_rfl) (by kernel_rfl) (by kernel_rfl)) ?_
  intro Wd base args ds gs before hval0 hW hcnd hsz0 _
  have hval : ∀ (j : Nat) t v, Try.f3.params[j]? = some t → args[j]? = some v → Value.okWide Try.prog Wd .any base t v := hval0
  have hsz : (DataW.weightsEach Try.prog (Try.f3.params.toList ++ Rows.natOrdersSpec.plain.varTypes Try.prog) (ds ++ gs)).all (· ≤ reachBytes) = true := hsz0
  have hW' := hW
  obtain ⟨p, q, hA0, hV, rfl, hfz, hnd⟩ := hW
  have hA : DataW.TrodAll enc Try.prog Wd 0 (fun _ => true) true Try.f3.params.toList args.toList ds p := hA0
  rw [Try.params3] at hA hval hsz
  obtain ⟨v0, v1, v2, d0, d1, d2, p0, p1, p2, rfl, rfl, rfl, h0, h1, h2⟩ := trodAll_three hA
  obtain ⟨rfl, rfl⟩ := trodVars_none hV
  obtain ⟨A, rA, lA, bA⟩ := rep_nums (t := 23) (e := 38) (k := .u32) (by kernel_rfl) (by kernel_rfl) (by kernel_rfl) rfl (hval 0 23 v0 rfl rfl) h0
  have kA := bA hsz (j := 0) rfl rfl
  rw [Try.bytes38] at kA
  simp only [reachBytes] at kA
  obtain ⟨B, rB, lB, bB⟩ := rep_nums (t := 23) (e := 38) (k := .u32) (by kernel_rfl) (by kernel_rfl) (by kernel_rfl) rfl (hval 1 23 v1 rfl rfl) h1
  have kB := bB hsz (j := 1) rfl rfl
  rw [Try.bytes38] at kB
  simp only [reachBytes] at kB
  obtain ⟨nk, rk, wk⟩ := rep_int (t := 5) (k := .u8) (by kernel_rfl) (hval 2 5 v2 rfl rfl) h2
  obtain ⟨pk, qk⟩ := wf_unsigned rfl wk
  obtain ⟨k, rfl⟩ : ∃ k : Nat, nk = (k : Int) := ⟨nk.toNat, by omega⟩

  exact law_calls (tb := 4) Try.laidOut (by decide +kernel) rfl (by kernel_rfl) (by kernel_rfl) ⟨rfl, rfl, rfl⟩ hW' (avs := [W A, W B, .int .u8 (k : Int)]) ⟨rfl, rA, rB, rk, trivial⟩
    (c3 lA lB (by omega) (by omega) qk)

/-- the statement -/
theorem natOrders_holds : Rows.NatOrdersSaid :=
  OpenClaim.holds_of_wide 3 Try.f3 rfl rfl rfl rfl rfl rfl rfl ⟨rfl, rfl, rfl, rfl, rfl⟩ rfl rfl rfl rfl rfl (by kernel_rfl) Try.func3 (by kernel_rfl)
    (of_decide_eq_true (by kernel_rfl)) (by unfold Func.isWrapper; first | (rw [if_pos (by decide +kernel)]; kernel_rfl) | (rw [if_neg (by decide +kernel)]; exact ⟨rfl, rfl⟩))
    (fun os started H enc _ => natOrders_lifted os started H enc)

end Go.Proofs.Ytdgpkmphhjmdeaa
