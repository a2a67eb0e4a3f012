/- The law NatBytes answers true for every input of bulk at most 1048576 and leaves it as it was. -/
import Derived.Test.YtdgpkmphhjmdeaaBE
import Derived.Test.YtdgpkmphhjmdeaaActsG
import Derived.Test.YtdgpkmphhjmdeaaRows
import Derived.Deep.CondSized
set_option autoImplicit false
set_option linter.all false
set_option maxHeartbeats 0
namespace Go.Proofs.Ytdgpkmphhjmdeaa
open Go Go.SE Go.ChangeShapes Go.WideShapes Go.ChangeAt Go.RowKit

theorem Try.own : ownKnob Try.prog.godebug = none := by kernel_rfl
theorem Try.laidOut : laidOutB Try.prog = true := by kernel_rfl
theorem Try.bytes38 : Try.prog.bytesOf 38 = 4 := by kernel_rfl
theorem Try.bytes5 : Try.prog.bytesOf 5 = 1 := by kernel_rfl
theorem c4 {A B : List Nat} {size : Int} (hA : OkN A) (hAl : A.length ≤ 4398046511104) (hB : LtAll 256 B) (hl : B.length ≤ 35184372088832) : Ct Try.prog 4 [W A, SN .u8 B, .int .i64 size] (fun e => e = .ret (.bool true)) :=
  ct_of mixed (cfg := cfgG) (args := [.v 0, .v 1, .v 2]) (kinds := [true, true, true]) rfl (t := t_natBytes 19 20 12 21 22 15 13 23 17 18) (by decide +kernel) [_, _, _] 3 rfl ⟨fun _ => rfl, fun _ => rfl, fun _ => rfl, trivial⟩ rfl
    (natBytes_den c19 c20 c12 c21 c22 c15 c13 c23 c17 lives18 hA hAl hB hl)

theorem natBytes_one_le {H : Type} (d : DataW H) : 1 ≤ Rows.uptoBulk d := by
  cases d with
  | lit l => cases l <;> simp [Rows.uptoBulk]
  | nil => simp [Rows.uptoBulk]
  | ptr d => simp [Rows.uptoBulk]
  | slice elems spare => simp [Rows.uptoBulk]
  | agg parts => simp [Rows.uptoBulk]
  | iface t d => simp [Rows.uptoBulk]
  | map entries => simp [Rows.uptoBulk]
  | held h => simp [Rows.uptoBulk]
theorem natBytes_length_le {H : Type} (l : List (DataW H)) : l.length ≤ Rows.uptoBulkAll l := by
  induction l with
  | nil => simp [Rows.uptoBulkAll]
  | cons x r ih => have := natBytes_one_le x; simp only [Rows.uptoBulkAll, List.length_cons]; omega
theorem natBytes_part_le {H : Type} {d : DataW H} {l : List (DataW H)} (h : d ∈ l) : Rows.uptoBulk d ≤ Rows.uptoBulkAll l := by
  induction l with
  | nil => cases h
  | cons x r ih =>
    simp only [Rows.uptoBulkAll]
    cases List.mem_cons.1 h with
    | inl e => subst e; omega
    | inr e => have := ih e; omega
theorem natBytes_short {H : Type} {d : DataW H} {ds : List (DataW H)} {L : List Nat} (hk : Rows.uptoSmall H ds = true) (h : d ∈ ds) (hl : L = [] ∨ ∃ l r, d = .slice l r ∧ L.length ≤ l.length) : L.length ≤ 1048576 := by
  have h1 : Rows.uptoBulkAll ds ≤ 1048576 := of_decide_eq_true hk
  rcases hl with rfl | ⟨l, r, rfl, h2⟩
  · simp
  · have h3 := natBytes_part_le h
    have h4 := natBytes_length_le l
    simp only [Rows.uptoBulk] at h3
    omega

set_option maxRecDepth 100000 in
theorem natBytes_lifted (os : Os) (started : os.Started) (H : Type) (enc : TypeId × Value → H) (F : Stop.Interp) :
    ReturnsInHanded {} Try.checked os 4 .any ((Rows.OpenSpec.upto Rows.natBytesSpec).pre6 enc Try.prog Try.f4 Rows.natBytesUptoRow.domain false) (((Rows.OpenSpec.upto Rows.natBytesSpec).at F).post enc Try.prog Try.f4 false true false false) := by
  refine returnsInHanded_of_cond_sized (C := Try.checked) (s := Rows.OpenSpec.upto Rows.natBytesSpec) (k := Rows.uptoSmall) rfl Try.own started (by kernel_rfl) Try.func4
    (OpenSpec.witness (enc := enc) (C := Try.checked) (s := Rows.OpenSpec.upto Rows.natBytesSpec) (k := Rows.uptoSmall) rfl false ⟨#[], #[.slice none 0 0, .slice none 0 0, .int .i64 0], []⟩ 8 (by kernel_rfl) (by kernel_rfl) (by kernel_rfl)
      (x := ([.nil, .nil, .lit (.int .i64 0)], [], [])) (by kernel_rfl) rfl (by kernel_rfl)) ?_
  intro Wd base args ds gs before hval0 hW hcnd hk0 hsz0 _
  have hval : ∀ (j : Nat) t v, Try.f4.params[j]? = some t → args[j]? = some v → Value.okWide Try.prog Wd .any base t v := hval0
  have hsz : (DataW.weightsEach Try.prog (Try.f4.params.toList ++ Rows.natBytesSpec.plain.varTypes Try.prog) (ds ++ gs)).all (· ≤ reachBytes) = true := hsz0
  have hk : Rows.uptoSmall H (ds ++ gs) = true := hk0
  have hW1 : DataW.Whole enc Try.prog Try.f4.params.toList Rows.natBytesSpec.vars false Wd args.toList ds gs before := hW
  have hW' := hW1
  obtain ⟨p, q, hA0, hV, rfl, hfz, hnd⟩ := hW1
  have hA : DataW.TrodAll enc Try.prog Wd 0 (fun _ => true) true Try.f4.params.toList args.toList ds p := hA0
  rw [Try.params4] at hA hval hsz
  obtain ⟨v0, v1, v2, d0, d1, d2, p0, p1, p2, rfl, rfl, rfl, h0, h1, h2⟩ := trodAll_three hA
  obtain ⟨rfl, rfl⟩ := trodVars_none hV
  obtain ⟨A, rA, lA, bA⟩ := rep_nums (t := 23) (e := 38) (k := .u32) (by kernel_rfl) (by kernel_rfl) (by kernel_rfl) rfl (hval 0 23 v0 rfl rfl) h0
  have kA := bA hsz (j := 0) rfl rfl
  rw [Try.bytes38] at kA
  simp only [reachBytes] at kA
  have mA := natBytes_short hk (by simp) (nums_len (t := 23) (e := 38) (k := .u32) (by kernel_rfl) (by kernel_rfl) (by kernel_rfl) h0 rA)
  obtain ⟨B, rB, lB, bB⟩ := rep_nums (t := 30) (e := 5) (k := .u8) (by kernel_rfl) (by kernel_rfl) (by kernel_rfl) rfl (hval 1 30 v1 rfl rfl) h1
  have mB := natBytes_short hk (by simp) (nums_len (t := 30) (e := 5) (k := .u8) (by kernel_rfl) (by kernel_rfl) (by kernel_rfl) h1 rB)
  obtain ⟨size, rs, ws⟩ := rep_int (t := 3) (k := .i64) (by kernel_rfl) (hval 2 3 v2 rfl rfl) h2

  exact law_calls (s := Rows.natBytesSpec) (tb := 4) Try.laidOut (by decide +kernel) rfl (by kernel_rfl) (by kernel_rfl) ⟨rfl, rfl, rfl⟩ hW' (avs := [W A, SN .u8 B, .int .i64 size]) ⟨rfl, rA, rB, rs, trivial⟩
    (c4 ⟨lA, by omega⟩ (by omega) lB (by omega))

/-- the statement -/
theorem natBytes_holds : Rows.NatBytesUptoSaid :=
  OpenClaim.holds_of_cond 4 Try.f4 rfl rfl rfl rfl rfl rfl rfl ⟨rfl, rfl, rfl, rfl, rfl⟩ rfl rfl rfl rfl rfl (by kernel_rfl) Try.func4 (by kernel_rfl)
    (of_decide_eq_true (by kernel_rfl)) (by unfold Func.isWrapper; first | (rw [if_pos (by decide +kernel)]; kernel_rfl) | (rw [if_neg (by decide +kernel)]; exact ⟨rfl, rfl⟩))
    (fun os started H enc _ F => natBytes_lifted os started H enc F)

end Go.Proofs.Ytdgpkmphhjmdeaa
