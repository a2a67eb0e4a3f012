/- What the functions of the numbers' package answer, each for every number that is short enough for memory. -/
import Derived.Test.YtdgpkmphhjmdeaaNA
import Derived.Test.YtdgpkmphhjmdeaaLives
set_option autoImplicit false
set_option linter.all false
set_option maxHeartbeats 0
namespace Go.Proofs.Ytdgpkmphhjmdeaa
open Go Go.SE

def cfgA : Cfg := { anns := [(43, 0, { tmps := [0], blks := [] }), (40, 0, { tmps := [6], blks := [] }), (15, 0, { tmps := [5], blks := [] }), (17, 0, { tmps := [3], blks := [] })], fuel := 3 }

theorem c43 : TrimC Try.prog 43 := fun _ h hl => ct_of mixed (cfg := cfgA) (args := [.v 0]) (kinds := [true]) rfl (t := t_trim) (by decide +kernel)
  [_] 1 rfl ⟨fun _ => rfl, trivial⟩ rfl (trim_den h hl)
theorem c69 : NanC Try.prog 69 .i64 := fun _ => ct_of mixed (cfg := cfgA) (args := [.v 0]) (kinds := [true]) rfl (t := t_nan) (by decide +kernel)
  [_] 1 rfl ⟨fun _ => rfl, trivial⟩ rfl nan_den
theorem c70 : NanC Try.prog 70 .u32 := fun _ => ct_of mixed (cfg := cfgA) (args := [.v 0]) (kinds := [true]) rfl (t := t_nan) (by decide +kernel)
  [_] 1 rfl ⟨fun _ => rfl, trivial⟩ rfl nan_den
theorem c59 : CmpC Try.prog 59 .i64 := fun _ _ => ct_of mixed (cfg := cfgA) (args := [.v 0, .v 1]) (kinds := [true, true]) rfl (t := t_cmp 69) (by decide +kernel)
  [_, _] 2 rfl ⟨fun _ => rfl, fun _ => rfl, trivial⟩ rfl (cmp_den c69)
theorem c60 : CmpC Try.prog 60 .u32 := fun _ _ => ct_of mixed (cfg := cfgA) (args := [.v 0, .v 1]) (kinds := [true, true]) rfl (t := t_cmp 70) (by decide +kernel)
  [_, _] 2 rfl ⟨fun _ => rfl, fun _ => rfl, trivial⟩ rfl (cmp_den c70)
theorem c40 : CompareC Try.prog 40 := fun _ _ hA hB hal hbl => ct_of mixed (cfg := cfgA) (args := [.v 0, .v 1]) (kinds := [true, true]) rfl (t := t_compare 43 59 60) (by decide +kernel)
  [_, _] 2 rfl ⟨fun _ => rfl, fun _ => rfl, trivial⟩ rfl (compare_den c43 c59 c60 hA hB hal hbl)
theorem c13 : CompareC Try.prog 13 := fun _ _ hA hB hal hbl => ct_of mixed (cfg := cfgA) (args := [.v 0, .v 1]) (kinds := [true, true]) rfl (t := .node (.call 40 [.v 0, .v 1] true) (.ret (.v 2))) (by decide +kernel)
  [_, _] 2 rfl ⟨fun _ => rfl, fun _ => rfl, trivial⟩ rfl (d_call (c40 _ _ hA hB hal hbl) (fun _ => rfl) (d_ret rfl))
theorem c12 : OwnC Try.prog 12 := fun _ hl => ct_of mixed (cfg := cfgA) (args := [.v 0]) (kinds := [true]) rfl (t := t_own) (by decide +kernel)
  [_] 1 rfl ⟨fun _ => rfl, trivial⟩ rfl (own_den hl)
theorem h12 : OwnH Try.prog 12 := fun L hl => ctH_of mixed (cfg := { anns := [], fuel := 3 }) (args := [.val (.v 0)]) (bs := []) (outs := [1]) (kinds := [true]) (t := t_ownH) (by decide +kernel) [W L] 1 rfl ⟨fun _ => rfl, trivial⟩ rfl rfl (fun _ h => by cases h) (ownH_den hl)
theorem c42 : OwnC Try.prog 42 := fun L hl => by
  have e : ∀ x : AV, (x.isCell = true) → ∀ {R : AEnd → Prop}, D Try.prog R [] 1 [x] t_clone → Ct Try.prog 42 [x] R := fun x hx R h => ct_of mixed (cfg := cfgA) (args := [.v 0]) (kinds := [true]) rfl (t := t_clone) (by decide +kernel) [x] 1 rfl ⟨fun _ => hx, trivial⟩ rfl h
  cases L with
  | cons x L => exact e _ rfl (clone_den (by simp) hl)
  | nil => exact Ct.is (@Ct.split Try.prog _ 42 [] [] (e _ rfl clone_den_nils) (e _ rfl clone_den_emp))
theorem c16 : PlainC Try.prog 16 := fun _ h hl => ct_of mixed (cfg := cfgA) (args := [.v 0]) (kinds := [true]) rfl (t := t_plain 43 42) (by decide +kernel)
  [_] 1 rfl ⟨fun _ => rfl, trivial⟩ rfl (plain_den c43 c42 h hl)
theorem c17 : PlainC Try.prog 17 := fun _ h hl => ct_of mixed (cfg := cfgA) (args := [.v 0]) (kinds := [true]) rfl (t := t_refPlain) (by decide +kernel)
  [_] 1 rfl ⟨fun _ => rfl, trivial⟩ rfl (refPlain_den h hl)
theorem c15 : SameC Try.prog 15 := fun _ _ hl => ct_of mixed (cfg := cfgA) (args := [.v 0, .v 1]) (kinds := [true, true]) rfl (t := t_same) (by decide +kernel)
  [_, _] 2 rfl ⟨fun _ => rfl, fun _ => rfl, trivial⟩ rfl (same_den hl)
theorem c61 : Len32C Try.prog 61 := fun _ hx => ct_of mixed (cfg := cfgA) (args := [.v 0]) (kinds := [true]) rfl (t := t_len32) (by decide +kernel)
  [_] 1 rfl ⟨fun _ => rfl, trivial⟩ rfl (len32_den hx)
theorem c41 : BitLenC Try.prog 41 := fun _ h hl => ct_of mixed (cfg := cfgA) (args := [.v 0]) (kinds := [true]) rfl (t := t_bitLen 43 61) (by decide +kernel)
  [_] 1 rfl ⟨fun _ => rfl, trivial⟩ rfl (bitLen_den c43 c61 h hl)
theorem c14 : BitLenC Try.prog 14 := fun _ h hl => ct_of mixed (cfg := cfgA) (args := [.v 0]) (kinds := [true]) rfl (t := .node (.call 41 [.v 0] true) (.ret (.v 1))) (by decide +kernel)
  [_] 1 rfl ⟨fun _ => rfl, trivial⟩ rfl (d_call (c41 _ h hl) (fun _ => rfl) (d_ret rfl))

end Go.Proofs.Ytdgpkmphhjmdeaa
