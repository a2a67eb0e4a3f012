/-
  No cell of these rows narrows 'for every input' (looked for: loops, veiled, ifaces, maps, wideKeys, modest, calm, conditions, laid).
  DERIVED. THE GIVEN ROWS OF THIS SEAT. 5 by the template 'for every input the law returns true; each argument reads behind the call as it read before'; 0 by the template 'total and deterministic' (their statements: YtomjfjncfodmhaaTotals.lean).
  GIVEN WITH THE SEED: the statements are not yours to turn. If you find one false, say at which input.
  Laid BY PROGRAM, IN A SANDBOX (cutbox-rows.mjs): the forced cells as the released guide's own fill.sh prints them over the translation 90a730299956d7ad… (all of the seat's roots in one cut). By AI agents, Wed Nov 11 2026. No macro, syntax, notation, axiom, sorry.
-/
import Derived.Test.YtomjfjncfodmhaaChecked
import GoSem.Claim
import GoSem.ClaimJoined
import GoSem.ClaimMapViews
import Derived.JoinedTies
import Derived.KernelRfl
namespace Go.Proofs.Ytomjfjncfodmhaa
/- THE CELL 'sum', in the pinned program and in every row, IS THE sha256 OF THE DUMP (.gsa) THAT YtomjfjncfodmhaaProg.lean LOADS. Nothing in Lean hashes anything: it is a label: what it is worth is what the hold of that sum in a sandbox is worth. -/
noncomputable def Try.pinned : Pinned := { name := "ytomjfjncfodmhaa", sum := "90a730299956d7ad356d7e28ceee994ead8b3b760b94c53dfb5ef899f56a07fe", checked := Try.checked }
namespace Rows
def none {H : Type} : Left H := { results := [], args := [] }

/-- 'bailiwicklaw10.TowerRing': WHATEVER THE INPUT: true; the input reads as it did. -/
def towerRingSpec : ChangeSpec := { name := "towerRing", fn := fun _ => fun
  | [d1, d2, d3] => { results := [.lit (.bool true)], args := [d1, d2, d3] }
  | _ => none }
def towerRingRow : OpenClaim := { program := "ytomjfjncfodmhaa", sum := "90a730299956d7ad356d7e28ceee994ead8b3b760b94c53dfb5ef899f56a07fe", func := "bailiwick/bailiwicklaw10.TowerRing", spec := "towerRing", inPlace := ["math/bits.Sub64", "math/bits.Add64"], named := ["math/bits.divideError", "math/bits.overflowError"], apart := false }
def TowerRingSaid : Prop := towerRingRow.holds Try.pinned (OpenSpec.ofChange towerRingSpec)

/-- ITS FALSE NEIGHBOUR: 'it returns false'. Refute it at one input. -/
def towerRingWrong : ChangeSpec := { name := "towerRing", fn := fun _ => fun
  | [d1, d2, d3] => { results := [.lit (.bool false)], args := [d1, d2, d3] }
  | _ => none }
def TowerRingWrongFalsely : Prop := towerRingRow.holds Try.pinned (OpenSpec.ofChange towerRingWrong)

/-- 'bailiwicklaw10.TowerTwo': WHATEVER THE INPUT: true; the input reads as it did. -/
def towerTwoSpec : ChangeSpec := { name := "towerTwo", fn := fun _ => fun
  | [d1, d2] => { results := [.lit (.bool true)], args := [d1, d2] }
  | _ => none }
def towerTwoRow : OpenClaim := { program := "ytomjfjncfodmhaa", sum := "90a730299956d7ad356d7e28ceee994ead8b3b760b94c53dfb5ef899f56a07fe", func := "bailiwick/bailiwicklaw10.TowerTwo", spec := "towerTwo", inPlace := ["math/bits.Sub64", "math/bits.Add64"], named := ["math/bits.divideError", "math/bits.overflowError"], apart := false }
def TowerTwoSaid : Prop := towerTwoRow.holds Try.pinned (OpenSpec.ofChange towerTwoSpec)

/-- ITS FALSE NEIGHBOUR: 'it returns false'. Refute it at one input. -/
def towerTwoWrong : ChangeSpec := { name := "towerTwo", fn := fun _ => fun
  | [d1, d2] => { results := [.lit (.bool false)], args := [d1, d2] }
  | _ => none }
def TowerTwoWrongFalsely : Prop := towerTwoRow.holds Try.pinned (OpenSpec.ofChange towerTwoWrong)

/-- 'bailiwicklaw10.TowerTwelve': WHATEVER THE INPUT: true; the input reads as it did. -/
def towerTwelveSpec : ChangeSpec := { name := "towerTwelve", fn := fun _ => fun
  | [d1, d2] => { results := [.lit (.bool true)], args := [d1, d2] }
  | _ => none }
def towerTwelveRow : OpenClaim := { program := "ytomjfjncfodmhaa", sum := "90a730299956d7ad356d7e28ceee994ead8b3b760b94c53dfb5ef899f56a07fe", func := "bailiwick/bailiwicklaw10.TowerTwelve", spec := "towerTwelve", inPlace := ["math/bits.Sub64", "math/bits.Add64"], unfollowed := true, recurses := true, named := ["math/bits.divideError", "math/bits.overflowError"], apart := false }
def TowerTwelveSaid : Prop := towerTwelveRow.holds Try.pinned (OpenSpec.ofChange towerTwelveSpec)

/-- ITS FALSE NEIGHBOUR: 'it returns false'. Refute it at one input. -/
def towerTwelveWrong : ChangeSpec := { name := "towerTwelve", fn := fun _ => fun
  | [d1, d2] => { results := [.lit (.bool false)], args := [d1, d2] }
  | _ => none }
def TowerTwelveWrongFalsely : Prop := towerTwelveRow.holds Try.pinned (OpenSpec.ofChange towerTwelveWrong)

/-- 'bailiwicklaw10.TowerFrobenius': WHATEVER THE INPUT: true; the input reads as it did. -/
def towerFrobeniusSpec : ChangeSpec := { name := "towerFrobenius", fn := fun _ => fun
  | [d1, d2] => { results := [.lit (.bool true)], args := [d1, d2] }
  | _ => none }
def towerFrobeniusRow : OpenClaim := { program := "ytomjfjncfodmhaa", sum := "90a730299956d7ad356d7e28ceee994ead8b3b760b94c53dfb5ef899f56a07fe", func := "bailiwick/bailiwicklaw10.TowerFrobenius", spec := "towerFrobenius", inPlace := ["math/bits.Sub64", "math/bits.Add64"], named := ["math/bits.divideError", "math/bits.overflowError"], apart := false }
def TowerFrobeniusSaid : Prop := towerFrobeniusRow.holds Try.pinned (OpenSpec.ofChange towerFrobeniusSpec)

/-- ITS FALSE NEIGHBOUR: 'it returns false'. Refute it at one input. -/
def towerFrobeniusWrong : ChangeSpec := { name := "towerFrobenius", fn := fun _ => fun
  | [d1, d2] => { results := [.lit (.bool false)], args := [d1, d2] }
  | _ => none }
def TowerFrobeniusWrongFalsely : Prop := towerFrobeniusRow.holds Try.pinned (OpenSpec.ofChange towerFrobeniusWrong)

/-- 'bailiwicklaw10.TowerPowers': WHATEVER THE INPUT: true; the input reads as it did. -/
def towerPowersSpec : ChangeSpec := { name := "towerPowers", fn := fun _ => fun
  | [d1, d2, d3] => { results := [.lit (.bool true)], args := [d1, d2, d3] }
  | _ => none }
def towerPowersRow : OpenClaim := { program := "ytomjfjncfodmhaa", sum := "90a730299956d7ad356d7e28ceee994ead8b3b760b94c53dfb5ef899f56a07fe", func := "bailiwick/bailiwicklaw10.TowerPowers", spec := "towerPowers", inPlace := ["math/bits.Sub64", "math/bits.Add64"], named := ["math/bits.divideError", "math/bits.overflowError"], apart := false }
def TowerPowersSaid : Prop := towerPowersRow.holds Try.pinned (OpenSpec.ofChange towerPowersSpec)

/-- ITS FALSE NEIGHBOUR: 'it returns false'. Refute it at one input. -/
def towerPowersWrong : ChangeSpec := { name := "towerPowers", fn := fun _ => fun
  | [d1, d2, d3] => { results := [.lit (.bool false)], args := [d1, d2, d3] }
  | _ => none }
def TowerPowersWrongFalsely : Prop := towerPowersRow.holds Try.pinned (OpenSpec.ofChange towerPowersWrong)

/- THE SECOND FORM. 'bulk': how many values and letters a reading holds, each counted each time it is reached (what is shared counts as often as it is met; a slice's spare places count too). A statement '..UptoSaid' is the law's where the arguments, and the package variables that the reading takes, are together of bulk at most 1048576: NARROWER than '..Said'. Prove '..Said' where nothing that the law and all that it calls make is longer than what came in: it says more and counts as full. Else prove '..UptoSaid'. A law counts once. -/
mutual
def uptoBulk {H : Type} : DataW H → Nat
  | .lit (.string bytes) => bytes.length + 1
  | .lit _ => 1
  | .nil => 1
  | .ptr d => uptoBulk d + 1
  | .slice elems spare => uptoBulkAll elems + uptoBulkAll spare + 1
  | .agg parts => uptoBulkAll parts + 1
  | .iface _ d => uptoBulk d + 1
  | .map entries => uptoBulkEntries entries + 1
  | .held _ => 1
def uptoBulkAll {H : Type} : List (DataW H) → Nat
  | [] => 0
  | d :: r => uptoBulk d + uptoBulkAll r
def uptoBulkEntries {H : Type} : List (Lit × DataW H) → Nat
  | [] => 0
  | x :: r => uptoBulkEntry x + uptoBulkEntries r
def uptoBulkEntry {H : Type} : Lit × DataW H → Nat
  | (.string bytes, d) => bytes.length + uptoBulk d + 1
  | (_, d) => uptoBulk d + 1
 end
def uptoSmall : (H : Type) → List (DataW H) → Bool := fun _ ds => decide (uptoBulkAll ds ≤ 1048576)
def OpenSpec.upto (s : _root_.Go.ChangeSpec) : _root_.Go.OpenSpec := { _root_.Go.OpenSpec.ofChange s with cond := some uptoSmall }

/-- 'bailiwicklaw10.TowerRing', WHERE WHAT IT READS IS OF BULK AT MOST 1048576: true; the input reads as it did. -/
def towerRingUptoRow : OpenClaim := { program := "ytomjfjncfodmhaa", sum := "90a730299956d7ad356d7e28ceee994ead8b3b760b94c53dfb5ef899f56a07fe", func := "bailiwick/bailiwicklaw10.TowerRing", spec := "towerRing", inPlace := ["math/bits.Sub64", "math/bits.Add64"], named := ["math/bits.divideError", "math/bits.overflowError"], apart := false, narrowed := true }
def TowerRingUptoSaid : Prop := towerRingUptoRow.holds Try.pinned (OpenSpec.upto towerRingSpec)

/-- 'bailiwicklaw10.TowerTwo', WHERE WHAT IT READS IS OF BULK AT MOST 1048576: true; the input reads as it did. -/
def towerTwoUptoRow : OpenClaim := { program := "ytomjfjncfodmhaa", sum := "90a730299956d7ad356d7e28ceee994ead8b3b760b94c53dfb5ef899f56a07fe", func := "bailiwick/bailiwicklaw10.TowerTwo", spec := "towerTwo", inPlace := ["math/bits.Sub64", "math/bits.Add64"], named := ["math/bits.divideError", "math/bits.overflowError"], apart := false, narrowed := true }
def TowerTwoUptoSaid : Prop := towerTwoUptoRow.holds Try.pinned (OpenSpec.upto towerTwoSpec)

/-- 'bailiwicklaw10.TowerTwelve', WHERE WHAT IT READS IS OF BULK AT MOST 1048576: true; the input reads as it did. -/
def towerTwelveUptoRow : OpenClaim := { program := "ytomjfjncfodmhaa", sum := "90a730299956d7ad356d7e28ceee994ead8b3b760b94c53dfb5ef899f56a07fe", func := "bailiwick/bailiwicklaw10.TowerTwelve", spec := "towerTwelve", inPlace := ["math/bits.Sub64", "math/bits.Add64"], unfollowed := true, recurses := true, named := ["math/bits.divideError", "math/bits.overflowError"], apart := false, narrowed := true }
def TowerTwelveUptoSaid : Prop := towerTwelveUptoRow.holds Try.pinned (OpenSpec.upto towerTwelveSpec)

/-- 'bailiwicklaw10.TowerFrobenius', WHERE WHAT IT READS IS OF BULK AT MOST 1048576: true; the input reads as it did. -/
def towerFrobeniusUptoRow : OpenClaim := { program := "ytomjfjncfodmhaa", sum := "90a730299956d7ad356d7e28ceee994ead8b3b760b94c53dfb5ef899f56a07fe", func := "bailiwick/bailiwicklaw10.TowerFrobenius", spec := "towerFrobenius", inPlace := ["math/bits.Sub64", "math/bits.Add64"], named := ["math/bits.divideError", "math/bits.overflowError"], apart := false, narrowed := true }
def TowerFrobeniusUptoSaid : Prop := towerFrobeniusUptoRow.holds Try.pinned (OpenSpec.upto towerFrobeniusSpec)

/-- 'bailiwicklaw10.TowerPowers', WHERE WHAT IT READS IS OF BULK AT MOST 1048576: true; the input reads as it did. -/
def towerPowersUptoRow : OpenClaim := { program := "ytomjfjncfodmhaa", sum := "90a730299956d7ad356d7e28ceee994ead8b3b760b94c53dfb5ef899f56a07fe", func := "bailiwick/bailiwicklaw10.TowerPowers", spec := "towerPowers", inPlace := ["math/bits.Sub64", "math/bits.Add64"], named := ["math/bits.divideError", "math/bits.overflowError"], apart := false, narrowed := true }
def TowerPowersUptoSaid : Prop := towerPowersUptoRow.holds Try.pinned (OpenSpec.upto towerPowersSpec)

end Rows
end Go.Proofs.Ytomjfjncfodmhaa
