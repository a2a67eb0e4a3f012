/- Nothing of the statement is proved here: this text lays generic laws: FV; no conditions. -/
import Derived.Test.YtomjfjncfodmhaaFQ
import Derived.Test.YtomjfjncfodmhaaPR
set_option linter.all false
set_option autoImplicit false
set_option maxRecDepth 8000
set_option maxHeartbeats 4000000
set_option exponentiation.threshold 5000
namespace Go.SE
open Go
variable {P : Program} {R : AEnd → Prop}
end Go.SE
set_option autoImplicit false
set_option maxRecDepth 8000
set_option maxHeartbeats 4000000
set_option exponentiation.threshold 5000
namespace Go.SE
open Go
variable {P : Program} {R : AEnd → Prop}
def baseS : ByteArray := ⟨#[50, 49, 56, 56, 56, 50, 52, 50, 56, 55, 49, 56, 51, 57, 50, 55, 53, 50, 50, 50, 50, 52, 54, 52, 48, 53, 55, 52, 53, 50, 53, 55, 50, 55, 53, 48, 56, 56, 54, 57, 54, 51, 49, 49, 49, 53, 55, 50, 57, 55, 56, 50, 51, 54, 54, 50, 54, 56, 57, 48, 51, 55, 56, 57, 52, 54, 52, 53, 50, 50, 54, 50, 48, 56, 53, 56, 51]⟩
def bdg (i : Nat) : Nat := (baseS.data[i]?.getD 0).toNat
def pvs : Nat → Nat
  | 0 => 0
  | i + 1 => pvs i * 10 + (bdg i - 48)
theorem bdg_ok : ∀ i, i < 77 → 48 ≤ bdg i ∧ bdg i ≤ 57 := by decide +kernel
theorem pvs_lt : ∀ i, i < 78 → pvs i < 65536 ^ (2 * i) := by decide +kernel
theorem pvs_all : pvs 77 = pBase := by decide +kernel
theorem ev_base {i : Nat} {z : Int} (hz : z = (i : Int)) (h : i < 77) : evalO .sidx [.str baseS, .int .i64 z] = some (.int .u8 (bdg i : Int)) := by
  subst hz
  have hs : i < baseS.data.size := h
  have hs' : i < baseS.size := h
  show (if 0 ≤ (i : Int) then (baseS[(i : Int).toNat]?).map (fun b => AV.int .u8 b.toNat) else none) = _
  rw [if_pos (by omega), Int.toNat_natCast]
  unfold bdg
  rw [Array.getElem?_eq_getElem hs]
  rw [getElem?_pos baseS i hs']
  rfl
def ParseB (P : Program) (f : FuncId) : Prop := Ct P f [.str baseS] (fun e => e = .ret (.tup [WV pBase, .int .i64 0]))
def t_parseB (prod sum word : FuncId) : T :=
 .loop [.c (.sl 0 []), .c (.int .i64 0)] [true, true] <|
 .node (.op (.bin .lss) [.v 1, .c (.int .i64 77)]) <|
 .br (.v 2) (
 .node (.op .sidx [.c (.str baseS), .v 1]) <|
 .node (.op (.bin .lss) [.v 3, .c (.int .u8 48)]) <|
 .br (.v 4) (
 .ret (.c (.tup [.agg [.int .u64 0, .int .u64 0, .int .u64 0, .int .u64 0], .int .i64 4]))) (
 .node (.op .sidx [.c (.str baseS), .v 1]) <|
 .node (.op (.bin .gtr) [.v 5, .c (.int .u8 57)]) <|
 .br (.v 6) (
 .ret (.c (.tup [.agg [.int .u64 0, .int .u64 0, .int .u64 0, .int .u64 0], .int .i64 4]))) (
 .node (.call prod [.v 0, .c (.sl 1 [.int .u64 10])] true) <|
 .node (.op .sidx [.c (.str baseS), .v 1]) <|
 .node (.op (.bin .sub) [.v 8, .c (.int .u8 48)]) <|
 .node (.op (.cvt .u64) [.v 9]) <|
 .node (.op .mklst [.v 10]) <|
 .node (.op (.mksl 1) [.v 11, .c (.int .i64 0), .c (.int .i64 1)]) <|
 .node (.call sum [.v 7, .v 12] true) <|
 .node (.op (.bin .add) [.v 1, .c (.int .i64 1)]) <|
 .back 0 [.v 13, .v 14]))) (
 .loop [.c (.int .i64 16)] [true] <|
 .node (.op .len [.v 0]) <|
 .node (.op (.bin .lss) [.v 3, .v 4]) <|
 .br (.v 5) (
 .node (.op (.eaddr 1) [.v 0, .v 3]) <|
 .node (.op (.rld false 1) [.v 6]) <|
 .node (.op (.bin .neq) [.v 7, .c (.int .u64 0)]) <|
 .br (.v 8) (
 .ret (.c (.tup [.agg [.int .u64 0, .int .u64 0, .int .u64 0, .int .u64 0], .int .i64 2]))) (
 .node (.op (.bin .add) [.v 3, .c (.int .i64 1)]) <|
 .back 0 [.v 9])) (
 .node (.call word [.v 0] false) <|
 .node (.op (.cell 4 0) [.v 6]) <|
 .node (.op (.cell 4 1) [.v 6]) <|
 .node (.op (.cell 4 2) [.v 6]) <|
 .node (.op (.cell 4 3) [.v 6]) <|
 .node (.op .mkagg [.v 7, .v 8, .v 9, .v 10]) <|
 .node (.op .mktup [.v 11, .c (.int .i64 0)]) <|
 .ret (.v 12)))
theorem parseB_den {prod sum word : FuncId} (hp : ProductC P prod) (hs : SumC P sum) (hw : WWordC P word) : D P (fun e => e = .ret (.tup [WV pBase, .int .i64 0])) [] 0 [] (t_parseB prod sum word) := by
  have e77 : pvs 77 = pBase := pvs_all
  refine d_while (fun i : Nat => [SN .u64 (fdigs 65536 (2 * i) (pvs i)), .int .i64 (i : Int)]) (fun i => i ≤ 77) (fun i => 77 - i) 0 (Nat.zero_le _) rfl ?_
  intro i hi
  refine d_op ev_lss (d_if rfl (fun h1 => ?_) (fun h1 => ?_))
  · have hi7 : i < 77 := by omega
    obtain ⟨hd1, hd2⟩ := bdg_ok i hi7
    have hpv := pvs_lt i (by omega)
    have hpv' := pvs_lt (i + 1) (by omega)
    have c1 := hp (fdigs 65536 (2 * i) (pvs i)) [10] (fdigs_lt (by decide) _ _) (by intro x hx; simp at hx; subst hx; decide) (by simp; omega)
    rw [val_fdigs_lt hpv, fdigs_length] at c1
    have hm : pvs i * 10 < 65536 ^ (2 * i + 1) := by rw [Nat.pow_succ]; exact Nat.mul_lt_mul'' hpv (by decide)
    have c2 := hs (fdigs 65536 (2 * i + 1) (pvs i * 10)) [bdg i - 48] (fdigs_lt (by decide) _ _) (by intro x hx; simp at hx; subst hx; omega) (by simp; omega) (by simp)
    rw [val_fdigs_lt hm, fdigs_length, show max (2 * i + 1) [bdg i - 48].length + 1 = 2 * (i + 1) by simp; omega] at c2
    have e2 : pvs i * 10 + val 65536 [bdg i - 48] = pvs (i + 1) := by show _ = pvs i * 10 + (bdg i - 48); simp [val]
    rw [e2] at c2
    have e1 : val 65536 [10] = 10 := rfl
    rw [e1] at c1
    refine d_op (ev_base rfl hi7) (d_op ev_lss (f_no (by omega) rfl (d_op (ev_base rfl hi7) (d_op ev_gtr (f_no (by omega) rfl ?_)))))
    refine d_call c1 (fun _ => rfl) (d_op (ev_base rfl hi7) (d_op (ev_sub (by constructor <;> omega)) (d_op (ev_cvt (by constructor <;> omega)) (d_op (ev_mklst rfl) ?_))))
    refine d_op (v := SN .u64 [bdg i - 48]) ?_ (d_call c2 (fun _ => rfl) (d_op (ev_add (by constructor <;> omega)) ?_))
    · have : ((bdg i : Int) - 48) = ((bdg i - 48 : Nat) : Int) := by omega
      show evalO (.mksl 1) [.lst [.int .u64 ((bdg i : Int) - 48)], .int .i64 0, .int .i64 1] = _
      rw [this]
      exact ev_mkslN (L := [bdg i - 48]) rfl rfl
    · exact d_back rfl ⟨i + 1, rfl, by omega, by omega⟩
  · have : i = 77 := by omega
    subst this
    have hpv := pvs_lt 77 (by omega)
    obtain ⟨L, eL⟩ : ∃ L, L = fdigs 65536 (2 * 77) (pvs 77) := ⟨_, rfl⟩
    have hL : LtAll 65536 L := eL ▸ fdigs_lt (by decide) _ _
    have hl : L.length = 154 := by rw [eL, fdigs_length]
    have hv : val 65536 L = pBase := by rw [eL, val_fdigs_lt hpv, e77]
    rw [← eL]
    refine d_while (fun j : Nat => [.int .i64 (j : Int)]) (fun j => 16 ≤ j ∧ j ≤ 154) (fun j => 154 - j) 16 (by omega) rfl ?_
    rintro j ⟨hj, hj2⟩
    refine d_op ev_len (d_op ev_lss (d_if rfl (fun g1 => ?_) (fun g1 => ?_)))
    · have hj3 : j < L.length := by rw [hl] at g1; omega
      have h0 : L.getD j 0 = 0 := by
        rw [getD_digit (by decide) hL, hv]
        have : pBase / 65536 ^ j = 0 := Nat.div_eq_of_lt (Nat.lt_of_lt_of_le (show pBase < 65536 ^ 16 by decide) (Nat.pow_le_pow_right (by decide) hj))
        rw [this]
      refine d_op (ev_eaddrN rfl hj3) (d_op (ev_rldN' hj3 h0) (d_op ev_neq (f_no (fun h => h rfl) rfl (d_op (ev_add (by constructor <;> omega)) ?_))))
      exact d_back rfl ⟨j + 1, rfl, by omega, by omega⟩
    · have c := hw L hL (by rw [hl]; omega)
      rw [hv, Nat.mod_eq_of_lt (show pBase < W256 by decide)] at c
      exact d_call c (fun h => by cases h) (d_cells rfl rfl rfl rfl (d_op (v := WV pBase) rfl (d_op ev_mktup (d_ret rfl))))
def t_rBase (parse : FuncId) : T :=
 .node (.call parse [.c (.str ⟨#[50, 49, 56, 56, 56, 50, 52, 50, 56, 55, 49, 56, 51, 57, 50, 55, 53, 50, 50, 50, 50, 52, 54, 52, 48, 53, 55, 52, 53, 50, 53, 55, 50, 55, 53, 48, 56, 56, 54, 57, 54, 51, 49, 49, 49, 53, 55, 50, 57, 55, 56, 50, 51, 54, 54, 50, 54, 56, 57, 48, 51, 55, 56, 57, 52, 54, 52, 53, 50, 50, 54, 50, 48, 56, 53, 56, 51]⟩)] false) <|
 .node (.op (.ext 0 false) [.v 0]) <|
 .node (.op (.ext 1 true) [.v 0]) <|
 .node (.op (.cell 4 0) [.v 1]) <|
 .node (.op (.cell 4 1) [.v 1]) <|
 .node (.op (.cell 4 2) [.v 1]) <|
 .node (.op (.cell 4 3) [.v 1]) <|
 .node (.op .mkagg [.v 3, .v 4, .v 5, .v 6]) <|
 .ret (.v 7)
theorem rBase_den {parse : FuncId} (hp : ParseB P parse) : D P (fun e => e = .ret (WV pBase)) [] 0 [] (t_rBase parse) := by
  exact d_call hp (fun h => by cases h) (d_op (ev_ext rfl (fun h => by cases h)) (d_op (ev_ext rfl (fun _ => rfl)) (d_cells rfl rfl rfl rfl (d_op (v := WV pBase) rfl (d_ret rfl)))))
end Go.SE
set_option autoImplicit false
set_option maxRecDepth 8000
set_option maxHeartbeats 4000000
set_option exponentiation.threshold 5000
namespace Go.SE
open Go
variable {P : Program} {R : AEnd → Prop}
theorem ev_bbne {a b : Bool} : evalO (.bb true) [.bool a, .bool b] = some (.bool (decide (a ≠ b))) := by cases a <;> cases b <;> rfl
end Go.SE
