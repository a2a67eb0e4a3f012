/- Nothing of the statement is proved here: this text lays generic laws: FF; no conditions. -/
import Derived.Test.YtdpcehjiicfpdaaFE
set_option linter.all false
set_option autoImplicit false
set_option maxRecDepth 4000
set_option maxHeartbeats 2000000
set_option exponentiation.threshold 5000
namespace Go.SE
open Go
variable {P : Program} {R : AEnd → Prop}
theorem ev_weq {a b : Nat} (ha : a < W256) (hb : b < W256) : evalO (.eqv false [.int .u64, .int .u64, .int .u64, .int .u64]) [WV a, WV b] = some (.bool (decide (a = b))) := by
  have key : ∀ x y : Nat, ((x : Int) == (y : Int)) = decide (x = y) := fun x y => by
    rw [Bool.eq_iff_iff]; simp only [beq_iff_eq, decide_eq_true_eq]; omega
  simp only [WV, WL, evalO, eqCells, eqCell, and_self, if_true, Option.map_some, key, Bool.false_eq_true, if_false, Bool.and_true]
  congr 2
  rw [Bool.eq_iff_iff]
  simp only [Bool.and_eq_true, decide_eq_true_eq]
  unfold W256 at ha hb
  omega
theorem ev_wne {a b : Nat} (ha : a < W256) (hb : b < W256) : evalO (.eqv true [.int .u64, .int .u64, .int .u64, .int .u64]) [WV a, WV b] = some (.bool (decide (a ≠ b))) := by
  have h := ev_weq ha hb
  simp only [WV, WL, evalO] at h ⊢
  simp only [Bool.false_eq_true, if_false] at h
  simp only [if_true]
  rw [Option.map_eq_some_iff] at h ⊢
  obtain ⟨r, h1, h2⟩ := h
  exact ⟨r, h1, by cases h2; simp⟩
def WDivC (P : Program) (f : FuncId) : Prop := ∀ a b, a < W256 → b < W256 → 0 < b → Ct P f [WV a, WV b] (fun e => e = .ret (.tup [WV (a / b), WV (a % b)]))
theorem long_div {a0 a1 a2 a3 b : Nat} (hb : 0 < b) :
    V4 a0 a1 a2 a3 / b = V4 (((((a3 % b) * 18446744073709551616 + a2) % b * 18446744073709551616 + a1) % b * 18446744073709551616 + a0) / b) ((((a3 % b) * 18446744073709551616 + a2) % b * 18446744073709551616 + a1) / b) (((a3 % b) * 18446744073709551616 + a2) / b) (a3 / b) ∧
    V4 a0 a1 a2 a3 % b = ((((a3 % b) * 18446744073709551616 + a2) % b * 18446744073709551616 + a1) % b * 18446744073709551616 + a0) % b := by
  obtain ⟨r3, e3⟩ : ∃ r, r = a3 % b := ⟨_, rfl⟩
  obtain ⟨r2, e2⟩ : ∃ r, r = (r3 * 18446744073709551616 + a2) % b := ⟨_, rfl⟩
  obtain ⟨r1, e1⟩ : ∃ r, r = (r2 * 18446744073709551616 + a1) % b := ⟨_, rfl⟩
  obtain ⟨r0, e0⟩ : ∃ r, r = (r1 * 18446744073709551616 + a0) % b := ⟨_, rfl⟩
  rw [← e3, ← e2, ← e1, ← e0]
  have hr0 : r0 < b := e0 ▸ Nat.mod_lt _ hb
  have f3 := Nat.div_add_mod a3 b
  have f2 := Nat.div_add_mod (r3 * 18446744073709551616 + a2) b
  have f1 := Nat.div_add_mod (r2 * 18446744073709551616 + a1) b
  have f0 := Nat.div_add_mod (r1 * 18446744073709551616 + a0) b
  rw [← e3] at f3; rw [← e2] at f2; rw [← e1] at f1; rw [← e0] at f0
  obtain ⟨q3, g3⟩ : ∃ q, q = a3 / b := ⟨_, rfl⟩
  obtain ⟨q2, g2⟩ : ∃ q, q = (r3 * 18446744073709551616 + a2) / b := ⟨_, rfl⟩
  obtain ⟨q1, g1⟩ : ∃ q, q = (r2 * 18446744073709551616 + a1) / b := ⟨_, rfl⟩
  obtain ⟨q0, g0⟩ : ∃ q, q = (r1 * 18446744073709551616 + a0) / b := ⟨_, rfl⟩
  rw [← g3, ← g2, ← g1, ← g0]
  rw [← g3] at f3; rw [← g2] at f2; rw [← g1] at f1; rw [← g0] at f0
  have key : V4 a0 a1 a2 a3 = b * V4 q0 q1 q2 q3 + r0 := by
    have : b * V4 q0 q1 q2 q3 = b * q0 + 18446744073709551616 * (b * q1) + 340282366920938463463374607431768211456 * (b * q2) + 6277101735386680763835789423207666416102355444464034512896 * (b * q3) := by unfold V4; grind
    rw [this]
    clear e0 e1 e2 e3 this g0 g1 g2 g3
    unfold V4
    grind
  rw [key]
  exact ⟨by rw [Nat.mul_add_div hb, Nat.div_eq_of_lt hr0, Nat.add_zero], by rw [Nat.mul_add_mod, Nat.mod_eq_of_lt hr0]⟩
theorem fdigs4 (q : Nat) : SN .u64 (fdigs B64 4 q) = .sl 4 [.int .u64 ((q % 18446744073709551616 : Nat) : Int), .int .u64 ((q / 18446744073709551616 % 18446744073709551616 : Nat) : Int), .int .u64 ((q / 340282366920938463463374607431768211456 % 18446744073709551616 : Nat) : Int), .int .u64 ((q / 6277101735386680763835789423207666416102355444464034512896 % 18446744073709551616 : Nat) : Int)] := by
  have h2 : q / 18446744073709551616 / 18446744073709551616 = q / 340282366920938463463374607431768211456 := Nat.div_div_eq_div_mul ..
  have h3 : q / 18446744073709551616 / 18446744073709551616 / 18446744073709551616 = q / 6277101735386680763835789423207666416102355444464034512896 := by rw [Nat.div_div_eq_div_mul, Nat.div_div_eq_div_mul]
  rw [← h3, ← h2]; rfl
theorem val4 {a0 a1 a2 a3 : Nat} : val B64 [a0, a1, a2, a3] = V4 a0 a1 a2 a3 := by
  simp only [val_cons, val_nil]; unfold V4; show a0 + 18446744073709551616 * (a1 + 18446744073709551616 * (a2 + 18446744073709551616 * (a3 + 18446744073709551616 * 0))) = _; omega
theorem ev_build1 {r : Nat} : evalO (.build [.int .u64 0, .int .u64 0, .int .u64 0, .int .u64 0] [(0, 1)]) [.int .u64 (r : Int)] = some (WL r 0 0 0) := rfl
def t_wdiv (cmpr div64 divideW : FuncId) : T :=
 .node (.op (.cell 4 0) [.v 0]) <|
 .node (.op (.cell 4 1) [.v 0]) <|
 .node (.op (.cell 4 2) [.v 0]) <|
 .node (.op (.cell 4 3) [.v 0]) <|
 .node (.op (.cell 4 0) [.v 1]) <|
 .node (.op (.cell 4 1) [.v 1]) <|
 .node (.op (.cell 4 2) [.v 1]) <|
 .node (.op (.cell 4 3) [.v 1]) <|
 .node (.op .mkagg [.v 6, .v 7, .v 8, .v 9]) <|
 .node (.op (.eqv false [.int .u64, .int .u64, .int .u64, .int .u64]) [.v 10, .c (.agg [.int .u64 0, .int .u64 0, .int .u64 0, .int .u64 0])]) <|
 .br (.v 11) (
 .ret (.c (.tup [.agg [.int .u64 0, .int .u64 0, .int .u64 0, .int .u64 0], .agg [.int .u64 0, .int .u64 0, .int .u64 0, .int .u64 0]]))) (
 .node (.op .mkagg [.v 2, .v 3, .v 4, .v 5]) <|
 .node (.op .mkagg [.v 6, .v 7, .v 8, .v 9]) <|
 .node (.call cmpr [.v 12, .v 13] true) <|
 .node (.op (.bin .lss) [.v 14, .c (.int .i64 0)]) <|
 .br (.v 15) (
 .node (.op .mkagg [.v 2, .v 3, .v 4, .v 5]) <|
 .node (.op .mktup [.c (.agg [.int .u64 0, .int .u64 0, .int .u64 0, .int .u64 0]), .v 16]) <|
 .ret (.v 17)) (
 .node (.op (.bin .or) [.v 7, .v 8]) <|
 .node (.op (.bin .or) [.v 16, .v 9]) <|
 .node (.op (.bin .eql) [.v 17, .c (.int .u64 0)]) <|
 .br (.v 18) (
 .node (.call div64 [.c (.int .u64 0), .v 5, .v 6] false) <|
 .node (.op (.ext 0 true) [.v 19]) <|
 .node (.op (.ext 1 true) [.v 19]) <|
 .node (.call div64 [.v 21, .v 4, .v 6] false) <|
 .node (.op (.ext 0 true) [.v 22]) <|
 .node (.op (.ext 1 true) [.v 22]) <|
 .node (.call div64 [.v 24, .v 3, .v 6] false) <|
 .node (.op (.ext 0 true) [.v 25]) <|
 .node (.op (.ext 1 true) [.v 25]) <|
 .node (.call div64 [.v 27, .v 2, .v 6] false) <|
 .node (.op (.ext 0 true) [.v 28]) <|
 .node (.op (.ext 1 true) [.v 28]) <|
 .node (.op (.build [.int .u64 0, .int .u64 0, .int .u64 0, .int .u64 0] [(0, 1)]) [.v 30]) <|
 .node (.op (.cell 4 0) [.v 31]) <|
 .node (.op (.cell 4 1) [.v 31]) <|
 .node (.op (.cell 4 2) [.v 31]) <|
 .node (.op (.cell 4 3) [.v 31]) <|
 .node (.op .mkagg [.v 29, .v 26, .v 23, .v 20]) <|
 .node (.op .mkagg [.v 32, .v 33, .v 34, .v 35]) <|
 .node (.op .mktup [.v 36, .v 37]) <|
 .ret (.v 38)) (
 .node (.op .mklst [.v 2, .v 3, .v 4, .v 5]) <|
 .node (.op (.mksl 1) [.v 19, .c (.int .i64 0), .c (.int .i64 4)]) <|
 .node (.op .mkagg [.v 6, .v 7, .v 8, .v 9]) <|
 .node (.call divideW [.v 20, .v 21] false) <|
 .node (.op (.ext 0 true) [.v 22]) <|
 .node (.op (.ext 1 false) [.v 22]) <|
 .node (.op (.cell 4 0) [.v 24]) <|
 .node (.op (.cell 4 1) [.v 24]) <|
 .node (.op (.cell 4 2) [.v 24]) <|
 .node (.op (.cell 4 3) [.v 24]) <|
 .node (.op (.sl2rp 4 1) [.v 23]) <|
 .node (.op (.rld true 4) [.v 29]) <|
 .node (.op (.cell 4 0) [.v 30]) <|
 .node (.op (.cell 4 1) [.v 30]) <|
 .node (.op (.cell 4 2) [.v 30]) <|
 .node (.op (.cell 4 3) [.v 30]) <|
 .node (.op .mkagg [.v 31, .v 32, .v 33, .v 34]) <|
 .node (.op .mkagg [.v 25, .v 26, .v 27, .v 28]) <|
 .node (.op .mktup [.v 35, .v 36]) <|
 .ret (.v 37))))
theorem wdiv_den {cmpr div64 divideW : FuncId} {a b : Nat} (hc : WCmpC P cmpr) (h64 : Div64C P div64) (hw : DivideWC P divideW) (ha : a < W256) (hb : b < W256) (h0 : 0 < b) :
    D P (fun e => e = .ret (.tup [WV (a / b), WV (a % b)])) [] 2 [WV b, WV a] (t_wdiv cmpr div64 divideW) := by
  have hcc := hc a b ha hb
  obtain ⟨a0, a1, a2, a3, ha0, ha1, ha2, ha3, eA, ea⟩ := WV_limbs ha
  obtain ⟨b0, b1, b2, b3, hb0, hb1, hb2, hb3, eB, eb⟩ := WV_limbs hb
  have heq : evalO (.eqv false [.int .u64, .int .u64, .int .u64, .int .u64]) [WL b0 b1 b2 b3, .agg [.int .u64 0, .int .u64 0, .int .u64 0, .int .u64 0]] = some (.bool (decide (b = 0))) := by
    rw [← eB]; exact ev_weq hb (b := 0) (by decide)
  rw [eA, eB] at hcc
  rw [eA, eB]
  refine d_cells rfl rfl rfl rfl (d_cells rfl rfl rfl rfl (d_op ev_wl (d_op heq (d_if rfl (fun h => absurd h (by omega)) (fun _ => ?_)))))
  refine d_op ev_wl (d_op ev_wl (d_call hcc (fun _ => rfl) (d_op ev_lss (d_if rfl (fun h1 => ?_) (fun h1 => ?_)))))
  · have hlt : a < b := by
      refine Classical.byContradiction fun hn => ?_
      have : cmpN a b = 1 ∨ cmpN a b = 0 := by unfold cmpN; rw [if_neg hn]; split <;> simp
      rcases this with h | h <;> rw [h] at h1 <;> simp at h1
    rw [Nat.div_eq_of_lt hlt, Nat.mod_eq_of_lt hlt]
    refine d_op ev_wl (d_op ev_mktup (d_ret ?_))
    show AEnd.ret (.tup [_, WL a0 a1 a2 a3]) = _
    rw [← eA]; rfl
  · have or0 : ∀ {x y : Nat}, x < 18446744073709551616 → y < 18446744073709551616 → x ||| y < 18446744073709551616 := fun h1 h2 => Nat.or_lt_two_pow (n := 64) h1 h2
    have k1 : b1 < 18446744073709551616 := hb1
    have k2 : b2 < 18446744073709551616 := hb2
    have k3 : b3 < 18446744073709551616 := hb3
    have k12 := or0 k1 k2
    refine d_op (ev_or (by constructor <;> omega) (by constructor <;> omega)) (d_op (ev_or (by constructor <;> omega) (by constructor <;> omega)) (d_op ev_eql (d_if rfl (fun h2 => ?_) (fun h2 => ?_))))
    · have hz : b1 ||| b2 ||| b3 = 0 := by omega
      rw [Nat.or_eq_zero_iff, Nat.or_eq_zero_iff] at hz
      obtain ⟨⟨z1, z2⟩, z3⟩ := hz
      subst z1; subst z2; subst z3
      have eb0 : b = b0 := by rw [eb]; unfold V4; omega
      subst eb0
      have hbB : b < 18446744073709551616 := hb0
      obtain ⟨L1, L2⟩ := long_div (a0 := a0) (a1 := a1) (a2 := a2) (a3 := a3) h0
      have d3 := h64 0 a3 b hb0 h0 ha3
      rw [Nat.zero_mul, Nat.zero_add] at d3
      have d2 := h64 (a3 % b) a2 b hb0 (Nat.mod_lt _ h0) ha2
      have d1 := h64 (((a3 % b) * 18446744073709551616 + a2) % b) a1 b hb0 (Nat.mod_lt _ h0) ha1
      have d0 := h64 ((((a3 % b) * 18446744073709551616 + a2) % b * 18446744073709551616 + a1) % b) a0 b hb0 (Nat.mod_lt _ h0) ha0
      have hq : ∀ {r x : Nat}, r < b → x < B64 → (r * 18446744073709551616 + x) / b < B64 := fun {r x} hr hx => by
        have hx' : x < 18446744073709551616 := hx
        rw [Nat.div_lt_iff_lt_mul h0]
        have : (r + 1) * 18446744073709551616 ≤ b * 18446744073709551616 := Nat.mul_le_mul_right _ hr
        show _ < 18446744073709551616 * b
        omega
      have q3 : a3 / b < B64 := Nat.lt_of_le_of_lt (Nat.div_le_self _ _) ha3
      have q2 := hq (Nat.mod_lt a3 h0) ha2
      have q1 := hq (Nat.mod_lt ((a3 % b) * 18446744073709551616 + a2) h0) ha1
      have q0 := hq (Nat.mod_lt (((a3 % b) * 18446744073709551616 + a2) % b * 18446744073709551616 + a1) h0) ha0
      have hrr : V4 a0 a1 a2 a3 % b < b := Nat.mod_lt _ h0
      rw [← ea] at L1 L2 hrr
      have er : WV (a % b) = WL (a % b) 0 0 0 := by
        have : a % b = V4 (a % b) 0 0 0 := by unfold V4; omega
        rw [this, WV_eq (by show _ < 18446744073709551616; omega) (by decide) (by decide) (by decide), ← this]
      rw [er, L1, WV_eq q0 q1 q2 q3, L2]
      refine d_call d3 (fun h => by cases h) (d_op (ev_ext rfl (fun _ => rfl)) (d_op (ev_ext rfl (fun _ => rfl)) ?_))
      refine d_call d2 (fun h => by cases h) (d_op (ev_ext rfl (fun _ => rfl)) (d_op (ev_ext rfl (fun _ => rfl)) ?_))
      refine d_call d1 (fun h => by cases h) (d_op (ev_ext rfl (fun _ => rfl)) (d_op (ev_ext rfl (fun _ => rfl)) ?_))
      refine d_call d0 (fun h => by cases h) (d_op (ev_ext rfl (fun _ => rfl)) (d_op (ev_ext rfl (fun _ => rfl)) ?_))
      exact d_op ev_build1 (d_cells rfl rfl rfl rfl (d_op ev_wl (d_op ev_wl (d_op ev_mktup (d_ret rfl)))))
    · have hL : LtAll B64 [a0, a1, a2, a3] := fun x hx => by
        simp only [List.mem_cons, List.not_mem_nil, or_false] at hx
        rcases hx with rfl | rfl | rfl | rfl
        · exact ha0
        · exact ha1
        · exact ha2
        · exact ha3
      have hd := hw [a0, a1, a2, a3] b hL (by simp) (by simp) h0 hb
      rw [val4, ← ea, eB] at hd
      obtain ⟨r0, r1, r2, r3, _, _, _, _, er, _⟩ := WV_limbs (a := a % b) (Nat.lt_trans (Nat.mod_lt _ h0) hb)
      rw [er] at hd ⊢
      rw [show [a0, a1, a2, a3].length = 4 from rfl, fdigs4] at hd
      refine d_op (ev_mklst rfl) (d_op (v := SN .u64 [a0, a1, a2, a3]) rfl (d_op ev_wl (d_call hd (fun h => by cases h) ?_)))
      refine d_op (ev_ext rfl (fun _ => rfl)) (d_op (ev_ext rfl (fun h => by cases h)) (d_cells rfl rfl rfl rfl ?_))
      refine d_op (v := .rp _) rfl (d_op (v := WV (a / b)) rfl ?_)
      exact d_cells rfl rfl rfl rfl (d_op ev_wl (d_op ev_wl (d_op ev_mktup (d_ret rfl))))
def t_wMod (div : FuncId) : T :=
 .node (.op (.cell 4 0) [.v 0]) <|
 .node (.op (.cell 4 1) [.v 0]) <|
 .node (.op (.cell 4 2) [.v 0]) <|
 .node (.op (.cell 4 3) [.v 0]) <|
 .node (.op (.cell 4 0) [.v 1]) <|
 .node (.op (.cell 4 1) [.v 1]) <|
 .node (.op (.cell 4 2) [.v 1]) <|
 .node (.op (.cell 4 3) [.v 1]) <|
 .node (.op .mkagg [.v 2, .v 3, .v 4, .v 5]) <|
 .node (.op .mkagg [.v 6, .v 7, .v 8, .v 9]) <|
 .node (.call div [.v 10, .v 11] false) <|
 .node (.op (.ext 0 false) [.v 12]) <|
 .node (.op (.ext 1 false) [.v 12]) <|
 .node (.op (.cell 4 0) [.v 13]) <|
 .node (.op (.cell 4 1) [.v 13]) <|
 .node (.op (.cell 4 2) [.v 13]) <|
 .node (.op (.cell 4 3) [.v 13]) <|
 .node (.op (.cell 4 0) [.v 14]) <|
 .node (.op (.cell 4 1) [.v 14]) <|
 .node (.op (.cell 4 2) [.v 14]) <|
 .node (.op (.cell 4 3) [.v 14]) <|
 .node (.op .mkagg [.v 19, .v 20, .v 21, .v 22]) <|
 .ret (.v 23)
theorem wMod_den {div : FuncId} {a b : Nat} (hd : WDivC P div) (ha : a < W256) (hb : b < W256) (h0 : 0 < b) : D P (fun e => e = .ret (WV (a % b))) [] 2 [WV b, WV a] (t_wMod div) := by
  have h := hd a b ha hb h0
  obtain ⟨q0, q1, q2, q3, _, _, _, _, eq, _⟩ := WV_limbs (a := a / b) (Nat.lt_of_le_of_lt (Nat.div_le_self _ _) ha)
  obtain ⟨r0, r1, r2, r3, _, _, _, _, er, _⟩ := WV_limbs (a := a % b) (Nat.lt_trans (Nat.mod_lt _ h0) hb)
  obtain ⟨a0, a1, a2, a3, _, _, _, _, ea, _⟩ := WV_limbs ha
  obtain ⟨b0, b1, b2, b3, _, _, _, _, eb, _⟩ := WV_limbs hb
  rw [ea, eb, eq, er] at h
  rw [ea, eb, er]
  refine d_cells rfl rfl rfl rfl (d_cells rfl rfl rfl rfl (d_op ev_wl (d_op ev_wl (d_call h (fun h => by cases h) ?_))))
  refine d_op (ev_ext rfl (fun h => by cases h)) (d_op (ev_ext rfl (fun h => by cases h)) (d_cells rfl rfl rfl rfl (d_cells rfl rfl rfl rfl (d_op ev_wl (d_ret rfl)))))
def WModC (P : Program) (f : FuncId) : Prop := ∀ a b, a < W256 → b < W256 → 0 < b → Ct P f [WV a, WV b] (fun e => e = .ret (WV (a % b)))
def OfMC (P : Program) (f : FuncId) : Prop := ∀ m iv sq a, 0 < m → m < W256 → sq < W256 → a < W256 → Ct P f [FP m iv sq, WV a] (fun e => e = .ret (WV (a % m)))
def t_ofM (cmp mod : FuncId) : T :=
 .node (.op (.cell 4 0) [.v 1]) <|
 .node (.op (.cell 4 1) [.v 1]) <|
 .node (.op (.cell 4 2) [.v 1]) <|
 .node (.op (.cell 4 3) [.v 1]) <|
 .node (.op .nilchk [.v 0]) <|
 .node (.op (.roff 0) [.v 6]) <|
 .node (.op (.rld true 4) [.v 7]) <|
 .node (.op .mkagg [.v 2, .v 3, .v 4, .v 5]) <|
 .node (.call cmp [.v 9, .v 8] true) <|
 .node (.op (.bin .lss) [.v 10, .c (.int .i64 0)]) <|
 .br (.v 11) (
 .node (.op .mkagg [.v 2, .v 3, .v 4, .v 5]) <|
 .ret (.v 12)) (
 .node (.op .nilchk [.v 0]) <|
 .node (.op (.roff 0) [.v 12]) <|
 .node (.op (.rld true 4) [.v 13]) <|
 .node (.op .mkagg [.v 2, .v 3, .v 4, .v 5]) <|
 .node (.call mod [.v 15, .v 14] false) <|
 .node (.op (.cell 4 0) [.v 16]) <|
 .node (.op (.cell 4 1) [.v 16]) <|
 .node (.op (.cell 4 2) [.v 16]) <|
 .node (.op (.cell 4 3) [.v 16]) <|
 .node (.op .mkagg [.v 17, .v 18, .v 19, .v 20]) <|
 .ret (.v 21))
theorem ofM_den {cmp mod : FuncId} {m iv sq a : Nat} (hc : WCmpC P cmp) (hmo : WModC P mod) (h0 : 0 < m) (hm : m < W256) (hsq : sq < W256) (ha : a < W256) : D P (fun e => e = .ret (WV (a % m))) [] 2 [WV a, FP m iv sq] (t_ofM cmp mod) := by
  have hcc := hc a m ha hm
  have hmm := hmo a m ha hm h0
  obtain ⟨m0, m1, m2, m3, q0, q1, q2, q3, hm0, hm1, hm2, hm3, _, _, _, _, em, _, eF⟩ := FP_limbs (iv := iv) hm hsq
  obtain ⟨a0, a1, a2, a3, _, _, _, _, eA, _⟩ := WV_limbs ha
  obtain ⟨r0, r1, r2, r3, _, _, _, _, er, _⟩ := WV_limbs (a := a % m) (Nat.lt_trans (Nat.mod_lt _ h0) hm)
  have eM : WV m = WL m0 m1 m2 m3 := by rw [em, WV_eq hm0 hm1 hm2 hm3]
  rw [eA, eM] at hcc hmm
  rw [er] at hmm
  rw [eF, eA]
  refine d_cells rfl rfl rfl rfl (d_op ev_fnil (d_op ev_froff (d_op ev_frldm (d_op ev_wl (d_call hcc (fun _ => rfl) (d_op ev_lss (d_if rfl (fun h1 => ?_) (fun h1 => ?_))))))))
  · have hlt : a < m := by
      refine Classical.byContradiction fun hn => ?_
      have : cmpN a m = 1 ∨ cmpN a m = 0 := by unfold cmpN; rw [if_neg hn]; split <;> simp
      rcases this with h | h <;> rw [h] at h1 <;> simp at h1
    rw [Nat.mod_eq_of_lt hlt, eA]
    exact d_op ev_wl (d_ret rfl)
  · rw [er]
    exact d_op ev_fnil (d_op ev_froff (d_op ev_frldm (d_op ev_wl (d_call hmm (fun h => by cases h) (d_cells rfl rfl rfl rfl (d_op ev_wl (d_ret rfl)))))))
def WLenC (P : Program) (f : FuncId) : Prop := ∀ a, a < W256 → Ct P f [WV a] (fun e => e = .ret (.int .i64 (blen a : Nat)))
def t_wbitLen (len : FuncId) : T :=
 .node (.op (.cell 4 0) [.v 0]) <|
 .node (.op (.cell 4 1) [.v 0]) <|
 .node (.op (.cell 4 2) [.v 0]) <|
 .node (.op (.cell 4 3) [.v 0]) <|
 .node (.op (.bin .neq) [.v 4, .c (.int .u64 0)]) <|
 .br (.v 5) (
 .node (.call len [.v 4] true) <|
 .node (.op (.bin .add) [.c (.int .i64 192), .v 6]) <|
 .ret (.v 7)) (
 .node (.op (.bin .neq) [.v 3, .c (.int .u64 0)]) <|
 .br (.v 6) (
 .node (.call len [.v 3] true) <|
 .node (.op (.bin .add) [.c (.int .i64 128), .v 7]) <|
 .ret (.v 8)) (
 .node (.op (.bin .neq) [.v 2, .c (.int .u64 0)]) <|
 .br (.v 7) (
 .node (.call len [.v 2] true) <|
 .node (.op (.bin .add) [.c (.int .i64 64), .v 8]) <|
 .ret (.v 9)) (
 .node (.op (.bin .neq) [.v 1, .c (.int .u64 0)]) <|
 .br (.v 8) (
 .node (.call len [.v 1] true) <|
 .node (.op (.bin .add) [.c (.int .i64 0), .v 9]) <|
 .ret (.v 10)) (
 .ret (.c (.int .i64 0))))))
theorem wbitLen_den {len : FuncId} {a : Nat} (hl : Len64C P len) (ha : a < W256) : D P (fun e => e = .ret (.int .i64 (blen a : Nat))) [] 1 [WV a] (t_wbitLen len) := by
  obtain ⟨a0, a1, a2, a3, ha0, ha1, ha2, ha3, eA, ea⟩ := WV_limbs ha
  have h0 : a0 < 18446744073709551616 := ha0
  have h1 : a1 < 18446744073709551616 := ha1
  have h2 : a2 < 18446744073709551616 := ha2
  have l : ∀ {x : Nat}, x < B64 → blen x ≤ 64 := fun h => blen_le.2 h
  have l0 := l ha0
  have l1 := l ha1
  have l2 := l ha2
  have l3 := l ha3
  rw [eA]
  refine d_cells rfl rfl rfl rfl (d_op ev_neq (d_if rfl (fun h => ?_) (fun h => ?_)))
  · have e : blen a = 192 + blen a3 := by
      rw [ea, show V4 a0 a1 a2 a3 = (a0 + 18446744073709551616 * a1 + 340282366920938463463374607431768211456 * a2) + 2 ^ 192 * a3 from rfl]
      exact blen_split (by show _ < 6277101735386680763835789423207666416102355444464034512896; omega) (by omega)
    refine d_call (hl a3 ha3) (fun _ => rfl) (d_op (ev_add (by constructor <;> omega)) (d_ret ?_))
    show AEnd.ret (.int .i64 _) = _
    rw [e]; congr 2
  have z3 : a3 = 0 := by omega
  subst z3
  refine d_op ev_neq (d_if rfl (fun h => ?_) (fun h => ?_))
  · have e : blen a = 128 + blen a2 := by
      rw [ea, show V4 a0 a1 a2 0 = (a0 + 18446744073709551616 * a1) + 2 ^ 128 * a2 from rfl]
      exact blen_split (by show _ < 340282366920938463463374607431768211456; omega) (by omega)
    refine d_call (hl a2 ha2) (fun _ => rfl) (d_op (ev_add (by constructor <;> omega)) (d_ret ?_))
    show AEnd.ret (.int .i64 _) = _
    rw [e]; congr 2
  have z2 : a2 = 0 := by omega
  subst z2
  refine d_op ev_neq (d_if rfl (fun h => ?_) (fun h => ?_))
  · have e : blen a = 64 + blen a1 := by
      rw [ea, show V4 a0 a1 0 0 = a0 + 2 ^ 64 * a1 from rfl]
      exact blen_split h0 (by omega)
    refine d_call (hl a1 ha1) (fun _ => rfl) (d_op (ev_add (by constructor <;> omega)) (d_ret ?_))
    show AEnd.ret (.int .i64 _) = _
    rw [e]; congr 2
  have z1 : a1 = 0 := by omega
  subst z1
  have e : a = a0 := by rw [ea]; unfold V4; omega
  refine d_op ev_neq (d_if rfl (fun h => ?_) (fun h => ?_))
  · refine d_call (hl a0 ha0) (fun _ => rfl) (d_op (ev_add (by constructor <;> omega)) (d_ret ?_))
    show AEnd.ret (.int .i64 _) = _
    rw [e]; congr 2; omega
  · refine d_ret ?_
    have z0 : a0 = 0 := by omega
    show AEnd.ret (.int .i64 0) = _
    rw [e, z0]; rfl
def t_wLen (bitLen : FuncId) : T :=
 .node (.op (.cell 4 0) [.v 0]) <|
 .node (.op (.cell 4 1) [.v 0]) <|
 .node (.op (.cell 4 2) [.v 0]) <|
 .node (.op (.cell 4 3) [.v 0]) <|
 .node (.op .mkagg [.v 1, .v 2, .v 3, .v 4]) <|
 .node (.call bitLen [.v 5] true) <|
 .ret (.v 6)
theorem wLen_den {bitLen : FuncId} {a : Nat} (hl : WLenC P bitLen) (ha : a < W256) : D P (fun e => e = .ret (.int .i64 (blen a : Nat))) [] 1 [WV a] (t_wLen bitLen) := by
  have h := hl a ha
  obtain ⟨a0, a1, a2, a3, _, _, _, _, eA, _⟩ := WV_limbs ha
  rw [eA] at h ⊢
  exact d_cells rfl rfl rfl rfl (d_op ev_wl (d_call h (fun _ => rfl) (d_ret rfl)))
end Go.SE
