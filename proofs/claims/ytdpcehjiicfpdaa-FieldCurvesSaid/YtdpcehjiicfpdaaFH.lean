/- Nothing of the statement is proved here: this text lays generic laws: FH; no conditions. -/
import Derived.Test.YtdpcehjiicfpdaaFG
set_option linter.all false
set_option autoImplicit false
set_option maxRecDepth 4000
set_option maxHeartbeats 2000000
set_option exponentiation.threshold 5000
namespace Go.SE
open Go
variable {P : Program} {R : AEnd → Prop}
theorem f_yes {H : List (List AV → Prop)} {n : Nat} {ρ : List AV} {a : Atom} {t e : T} {p : Prop} [Decidable p] (hp : p) (h : a.at n ρ = .bool (decide p)) (ht : D P R H n ρ t) : D P R H n ρ (.br a t e) :=
  d_if h (fun _ => ht) (fun hn => absurd hp hn)
theorem f_no {H : List (List AV → Prop)} {n : Nat} {ρ : List AV} {a : Atom} {t e : T} {p : Prop} [Decidable p] (hp : ¬ p) (h : a.at n ρ = .bool (decide p)) (he : D P R H n ρ e) : D P R H n ρ (.br a t e) :=
  d_if h (fun h => absurd h hp) (fun _ => he)
def FWC (P : Program) (f : FuncId) (s : Nat → Nat → Nat → Nat) : Prop := ∀ m iv sq a b, Fok m iv sq → a < W256 → b < W256 → Ct P f [FP m iv sq, WV a, WV b] (fun e => e = .ret (WV (s m a b)))
def aMul (m a b : Nat) : Nat := a * b % m
section
variable {m iv sq a b : Nat}
def t_Mul (ofM mul : FuncId) : T :=
 .node (.op (.cell 4 0) [.v 1]) <|
 .node (.op (.cell 4 1) [.v 1]) <|
 .node (.op (.cell 4 2) [.v 1]) <|
 .node (.op (.cell 4 3) [.v 1]) <|
 .node (.op (.cell 4 0) [.v 2]) <|
 .node (.op (.cell 4 1) [.v 2]) <|
 .node (.op (.cell 4 2) [.v 2]) <|
 .node (.op (.cell 4 3) [.v 2]) <|
 .node (.op .mkagg [.v 3, .v 4, .v 5, .v 6]) <|
 .node (.call ofM [.v 0, .v 11] false) <|
 .node (.op .mkagg [.v 7, .v 8, .v 9, .v 10]) <|
 .node (.call ofM [.v 0, .v 13] false) <|
 .node (.call mul [.v 0, .v 12, .v 14] false) <|
 .node (.op (.cell 4 0) [.v 15]) <|
 .node (.op (.cell 4 1) [.v 15]) <|
 .node (.op (.cell 4 2) [.v 15]) <|
 .node (.op (.cell 4 3) [.v 15]) <|
 .node (.op .mkagg [.v 16, .v 17, .v 18, .v 19]) <|
 .ret (.v 20)
theorem Mul_den {ofM mul : FuncId} (ho : OfMC P ofM) (ha : FmC P mul mulM) (hF : Fok m iv sq) (h1 : a < W256) (h2 : b < W256) : D P (fun e => e = .ret (WV (aMul m a b))) [] 3 [WV b, WV a, FP m iv sq] (t_Mul ofM mul) := by
  have hm0 : 0 < m := by have := hF.1; omega
  have h := ha m iv sq (a % m) (b % m) hF (Nat.mod_lt _ hm0) (Nat.mod_lt _ hm0)
  have e : mulM m (a % m) (b % m) = aMul m a b := by unfold mulM aMul; rw [← Nat.mul_mod]
  rw [e] at h
  refine d_cells rfl rfl rfl rfl (d_cells rfl rfl rfl rfl (d_op (v := WV a) ev_wl (d_call (ho m iv sq a hm0 hF.2.1 hF.sq_lt' h1) (fun h => by cases h) (d_op (v := WV b) ev_wl (d_call (ho m iv sq b hm0 hF.2.1 hF.sq_lt' h2) (fun h => by cases h) (d_call h (fun h => by cases h) ?_))))))
  exact d_cells rfl rfl rfl rfl (d_op ev_wl (d_ret rfl))
def FModC (P : Program) (f : FuncId) : Prop := ∀ m iv sq, Fok m iv sq → Ct P f [FP m iv sq] (fun e => e = .ret (WV m))
def t_Modulus : T :=
 .node (.op .nilchk [.v 0]) <|
 .node (.op (.roff 0) [.v 1]) <|
 .node (.op (.rld true 4) [.v 2]) <|
 .node (.op (.cell 4 0) [.v 3]) <|
 .node (.op (.cell 4 1) [.v 3]) <|
 .node (.op (.cell 4 2) [.v 3]) <|
 .node (.op (.cell 4 3) [.v 3]) <|
 .node (.op .mkagg [.v 4, .v 5, .v 6, .v 7]) <|
 .ret (.v 8)
theorem Modulus_den (hF : Fok m iv sq) : D P (fun e => e = .ret (WV m)) [] 1 [FP m iv sq] t_Modulus := by
  obtain ⟨m0, m1, m2, m3, q0, q1, q2, q3, hm0, hm1, hm2, hm3, _, _, _, _, em, _, eF⟩ := FP_limbs (iv := iv) hF.2.1 hF.sq_lt'
  have eM : WV m = WL m0 m1 m2 m3 := by rw [em, WV_eq hm0 hm1 hm2 hm3]
  rw [eF, eM]
  exact d_op ev_fnil (d_op ev_froff (d_op ev_frldm (d_cells rfl rfl rfl rfl (d_op ev_wl (d_ret rfl)))))
def FIsC (P : Program) (f : FuncId) : Prop := ∀ m, m < W256 → Ct P f [WV m] (fun e => e = .ret (.bool (decide (m % 2 = 1 ∧ m ≠ 1))))
def t_Is : T :=
 .node (.op (.cell 4 0) [.v 0]) <|
 .node (.op (.cell 4 1) [.v 0]) <|
 .node (.op (.cell 4 2) [.v 0]) <|
 .node (.op (.cell 4 3) [.v 0]) <|
 .node (.op (.bin .rem) [.v 1, .c (.int .u64 2)]) <|
 .node (.op (.bin .eql) [.v 5, .c (.int .u64 1)]) <|
 .br (.v 6) (
 .node (.op .mkagg [.v 1, .v 2, .v 3, .v 4]) <|
 .node (.op (.eqv true [.int .u64, .int .u64, .int .u64, .int .u64]) [.v 7, .c (.agg [.int .u64 1, .int .u64 0, .int .u64 0, .int .u64 0])]) <|
 .ret (.v 8)) (
 .ret (.c (.bool false)))
theorem Is_den (hm : m < W256) : D P (fun e => e = .ret (.bool (decide (m % 2 = 1 ∧ m ≠ 1)))) [] 1 [WV m] t_Is := by
  have hne : evalO (.eqv true [.int .u64, .int .u64, .int .u64, .int .u64]) [WV m, .agg [.int .u64 1, .int .u64 0, .int .u64 0, .int .u64 0]] = some (.bool (decide (m ≠ 1))) := ev_wne hm (b := 1) (by decide)
  refine d_cells rfl rfl rfl rfl (d_op (ev_rem (by omega) (by omega)) (d_op ev_eql (d_if rfl (fun h => ?_) (fun h => ?_))))
  · refine d_op (v := WV m) ev_wl (d_op hne (d_ret ?_))
    have : m % 2 = 1 := by omega
    show AEnd.ret (.bool (decide (m ≠ 1))) = _
    simp [this]
  · refine d_ret ?_
    have : ¬ m % 2 = 1 := by omega
    show AEnd.ret (.bool false) = _
    simp [this]
def invM (m a : Nat) : Nat := (a % m) ^ (m - 2) % m
def aInv (m a : Nat) : Nat × Bool := if a % m * invM m a % m = 1 then (invM m a, true) else (0, false)
def wb (p : Nat × Bool) : AV := .tup [WV p.1, .bool p.2]
def FInvC (P : Program) (f : FuncId) : Prop := ∀ m iv sq a, Fok m iv sq → 3 ≤ m → a < W256 → Ct P f [FP m iv sq, WV a] (fun e => e = .ret (wb (aInv m a)))
def t_Inv (ofM sub exp mul : FuncId) : T :=
 .node (.op (.cell 4 0) [.v 1]) <|
 .node (.op (.cell 4 1) [.v 1]) <|
 .node (.op (.cell 4 2) [.v 1]) <|
 .node (.op (.cell 4 3) [.v 1]) <|
 .node (.op .mkagg [.v 2, .v 3, .v 4, .v 5]) <|
 .node (.call ofM [.v 0, .v 6] false) <|
 .node (.op (.cell 4 0) [.v 7]) <|
 .node (.op (.cell 4 1) [.v 7]) <|
 .node (.op (.cell 4 2) [.v 7]) <|
 .node (.op (.cell 4 3) [.v 7]) <|
 .node (.op .nilchk [.v 0]) <|
 .node (.op (.roff 0) [.v 12]) <|
 .node (.op (.rld true 4) [.v 13]) <|
 .node (.call sub [.v 14, .c (.agg [.int .u64 2, .int .u64 0, .int .u64 0, .int .u64 0])] false) <|
 .node (.op .mkagg [.v 8, .v 9, .v 10, .v 11]) <|
 .node (.call exp [.v 0, .v 16, .v 15] false) <|
 .node (.op (.cell 4 0) [.v 17]) <|
 .node (.op (.cell 4 1) [.v 17]) <|
 .node (.op (.cell 4 2) [.v 17]) <|
 .node (.op (.cell 4 3) [.v 17]) <|
 .node (.op .mkagg [.v 8, .v 9, .v 10, .v 11]) <|
 .node (.op .mkagg [.v 18, .v 19, .v 20, .v 21]) <|
 .node (.call mul [.v 0, .v 22, .v 23] false) <|
 .node (.op (.eqv true [.int .u64, .int .u64, .int .u64, .int .u64]) [.v 24, .c (.agg [.int .u64 1, .int .u64 0, .int .u64 0, .int .u64 0])]) <|
 .br (.v 25) (
 .ret (.c (.tup [.agg [.int .u64 0, .int .u64 0, .int .u64 0, .int .u64 0], .bool false]))) (
 .node (.op .mkagg [.v 18, .v 19, .v 20, .v 21]) <|
 .node (.op .mktup [.v 26, .c (.bool true)]) <|
 .ret (.v 27))
theorem Inv_den {ofM sub exp mul : FuncId} (ho : OfMC P ofM) (hs : W2 P sub (fun a b => (a + W256 - b) % W256)) (he : FExpC P exp) (hmu : FmC P mul mulM) (hF : Fok m iv sq) (h3 : 3 ≤ m) (h1 : a < W256) :
    D P (fun e => e = .ret (wb (aInv m a))) [] 2 [WV a, FP m iv sq] (t_Inv ofM sub exp mul) := by
  have hm0 : 0 < m := by omega
  have hm := hF.2.1
  have hsub : Ct P sub [WV m, WV 2] (fun e => e = .ret (WV (m - 2))) := by
    have : Ct P sub [WV m, WV 2] (fun e => e = .ret (WV ((m + W256 - 2) % W256))) := hs m 2 hm (by decide)
    have e : (m + W256 - 2) % W256 = m - 2 := by unfold W256 at *; omega
    rwa [e] at this
  have hexp := he m iv sq (a % m) (m - 2) hF (Nat.mod_lt _ hm0) (by omega)
  have hx : invM m a < m := Nat.mod_lt _ hm0
  have hmul := hmu m iv sq (a % m) (invM m a) hF (Nat.mod_lt _ hm0) hx
  have hof := ho m iv sq a hm0 hm hF.sq_lt' h1
  have hne : evalO (.eqv true [.int .u64, .int .u64, .int .u64, .int .u64]) [WV (a % m * invM m a % m), .agg [.int .u64 1, .int .u64 0, .int .u64 0, .int .u64 0]] = some (.bool (decide (a % m * invM m a % m ≠ 1))) :=
    ev_wne (Nat.lt_trans (Nat.mod_lt _ hm0) hm) (b := 1) (by decide)
  obtain ⟨m0, m1, m2, m3, q0, q1, q2, q3, hm0', hm1, hm2, hm3, _, _, _, _, em, _, eF⟩ := FP_limbs (iv := iv) hm hF.sq_lt'
  have eM : WV m = WL m0 m1 m2 m3 := by rw [em, WV_eq hm0' hm1 hm2 hm3]
  rw [eF] at hexp hmul hof
  rw [eM] at hsub
  rw [eF]
  refine d_cells rfl rfl rfl rfl (d_op (v := WV a) ev_wl (d_call hof (fun h => by cases h) (d_cells rfl rfl rfl rfl ?_)))
  refine d_op ev_fnil (d_op ev_froff (d_op ev_frldm (d_call hsub (fun h => by cases h) (d_op (v := WV (a % m)) ev_wl (d_call hexp (fun h => by cases h) ?_)))))
  refine d_cells rfl rfl rfl rfl (d_op (v := WV (a % m)) ev_wl (d_op (v := WV (invM m a)) ev_wl (d_call hmul (fun h => by cases h) (d_op hne ?_))))
  unfold aInv
  refine d_if rfl (fun h => ?_) (fun h => ?_)
  · rw [if_neg h]; exact d_ret rfl
  · rw [if_pos (Classical.byContradiction fun hn => h hn)]
    exact d_op (v := WV (invM m a)) ev_wl (d_op ev_mktup (d_ret rfl))
def AtC (P : Program) (f : FuncId) : Prop := ∀ i a0 a1 a2 a3 : Nat, Ct P f [.int .i64 (i : Int), .rp [.int .u64 0], .rp [.int .u64 (a0 : Int), .int .u64 (a1 : Int), .int .u64 (a2 : Int), .int .u64 (a3 : Int)]] (fun e => e = .ret (.int .u64 (([a0, a1, a2, a3].getD i 0 : Nat) : Int)))
def t_at : T :=
 .node (.op (.bin .geq) [.v 0, .c (.int .i64 4)]) <|
 .br (.v 3) (
 .node (.op (.rld false 1) [.v 1]) <|
 .ret (.v 4)) (
 .node (.op (.ridx 4 1) [.v 2, .v 0]) <|
 .node (.op (.rld false 1) [.v 4]) <|
 .ret (.v 5))
theorem at_den {i a0 a1 a2 a3 : Nat} : D P (fun e => e = .ret (.int .u64 (([a0, a1, a2, a3].getD i 0 : Nat) : Int))) [] 3 [.rp [.int .u64 (a0 : Int), .int .u64 (a1 : Int), .int .u64 (a2 : Int), .int .u64 (a3 : Int)], .rp [.int .u64 0], .int .i64 (i : Int)] t_at := by
  refine d_op ev_geq (d_if rfl (fun h => ?_) (fun h => ?_))
  · refine d_op (ev_rld1 rfl) (d_ret ?_)
    have : [a0, a1, a2, a3].getD i 0 = 0 := getD_ge (by simp; omega)
    rw [this]; rfl
  · match i, h with
    | 0, _ => exact d_op (v := .rp _) rfl (d_op (ev_rld1 rfl) (d_ret rfl))
    | 1, _ => exact d_op (v := .rp _) rfl (d_op (ev_rld1 rfl) (d_ret rfl))
    | 2, _ => exact d_op (v := .rp _) rfl (d_op (ev_rld1 rfl) (d_ret rfl))
    | 3, _ => exact d_op (v := .rp _) rfl (d_op (ev_rld1 rfl) (d_ret rfl))
    | n + 4, h => exact absurd (by omega) h
def Right2C (P : Program) (f : FuncId) : Prop := ∀ a, a < W256 → Ct P f [WV a, .int .i64 2, .bool false] (fun e => e = .ret (WV (a / 4)))
theorem or_62 {x y : Nat} (_ : x < 18446744073709551616) : x / 4 ||| y * 2 ^ 62 % 18446744073709551616 = x / 4 + y % 4 * 4611686018427387904 := by
  have e : y * 2 ^ 62 % 18446744073709551616 = (y % 4) * 2 ^ 62 := by omega
  have h := Nat.two_pow_add_eq_or_of_lt (i := 62) (b := x / 4) (by omega) (y % 4)
  rw [e, Nat.or_comm, Nat.mul_comm (y % 4), ← h]
  omega
def t_right2 (atf : FuncId) : T :=
 .node (.op (.cell 4 0) [.v 0]) <|
 .node (.op (.cell 4 1) [.v 0]) <|
 .node (.op (.cell 4 2) [.v 0]) <|
 .node (.op (.cell 4 3) [.v 0]) <|
 .node (.op .mklst [.v 1, .v 2, .v 3, .v 4]) <|
 .node (.op .mkrp [.v 5, .c (.int .i64 0)]) <|
 .node (.call atf [.c (.int .i64 0), .c (.rp [.int .u64 0]), .v 6] true) <|
 .node (.op (.bin .shr) [.v 7, .c (.int .i64 2)]) <|
 .node (.op .mklst [.v 1, .v 2, .v 3, .v 4]) <|
 .node (.op .mkrp [.v 9, .c (.int .i64 0)]) <|
 .node (.call atf [.c (.int .i64 1), .c (.rp [.int .u64 0]), .v 10] true) <|
 .node (.op (.bin .shl) [.v 11, .c (.int .i64 62)]) <|
 .node (.op (.bin .or) [.v 8, .v 12]) <|
 .node (.op .mklst [.v 1, .v 2, .v 3, .v 4]) <|
 .node (.op .mkrp [.v 14, .c (.int .i64 0)]) <|
 .node (.call atf [.c (.int .i64 1), .c (.rp [.int .u64 0]), .v 15] true) <|
 .node (.op (.bin .shr) [.v 16, .c (.int .i64 2)]) <|
 .node (.op .mklst [.v 1, .v 2, .v 3, .v 4]) <|
 .node (.op .mkrp [.v 18, .c (.int .i64 0)]) <|
 .node (.call atf [.c (.int .i64 2), .c (.rp [.int .u64 0]), .v 19] true) <|
 .node (.op (.bin .shl) [.v 20, .c (.int .i64 62)]) <|
 .node (.op (.bin .or) [.v 17, .v 21]) <|
 .node (.op .mklst [.v 1, .v 2, .v 3, .v 4]) <|
 .node (.op .mkrp [.v 23, .c (.int .i64 0)]) <|
 .node (.call atf [.c (.int .i64 2), .c (.rp [.int .u64 0]), .v 24] true) <|
 .node (.op (.bin .shr) [.v 25, .c (.int .i64 2)]) <|
 .node (.op .mklst [.v 1, .v 2, .v 3, .v 4]) <|
 .node (.op .mkrp [.v 27, .c (.int .i64 0)]) <|
 .node (.call atf [.c (.int .i64 3), .c (.rp [.int .u64 0]), .v 28] true) <|
 .node (.op (.bin .shl) [.v 29, .c (.int .i64 62)]) <|
 .node (.op (.bin .or) [.v 26, .v 30]) <|
 .node (.op .mklst [.v 1, .v 2, .v 3, .v 4]) <|
 .node (.op .mkrp [.v 32, .c (.int .i64 0)]) <|
 .node (.call atf [.c (.int .i64 3), .c (.rp [.int .u64 0]), .v 33] true) <|
 .node (.op (.bin .shr) [.v 34, .c (.int .i64 2)]) <|
 .node (.op .mklst [.v 1, .v 2, .v 3, .v 4]) <|
 .node (.op .mkrp [.v 36, .c (.int .i64 0)]) <|
 .node (.call atf [.c (.int .i64 4), .c (.rp [.int .u64 0]), .v 37] true) <|
 .node (.op (.bin .shl) [.v 38, .c (.int .i64 62)]) <|
 .node (.op (.bin .or) [.v 35, .v 39]) <|
 .node (.op .mkagg [.v 13, .v 22, .v 31, .v 40]) <|
 .ret (.v 41)
theorem right2_den {atf : FuncId} (hat : AtC P atf) (ha : a < W256) : D P (fun e => e = .ret (WV (a / 4))) [] 1 [WV a] (t_right2 atf) := by
  obtain ⟨a0, a1, a2, a3, ha0, ha1, ha2, ha3, eA, ea⟩ := WV_limbs ha
  have h0 : a0 < 18446744073709551616 := ha0
  have h1 : a1 < 18446744073709551616 := ha1
  have h2 : a2 < 18446744073709551616 := ha2
  have h3 : a3 < 18446744073709551616 := ha3
  have hw : ∀ x : Nat, IntKind.u64.wrap ((x * 2 ^ 62 : Nat) : Int) = ((x * 2 ^ 62 % 18446744073709551616 : Nat) : Int) := fun x => by rw [wrap_u rfl]; rfl
  have sh : ∀ x : Nat, x / 2 ^ 2 = x / 4 := fun x => rfl
  have r0 : a0 / 4 + a1 % 4 * 4611686018427387904 < B64 := by show _ < 18446744073709551616; omega
  have r1 : a1 / 4 + a2 % 4 * 4611686018427387904 < B64 := by show _ < 18446744073709551616; omega
  have r2 : a2 / 4 + a3 % 4 * 4611686018427387904 < B64 := by show _ < 18446744073709551616; omega
  have r3 : a3 / 4 + 0 % 4 * 4611686018427387904 < B64 := by show _ < 18446744073709551616; omega
  have hr : a / 4 = V4 (a0 / 4 + a1 % 4 * 4611686018427387904) (a1 / 4 + a2 % 4 * 4611686018427387904) (a2 / 4 + a3 % 4 * 4611686018427387904) (a3 / 4 + 0 % 4 * 4611686018427387904) := by rw [ea]; unfold V4; omega
  have hA : ∀ (i : Nat), Ct P atf [.int .i64 (i : Int), .rp [.int .u64 0], .rp [.int .u64 (a0 : Int), .int .u64 (a1 : Int), .int .u64 (a2 : Int), .int .u64 (a3 : Int)]] (fun e => e = .ret (.int .u64 (([a0, a1, a2, a3].getD i 0 : Nat) : Int))) := fun i => hat i a0 a1 a2 a3
  rw [hr, WV_eq r0 r1 r2 r3, eA]
  have mk : ∀ {n : Nat} {x y : Int}, evalO .mkrp [.lst [.int .u64 (a0 : Int), .int .u64 (a1 : Int), .int .u64 (a2 : Int), .int .u64 (a3 : Int)], .int .i64 0] = some (.rp [.int .u64 (a0 : Int), .int .u64 (a1 : Int), .int .u64 (a2 : Int), .int .u64 (a3 : Int)]) := fun {_ _ _} => rfl
  refine d_cells rfl rfl rfl rfl ?_
  refine d_op (ev_mklst rfl) (d_op rfl (d_call (hA 0) (fun _ => rfl) (d_op (ev_shr (x := a0) (y := 2) rfl (by decide) rfl) (d_op (ev_mklst rfl) (d_op rfl (d_call (hA 1) (fun _ => rfl) (d_op (ev_shl (x := a1) (y := 62) rfl (by decide) rfl) ?_)))))))
  rw [hw, sh]
  refine d_op (ev_or (by constructor <;> omega) (by constructor <;> omega)) ?_
  rw [or_62 h0]
  refine d_op (ev_mklst rfl) (d_op rfl (d_call (hA 1) (fun _ => rfl) (d_op (ev_shr (x := a1) (y := 2) rfl (by decide) rfl) (d_op (ev_mklst rfl) (d_op rfl (d_call (hA 2) (fun _ => rfl) (d_op (ev_shl (x := a2) (y := 62) rfl (by decide) rfl) ?_)))))))
  rw [hw, sh]
  refine d_op (ev_or (by constructor <;> omega) (by constructor <;> omega)) ?_
  rw [or_62 h1]
  refine d_op (ev_mklst rfl) (d_op rfl (d_call (hA 2) (fun _ => rfl) (d_op (ev_shr (x := a2) (y := 2) rfl (by decide) rfl) (d_op (ev_mklst rfl) (d_op rfl (d_call (hA 3) (fun _ => rfl) (d_op (ev_shl (x := a3) (y := 62) rfl (by decide) rfl) ?_)))))))
  rw [hw, sh]
  refine d_op (ev_or (by constructor <;> omega) (by constructor <;> omega)) ?_
  rw [or_62 h2]
  refine d_op (ev_mklst rfl) (d_op rfl (d_call (hA 3) (fun _ => rfl) (d_op (ev_shr (x := a3) (y := 2) rfl (by decide) rfl) (d_op (ev_mklst rfl) (d_op rfl (d_call (hA 4) (fun _ => rfl) (d_op (ev_shl (x := 0) (y := 62) rfl (by decide) rfl) ?_)))))))
  rw [hw, sh]
  refine d_op (ev_or (by constructor <;> omega) (by constructor <;> omega)) ?_
  rw [or_62 h3]
  exact d_op ev_wl (d_ret rfl)
def Shr2C (P : Program) (f : FuncId) : Prop := ∀ a, a < W256 → Ct P f [WV 2, WV a] (fun e => e = .ret (WV (a / 4)))
def t_Shr (small right : FuncId) : T :=
 .node (.op (.cell 4 0) [.v 0]) <|
 .node (.op (.cell 4 1) [.v 0]) <|
 .node (.op (.cell 4 2) [.v 0]) <|
 .node (.op (.cell 4 3) [.v 0]) <|
 .node (.op (.cell 4 0) [.v 1]) <|
 .node (.op (.cell 4 1) [.v 1]) <|
 .node (.op (.cell 4 2) [.v 1]) <|
 .node (.op (.cell 4 3) [.v 1]) <|
 .node (.op .mkagg [.v 2, .v 3, .v 4, .v 5]) <|
 .node (.call small [.v 10, .c (.int .i64 256)] true) <|
 .node (.op .mkagg [.v 6, .v 7, .v 8, .v 9]) <|
 .node (.call right [.v 12, .v 11, .c (.bool false)] false) <|
 .node (.op (.cell 4 0) [.v 13]) <|
 .node (.op (.cell 4 1) [.v 13]) <|
 .node (.op (.cell 4 2) [.v 13]) <|
 .node (.op (.cell 4 3) [.v 13]) <|
 .node (.op .mkagg [.v 14, .v 15, .v 16, .v 17]) <|
 .ret (.v 18)
theorem Shr2_den {small right : FuncId} (hsm : Ct P small [WV 2, .int .i64 256] (fun e => e = .ret (.int .i64 2))) (hr : Right2C P right) (ha : a < W256) : D P (fun e => e = .ret (WV (a / 4))) [] 2 [WV a, WV 2] (t_Shr small right) := by
  refine d_cells rfl rfl rfl rfl (d_cells rfl rfl rfl rfl (d_op (v := WV 2) ev_wl (d_call hsm (fun _ => rfl) (d_op (v := WV a) ev_wl (d_call (hr a ha) (fun h => by cases h) ?_)))))
  exact d_cells rfl rfl rfl rfl (d_op ev_wl (d_ret rfl))
def t_wsmall : T :=
 .node (.op (.cell 4 0) [.v 0]) <|
 .node (.op (.cell 4 1) [.v 0]) <|
 .node (.op (.cell 4 2) [.v 0]) <|
 .node (.op (.cell 4 3) [.v 0]) <|
 .node (.op (.bin .or) [.v 3, .v 4]) <|
 .node (.op (.bin .or) [.v 6, .v 5]) <|
 .node (.op (.bin .neq) [.v 7, .c (.int .u64 0)]) <|
 .br (.v 8) (
 .ret (.v 1)) (
 .node (.op (.cvt .u64) [.v 1]) <|
 .node (.op (.bin .gtr) [.v 2, .v 9]) <|
 .br (.v 10) (
 .ret (.v 1)) (
 .node (.op (.cvt .i64) [.v 2]) <|
 .ret (.v 11)))
theorem small2_den : D P (fun e => e = .ret (.int .i64 2)) [] 2 [.int .i64 256, WV 2] t_wsmall := by
  refine d_cells (a := 2) (b := 0) (c := 0) (d := 0) rfl rfl rfl rfl ?_
  refine d_op (v := .int .u64 0) (by decide +kernel) (d_op (v := .int .u64 0) (by decide +kernel) (d_op ev_neq (f_no (by decide) rfl (d_op (ev_cvt (by constructor <;> decide)) (d_op ev_gtr (f_no (by decide) rfl (d_op (ev_cvt (by constructor <;> decide)) (d_ret rfl))))))))
def rootM (m a : Nat) : Nat := (a % m) ^ (m / 4 + 1) % m
def aSqrt (m a : Nat) : Nat × Bool := if m % 4 = 3 then (if rootM m a * rootM m a % m = a % m then (rootM m a, true) else (0, false)) else (0, false)
def FSqrtC (P : Program) (f : FuncId) : Prop := ∀ m iv sq a, Fok m iv sq → a < W256 → Ct P f [FP m iv sq, WV a] (fun e => e = .ret (wb (aSqrt m a)))
def t_Sqrt (ofM shr add exp mul : FuncId) : T :=
 .node (.op (.cell 4 0) [.v 1]) <|
 .node (.op (.cell 4 1) [.v 1]) <|
 .node (.op (.cell 4 2) [.v 1]) <|
 .node (.op (.cell 4 3) [.v 1]) <|
 .node (.op .nilchk [.v 0]) <|
 .node (.op (.roff 0) [.v 6]) <|
 .node (.op (.ridx 4 1) [.v 7, .c (.int .i64 0)]) <|
 .node (.op (.rld false 1) [.v 8]) <|
 .node (.op (.bin .and) [.v 9, .c (.int .u64 3)]) <|
 .node (.op (.bin .neq) [.v 10, .c (.int .u64 3)]) <|
 .br (.v 11) (
 .ret (.c (.tup [.agg [.int .u64 0, .int .u64 0, .int .u64 0, .int .u64 0], .bool false]))) (
 .node (.op .mkagg [.v 2, .v 3, .v 4, .v 5]) <|
 .node (.call ofM [.v 0, .v 12] false) <|
 .node (.op (.cell 4 0) [.v 13]) <|
 .node (.op (.cell 4 1) [.v 13]) <|
 .node (.op (.cell 4 2) [.v 13]) <|
 .node (.op (.cell 4 3) [.v 13]) <|
 .node (.op .nilchk [.v 0]) <|
 .node (.op (.roff 0) [.v 18]) <|
 .node (.op (.rld true 4) [.v 19]) <|
 .node (.call shr [.c (.agg [.int .u64 2, .int .u64 0, .int .u64 0, .int .u64 0]), .v 20] false) <|
 .node (.call add [.v 21, .c (.agg [.int .u64 1, .int .u64 0, .int .u64 0, .int .u64 0])] false) <|
 .node (.op (.cell 4 0) [.v 22]) <|
 .node (.op (.cell 4 1) [.v 22]) <|
 .node (.op (.cell 4 2) [.v 22]) <|
 .node (.op (.cell 4 3) [.v 22]) <|
 .node (.op .mkagg [.v 14, .v 15, .v 16, .v 17]) <|
 .node (.op .mkagg [.v 23, .v 24, .v 25, .v 26]) <|
 .node (.call exp [.v 0, .v 27, .v 28] false) <|
 .node (.op (.cell 4 0) [.v 29]) <|
 .node (.op (.cell 4 1) [.v 29]) <|
 .node (.op (.cell 4 2) [.v 29]) <|
 .node (.op (.cell 4 3) [.v 29]) <|
 .node (.op .mkagg [.v 30, .v 31, .v 32, .v 33]) <|
 .node (.op .mkagg [.v 30, .v 31, .v 32, .v 33]) <|
 .node (.call mul [.v 0, .v 34, .v 35] false) <|
 .node (.op .mkagg [.v 14, .v 15, .v 16, .v 17]) <|
 .node (.op (.eqv true [.int .u64, .int .u64, .int .u64, .int .u64]) [.v 36, .v 37]) <|
 .br (.v 38) (
 .ret (.c (.tup [.agg [.int .u64 0, .int .u64 0, .int .u64 0, .int .u64 0], .bool false]))) (
 .node (.op .mkagg [.v 30, .v 31, .v 32, .v 33]) <|
 .node (.op .mktup [.v 39, .c (.bool true)]) <|
 .ret (.v 40)))
theorem Sqrt_den {ofM shr add exp mul : FuncId} (ho : OfMC P ofM) (hsh : Shr2C P shr) (had : W2 P add (fun a b => (a + b) % W256)) (he : FExpC P exp) (hmu : FmC P mul mulM) (hF : Fok m iv sq) (h1 : a < W256) :
    D P (fun e => e = .ret (wb (aSqrt m a))) [] 2 [WV a, FP m iv sq] (t_Sqrt ofM shr add exp mul) := by
  have hm0 : 0 < m := by have := hF.1; omega
  have hm := hF.2.1
  have hadd : Ct P add [WV (m / 4), WV 1] (fun e => e = .ret (WV (m / 4 + 1))) := by
    have : Ct P add [WV (m / 4), WV 1] (fun e => e = .ret (WV ((m / 4 + 1) % W256))) := had (m / 4) 1 (by omega) (by decide)
    have e : (m / 4 + 1) % W256 = m / 4 + 1 := by unfold W256 at *; omega
    rwa [e] at this
  have hshr := hsh m hm
  have hexp := he m iv sq (a % m) (m / 4 + 1) hF (Nat.mod_lt _ hm0) (by unfold W256 at *; omega)
  have hx : rootM m a < m := Nat.mod_lt _ hm0
  have hmul : Ct P mul [FP m iv sq, WV (rootM m a), WV (rootM m a)] (fun e => e = .ret (WV (rootM m a * rootM m a % m))) := hmu m iv sq (rootM m a) (rootM m a) hF hx hx
  have hof := ho m iv sq a hm0 hm hF.sq_lt' h1
  have lt : ∀ x, x % m < W256 := fun x => Nat.lt_trans (Nat.mod_lt _ hm0) hm
  obtain ⟨m0, m1, m2, m3, q0, q1, q2, q3, hm0', hm1, hm2, hm3, _, _, _, _, em, _, eF⟩ := FP_limbs (iv := iv) hm hF.sq_lt'
  have eM : WV m = WL m0 m1 m2 m3 := by rw [em, WV_eq hm0' hm1 hm2 hm3]
  have hlow : m % 4 = m0 % 4 := by rw [em]; unfold V4; omega
  have h0 : m0 < 18446744073709551616 := hm0'
  rw [eF] at hexp hmul hof
  rw [eM] at hshr
  rw [eF]
  unfold aSqrt
  refine d_cells rfl rfl rfl rfl (d_op ev_fnil (d_op ev_froff (d_op ev_fridx0 (d_op ev_frld0 (d_op (ev_and (by constructor <;> omega) (y := 3) (by decide)) ?_)))))
  rw [Nat.and_two_pow_sub_one_eq_mod m0 2]
  refine d_op ev_neq (d_if rfl (fun h => ?_) (fun h => ?_))
  · rw [if_neg (by omega)]; exact d_ret rfl
  · rw [if_pos (by omega)]
    refine d_op (v := WV a) ev_wl (d_call hof (fun h => by cases h) (d_cells rfl rfl rfl rfl ?_))
    refine d_op ev_fnil (d_op ev_froff (d_op ev_frldm (d_call hshr (fun h => by cases h) (d_call hadd (fun h => by cases h) ?_))))
    refine d_cells rfl rfl rfl rfl (d_op (v := WV (a % m)) ev_wl (d_op (v := WV (m / 4 + 1)) ev_wl (d_call hexp (fun h => by cases h) (d_cells rfl rfl rfl rfl ?_))))
    refine d_op (v := WV (rootM m a)) ev_wl (d_op (v := WV (rootM m a)) ev_wl (d_call hmul (fun h => by cases h) (d_op (v := WV (a % m)) ev_wl (d_op (ev_wne (lt _) (lt _)) (d_if rfl (fun g => ?_) (fun g => ?_))))))
    · rw [if_neg g]; exact d_ret rfl
    · rw [if_pos (Classical.byContradiction fun hn => g hn)]
      exact d_op (v := WV (rootM m a)) ev_wl (d_op ev_mktup (d_ret rfl))
end
end Go.SE
