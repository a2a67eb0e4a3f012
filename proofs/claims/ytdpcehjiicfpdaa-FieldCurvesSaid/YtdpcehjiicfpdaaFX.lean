/- Nothing of the statement is proved here: this text lays generic laws: FX; no conditions. -/
import Derived.Test.YtdpcehjiicfpdaaFW
set_option linter.all false
set_option autoImplicit false
set_option maxRecDepth 8000
set_option maxHeartbeats 4000000
set_option exponentiation.threshold 5000
namespace Go.SE
open Go
variable {P : Program} {R : AEnd → Prop}
def mods : List AV :=
  [.int .u64 ((pCurve % 18446744073709551616 : Nat) : Int), .int .u64 ((pCurve / 18446744073709551616 % 18446744073709551616 : Nat) : Int), .int .u64 ((pCurve / 340282366920938463463374607431768211456 % 18446744073709551616 : Nat) : Int), .int .u64 ((pCurve / 6277101735386680763835789423207666416102355444464034512896 % 18446744073709551616 : Nat) : Int),
   .int .u64 ((pOrder % 18446744073709551616 : Nat) : Int), .int .u64 ((pOrder / 18446744073709551616 % 18446744073709551616 : Nat) : Int), .int .u64 ((pOrder / 340282366920938463463374607431768211456 % 18446744073709551616 : Nat) : Int), .int .u64 ((pOrder / 6277101735386680763835789423207666416102355444464034512896 % 18446744073709551616 : Nat) : Int),
   .int .u64 ((pBase % 18446744073709551616 : Nat) : Int), .int .u64 ((pBase / 18446744073709551616 % 18446744073709551616 : Nat) : Int), .int .u64 ((pBase / 340282366920938463463374607431768211456 % 18446744073709551616 : Nat) : Int), .int .u64 ((pBase / 6277101735386680763835789423207666416102355444464034512896 % 18446744073709551616 : Nat) : Int)]
theorem field_at2 {i : Nat} (h : i < 3) : ∃ m iv sq rest, Fok m iv sq ∧ 3 ≤ m ∧ PR.Prime m ∧ (∀ {z : Int}, z = (i : Int) → evalO (.eaddr 1) [.sl 3 [fCurve, fOrder, fBase], .int .i64 z] = some (.rp (FP m iv sq :: rest))) ∧
    ∀ {z : Int}, z = ((0 + i * 4 : Nat) : Int) → evalO (.lget true 4) [.lst mods, .int .i64 z] = some (WV m) :=
  match i, h with
  | 0, _ => ⟨_, _, _, _, ok_curve, by decide, PR.prime_curve, fun {z} hz => by subst hz; rfl, fun {z} hz => by subst hz; rfl⟩
  | 1, _ => ⟨_, _, _, _, ok_order, by decide, PR.prime_order, fun {z} hz => by subst hz; rfl, fun {z} hz => by subst hz; rfl⟩
  | 2, _ => ⟨_, _, _, _, ok_base, by decide, PR.prime_base, fun {z} hz => by subst hz; rfl, fun {z} hz => by subst hz; rfl⟩
theorem ev_bbne {a b : Bool} : evalO (.bb true) [.bool a, .bool b] = some (.bool (decide (a ≠ b))) := by cases a <;> cases b <;> rfl
def t_fieldCurves (fields rcur rord rbas rnew rof modu mul rmul inv lives : FuncId) : T :=
 .node (.op (.cell 4 0) [.v 0]) <|
 .node (.op (.cell 4 1) [.v 0]) <|
 .node (.op (.cell 4 2) [.v 0]) <|
 .node (.op (.cell 4 3) [.v 0]) <|
 .node (.op (.cell 4 0) [.v 1]) <|
 .node (.op (.cell 4 1) [.v 1]) <|
 .node (.op (.cell 4 2) [.v 1]) <|
 .node (.op (.cell 4 3) [.v 1]) <|
 .node (.call fields [] true) <|
 .node (.call rcur [] false) <|
 .node (.call rord [] false) <|
 .node (.call rbas [] false) <|
 .node (.op (.cell 4 0) [.v 11]) <|
 .node (.op (.cell 4 1) [.v 11]) <|
 .node (.op (.cell 4 2) [.v 11]) <|
 .node (.op (.cell 4 3) [.v 11]) <|
 .node (.op (.cell 4 0) [.v 12]) <|
 .node (.op (.cell 4 1) [.v 12]) <|
 .node (.op (.cell 4 2) [.v 12]) <|
 .node (.op (.cell 4 3) [.v 12]) <|
 .node (.op (.cell 4 0) [.v 13]) <|
 .node (.op (.cell 4 1) [.v 13]) <|
 .node (.op (.cell 4 2) [.v 13]) <|
 .node (.op (.cell 4 3) [.v 13]) <|
 .node (.op .len [.v 10]) <|
 .node (.op (.bin .neq) [.v 26, .c (.int .i64 3)]) <|
 .br (.v 27) (
 .ret (.c (.bool false))) (
 .loop [.c (.int .i64 0)] [true] <|
 .node (.op (.bin .lss) [.v 28, .c (.int .i64 3)]) <|
 .br (.v 29) (
 .node (.op .chki [.v 28, .c (.int .i64 3)]) <|
 .node (.op (.ofs 4) [.c (.int .i64 0), .v 28]) <|
 .node (.op .mklst [.v 14, .v 15, .v 16, .v 17, .v 18, .v 19, .v 20, .v 21, .v 22, .v 23, .v 24, .v 25]) <|
 .node (.op (.lget true 4) [.v 32, .v 31]) <|
 .node (.call rnew [.v 33] true) <|
 .node (.op .mkagg [.v 2, .v 3, .v 4, .v 5]) <|
 .node (.call rof [.v 34, .v 35] false) <|
 .node (.op (.cell 4 0) [.v 36]) <|
 .node (.op (.cell 4 1) [.v 36]) <|
 .node (.op (.cell 4 2) [.v 36]) <|
 .node (.op (.cell 4 3) [.v 36]) <|
 .node (.op (.eaddr 1) [.v 10, .v 28]) <|
 .node (.op (.rld false 1) [.v 41]) <|
 .node (.call modu [.v 42] false) <|
 .node (.op .chki [.v 28, .c (.int .i64 3)]) <|
 .node (.op (.ofs 4) [.c (.int .i64 0), .v 28]) <|
 .node (.op .mklst [.v 14, .v 15, .v 16, .v 17, .v 18, .v 19, .v 20, .v 21, .v 22, .v 23, .v 24, .v 25]) <|
 .node (.op (.lget true 4) [.v 46, .v 45]) <|
 .node (.op (.eqv true [.int .u64, .int .u64, .int .u64, .int .u64]) [.v 43, .v 47]) <|
 .br (.v 48) (
 .ret (.c (.bool false))) (
 .node (.op (.eaddr 1) [.v 10, .v 28]) <|
 .node (.op (.rld false 1) [.v 49]) <|
 .node (.op .mkagg [.v 2, .v 3, .v 4, .v 5]) <|
 .node (.op .mkagg [.v 6, .v 7, .v 8, .v 9]) <|
 .node (.call mul [.v 50, .v 51, .v 52] false) <|
 .node (.op .mkagg [.v 6, .v 7, .v 8, .v 9]) <|
 .node (.call rof [.v 34, .v 54] false) <|
 .node (.op .mkagg [.v 37, .v 38, .v 39, .v 40]) <|
 .node (.call rmul [.v 34, .v 56, .v 55] false) <|
 .node (.op (.eqv true [.int .u64, .int .u64, .int .u64, .int .u64]) [.v 53, .v 57]) <|
 .br (.v 58) (
 .ret (.c (.bool false))) (
 .node (.op (.eaddr 1) [.v 10, .v 28]) <|
 .node (.op (.rld false 1) [.v 59]) <|
 .node (.op .mkagg [.v 2, .v 3, .v 4, .v 5]) <|
 .node (.call inv [.v 60, .v 61] false) <|
 .node (.op (.ext 0 false) [.v 62]) <|
 .node (.op (.ext 1 true) [.v 62]) <|
 .node (.op (.cell 4 0) [.v 63]) <|
 .node (.op (.cell 4 1) [.v 63]) <|
 .node (.op (.cell 4 2) [.v 63]) <|
 .node (.op (.cell 4 3) [.v 63]) <|
 .node (.op .mkagg [.v 37, .v 38, .v 39, .v 40]) <|
 .node (.op (.eqv true [.int .u64, .int .u64, .int .u64, .int .u64]) [.v 69, .c (.agg [.int .u64 0, .int .u64 0, .int .u64 0, .int .u64 0])]) <|
 .node (.op (.bb true) [.v 64, .v 70]) <|
 .br (.v 71) (
 .ret (.c (.bool false))) (
 .br (.v 64) (
 .node (.op (.eaddr 1) [.v 10, .v 28]) <|
 .node (.op (.rld false 1) [.v 72]) <|
 .node (.op .mkagg [.v 65, .v 66, .v 67, .v 68]) <|
 .node (.op .mkagg [.v 2, .v 3, .v 4, .v 5]) <|
 .node (.call mul [.v 73, .v 74, .v 75] false) <|
 .node (.op (.eqv true [.int .u64, .int .u64, .int .u64, .int .u64]) [.v 76, .c (.agg [.int .u64 1, .int .u64 0, .int .u64 0, .int .u64 0])]) <|
 .br (.v 77) (
 .ret (.c (.bool false))) (
 .node (.op (.bin .add) [.v 28, .c (.int .i64 1)]) <|
 .back 0 [.v 78])) (
 .node (.op (.bin .add) [.v 28, .c (.int .i64 1)]) <|
 .back 0 [.v 72]))))) (
 .node (.call lives [] true) <|
 .ret (.v 30)))
theorem fieldCurves_den {fields rcur rord rbas rnew rof modu mul rmul inv lives : FuncId} (hf : Fields P fields) (hc : Ct P rcur [] (fun e => e = .ret (WV pCurve))) (ho : Ct P rord [] (fun e => e = .ret (WV pOrder))) (hbs : Ct P rbas [] (fun e => e = .ret (WV pBase)))
    (hrn : RNewC P rnew) (hro : ROfC P rof) (hmd : FModC P modu) (hm : FWC P mul aMul) (hrm : RMulC P rmul mulM) (hi : FInvC P inv) (hv : Ct P lives [] (fun e => e = .ret (.bool true))) {a b : Nat} (ha : a < W256) (hb : b < W256) :
    D P (fun e => e = .ret (.bool true)) [] 2 [WV b, WV a] (t_fieldCurves fields rcur rord rbas rnew rof modu mul rmul inv lives) := by
  refine d_cells rfl rfl rfl rfl (d_cells rfl rfl rfl rfl (d_call hf (fun _ => rfl) (d_call hc (fun h => by cases h) (d_call ho (fun h => by cases h) (d_call hbs (fun h => by cases h) ?_)))))
  refine d_cells rfl rfl rfl rfl (d_cells rfl rfl rfl rfl (d_cells rfl rfl rfl rfl (d_op ev_len (d_op ev_neq (f_no (by decide) rfl ?_)))))
  refine d_while (fun i : Nat => [.int .i64 (i : Int)]) (fun i => i ≤ 3) (fun i => 3 - i) 0 (by decide) rfl ?_
  intro i hi3
  refine d_op ev_lss (d_if rfl (fun h1 => ?_) (fun h1 => d_call hv (fun _ => rfl) (d_ret rfl)))
  obtain ⟨m, iv, sq, rest, hF, h3, hp, hat, hget⟩ := field_at2 (i := i) (by omega)
  have hm0 : 0 < m := by omega
  have hmW := hF.2.1
  have lt : ∀ x, x % m < W256 := fun x => Nat.lt_trans (Nat.mod_lt _ hm0) hmW
  have ltm : ∀ x, x % m < m := fun x => Nat.mod_lt _ hm0
  have hsq : W256 * W256 % m < W256 := lt _
  have cnew := hrn m hF.1 (by omega) hmW
  have hR := Rok_new hF.1 hmW
  have c1 := hro m (rlow m) (W256 * W256 % m) a hm0 hmW hsq ha
  have c2 := hro m (rlow m) (W256 * W256 % m) b hm0 hmW hsq hb
  have c3 := hrm m (rlow m) (W256 * W256 % m) (a % m) (b % m) hR (ltm _) (ltm _)
  have c4 := hi m iv sq a hF h3 ha
  refine d_op (ev_chki (n := 3) (by omega) (by omega) rfl) (d_op (ev_ofs (n := i) (o := 0) rfl rfl) (d_op (v := .lst mods) rfl (d_op (hget rfl) (d_call cnew (fun _ => rfl) ?_))))
  refine d_op (v := WV a) ev_wl (d_call c1 (fun h => by cases h) (d_cells rfl rfl rfl rfl ?_))
  refine d_op (hat rfl) (d_op (ev_rld1 rfl) (d_call (hmd m iv sq hF) (fun h => by cases h) ?_))
  refine d_op (ev_chki (n := 3) (by omega) (by omega) rfl) (d_op (ev_ofs (n := i) (o := 0) rfl rfl) (d_op (v := .lst mods) rfl (d_op (hget rfl) (d_op (ev_wne hmW hmW) (f_no (fun h => h rfl) rfl ?_)))))
  refine d_op (hat rfl) (d_op (ev_rld1 rfl) (d_op (v := WV a) ev_wl (d_op (v := WV b) ev_wl (d_call (hm m iv sq a b hF ha hb) (fun h => by cases h) ?_))))
  refine d_op (v := WV b) ev_wl (d_call c2 (fun h => by cases h) (d_op (v := WV (a % m)) ev_wl (d_call c3 (fun h => by cases h) (d_op (ev_wne (lt _) (lt _)) (f_no ?_ rfl ?_)))))
  · show ¬ aMul m a b ≠ mulM m (a % m) (b % m)
    have : mulM m (a % m) (b % m) = a * b % m := by show a % m * (b % m) % m = _; rw [← Nat.mul_mod]
    rw [this]
    exact fun h => h rfl
  refine d_op (hat rfl) (d_op (ev_rld1 rfl) (d_op (v := WV a) ev_wl (d_call c4 (fun h => by cases h) (d_op (ev_ext rfl (fun h => by cases h)) (d_op (ev_ext rfl (fun _ => rfl)) (d_cells rfl rfl rfl rfl ?_))))))
  refine d_op (v := WV (a % m)) ev_wl (d_op (ev_wne (b := 0) (lt _) (by decide)) (d_op ev_bbne (f_no (fun h => h (aInv_iff hp h3)) rfl ?_)))
  by_cases ha0 : a % m = 0
  · rw [aInv_zero ha0]
    exact d_br false rfl (fun h => by cases h) (fun _ => d_op (ev_add (by constructor <;> omega)) (d_back rfl ⟨i + 1, rfl, by omega, by omega⟩))
  · rw [aInv_ne hp h3 ha0]
    have hx : invM m a < W256 := lt _
    refine d_br true rfl (fun _ => ?_) (fun h => by cases h)
    refine d_op (hat rfl) (d_op (ev_rld1 rfl) (d_op (v := WV (invM m a)) ev_wl (d_op (v := WV a) ev_wl (d_call (hm m iv sq (invM m a) a hF hx ha) (fun h => by cases h) (d_op (ev_wne (b := 1) (lt _) (by decide)) (f_no ?_ rfl ?_))))))
    · show ¬ invM m a * a % m ≠ 1
      have := inv_ok hp h3 ha0
      rw [Nat.mul_comm, Nat.mul_mod, ← Nat.mul_mod, Nat.mul_mod]
      rw [Nat.mul_mod, Nat.mod_mod] at this
      rw [this]
      exact fun h => h rfl
    · exact d_op (ev_add (by constructor <;> omega)) (d_back rfl ⟨i + 1, rfl, by omega, by omega⟩)
end Go.SE
