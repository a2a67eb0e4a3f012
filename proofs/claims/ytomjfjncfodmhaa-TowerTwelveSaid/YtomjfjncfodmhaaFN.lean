/- Nothing of the statement is proved here: this text lays generic laws: FN; no conditions. -/
import Derived.Test.YtomjfjncfodmhaaFG
import Derived.Test.YtomjfjncfodmhaaNG
set_option linter.all false
set_option autoImplicit false
set_option maxRecDepth 4000
set_option maxHeartbeats 2000000
set_option exponentiation.threshold 5000
namespace Go.SE
open Go
variable {P : Program} {R : AEnd → Prop}
theorem agg4 {L : List Nat} (hl : L.length = 4) (h : LtAll B64 L) : AV.agg (CN .u64 L) = WV (val B64 L) := by
  match L, hl, h with
  | [a, b, c, d], _, h =>
    rw [val4, WV_eq (h a (by simp)) (h b (by simp)) (h c (by simp)) (h d (by simp))]
    rfl
theorem val4_lt {L : List Nat} (hl : L.length = 4) (h : LtAll B64 L) : val B64 L < W256 := by
  have := val_lt (b := B64) (by decide) h
  rwa [hl] at this
def ws (a : Nat) : List Nat := fdigs B64 4 a
theorem ws_len {a : Nat} : (ws a).length = 4 := fdigs_length _ _
theorem ws_lt {a : Nat} : LtAll B64 (ws a) := fdigs_lt (by decide) _ _
theorem ws_val {a : Nat} (h : a < W256) : val B64 (ws a) = a := val_fdigs_lt h
theorem WV_ws {a : Nat} (h : a < W256) : WV a = .agg (CN .u64 (ws a)) := by rw [agg4 ws_len ws_lt, ws_val h]
theorem mem4 {w x y z : Nat} (h0 : w < B64) (h1 : x < B64) (h2 : y < B64) (h3 : z < B64) : LtAll B64 [w, x, y, z] := fun n hn => by
  simp only [List.mem_cons, List.not_mem_nil, or_false] at hn
  rcases hn with rfl | rfl | rfl | rfl
  · exact h0
  · exact h1
  · exact h2
  · exact h3
theorem sub_at {x y c s c' : Nat} (hx : x < B64) (hy : y < B64) (h : x + 18446744073709551616 * c' = s + y + c) (hs : s < B64) :
    IntKind.u64.wrap (IntKind.u64.wrap ((x : Int) - (y : Int)) - (c : Int)) = (s : Int) := by
  have h1 : x < 18446744073709551616 := hx
  have h2 : y < 18446744073709551616 := hy
  have h3 : s < 18446744073709551616 := hs
  rw [wrap_u rfl, wrap_u rfl]
  show (((x : Int) - (y : Int)) % 18446744073709551616 - (c : Int)) % 18446744073709551616 = _
  omega
theorem minus_step {A b p a' x y u u' V V' : Nat} (h1 : V' + p * a' = V + p * x) (h2 : a' + 18446744073709551616 * u' = x + y + u) (h3 : V + b = A + p * u) : V' + (b + p * y) = A + p * 18446744073709551616 * u' := by
  have h4 := congrArg (p * ·) h2
  simp only [Nat.mul_add] at h4
  rw [Nat.mul_assoc]
  omega
def t_rminusW : T :=
 .node (.op (.cell 4 0) [.v 0]) <|
 .node (.op (.cell 4 1) [.v 0]) <|
 .node (.op (.cell 4 2) [.v 0]) <|
 .node (.op (.cell 4 3) [.v 0]) <|
 .node (.op (.cell 4 0) [.v 1]) <|
 .node (.op (.cell 4 1) [.v 1]) <|
 .node (.op (.cell 4 2) [.v 1]) <|
 .node (.op (.cell 4 3) [.v 1]) <|
 .node (.op .mklst [.v 2, .v 3, .v 4, .v 5]) <|
 .loop [.c (.int .u64 0), .c (.int .i64 0), .v 10] [true, true, false] <|
 .node (.op (.bin .lss) [.v 12, .c (.int .i64 4)]) <|
 .br (.v 14) (
 .node (.op .chki [.v 12, .c (.int .i64 4)]) <|
 .node (.op (.ofs 1) [.c (.int .i64 0), .v 12]) <|
 .node (.op (.lget false 1) [.v 13, .v 16]) <|
 .node (.op .chki [.v 12, .c (.int .i64 4)]) <|
 .node (.op (.ofs 1) [.c (.int .i64 0), .v 12]) <|
 .node (.op .mklst [.v 6, .v 7, .v 8, .v 9]) <|
 .node (.op (.lget false 1) [.v 20, .v 19]) <|
 .node (.op (.bin .sub) [.v 17, .v 21]) <|
 .node (.op (.bin .sub) [.v 22, .v 11]) <|
 .node (.op .chki [.v 12, .c (.int .i64 4)]) <|
 .node (.op (.ofs 1) [.c (.int .i64 0), .v 12]) <|
 .node (.op (.lget false 1) [.v 13, .v 25]) <|
 .node (.op .chki [.v 12, .c (.int .i64 4)]) <|
 .node (.op (.ofs 1) [.c (.int .i64 0), .v 12]) <|
 .node (.op .mklst [.v 6, .v 7, .v 8, .v 9]) <|
 .node (.op (.lget false 1) [.v 29, .v 28]) <|
 .node (.op (.bin .lss) [.v 26, .v 30]) <|
 .br (.v 31) (
 .node (.op .chki [.v 12, .c (.int .i64 4)]) <|
 .node (.op (.ofs 1) [.c (.int .i64 0), .v 12]) <|
 .node (.op .lset [.v 13, .v 33, .v 23]) <|
 .node (.op (.bin .add) [.v 12, .c (.int .i64 1)]) <|
 .back 0 [.c (.int .u64 1), .v 35, .v 34]) (
 .node (.op .chki [.v 12, .c (.int .i64 4)]) <|
 .node (.op (.ofs 1) [.c (.int .i64 0), .v 12]) <|
 .node (.op (.lget false 1) [.v 13, .v 33]) <|
 .node (.op .chki [.v 12, .c (.int .i64 4)]) <|
 .node (.op (.ofs 1) [.c (.int .i64 0), .v 12]) <|
 .node (.op .mklst [.v 6, .v 7, .v 8, .v 9]) <|
 .node (.op (.lget false 1) [.v 37, .v 36]) <|
 .node (.op (.bin .eql) [.v 34, .v 38]) <|
 .br (.v 39) (
 .node (.op (.bin .eql) [.v 11, .c (.int .u64 1)]) <|
 .br (.v 40) (
 .node (.op .chki [.v 12, .c (.int .i64 4)]) <|
 .node (.op (.ofs 1) [.c (.int .i64 0), .v 12]) <|
 .node (.op .lset [.v 13, .v 42, .v 23]) <|
 .node (.op (.bin .add) [.v 12, .c (.int .i64 1)]) <|
 .back 0 [.c (.int .u64 1), .v 44, .v 43]) (
 .node (.op .chki [.v 12, .c (.int .i64 4)]) <|
 .node (.op (.ofs 1) [.c (.int .i64 0), .v 12]) <|
 .node (.op .lset [.v 13, .v 42, .v 23]) <|
 .node (.op (.bin .add) [.v 12, .c (.int .i64 1)]) <|
 .back 0 [.c (.int .u64 0), .v 44, .v 43])) (
 .node (.op .chki [.v 12, .c (.int .i64 4)]) <|
 .node (.op (.ofs 1) [.c (.int .i64 0), .v 12]) <|
 .node (.op .lset [.v 13, .v 41, .v 23]) <|
 .node (.op (.bin .add) [.v 12, .c (.int .i64 1)]) <|
 .back 0 [.c (.int .u64 0), .v 43, .v 42]))) (
 .node (.op (.lget true 4) [.v 13, .c (.int .i64 0)]) <|
 .node (.op (.cell 4 0) [.v 15]) <|
 .node (.op (.cell 4 1) [.v 15]) <|
 .node (.op (.cell 4 2) [.v 15]) <|
 .node (.op (.cell 4 3) [.v 15]) <|
 .node (.op .mkagg [.v 16, .v 17, .v 18, .v 19]) <|
 .ret (.v 20))
theorem rminusW_den {a b : Nat} (ha : a < W256) (hb : b < W256) : D P (fun e => e = .ret (WV ((a + W256 - b) % W256))) [] 2 [WV b, WV a] t_rminusW := by
  obtain ⟨a0, a1, a2, a3, ha0, ha1, ha2, ha3, eA, ea⟩ := WV_limbs ha
  obtain ⟨b0, b1, b2, b3, hb0, hb1, hb2, hb3, eB, eb⟩ := WV_limbs hb
  rw [eA, eB]
  have hLa := mem4 ha0 ha1 ha2 ha3
  have hLb := mem4 hb0 hb1 hb2 hb3
  refine d_cells rfl rfl rfl rfl (d_cells rfl rfl rfl rfl (d_op (v := .lst (CN .u64 [a0, a1, a2, a3])) rfl ?_))
  refine d_while (fun s : Nat × Nat × List Nat => [.int .u64 (s.1 : Int), .int .i64 (s.2.1 : Int), .lst (CN .u64 s.2.2)])
    (fun s => s.1 ≤ 1 ∧ s.2.1 ≤ 4 ∧ s.2.2.length = 4 ∧ LtAll B64 s.2.2 ∧ (∀ j, s.2.1 ≤ j → s.2.2.getD j 0 = [a0, a1, a2, a3].getD j 0) ∧ val B64 s.2.2 + val B64 ([b0, b1, b2, b3].take s.2.1) = a + B64 ^ s.2.1 * s.1) (fun s => 4 - s.2.1)
    (0, 0, [a0, a1, a2, a3]) ⟨Nat.zero_le 1, Nat.zero_le 4, rfl, hLa, fun _ _ => rfl, by show val B64 [a0, a1, a2, a3] + 0 = a + 1 * 0; rw [val4, ← ea]⟩ rfl ?_
  rintro ⟨u, i, L⟩ ⟨hu, hi, hl, hlt, hrest, hval⟩
  dsimp only at hu hi hl hlt hrest hval ⊢
  refine d_op ev_lss (d_if rfl (fun h1 => ?_) (fun h1 => ?_))
  · have hi4 : i < 4 := by omega
    obtain ⟨x, ex⟩ : ∃ x, x = L.getD i 0 := ⟨_, rfl⟩
    obtain ⟨y, ey⟩ : ∃ y, y = [b0, b1, b2, b3].getD i 0 := ⟨_, rfl⟩
    have hx : x < B64 := ex ▸ hlt.getD (by decide) i
    have hy : y < B64 := ey ▸ hLb.getD (by decide) i
    have hx' : x < 18446744073709551616 := hx
    have hy' : y < 18446744073709551616 := hy
    obtain ⟨s, u', hs, hu', e1⟩ := sub_parts hx hy hu
    have hwr := sub_at hx hy e1 hs
    have hs' : s < 18446744073709551616 := hs
    have step : (u' ≤ 1 ∧ i + 1 ≤ 4 ∧ (L.set i s).length = 4 ∧ LtAll B64 (L.set i s) ∧ (∀ j, i + 1 ≤ j → (L.set i s).getD j 0 = [a0, a1, a2, a3].getD j 0) ∧ val B64 (L.set i s) + val B64 ([b0, b1, b2, b3].take (i + 1)) = a + B64 ^ (i + 1) * u') := by
      refine ⟨hu', by omega, by simp [hl], hlt.set hs i, fun j hj => by rw [getD_set_ne (by omega)]; exact hrest j (by omega), ?_⟩
      rw [val_take_succ, ← ey, Nat.pow_succ]
      have h2 := val_set (b := B64) (L := L) (i := i) (by omega) s
      rw [← ex] at h2
      exact minus_step h2 e1 hval
    have gx : ∀ {z : Int}, z = (i : Int) → evalO (.lget false 1) [.lst (CN .u64 L), .int .i64 z] = some (.int .u64 (x : Int)) := fun h => ev_lgetN' (i := i) h (by omega) ex.symm
    have gy : ∀ {z : Int}, z = (i : Int) → evalO (.lget false 1) [.lst (CN .u64 [b0, b1, b2, b3]), .int .i64 z] = some (.int .u64 (y : Int)) := fun h => ev_lgetN' (i := i) h (by simpa using hi4) ey.symm
    have fin : ∀ {k : Int}, k = (u' : Int) → ∃ t : Nat × Nat × List Nat, [AV.int .u64 k, .int .i64 ((i : Int) + 1), .lst (CN .u64 (L.set i s))] = [.int .u64 (t.1 : Int), .int .i64 (t.2.1 : Int), .lst (CN .u64 t.2.2)] ∧
        (t.1 ≤ 1 ∧ t.2.1 ≤ 4 ∧ t.2.2.length = 4 ∧ LtAll B64 t.2.2 ∧ (∀ j, t.2.1 ≤ j → t.2.2.getD j 0 = [a0, a1, a2, a3].getD j 0) ∧ val B64 t.2.2 + val B64 ([b0, b1, b2, b3].take t.2.1) = a + B64 ^ t.2.1 * t.1) ∧ 4 - t.2.1 < 4 - i :=
      fun h => ⟨(u', i + 1, L.set i s), by rw [h]; rfl, step, by show 4 - (i + 1) < 4 - i; omega⟩
    refine d_op (ev_chki (n := 4) (by omega) (by omega) rfl) (d_op (ev_ofs (o := 0) rfl rfl) (d_op (gx (by simp)) ?_))
    refine d_op (ev_chki (n := 4) (by omega) (by omega) rfl) (d_op (ev_ofs (o := 0) rfl rfl) (d_op (v := .lst (CN .u64 [b0, b1, b2, b3])) rfl (d_op (gy (by simp)) (d_op ev_subw (d_op ev_subw ?_)))))
    rw [hwr]
    refine d_op (ev_chki (n := 4) (by omega) (by omega) rfl) (d_op (ev_ofs (o := 0) rfl rfl) (d_op (gx (by simp)) ?_))
    refine d_op (ev_chki (n := 4) (by omega) (by omega) rfl) (d_op (ev_ofs (o := 0) rfl rfl) (d_op (v := .lst (CN .u64 [b0, b1, b2, b3])) rfl (d_op (gy (by simp)) ?_)))
    refine d_op ev_lss (d_if rfl (fun g1 => ?_) (fun g1 => ?_))
    · refine d_op (ev_chki (n := 4) (by omega) (by omega) rfl) (d_op (ev_ofs (o := 0) rfl rfl) (d_op (ev_lsetN (i := i) (by simp) (by omega) rfl) (d_op (ev_add (by constructor <;> omega)) (d_back rfl ?_))))
      exact fin (k := 1) (by omega)
    · refine d_op (ev_chki (n := 4) (by omega) (by omega) rfl) (d_op (ev_ofs (o := 0) rfl rfl) (d_op (gx (by simp)) ?_))
      refine d_op (ev_chki (n := 4) (by omega) (by omega) rfl) (d_op (ev_ofs (o := 0) rfl rfl) (d_op (v := .lst (CN .u64 [b0, b1, b2, b3])) rfl (d_op (gy (by simp)) ?_)))
      refine d_op ev_eql (d_if rfl (fun g2 => ?_) (fun g2 => ?_))
      · refine d_op ev_eql (d_if rfl (fun g3 => ?_) (fun g3 => ?_))
        · refine d_op (ev_chki (n := 4) (by omega) (by omega) rfl) (d_op (ev_ofs (o := 0) rfl rfl) (d_op (ev_lsetN (i := i) (by simp) (by omega) rfl) (d_op (ev_add (by constructor <;> omega)) (d_back rfl ?_))))
          exact fin (k := 1) (by omega)
        · refine d_op (ev_chki (n := 4) (by omega) (by omega) rfl) (d_op (ev_ofs (o := 0) rfl rfl) (d_op (ev_lsetN (i := i) (by simp) (by omega) rfl) (d_op (ev_add (by constructor <;> omega)) (d_back rfl ?_))))
          exact fin (k := 0) (by omega)
      · refine d_op (ev_chki (n := 4) (by omega) (by omega) rfl) (d_op (ev_ofs (o := 0) rfl rfl) (d_op (ev_lsetN (i := i) (by simp) (by omega) rfl) (d_op (ev_add (by constructor <;> omega)) (d_back rfl ?_))))
        exact fin (k := 0) (by omega)
  · have : i = 4 := by omega
    subst this
    have e4 : val B64 ([b0, b1, b2, b3].take 4) = b := by rw [show [b0, b1, b2, b3].take 4 = [b0, b1, b2, b3] from rfl, val4, ← eb]
    rw [e4] at hval
    have hVl := val4_lt hl hlt
    have hres : (a + W256 - b) % W256 = val B64 L := by
      have h5 : B64 ^ 4 = W256 := rfl
      rw [h5] at hval
      rcases Nat.lt_or_ge u 1 with h6 | h6
      · have : u = 0 := by omega
        subst this
        unfold W256 at *; omega
      · have : u = 1 := by omega
        subst this
        unfold W256 at *; omega
    rw [hres, ← agg4 hl hlt]
    match L, hl with
    | [r0, r1, r2, r3], _ => exact d_op (v := WL r0 r1 r2 r3) rfl (d_cells rfl rfl rfl rfl (d_op ev_wl (d_ret rfl)))
theorem add_at {x y c s c' : Nat} (hx : x < B64) (hy : y < B64) (hc : c ≤ 1) (h : x + y + c = s + 18446744073709551616 * c') (hs : s < B64) :
    ∃ t : Nat, t < 18446744073709551616 ∧ IntKind.u64.wrap ((x : Int) + (y : Int)) = (t : Int) ∧ IntKind.u64.wrap ((t : Int) + (c : Int)) = (s : Int) ∧ (c' = if t < x ∨ s < t then 1 else 0) := by
  have h1 : x < 18446744073709551616 := hx
  have h2 : y < 18446744073709551616 := hy
  have h3 : s < 18446744073709551616 := hs
  refine ⟨(x + y) % 18446744073709551616, Nat.mod_lt _ (by decide), ?_, ?_, ?_⟩
  · rw [wrap_u rfl]; show ((x : Int) + (y : Int)) % 18446744073709551616 = _; omega
  · rw [wrap_u rfl]; show ((((x + y) % 18446744073709551616 : Nat) : Int) + (c : Int)) % 18446744073709551616 = _; omega
  · split <;> omega
theorem plus_step {A b p a' x y u u' V V' : Nat} (h1 : V' + p * a' = V + p * x) (h2 : a' + y + u = x + 18446744073709551616 * u') (h3 : V + p * u = A + b) : V' + p * 18446744073709551616 * u' = A + (b + p * y) := by
  have h4 := congrArg (p * ·) h2
  simp only [Nat.mul_add] at h4
  rw [Nat.mul_assoc]
  omega
def RPlusC (P : Program) (f : FuncId) : Prop := ∀ a b, a < W256 → b < W256 → Ct P f [WV a, WV b] (fun e => e = .ret (.tup [WV ((a + b) % W256), .bool (decide (W256 ≤ a + b))]))
def t_rplusW : T :=
 .node (.op (.cell 4 0) [.v 0]) <|
 .node (.op (.cell 4 1) [.v 0]) <|
 .node (.op (.cell 4 2) [.v 0]) <|
 .node (.op (.cell 4 3) [.v 0]) <|
 .node (.op (.cell 4 0) [.v 1]) <|
 .node (.op (.cell 4 1) [.v 1]) <|
 .node (.op (.cell 4 2) [.v 1]) <|
 .node (.op (.cell 4 3) [.v 1]) <|
 .node (.op .mklst [.v 2, .v 3, .v 4, .v 5]) <|
 .loop [.c (.int .u64 0), .c (.int .i64 0), .v 10] [true, true, false] <|
 .node (.op (.bin .lss) [.v 12, .c (.int .i64 4)]) <|
 .br (.v 14) (
 .node (.op .chki [.v 12, .c (.int .i64 4)]) <|
 .node (.op (.ofs 1) [.c (.int .i64 0), .v 12]) <|
 .node (.op (.lget false 1) [.v 13, .v 16]) <|
 .node (.op .chki [.v 12, .c (.int .i64 4)]) <|
 .node (.op (.ofs 1) [.c (.int .i64 0), .v 12]) <|
 .node (.op .mklst [.v 6, .v 7, .v 8, .v 9]) <|
 .node (.op (.lget false 1) [.v 20, .v 19]) <|
 .node (.op (.bin .add) [.v 17, .v 21]) <|
 .node (.op (.bin .add) [.v 22, .v 11]) <|
 .node (.op .chki [.v 12, .c (.int .i64 4)]) <|
 .node (.op (.ofs 1) [.c (.int .i64 0), .v 12]) <|
 .node (.op (.lget false 1) [.v 13, .v 25]) <|
 .node (.op (.bin .lss) [.v 22, .v 26]) <|
 .br (.v 27) (
 .node (.op .chki [.v 12, .c (.int .i64 4)]) <|
 .node (.op (.ofs 1) [.c (.int .i64 0), .v 12]) <|
 .node (.op .lset [.v 13, .v 29, .v 23]) <|
 .node (.op (.bin .add) [.v 12, .c (.int .i64 1)]) <|
 .back 0 [.c (.int .u64 1), .v 31, .v 30]) (
 .node (.op (.bin .lss) [.v 23, .v 22]) <|
 .br (.v 28) (
 .node (.op .chki [.v 12, .c (.int .i64 4)]) <|
 .node (.op (.ofs 1) [.c (.int .i64 0), .v 12]) <|
 .node (.op .lset [.v 13, .v 30, .v 23]) <|
 .node (.op (.bin .add) [.v 12, .c (.int .i64 1)]) <|
 .back 0 [.c (.int .u64 1), .v 32, .v 31]) (
 .node (.op .chki [.v 12, .c (.int .i64 4)]) <|
 .node (.op (.ofs 1) [.c (.int .i64 0), .v 12]) <|
 .node (.op .lset [.v 13, .v 30, .v 23]) <|
 .node (.op (.bin .add) [.v 12, .c (.int .i64 1)]) <|
 .back 0 [.c (.int .u64 0), .v 32, .v 31]))) (
 .node (.op (.lget true 4) [.v 13, .c (.int .i64 0)]) <|
 .node (.op (.bin .eql) [.v 11, .c (.int .u64 1)]) <|
 .node (.op (.cell 4 0) [.v 15]) <|
 .node (.op (.cell 4 1) [.v 15]) <|
 .node (.op (.cell 4 2) [.v 15]) <|
 .node (.op (.cell 4 3) [.v 15]) <|
 .node (.op .mkagg [.v 17, .v 18, .v 19, .v 20]) <|
 .node (.op .mktup [.v 21, .v 16]) <|
 .ret (.v 22))
theorem rplusW_den {a b : Nat} (ha : a < W256) (hb : b < W256) : D P (fun e => e = .ret (.tup [WV ((a + b) % W256), .bool (decide (W256 ≤ a + b))])) [] 2 [WV b, WV a] t_rplusW := by
  obtain ⟨a0, a1, a2, a3, ha0, ha1, ha2, ha3, eA, ea⟩ := WV_limbs ha
  obtain ⟨b0, b1, b2, b3, hb0, hb1, hb2, hb3, eB, eb⟩ := WV_limbs hb
  rw [eA, eB]
  have hLa := mem4 ha0 ha1 ha2 ha3
  have hLb := mem4 hb0 hb1 hb2 hb3
  refine d_cells rfl rfl rfl rfl (d_cells rfl rfl rfl rfl (d_op (v := .lst (CN .u64 [a0, a1, a2, a3])) rfl ?_))
  refine d_while (fun s : Nat × Nat × List Nat => [.int .u64 (s.1 : Int), .int .i64 (s.2.1 : Int), .lst (CN .u64 s.2.2)])
    (fun s => s.1 ≤ 1 ∧ s.2.1 ≤ 4 ∧ s.2.2.length = 4 ∧ LtAll B64 s.2.2 ∧ val B64 s.2.2 + B64 ^ s.2.1 * s.1 = a + val B64 ([b0, b1, b2, b3].take s.2.1)) (fun s => 4 - s.2.1)
    (0, 0, [a0, a1, a2, a3]) ⟨Nat.zero_le 1, Nat.zero_le 4, rfl, hLa, by show val B64 [a0, a1, a2, a3] + 1 * 0 = a + 0; rw [val4, ← ea]⟩ rfl ?_
  rintro ⟨u, i, L⟩ ⟨hu, hi, hl, hlt, hval⟩
  dsimp only at hu hi hl hlt hval ⊢
  refine d_op ev_lss (d_if rfl (fun h1 => ?_) (fun h1 => ?_))
  · have hi4 : i < 4 := by omega
    obtain ⟨x, ex⟩ : ∃ x, x = L.getD i 0 := ⟨_, rfl⟩
    obtain ⟨y, ey⟩ : ∃ y, y = [b0, b1, b2, b3].getD i 0 := ⟨_, rfl⟩
    have hx : x < B64 := ex ▸ hlt.getD (by decide) i
    have hy : y < B64 := ey ▸ hLb.getD (by decide) i
    have hx' : x < 18446744073709551616 := hx
    have hy' : y < 18446744073709551616 := hy
    obtain ⟨s, u', hs, hu', e1⟩ := add_parts hx hy hu
    have hs' : s < 18446744073709551616 := hs
    obtain ⟨t, ht, w1, w2, w3⟩ := add_at hx hy hu e1 hs
    have step : (u' ≤ 1 ∧ i + 1 ≤ 4 ∧ (L.set i s).length = 4 ∧ LtAll B64 (L.set i s) ∧ val B64 (L.set i s) + B64 ^ (i + 1) * u' = a + val B64 ([b0, b1, b2, b3].take (i + 1))) := by
      refine ⟨hu', by omega, by simp [hl], hlt.set hs i, ?_⟩
      rw [val_take_succ, ← ey, Nat.pow_succ]
      have h2 := val_set (b := B64) (L := L) (i := i) (by omega) s
      rw [← ex] at h2
      exact plus_step h2 e1 hval
    have gx : ∀ {z : Int}, z = (i : Int) → evalO (.lget false 1) [.lst (CN .u64 L), .int .i64 z] = some (.int .u64 (x : Int)) := fun h => ev_lgetN' (i := i) h (by omega) ex.symm
    have gy : ∀ {z : Int}, z = (i : Int) → evalO (.lget false 1) [.lst (CN .u64 [b0, b1, b2, b3]), .int .i64 z] = some (.int .u64 (y : Int)) := fun h => ev_lgetN' (i := i) h (by simpa using hi4) ey.symm
    have fin : ∀ {k : Int}, k = (u' : Int) → ∃ t : Nat × Nat × List Nat, [AV.int .u64 k, .int .i64 ((i : Int) + 1), .lst (CN .u64 (L.set i s))] = [.int .u64 (t.1 : Int), .int .i64 (t.2.1 : Int), .lst (CN .u64 t.2.2)] ∧
        (t.1 ≤ 1 ∧ t.2.1 ≤ 4 ∧ t.2.2.length = 4 ∧ LtAll B64 t.2.2 ∧ val B64 t.2.2 + B64 ^ t.2.1 * t.1 = a + val B64 ([b0, b1, b2, b3].take t.2.1)) ∧ 4 - t.2.1 < 4 - i :=
      fun h => ⟨(u', i + 1, L.set i s), by rw [h]; rfl, step, by show 4 - (i + 1) < 4 - i; omega⟩
    refine d_op (ev_chki (n := 4) (by omega) (by omega) rfl) (d_op (ev_ofs (o := 0) rfl rfl) (d_op (gx (by simp)) ?_))
    refine d_op (ev_chki (n := 4) (by omega) (by omega) rfl) (d_op (ev_ofs (o := 0) rfl rfl) (d_op (v := .lst (CN .u64 [b0, b1, b2, b3])) rfl (d_op (gy (by simp)) (d_op ev_addw ?_))))
    rw [w1]
    refine d_op ev_addw ?_
    rw [w2]
    refine d_op (ev_chki (n := 4) (by omega) (by omega) rfl) (d_op (ev_ofs (o := 0) rfl rfl) (d_op (gx (by simp)) ?_))
    refine d_op ev_lss (d_if rfl (fun g1 => ?_) (fun g1 => ?_))
    · refine d_op (ev_chki (n := 4) (by omega) (by omega) rfl) (d_op (ev_ofs (o := 0) rfl rfl) (d_op (ev_lsetN (i := i) (by simp) (by omega) rfl) (d_op (ev_add (by constructor <;> omega)) (d_back rfl ?_))))
      exact fin (k := 1) (by rw [w3, if_pos (.inl (by omega))]; rfl)
    · refine d_op ev_lss (d_if rfl (fun g2 => ?_) (fun g2 => ?_))
      · refine d_op (ev_chki (n := 4) (by omega) (by omega) rfl) (d_op (ev_ofs (o := 0) rfl rfl) (d_op (ev_lsetN (i := i) (by simp) (by omega) rfl) (d_op (ev_add (by constructor <;> omega)) (d_back rfl ?_))))
        exact fin (k := 1) (by rw [w3, if_pos (.inr (by omega))]; rfl)
      · refine d_op (ev_chki (n := 4) (by omega) (by omega) rfl) (d_op (ev_ofs (o := 0) rfl rfl) (d_op (ev_lsetN (i := i) (by simp) (by omega) rfl) (d_op (ev_add (by constructor <;> omega)) (d_back rfl ?_))))
        exact fin (k := 0) (by rw [w3, if_neg (by omega)]; rfl)
  · have : i = 4 := by omega
    subst this
    have e4 : val B64 ([b0, b1, b2, b3].take 4) = b := by rw [show [b0, b1, b2, b3].take 4 = [b0, b1, b2, b3] from rfl, val4, ← eb]
    rw [e4] at hval
    have hVl := val4_lt hl hlt
    have h5 : B64 ^ 4 = W256 := rfl
    rw [h5] at hval
    have hres : (a + b) % W256 = val B64 L ∧ decide (W256 ≤ a + b) = decide ((u : Int) = 1) := by
      rcases Nat.lt_or_ge u 1 with h6 | h6
      · have : u = 0 := by omega
        subst this
        refine ⟨by unfold W256 at *; omega, ?_⟩
        have : ¬ W256 ≤ a + b := by unfold W256 at *; omega
        simp [this]
      · have : u = 1 := by omega
        subst this
        refine ⟨by unfold W256 at *; omega, ?_⟩
        have : W256 ≤ a + b := by unfold W256 at *; omega
        simp [this]
    rw [hres.1, hres.2, ← agg4 hl hlt]
    match L, hl with
    | [r0, r1, r2, r3], _ => exact d_op (v := WL r0 r1 r2 r3) rfl (d_op ev_eql (d_cells rfl rfl rfl rfl (d_op ev_wl (d_op ev_mktup (d_ret rfl)))))
def RMoreC (P : Program) (f : FuncId) : Prop := ∀ a b, a < W256 → b < W256 → Ct P f [WV a, WV b] (fun e => e = .ret (.bool (decide (b ≤ a))))
def t_rmore : T :=
 .node (.op (.cell 4 0) [.v 0]) <|
 .node (.op (.cell 4 1) [.v 0]) <|
 .node (.op (.cell 4 2) [.v 0]) <|
 .node (.op (.cell 4 3) [.v 0]) <|
 .node (.op (.cell 4 0) [.v 1]) <|
 .node (.op (.cell 4 1) [.v 1]) <|
 .node (.op (.cell 4 2) [.v 1]) <|
 .node (.op (.cell 4 3) [.v 1]) <|
 .node (.op (.bin .neq) [.v 5, .v 9]) <|
 .br (.v 10) (
 .node (.op (.bin .gtr) [.v 5, .v 9]) <|
 .ret (.v 11)) (
 .node (.op (.bin .neq) [.v 4, .v 8]) <|
 .br (.v 11) (
 .node (.op (.bin .gtr) [.v 4, .v 8]) <|
 .ret (.v 12)) (
 .node (.op (.bin .neq) [.v 3, .v 7]) <|
 .br (.v 12) (
 .node (.op (.bin .gtr) [.v 3, .v 7]) <|
 .ret (.v 13)) (
 .node (.op (.bin .neq) [.v 2, .v 6]) <|
 .br (.v 13) (
 .node (.op (.bin .gtr) [.v 2, .v 6]) <|
 .ret (.v 14)) (
 .ret (.c (.bool true))))))
theorem rmore_den {a b : Nat} (ha : a < W256) (hb : b < W256) : D P (fun e => e = .ret (.bool (decide (b ≤ a)))) [] 2 [WV b, WV a] t_rmore := by
  obtain ⟨a0, a1, a2, a3, ha0, ha1, ha2, ha3, eA, ea⟩ := WV_limbs ha
  obtain ⟨b0, b1, b2, b3, hb0, hb1, hb2, hb3, eB, eb⟩ := WV_limbs hb
  have q0 : a0 < 18446744073709551616 := ha0
  have q1 : a1 < 18446744073709551616 := ha1
  have q2 : a2 < 18446744073709551616 := ha2
  have r0 : b0 < 18446744073709551616 := hb0
  have r1 : b1 < 18446744073709551616 := hb1
  have r2 : b2 < 18446744073709551616 := hb2
  rw [eA, eB]
  unfold V4 at ea eb
  have out : ∀ {x y : Nat}, (b ≤ a ↔ x > y) → (AEnd.ret (.bool (decide ((x : Int) > (y : Int)))) = .ret (.bool (decide (b ≤ a)))) := fun {x y} h => by
    have : decide ((x : Int) > (y : Int)) = decide (b ≤ a) := by rw [decide_eq_decide, h]; omega
    rw [this]
  refine d_cells rfl rfl rfl rfl (d_cells rfl rfl rfl rfl ?_)
  refine d_op ev_neq (d_if rfl (fun h => d_op ev_gtr (d_ret (out (by omega)))) (fun h3 => ?_))
  refine d_op ev_neq (d_if rfl (fun h => d_op ev_gtr (d_ret (out (by omega)))) (fun h2 => ?_))
  refine d_op ev_neq (d_if rfl (fun h => d_op ev_gtr (d_ret (out (by omega)))) (fun h1 => ?_))
  refine d_op ev_neq (d_if rfl (fun h => d_op ev_gtr (d_ret (out (by omega)))) (fun h0 => ?_))
  refine d_ret ?_
  have : b ≤ a := by omega
  show AEnd.ret (.bool true) = _
  simp [this]
def PV (a : Nat) : AV := .agg (CN .u64 (fdigs 4294967296 8 a))
def PartsC (P : Program) (f : FuncId) : Prop := ∀ a, a < W256 → Ct P f [WV a] (fun e => e = .ret (PV a))
theorem half_at {a i x : Nat} (hx : x = a / B64 ^ (i / 2) % B64) : x / 2 ^ (32 * (i % 2)) % 4294967296 = a / 4294967296 ^ i % 4294967296 := by
  have e2 : 4294967296 ^ i = B64 ^ (i / 2) * 2 ^ (32 * (i % 2)) := by
    have h : 4294967296 ^ i = 4294967296 ^ (2 * (i / 2) + i % 2) := by rw [Nat.div_add_mod]
    rw [h, Nat.pow_add, Nat.pow_mul, Nat.pow_mul]
  have hr : i % 2 < 2 := Nat.mod_lt _ (by decide)
  have e64 : B64 = 2 ^ (32 * (i % 2)) * 2 ^ (64 - 32 * (i % 2)) := by rw [← Nat.pow_add, show 32 * (i % 2) + (64 - 32 * (i % 2)) = 64 by omega]
  rw [hx, e2, ← Nat.div_div_eq_div_mul]
  generalize a / B64 ^ (i / 2) = w
  rw [e64, Nat.mod_mul_right_div_self]
  exact Nat.mod_mod_of_dvd _ (Nat.pow_dvd_pow 2 (show 32 ≤ 64 - 32 * (i % 2) by omega))
end Go.SE
set_option autoImplicit false
set_option maxRecDepth 4000
set_option maxHeartbeats 2000000
set_option exponentiation.threshold 5000
namespace Go.SE
open Go
variable {P : Program} {R : AEnd → Prop}
def expl (N : Nat) (x : Atom) : Nat → Nat → T → T
  | _, 0, t => t
  | i, k + 1, t => .node (.op (.cell N i) [x]) (expl N x (i + 1) k t)
theorem d_expl_aux {N : Nat} {x : Atom} {L : List AV} {H : List (List AV → Prop)} {t : T} (hl : L.length = N) (hc : L.all AV.isCell = true) :
    ∀ k i n ρ, i + k = N → (∀ ρ', x.at (n + ρ'.length) (ρ' ++ ρ) = .agg L) → D P R H (n + k) (pushL (L.drop i) ρ) t → D P R H n ρ (expl N x i k t)
  | 0, i, n, ρ, hi, hx, h => by
    have : L.drop i = [] := List.drop_eq_nil_of_le (by omega)
    rw [this] at h
    exact h
  | k + 1, i, n, ρ, hi, hx, h => by
    have hil : i < L.length := by omega
    have h0 := hx []
    refine d_op (v := L[i]) ?_ (d_expl_aux hl hc k (i + 1) (n + 1) (L[i] :: ρ) (by omega) (fun ρ' => ?_) ?_)
    · show evalO (.cell N i) [x.at n ρ] = _
      have h1 : x.at n ρ = .agg L := h0
      rw [h1]
      have hci : L[i].isCell = true := List.all_eq_true.mp hc _ (List.getElem_mem hil)
      show (if L.length = N then _ else _) = _
      rw [if_pos hl, List.getElem?_eq_getElem hil]
      show (if L[i].isCell then _ else _) = _
      rw [if_pos hci]
    · have h2 := hx (ρ' ++ [L[i]])
      simp only [List.length_append, List.length_cons, List.length_nil, List.append_assoc, List.cons_append, List.nil_append] at h2
      rw [← h2]
      congr 1
      omega
    · rw [List.drop_eq_getElem_cons hil] at h
      rw [show n + 1 + k = n + (k + 1) by omega]
      exact h
theorem look_app (ρ' ρ : List AV) (i : Nat) : look (ρ' ++ ρ) (ρ'.length + i) = look ρ i := by
  induction ρ' with
  | nil => simp
  | cons a l ih => simp only [List.cons_append, List.length_cons]; rw [show l.length + 1 + i = (l.length + i) + 1 by omega]; exact ih
theorem at_app {x : Atom} {n : Nat} {ρ : List AV} (h : ∀ i, x = .v i → i < n) (ρ' : List AV) : x.at (n + ρ'.length) (ρ' ++ ρ) = x.at n ρ := by
  cases x with
  | c a => rfl
  | v i =>
    have hi := h i rfl
    have e1 : Nat.blt i n = true := by simpa [Nat.blt_eq] using hi
    have e2 : Nat.blt i (n + ρ'.length) = true := by simp [Nat.blt_eq]; omega
    simp only [Atom.at, e1, e2, cond_true]
    rw [show n + ρ'.length - 1 - i = ρ'.length + (n - 1 - i) by omega, look_app]
theorem d_expl {N : Nat} {i : Nat} {L : List AV} {H : List (List AV → Prop)} {t : T} {n : Nat} {ρ : List AV} (h : Nat.blt i n = true) (hx : (Atom.v i).at n ρ = .agg L) (hl : L.length = N) (hc : L.all AV.isCell = true)
    (k : D P R H (n + N) (pushL L ρ) t) : D P R H n ρ (expl N (.v i) 0 N t) :=
  d_expl_aux hl hc N 0 n ρ (by omega) (fun ρ' => by rw [at_app (fun j hj => by cases hj; simpa [Nat.blt_eq] using h), hx]) k
abbrev b32 : Nat := 4294967296
theorem len_eight {L : List Nat} (h : L.length = 8) : ∃ a b c d e f g k, L = [a, b, c, d, e, f, g, k] := by
  match L, h with
  | [a, b, c, d, e, f, g, k], _ => exact ⟨a, b, c, d, e, f, g, k, rfl⟩
theorem mod_pow_next (b a i : Nat) : a % b ^ (i + 1) = a % b ^ i + b ^ i * (a / b ^ i % b) := by rw [Nat.pow_succ, Nat.mod_mul]
theorem fd_setw {b k a i : Nat} (hb : 0 < b) (hi : i < k) : (fdigs b k (a % b ^ i)).set i (a / b ^ i % b) = fdigs b k (a % b ^ (i + 1)) := by
  have hp : b ^ i ≤ b ^ k := Nat.pow_le_pow_right hb (by omega)
  have hp1 : b ^ (i + 1) ≤ b ^ k := Nat.pow_le_pow_right hb (by omega)
  have hpi : 0 < b ^ i := Nat.pow_pos hb
  have hpi1 : 0 < b ^ (i + 1) := Nat.pow_pos hb
  have hm := Nat.mod_lt a hpi
  have hm1 := Nat.mod_lt a hpi1
  have h1 := val_set (b := b) (L := fdigs b k (a % b ^ i)) (i := i) (by rw [fdigs_length]; exact hi) (a / b ^ i % b)
  have h2 : (fdigs b k (a % b ^ i)).getD i 0 = 0 := by
    rw [getD_digit hb (fdigs_lt hb _ _), val_fdigs_lt (by omega), Nat.div_eq_of_lt hm, Nat.zero_mod]
  rw [h2, val_fdigs_lt (by omega), Nat.mul_zero, Nat.add_zero] at h1
  refine eq_fdigs hb ((fdigs_lt hb _ _).set (Nat.mod_lt _ hb) i) (by simp [fdigs_length]) ?_
  rw [h1, mod_pow_next]
def t_parts : T :=
 .node (.op (.cell 4 0) [.v 0]) <|
 .node (.op (.cell 4 1) [.v 0]) <|
 .node (.op (.cell 4 2) [.v 0]) <|
 .node (.op (.cell 4 3) [.v 0]) <|
 .loop [.c (.int .i64 0), .c (.lst [.int .u64 0, .int .u64 0, .int .u64 0, .int .u64 0, .int .u64 0, .int .u64 0, .int .u64 0, .int .u64 0])] [true, false] <|
 .node (.op (.bin .lss) [.v 5, .c (.int .i64 8)]) <|
 .br (.v 7) (
 .node (.op (.bin .quo) [.v 5, .c (.int .i64 2)]) <|
 .node (.op .chki [.v 8, .c (.int .i64 4)]) <|
 .node (.op (.ofs 1) [.c (.int .i64 0), .v 8]) <|
 .node (.op .mklst [.v 1, .v 2, .v 3, .v 4]) <|
 .node (.op (.lget false 1) [.v 11, .v 10]) <|
 .node (.op (.bin .rem) [.v 5, .c (.int .i64 2)]) <|
 .node (.op (.bin .mul) [.c (.int .i64 32), .v 13]) <|
 .node (.op (.cvt .u64) [.v 14]) <|
 .node (.op (.bin .shr) [.v 12, .v 15]) <|
 .node (.op (.bin .and) [.v 16, .c (.int .u64 4294967295)]) <|
 .node (.op .chki [.v 5, .c (.int .i64 8)]) <|
 .node (.op (.ofs 1) [.c (.int .i64 0), .v 5]) <|
 .node (.op .lset [.v 6, .v 19, .v 17]) <|
 .node (.op (.bin .add) [.v 5, .c (.int .i64 1)]) <|
 .back 0 [.v 21, .v 20]) (
 .node (.op (.lget true 8) [.v 6, .c (.int .i64 0)]) <|
 .node (.op (.cell 8 0) [.v 8]) <|
 .node (.op (.cell 8 1) [.v 8]) <|
 .node (.op (.cell 8 2) [.v 8]) <|
 .node (.op (.cell 8 3) [.v 8]) <|
 .node (.op (.cell 8 4) [.v 8]) <|
 .node (.op (.cell 8 5) [.v 8]) <|
 .node (.op (.cell 8 6) [.v 8]) <|
 .node (.op (.cell 8 7) [.v 8]) <|
 .node (.op .mkagg [.v 9, .v 10, .v 11, .v 12, .v 13, .v 14, .v 15, .v 16]) <|
 .ret (.v 17))
theorem parts_den {a : Nat} (ha : a < W256) : D P (fun e => e = .ret (PV a)) [] 1 [WV a] t_parts := by
  obtain ⟨a0, a1, a2, a3, h0, h1, h2, h3, eA, ea⟩ := WV_limbs ha
  rw [eA]
  have hL := mem4 h0 h1 h2 h3
  refine d_cells rfl rfl rfl rfl ?_
  refine d_while (fun i : Nat => [.int .i64 (i : Int), .lst (CN .u64 (fdigs b32 8 (a % b32 ^ i)))]) (fun i => i ≤ 8) (fun i => 8 - i) 0 (Nat.zero_le _) (by show _ = [_, AV.lst (CN .u64 (fdigs b32 8 (a % 1)))]; rw [Nat.mod_one]; rfl) ?_
  intro i hi
  refine d_op ev_lss (d_if rfl (fun hl => ?_) (fun hl => ?_))
  · have hi8 : i < 8 := by omega
    obtain ⟨x, ex⟩ : ∃ x, x = [a0, a1, a2, a3].getD (i / 2) 0 := ⟨_, rfl⟩
    have hx : x < B64 := ex ▸ hL.getD (by decide) _
    have hx' : x < 18446744073709551616 := hx
    have hpow : ∀ {z : Nat}, z ≤ x → InR .u64 (z : Int) := fun h => by constructor <;> omega
    have hxd : x = a / B64 ^ (i / 2) % B64 := by rw [ex, getD_digit (by decide) hL, val4, ← ea]
    have h32 : x / 2 ^ (32 * (i % 2)) ≤ x := Nat.div_le_self _ _
    refine d_op (ev_quo (by omega) (by decide) (by constructor <;> omega)) ?_
    refine d_op (ev_chki (n := 4) (by omega) (by omega) rfl) (d_op (ev_ofs (n := i / 2) (o := 0) rfl (by omega)) (d_op (v := .lst (CN .u64 [a0, a1, a2, a3])) rfl ?_))
    refine d_op (ev_lgetN' (i := i / 2) (by simp) (by simp; omega) ex.symm) ?_
    refine d_op (ev_rem (by omega) (by decide)) (d_op (ev_mul (by constructor <;> omega)) (d_op (ev_cvt (by constructor <;> omega)) ?_))
    refine d_op (ev_shr (y := 32 * (i % 2)) (by omega) (by show 32 * (i % 2) ≤ 64; omega) rfl) ?_
    refine d_op (ev_and (hpow h32) (y := 4294967295) (by decide)) ?_
    rw [Nat.and_two_pow_sub_one_eq_mod _ 32, show (2 : Nat) ^ 32 = 4294967296 from rfl, half_at hxd]
    have hd : a / 4294967296 ^ i % 4294967296 < 4294967296 := Nat.mod_lt _ (by decide)
    refine d_op (ev_chki (n := 8) (by omega) (by omega) rfl) (d_op (ev_ofs (n := i) (o := 0) rfl rfl) ?_)
    refine d_op (ev_lsetN (i := i) (by simp) (by simpa [fdigs_length] using hi8) rfl) (d_op (ev_add (by constructor <;> omega)) ?_)
    rw [fd_setw (by decide) hi8]
    exact d_back rfl ⟨i + 1, rfl, by omega, by omega⟩
  · have : i = 8 := by omega
    subst this
    have e8 : a % b32 ^ 8 = a := Nat.mod_eq_of_lt ha
    rw [e8]
    obtain ⟨p0, p1, p2, p3, p4, p5, p6, p7, ep⟩ := len_eight (fdigs_length (b := b32) 8 a)
    unfold PV
    rw [ep]
    refine d_op (v := .agg (CN .u64 [p0, p1, p2, p3, p4, p5, p6, p7])) rfl ?_
    exact d_expl (N := 8) (i := 8) rfl rfl rfl rfl (d_op (v := .agg (CN .u64 [p0, p1, p2, p3, p4, p5, p6, p7])) rfl (d_ret rfl))
def WholeC (P : Program) (f : FuncId) : Prop := ∀ a, a < W256 → Ct P f [PV a] (fun e => e = .ret (WV a))
theorem whole_step {a i x y : Nat} (hi : i < 8) (ha : a < W256) (hx : x = a % b32 ^ i / B64 ^ (i / 2) % B64) (hy : y = a / b32 ^ i % b32) :
    x ||| y * 2 ^ (32 * (i % 2)) = x + y * 2 ^ (32 * (i % 2)) ∧ (fdigs B64 4 (a % b32 ^ i)).set (i / 2) (x + y * 2 ^ (32 * (i % 2))) = fdigs B64 4 (a % b32 ^ (i + 1)) ∧ x + y * 2 ^ (32 * (i % 2)) < B64 := by
  have e2 : b32 ^ i = B64 ^ (i / 2) * 2 ^ (32 * (i % 2)) := by
    have h : b32 ^ i = b32 ^ (2 * (i / 2) + i % 2) := by rw [Nat.div_add_mod]
    rw [h, Nat.pow_add, Nat.pow_mul, show b32 ^ (i % 2) = 2 ^ (32 * (i % 2)) from (Nat.pow_mul 2 32 _).symm, show b32 ^ 2 = B64 from rfl]
  have hr : i % 2 < 2 := Nat.mod_lt _ (by decide)
  have hc : 0 < 2 ^ (32 * (i % 2)) := Nat.pow_pos (by decide)
  have hxl : x < 2 ^ (32 * (i % 2)) := by
    rw [hx, e2, Nat.mod_mul_right_div_self]
    exact Nat.lt_of_le_of_lt (Nat.mod_le _ _) (Nat.mod_lt _ hc)
  have hyl : y < b32 := hy ▸ Nat.mod_lt _ (by decide)
  have hle : 2 ^ (32 * (i % 2)) ≤ 2 ^ 32 := Nat.pow_le_pow_right (by decide) (by omega)
  have hlt : x + y * 2 ^ (32 * (i % 2)) < B64 := by
    have h1 : (y + 1) * 2 ^ (32 * (i % 2)) ≤ b32 * 2 ^ 32 := Nat.mul_le_mul (by omega) hle
    have h2 : b32 * 2 ^ 32 = B64 := rfl
    rw [Nat.add_mul] at h1
    omega
  refine ⟨?_, ?_, hlt⟩
  · rw [Nat.mul_comm y, Nat.or_comm, ← Nat.two_pow_add_eq_or_of_lt hxl, Nat.add_comm]
  · have hb : 0 < B64 := by decide
    have hi2 : i / 2 < 4 := by omega
    have hm1 : a % b32 ^ (i + 1) < B64 ^ 4 := Nat.lt_of_le_of_lt (Nat.mod_le _ _) ha
    have hm : a % b32 ^ i < B64 ^ 4 := Nat.lt_of_le_of_lt (Nat.mod_le _ _) ha
    have h1 := val_set (b := B64) (L := fdigs B64 4 (a % b32 ^ i)) (i := i / 2) (by rw [fdigs_length]; exact hi2) (x + y * 2 ^ (32 * (i % 2)))
    rw [getD_digit hb (fdigs_lt hb _ _), val_fdigs_lt hm, ← hx] at h1
    refine eq_fdigs hb ((fdigs_lt hb _ _).set hlt _) (by simp [fdigs_length]) ?_
    rw [mod_pow_next, ← hy, e2, Nat.mul_assoc, Nat.mul_comm (2 ^ _) y, ← e2]
    rw [Nat.mul_add] at h1
    omega
def t_whole : T :=
 .node (.op (.cell 8 0) [.v 0]) <|
 .node (.op (.cell 8 1) [.v 0]) <|
 .node (.op (.cell 8 2) [.v 0]) <|
 .node (.op (.cell 8 3) [.v 0]) <|
 .node (.op (.cell 8 4) [.v 0]) <|
 .node (.op (.cell 8 5) [.v 0]) <|
 .node (.op (.cell 8 6) [.v 0]) <|
 .node (.op (.cell 8 7) [.v 0]) <|
 .loop [.c (.int .i64 0), .c (.lst [.int .u64 0, .int .u64 0, .int .u64 0, .int .u64 0])] [true, false] <|
 .node (.op (.bin .lss) [.v 9, .c (.int .i64 8)]) <|
 .br (.v 11) (
 .node (.op (.bin .quo) [.v 9, .c (.int .i64 2)]) <|
 .node (.op (.bin .quo) [.v 9, .c (.int .i64 2)]) <|
 .node (.op .chki [.v 13, .c (.int .i64 4)]) <|
 .node (.op (.ofs 1) [.c (.int .i64 0), .v 13]) <|
 .node (.op (.lget false 1) [.v 10, .v 15]) <|
 .node (.op .chki [.v 9, .c (.int .i64 8)]) <|
 .node (.op (.ofs 1) [.c (.int .i64 0), .v 9]) <|
 .node (.op .mklst [.v 1, .v 2, .v 3, .v 4, .v 5, .v 6, .v 7, .v 8]) <|
 .node (.op (.lget false 1) [.v 19, .v 18]) <|
 .node (.op (.bin .rem) [.v 9, .c (.int .i64 2)]) <|
 .node (.op (.bin .mul) [.c (.int .i64 32), .v 21]) <|
 .node (.op (.cvt .u64) [.v 22]) <|
 .node (.op (.bin .shl) [.v 20, .v 23]) <|
 .node (.op (.bin .or) [.v 16, .v 24]) <|
 .node (.op .chki [.v 12, .c (.int .i64 4)]) <|
 .node (.op (.ofs 1) [.c (.int .i64 0), .v 12]) <|
 .node (.op .lset [.v 10, .v 27, .v 25]) <|
 .node (.op (.bin .add) [.v 9, .c (.int .i64 1)]) <|
 .back 0 [.v 29, .v 28]) (
 .node (.op (.lget true 4) [.v 10, .c (.int .i64 0)]) <|
 .node (.op (.cell 4 0) [.v 12]) <|
 .node (.op (.cell 4 1) [.v 12]) <|
 .node (.op (.cell 4 2) [.v 12]) <|
 .node (.op (.cell 4 3) [.v 12]) <|
 .node (.op .mkagg [.v 13, .v 14, .v 15, .v 16]) <|
 .ret (.v 17))
theorem whole_den {a : Nat} (ha : a < W256) : D P (fun e => e = .ret (WV a)) [] 1 [PV a] t_whole := by
  obtain ⟨p0, p1, p2, p3, p4, p5, p6, p7, ep⟩ := len_eight (fdigs_length (b := b32) 8 a)
  have hp := fdigs_lt (b := b32) (by decide) 8 a
  have hv := val_fdigs_lt (b := b32) (k := 8) ha
  unfold PV
  rw [show fdigs 4294967296 8 a = [p0, p1, p2, p3, p4, p5, p6, p7] from ep]
  rw [ep] at hp hv
  refine d_expl (N := 8) (i := 0) rfl rfl rfl rfl ?_
  refine d_while (fun i : Nat => [.int .i64 (i : Int), .lst (CN .u64 (fdigs B64 4 (a % b32 ^ i)))]) (fun i => i ≤ 8) (fun i => 8 - i) 0 (Nat.zero_le _) (by show _ = [_, AV.lst (CN .u64 (fdigs B64 4 (a % 1)))]; rw [Nat.mod_one]; rfl) ?_
  intro i hi
  refine d_op ev_lss (d_if rfl (fun hl => ?_) (fun hl => ?_))
  · have hi8 : i < 8 := by omega
    obtain ⟨x, ex⟩ : ∃ x, x = a % b32 ^ i / B64 ^ (i / 2) % B64 := ⟨_, rfl⟩
    obtain ⟨y, ey⟩ : ∃ y, y = a / b32 ^ i % b32 := ⟨_, rfl⟩
    have hx : x < B64 := ex ▸ Nat.mod_lt _ (by decide)
    have hx' : x < 18446744073709551616 := hx
    have hy : y < b32 := ey ▸ Nat.mod_lt _ (by decide)
    obtain ⟨s1, s2, s3⟩ := whole_step hi8 ha ex ey
    have hm : a % b32 ^ i < B64 ^ 4 := Nat.lt_of_le_of_lt (Nat.mod_le _ _) ha
    have gx : (fdigs B64 4 (a % b32 ^ i)).getD (i / 2) 0 = x := by rw [getD_digit (by decide) (fdigs_lt (by decide) _ _), val_fdigs_lt hm, ← ex]
    have gy : [p0, p1, p2, p3, p4, p5, p6, p7].getD i 0 = y := by rw [getD_digit (by decide) hp, hv, ← ey]
    have hs3 : y * 2 ^ (32 * (i % 2)) < 18446744073709551616 := Nat.lt_of_le_of_lt (Nat.le_add_left _ x) s3
    refine d_op (ev_quo (by omega) (by decide) (by constructor <;> omega)) (d_op (ev_quo (by omega) (by decide) (by constructor <;> omega)) ?_)
    refine d_op (ev_chki (n := 4) (by omega) (by omega) rfl) (d_op (ev_ofs (n := i / 2) (o := 0) rfl (by omega)) ?_)
    refine d_op (ev_lgetN' (i := i / 2) (by simp) (by rw [fdigs_length]; omega) gx) ?_
    refine d_op (ev_chki (n := 8) (by omega) (by omega) rfl) (d_op (ev_ofs (n := i) (o := 0) rfl rfl) (d_op (v := .lst (CN .u64 [p0, p1, p2, p3, p4, p5, p6, p7])) rfl ?_))
    refine d_op (ev_lgetN' (i := i) (by simp) (by simpa using hi8) gy) ?_
    refine d_op (ev_rem (by omega) (by decide)) (d_op (ev_mul (by constructor <;> omega)) (d_op (ev_cvt (by constructor <;> omega)) ?_))
    refine d_op (ev_shl (y := 32 * (i % 2)) (by omega) (by show 32 * (i % 2) ≤ 64; omega) rfl) ?_
    rw [wrap_in (by constructor <;> omega)]
    refine d_op (ev_or (by constructor <;> omega) (by constructor <;> omega)) ?_
    rw [s1]
    refine d_op (ev_chki (n := 4) (by omega) (by omega) rfl) (d_op (ev_ofs (n := i / 2) (o := 0) rfl (by omega)) ?_)
    refine d_op (ev_lsetN (i := i / 2) (by simp) (by rw [fdigs_length]; omega) rfl) (d_op (ev_add (by constructor <;> omega)) ?_)
    rw [s2]
    exact d_back rfl ⟨i + 1, rfl, by omega, by omega⟩
  · have : i = 8 := by omega
    subst this
    have e8 : a % b32 ^ 8 = a := Nat.mod_eq_of_lt ha
    rw [e8]
    obtain ⟨a0, a1, a2, a3, h0, h1, h2, h3, eA, ea⟩ := WV_limbs ha
    have e4 : fdigs B64 4 a = [a0, a1, a2, a3] := (eq_fdigs (by decide) (mem4 h0 h1 h2 h3) rfl (by rw [val4, ← ea])).symm
    rw [e4, eA]
    exact d_op (v := WL a0 a1 a2 a3) rfl (d_cells rfl rfl rfl rfl (d_op ev_wl (d_ret rfl)))
end Go.SE
