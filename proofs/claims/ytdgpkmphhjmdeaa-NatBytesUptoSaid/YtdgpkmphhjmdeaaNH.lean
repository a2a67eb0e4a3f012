/- Nothing of the statement is proved here: this text lays generic laws: NH; no conditions. -/
import Derived.Test.YtdgpkmphhjmdeaaNG

set_option linter.all false
set_option autoImplicit false
set_option exponentiation.threshold 5000
namespace Go.SE
open Go

variable {P : Program} {R : AEnd → Prop} {L A B X Y : List Nat} {b : Nat}

/-! ### What division calls -/

theorem mid_getD {Pre M Suf : List Nat} {i : Nat} (h : i < M.length) : (Pre ++ M ++ Suf).getD (Pre.length + i) 0 = M.getD i 0 := by
  rw [List.getD_eq_getElem?_getD, List.getD_eq_getElem?_getD, List.append_assoc, List.getElem?_append_right (by omega), show Pre.length + i - Pre.length = i from by omega, List.getElem?_append_left h]
theorem mid_set {Pre M Suf : List Nat} {i x : Nat} (h : i < M.length) : (Pre ++ M ++ Suf).set (Pre.length + i) x = Pre ++ M.set i x ++ Suf := by
  rw [List.append_assoc, List.set_append_right _ _ (by omega), show Pre.length + i - Pre.length = i from by omega, List.set_append_left _ _ h, List.append_assoc]

def Div32C (P : Program) (f : FuncId) : Prop := ∀ x y d : Nat, x < d → d < B32 → y < B32 →
  Ct P f [.int .u32 (x : Int), .int .u32 (y : Int), .int .u32 (d : Int)] (fun e => e = .ret (.tup [.int .u32 (((x * B32 + y) / d : Nat) : Int), .int .u32 (((x * B32 + y) % d : Nat) : Int)]))

theorem or_mul32 {x y : Nat} (hy : y < 4294967296) : x * 4294967296 ||| y = x * 4294967296 + y := by
  have h := Nat.two_pow_add_eq_or_of_lt (i := 32) (b := y) hy x
  rw [Nat.mul_comm x, show (4294967296 : Nat) = 2 ^ 32 from rfl, ← h]

def t_div32 : T :=
  .node (.op (.bin .neq) [.v 2, .c (.int .u32 0)]) <| -- 3
  .br (.v 3) (
    .node (.op (.bin .leq) [.v 2, .v 0]) <| -- 4
    .br (.v 4) (
      .fail) (
      .node (.op (.cvt .u64) [.v 0]) <| -- 5
      .node (.op (.bin .shl) [.v 5, .c (.int .u64 32)]) <| -- 6
      .node (.op (.cvt .u64) [.v 1]) <| -- 7
      .node (.op (.bin .or) [.v 6, .v 7]) <| -- 8
      .node (.op (.cvt .u64) [.v 2]) <| -- 9
      .node (.op (.bin .quo) [.v 8, .v 9]) <| -- 10
      .node (.op (.cvt .u32) [.v 10]) <| -- 11
      .node (.op (.cvt .u64) [.v 2]) <| -- 12
      .node (.op (.bin .rem) [.v 8, .v 12]) <| -- 13
      .node (.op (.cvt .u32) [.v 13]) <| -- 14
      .node (.op .mktup [.v 11, .v 14]) <| -- 15
      .ret (.v 15))) (
    .node (.op (.cvt .u64) [.v 0]) <| -- 4
    .node (.op (.bin .shl) [.v 4, .c (.int .u64 32)]) <| -- 5
    .node (.op (.cvt .u64) [.v 1]) <| -- 6
    .node (.op (.bin .or) [.v 5, .v 6]) <| -- 7
    .node (.op (.cvt .u64) [.v 2]) <| -- 8
    .node (.op (.bin .quo) [.v 7, .v 8]) <| -- 9
    .node (.op (.cvt .u32) [.v 9]) <| -- 10
    .node (.op (.cvt .u64) [.v 2]) <| -- 11
    .node (.op (.bin .rem) [.v 7, .v 11]) <| -- 12
    .node (.op (.cvt .u32) [.v 12]) <| -- 13
    .node (.op .mktup [.v 10, .v 13]) <| -- 14
    .ret (.v 14))
theorem div32_den {x y d : Nat} (hx : x < d) (hd : d < B32) (hy : y < B32) :
    D P (fun e => e = .ret (.tup [.int .u32 (((x * B32 + y) / d : Nat) : Int), .int .u32 (((x * B32 + y) % d : Nat) : Int)])) [] 3 [.int .u32 (d : Int), .int .u32 (y : Int), .int .u32 (x : Int)] t_div32 := by
  have hd : d < 4294967296 := hd
  have hy : y < 4294967296 := hy
  refine d_op ev_neq (d_if rfl (fun _ => ?_) (fun h => absurd (by omega) h))
  refine d_op ev_leq (d_if rfl (fun h => absurd h (by omega)) (fun _ => ?_))
  have ew : IntKind.u64.wrap ((x * 4294967296 : Nat) : Int) = ((x * 4294967296 : Nat) : Int) := wrap_in (by constructor <;> omega)
  refine d_op (ev_cvt (by constructor <;> omega)) (d_op (ev_shl (y := 32) (p := x * 4294967296) rfl (by decide) rfl) ?_)
  rw [ew]
  refine d_op (ev_cvt (by constructor <;> omega)) (d_op (ev_or (by constructor <;> omega) (by constructor <;> omega)) ?_)
  rw [or_mul32 hy]
  obtain ⟨w, hw⟩ : ∃ w, w = x * 4294967296 + y := ⟨_, rfl⟩
  have hq : w / d < 4294967296 := by
    rw [Nat.div_lt_iff_lt_mul (by omega)]
    have := Nat.mul_le_mul_right 4294967296 hx
    omega
  have hr : w % d < d := Nat.mod_lt _ (by omega)
  rw [← hw]
  obtain ⟨q, eq⟩ : ∃ q, q = w / d := ⟨_, rfl⟩
  obtain ⟨r, er⟩ : ∃ r, r = w % d := ⟨_, rfl⟩
  have e1 : (w : Int) / (d : Int) = (q : Int) := by rw [eq]; simp
  have e2 : (w : Int) % (d : Int) = (r : Int) := by rw [er]; simp
  rw [← eq] at hq
  rw [← er] at hr
  refine d_op (ev_cvt (by constructor <;> omega)) (d_op (ev_quo (by omega) (by omega) (by constructor <;> omega)) ?_)
  rw [e1]
  refine d_op (ev_cvt (by constructor <;> omega)) (d_op (ev_cvt (by constructor <;> omega)) (d_op (ev_rem (by omega) (by omega)) ?_))
  rw [e2]
  refine d_op (ev_cvt (by constructor <;> omega)) (d_op ev_mktup (d_ret ?_))
  show AEnd.ret (.tup [.int .u32 (q : Int), .int .u32 (r : Int)]) = _
  rw [eq, er, hw]

def Lz32C (P : Program) (f : FuncId) : Prop := ∀ x : Nat, x < B32 → Ct P f [.int .u32 (x : Int)] (fun e => e = .ret (.int .i64 ((32 - blen x : Nat) : Int)))
def t_lz32 (len32 : FuncId) : T :=
  .node (.call len32 [.v 0] true) <| -- 1
  .node (.op (.bin .sub) [.c (.int .i64 32), .v 1]) <| -- 2
  .ret (.v 2)
theorem lz32_den {len32 : FuncId} (h : Len32C P len32) {x : Nat} (hx : x < B32) : D P (fun e => e = .ret (.int .i64 ((32 - blen x : Nat) : Int))) [] 1 [.int .u32 (x : Int)] (t_lz32 len32) := by
  have h32 : blen x ≤ 32 := blen_le.2 hx
  refine d_call (h x hx) (fun _ => rfl) (d_op (ev_sub (by constructor <;> omega)) (d_ret ?_))
  show AEnd.ret (.int .i64 _) = _
  congr 2; omega

def SmallC (P : Program) (f : FuncId) : Prop := ∀ (A : List Nat) (d : Nat), LtAll B32 A → A.length ≤ 35184372088832 → 0 < d → d < B32 →
  Ct P f [W A, .int .u32 (d : Int)] (fun e => e = .ret (.tup [W (digs B32 (val B32 A / d)), W (digs B32 (val B32 A % d))]))

theorem dropN_cons {L : List Nat} {i : Nat} (h : i < L.length) : L.drop i = L.getD i 0 :: L.drop (i + 1) := by
  rw [List.drop_eq_getElem_cons h]; congr 1; simp [h]

def t_small (div32 trim : FuncId) : T :=
  .node (.op .len [.v 0]) <| -- 2
  .node (.op (.chkmk 4) [.v 2, .v 2]) <| -- 3
  .node (.op (.lzero 4 [.int .u32 0]) [.v 2]) <| -- 4
  .node (.op .len [.v 0]) <| -- 5
  .node (.op (.bin .sub) [.v 5, .c (.int .i64 1)]) <| -- 6
  .loop [.c (.int .u32 0), .v 6, .v 4] [true, true, false] <| -- 7 to 9
    .node (.op (.bin .geq) [.v 8, .c (.int .i64 0)]) <| -- 10
    .br (.v 10) (
      .node (.op (.eaddr 1) [.v 0, .v 8]) <| -- 11
      .node (.op (.rld false 1) [.v 11]) <| -- 12
      .node (.call div32 [.v 7, .v 12, .v 1] false) <| -- 13
      .node (.op (.ext 0 true) [.v 13]) <| -- 14
      .node (.op (.ext 1 true) [.v 13]) <| -- 15
      .node (.op .chki [.v 8, .v 2]) <| -- 16
      .node (.op (.ofs 1) [.c (.int .i64 0), .v 8]) <| -- 17
      .node (.op .lset [.v 9, .v 17, .v 14]) <| -- 18
      .node (.op (.bin .sub) [.v 8, .c (.int .i64 1)]) <| -- 19
      .back 0 [.v 15, .v 19, .v 18]) (
      .node (.op (.mksl 1) [.v 9, .c (.int .i64 0), .v 2]) <| -- 11
      .node (.call trim [.v 11] true) <| -- 12
      .node (.op .mklst [.v 7]) <| -- 13
      .node (.op (.mksl 1) [.v 13, .c (.int .i64 0), .c (.int .i64 1)]) <| -- 14
      .node (.call trim [.v 14] true) <| -- 15
      .node (.op .mktup [.v 12, .v 15]) <| -- 16
      .ret (.v 16))
theorem small_den {div32 trim : FuncId} (hd32 : Div32C P div32) (ht : TrimC P trim) {d : Nat} (hA : LtAll B32 A) (hl : A.length ≤ 35184372088832) (h0 : 0 < d) (hd : d < B32) :
    D P (fun e => e = .ret (.tup [W (digs B32 (val B32 A / d)), W (digs B32 (val B32 A % d))])) [] 2 [.int .u32 (d : Int), W A] (t_small div32 trim) := by
  have hd' : d < 4294967296 := hd
  refine d_op ev_len (d_op (ev_chkmk rfl rfl (Nat.le_refl _) (by omega)) (d_op (ev_lzeroN (k := .u32) (n := A.length) rfl (by omega)) (d_op ev_len (d_op (ev_sub (by constructor <;> omega)) ?_))))
  refine d_while (fun s : Nat × Nat × List Nat => [.int .u32 (s.1 : Int), .int .i64 ((s.2.1 : Int) - 1), .lst (CN .u32 s.2.2)])
    (fun s => s.1 < d ∧ s.2.1 ≤ A.length ∧ s.2.2.length = A.length ∧ LtAll B32 s.2.2 ∧ val B32 (A.drop s.2.1) = val B32 (s.2.2.drop s.2.1) * d + s.1) (fun s => s.2.1)
    (0, A.length, List.replicate A.length 0) ⟨h0, Nat.le_refl _, by simp, LtAll.replicate (by decide) _, by simp⟩ rfl ?_
  rintro ⟨r, i, Q⟩ ⟨hr, hi, hql, hqt, hqv⟩
  dsimp only at hr hi hql hqt hqv ⊢
  refine d_op ev_geq (d_if rfl (fun h1 => ?_) (fun h1 => ?_))
  · obtain ⟨j, rfl⟩ : ∃ j, i = j + 1 := ⟨i - 1, by omega⟩
    have hx : A.getD j 0 < 4294967296 := hA.getD (by decide) j
    have ej : ((j + 1 : Nat) : Int) - 1 = (j : Int) := by omega
    rw [ej]
    refine d_op (ev_eaddrN (i := j) rfl (by omega)) (d_op (ev_rldN (by omega)) ?_)
    refine d_call (hd32 r (A.getD j 0) d hr hd hx) (fun h => by cases h) ?_
    obtain ⟨w, hw⟩ : ∃ w, w = r * B32 + A.getD j 0 := ⟨_, rfl⟩
    have hwq : w / d < B32 := by
      rw [Nat.div_lt_iff_lt_mul h0, hw]
      have := Nat.mul_le_mul_right B32 hr
      have hx2 : A.getD j 0 < B32 := hx
      rw [Nat.mul_comm B32 d]
      rw [Nat.succ_mul] at this
      omega
    rw [← hw]
    refine d_op (ev_ext rfl (fun _ => rfl)) (d_op (ev_ext rfl (fun _ => rfl)) ?_)
    refine d_op (ev_chki (by omega) (by omega) rfl) (d_op (ev_ofs (o := 0) rfl rfl) (d_op (ev_lsetN (i := j) (by simp) (by omega) rfl) ?_))
    refine d_op (ev_sub (by constructor <;> omega)) ?_
    refine d_back rfl ⟨(w % d, j, Q.set j (w / d)), rfl, ⟨Nat.mod_lt _ h0, by simp only; omega, by simp [hql], hqt.set hwq j, ?_⟩, by simp⟩
    show val B32 (A.drop j) = val B32 ((Q.set j (w / d)).drop j) * d + w % d
    rw [dropN_cons (L := A) (by omega), dropN_cons (L := Q.set j (w / d)) (by simp; omega)]
    have e1 : (Q.set j (w / d)).getD j 0 = w / d := by simp [List.getD_eq_getElem?_getD, hql, show j < A.length from by omega]
    have e2 : (Q.set j (w / d)).drop (j + 1) = Q.drop (j + 1) := by rw [List.drop_set]; simp
    rw [e1, e2, val_cons, val_cons, hqv, Nat.add_mul]
    have e3 := Nat.div_add_mod w d
    rw [Nat.mul_comm d] at e3
    rw [Nat.mul_add, ← Nat.mul_assoc]
    have e4 : B32 * r = r * B32 := Nat.mul_comm _ _
    omega
  · have : i = 0 := by omega
    subst this
    simp only [List.drop_zero] at hqv
    have hq : val B32 A / d = val B32 Q := by rw [hqv, Nat.mul_comm, Nat.mul_add_div h0, Nat.div_eq_of_lt hr, Nat.add_zero]
    have hm : val B32 A % d = r := by rw [hqv, Nat.mul_comm, Nat.mul_add_mod, Nat.mod_eq_of_lt hr]
    have hrb : r < 4294967296 := by omega
    refine d_op (ev_mkslN rfl (by rw [hql])) (d_call (ht Q hqt (by omega)) (fun _ => rfl) ?_)
    refine d_op (ev_mklst rfl) (d_op (ev_mkslN (k := .u32) (L := [r]) rfl rfl) (d_call (ht [r] (LtAll.cons hrb LtAll.nil) (by simp)) (fun _ => rfl) (d_op ev_mktup (d_ret ?_))))
    show AEnd.ret (.tup [W (nrm Q), W (nrm [r])]) = _
    unfold nrm
    rw [hq, hm]
    simp

/-! shifted -/

def ShiftedC (P : Program) (f : FuncId) : Prop := ∀ (A : List Nat) (n : Nat), LtAll B32 A → A.length ≤ 35184372088831 → n < 32 → Ct P f [W A, .int .i64 (n : Int)] (fun e => e = .ret (W (fdigs B32 (A.length + 1) (val B32 A * 2 ^ n))))
def ShiftedH (P : Program) (f : FuncId) : Prop := ∀ (A : List Nat) (n : Nat), LtAll B32 A → A.length ≤ 35184372088831 → n < 32 →
  CtH P f [.val (W A), .val (.int .i64 (n : Int))] [] ⟨false, [.osl 0 1 true], 1⟩ (fun e => e = .ret (.tup [.int .i64 0, .int .i64 ((A.length + 1 : Nat) : Int), .int .i64 ((A.length + 1 : Nat) : Int), .lst (CN .u32 (fdigs B32 (A.length + 1) (val B32 A * 2 ^ n)))]))

theorem or_low {n a c : Nat} (ha : a < 2 ^ n) (hc : 2 ^ n ∣ c) : a ||| c = a + c := by
  obtain ⟨m, rfl⟩ := hc
  have h := Nat.two_pow_add_eq_or_of_lt (i := n) (b := a) ha m
  rw [Nat.or_comm, ← h, Nat.add_comm]

end Go.SE
