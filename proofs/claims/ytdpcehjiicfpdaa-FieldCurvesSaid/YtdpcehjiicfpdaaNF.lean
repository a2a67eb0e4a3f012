/- Nothing of the statement is proved here: this text lays generic laws: NF; no conditions. -/
import Derived.Test.YtdpcehjiicfpdaaNE
set_option linter.all false
set_option autoImplicit false
set_option exponentiation.threshold 5000
namespace Go.SE
open Go
variable {P : Program} {R : AEnd → Prop} {L A B X Y : List Nat}
def ProductC (P : Program) (f : FuncId) : Prop := ∀ A B, LtAll 65536 A → LtAll 65536 B → A.length + B.length ≤ 1099511627776 →
  Ct P f [SN .u64 A, SN .u64 B] (fun e => e = .ret (SN .u64 (fdigs 65536 (A.length + B.length) (val 65536 A * val 65536 B))))
def t_product : T :=
 .node (.op .len [.v 0]) <|
 .node (.op .len [.v 1]) <|
 .node (.op (.bin .add) [.v 2, .v 3]) <|
 .node (.op (.chkmk 8) [.v 4, .v 4]) <|
 .node (.op (.lzero 8 [.int .u64 0]) [.v 4]) <|
 .loop [.c (.int .i64 0), .v 6] [true, false] <|
 .node (.op .len [.v 0]) <|
 .node (.op (.bin .lss) [.v 7, .v 9]) <|
 .br (.v 10) (
 .loop [.c (.int .u64 0), .c (.int .i64 0), .v 8] [true, true, false] <|
 .node (.op .len [.v 1]) <|
 .node (.op (.bin .lss) [.v 12, .v 14]) <|
 .br (.v 15) (
 .node (.op (.bin .add) [.v 7, .v 12]) <|
 .node (.op .chki [.v 16, .v 4]) <|
 .node (.op (.ofs 1) [.c (.int .i64 0), .v 16]) <|
 .node (.op (.lget false 1) [.v 13, .v 18]) <|
 .node (.op (.eaddr 1) [.v 0, .v 7]) <|
 .node (.op (.rld false 1) [.v 20]) <|
 .node (.op (.eaddr 1) [.v 1, .v 12]) <|
 .node (.op (.rld false 1) [.v 22]) <|
 .node (.op (.bin .mul) [.v 21, .v 23]) <|
 .node (.op (.bin .add) [.v 19, .v 24]) <|
 .node (.op (.bin .add) [.v 25, .v 11]) <|
 .node (.op (.bin .add) [.v 7, .v 12]) <|
 .node (.op (.bin .and) [.v 26, .c (.int .u64 65535)]) <|
 .node (.op (.bin .shr) [.v 26, .c (.int .u64 16)]) <|
 .node (.op .chki [.v 27, .v 4]) <|
 .node (.op (.ofs 1) [.c (.int .i64 0), .v 27]) <|
 .node (.op .lset [.v 13, .v 31, .v 28]) <|
 .node (.op (.bin .add) [.v 12, .c (.int .i64 1)]) <|
 .back 0 [.v 29, .v 33, .v 32]) (
 .node (.op .len [.v 1]) <|
 .node (.op (.bin .add) [.v 7, .v 16]) <|
 .node (.op .chki [.v 17, .v 4]) <|
 .node (.op (.ofs 1) [.c (.int .i64 0), .v 17]) <|
 .node (.op .lset [.v 13, .v 19, .v 11]) <|
 .node (.op (.bin .add) [.v 7, .c (.int .i64 1)]) <|
 .back 1 [.v 21, .v 20])) (
 .node (.op (.mksl 1) [.v 8, .c (.int .i64 0), .v 4]) <|
 .ret (.v 11))
theorem product_den (hA : LtAll 65536 A) (hB : LtAll 65536 B) (hl : A.length + B.length ≤ 1099511627776) :
    D P (fun e => e = .ret (SN .u64 (fdigs 65536 (A.length + B.length) (val 65536 A * val 65536 B)))) [] 2 [SN .u64 B, SN .u64 A] t_product := by
  obtain ⟨n, hn⟩ : ∃ n, n = A.length + B.length := ⟨_, rfl⟩
  have e1 : (A.length : Int) + (B.length : Int) = (n : Int) := by omega
  rw [← hn]
  refine d_op ev_len (d_op ev_len (d_op (ev_add (by constructor <;> omega)) ?_))
  rw [e1]
  refine d_op (ev_chkmk rfl rfl (Nat.le_refl _) (by omega)) (d_op (ev_lzeroN (k := .u64) (n := n) rfl (by omega)) ?_)
  refine d_while (fun s : Nat × List Nat => [.int .i64 (s.1 : Int), .lst (CN .u64 s.2)])
    (fun s => s.1 ≤ A.length ∧ s.2.length = n ∧ LtAll 65536 s.2 ∧ val 65536 s.2 = val 65536 (A.take s.1) * val 65536 B ∧ ∀ k, s.1 + B.length ≤ k → s.2.getD k 0 = 0) (fun s => A.length - s.1)
    (0, List.replicate n 0) ⟨Nat.zero_le _, by simp, LtAll.replicate (by decide) _, by simp [val_replicate], fun k _ => getD_replicate k⟩ rfl ?_
  rintro ⟨i, O⟩ ⟨hi, hol, hot, hov, hoz⟩
  dsimp only at hi hol hot hov hoz ⊢
  refine d_op ev_len (d_op ev_lss (d_if rfl (fun h1 => ?_) (fun h1 => ?_)))
  · have hia : i < A.length := by omega
    obtain ⟨x, hx⟩ : ∃ x, x = A.getD i 0 := ⟨_, rfl⟩
    have hxl : x < 65536 := hx ▸ hA.getD (by decide) i
    refine d_while (fun s : Nat × Nat × List Nat => [.int .u64 (s.1 : Int), .int .i64 (s.2.1 : Int), .lst (CN .u64 s.2.2)])
      (fun s => s.1 < 65536 ∧ s.2.1 ≤ B.length ∧ s.2.2.length = n ∧ LtAll 65536 s.2.2 ∧ val 65536 s.2.2 + 65536 ^ (i + s.2.1) * s.1 = val 65536 O + x * 65536 ^ i * val 65536 (B.take s.2.1) ∧
        ∀ k, i + B.length ≤ k → s.2.2.getD k 0 = 0) (fun s => B.length - s.2.1)
      (0, 0, O) ⟨by simp, Nat.zero_le _, hol, hot, by simp, hoz⟩ rfl ?_
    rintro ⟨c, j, O'⟩ ⟨hc, hj, hol', hot', hov', hoz'⟩
    dsimp only at hc hj hol' hot' hov' hoz' ⊢
    refine d_op ev_len (d_op ev_lss (d_if rfl (fun h2 => ?_) (fun h2 => ?_)))
    · have hjb : j < B.length := by omega
      obtain ⟨y, hy⟩ : ∃ y, y = B.getD j 0 := ⟨_, rfl⟩
      have hyl : y < 65536 := hy ▸ hB.getD (by decide) j
      obtain ⟨o, ho⟩ : ∃ o, o = O'.getD (i + j) 0 := ⟨_, rfl⟩
      have hol : o < 65536 := ho ▸ hot'.getD (by decide) _
      have hxy : x * y ≤ 4294836225 := by
        have : x * y ≤ 65535 * 65535 := Nat.mul_le_mul (by omega) (by omega)
        omega
      have eij : (i : Int) + (j : Int) = ((i + j : Nat) : Int) := by omega
      have exy : (x : Int) * (y : Int) = ((x * y : Nat) : Int) := by simp
      have et : (o : Int) + ((x * y : Nat) : Int) + (c : Int) = ((o + x * y + c : Nat) : Int) := by omega
      refine d_op (ev_add (by constructor <;> omega)) ?_
      rw [eij]
      refine d_op (ev_chki (by omega) (by omega) rfl) (d_op (ev_ofs (o := 0) rfl rfl) (d_op (ev_lgetN' (i := i + j) (by simp) (by omega) ho.symm) ?_))
      refine d_op (ev_eaddrN (i := i) rfl hia) (d_op (ev_rldN' hia hx.symm) ?_)
      refine d_op (ev_eaddrN (i := j) rfl hjb) (d_op (ev_rldN' hjb hy.symm) ?_)
      refine d_op (ev_mul (by rw [exy]; constructor <;> omega)) ?_
      rw [exy]
      refine d_op (ev_add (by constructor <;> omega)) (d_op (ev_add (by constructor <;> omega)) ?_)
      rw [et]
      refine d_op (ev_add (by constructor <;> omega)) ?_
      rw [eij]
      refine d_op (ev_and (by constructor <;> omega) (y := 65535) (by decide)) ?_
      rw [Nat.and_two_pow_sub_one_eq_mod (o + x * y + c) 16]
      refine d_op (ev_shr (y := 16) rfl (by decide) rfl) ?_
      refine d_op (ev_chki (by omega) (by omega) rfl) (d_op (ev_ofs (o := 0) rfl rfl) (d_op (ev_lsetN (i := i + j) (by simp) (by omega) rfl) ?_))
      refine d_op (ev_add (by constructor <;> omega)) ?_
      refine d_back rfl ⟨((o + x * y + c) / 65536, j + 1, O'.set (i + j) ((o + x * y + c) % 65536)), rfl, ⟨?_, by simp only; omega, by simp [hol'], hot'.set (Nat.mod_lt _ (by decide)) _, ?_, fun k hk => ?_⟩, by simp only; omega⟩
      · show (o + x * y + c) / 65536 < 65536
        omega
      · have hs := place_step (b := 65536) (p := 65536 ^ (i + j)) (o := O'.getD (i + j) 0) (y := x * y) (c := c) (r := (o + x * y + c) % 65536) (c' := (o + x * y + c) / 65536) (val_set (by omega) _) (by rw [ho]; exact Nat.mod_add_div _ _) hov'
        show val 65536 (O'.set (i + j) ((o + x * y + c) % 65536)) + 65536 ^ (i + j + 1) * ((o + x * y + c) / 65536) = _
        rw [Nat.pow_succ, hs, val_take_succ, Nat.mul_add, ← hy]
        congr 1
        rw [Nat.pow_add]
        ac_rfl
      · have hk : i + B.length ≤ k := hk
        show (O'.set (i + j) _).getD k 0 = 0
        rw [getD_set_ne (by omega)]
        exact hoz' k hk
    · have hjb : j = B.length := by omega
      subst hjb
      rw [List.take_length] at hov'
      have eij : (i : Int) + (B.length : Int) = ((i + B.length : Nat) : Int) := by omega
      refine d_op ev_len (d_op (ev_add (by constructor <;> omega)) ?_)
      rw [eij]
      refine d_op (ev_chki (by omega) (by omega) rfl) (d_op (ev_ofs (o := 0) rfl rfl) (d_op (ev_lsetN (i := i + B.length) (by simp) (by omega) rfl) ?_))
      refine d_op (ev_add (by constructor <;> omega)) ?_
      refine d_back rfl ⟨(i + 1, O'.set (i + B.length) c), rfl, ⟨by simp only; omega, by simp [hol'], hot'.set hc _, ?_, fun k hk => ?_⟩, by simp only; omega⟩
      · have hs := val_set (b := 65536) (L := O') (i := i + B.length) (by omega) c
        rw [hoz' _ (Nat.le_refl _), Nat.mul_zero, Nat.add_zero] at hs
        show val 65536 (O'.set (i + B.length) c) = val 65536 (A.take (i + 1)) * val 65536 B
        rw [hs, hov', hov, val_take_succ, ← hx, Nat.add_mul]
        congr 1
        ac_rfl
      · have hk : i + 1 + B.length ≤ k := hk
        show (O'.set (i + B.length) _).getD k 0 = 0
        rw [getD_set_ne (by omega)]
        exact hoz' k (by omega)
  · have : i = A.length := by omega
    subst this
    rw [List.take_length] at hov
    refine d_op (ev_mkslN rfl (by rw [hol])) (d_ret ?_)
    show AEnd.ret (SN .u64 O) = _
    rw [eq_fdigs (by decide) hot hol hov]
end Go.SE
