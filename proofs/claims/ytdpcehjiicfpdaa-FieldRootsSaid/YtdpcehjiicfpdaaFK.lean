/- Nothing of the statement is proved here: this text lays generic laws: FK; no conditions. -/
import Derived.Test.YtdpcehjiicfpdaaFI
import Derived.Test.YtdpcehjiicfpdaaPS

set_option linter.all false
set_option autoImplicit false
set_option maxRecDepth 8000
set_option maxHeartbeats 2000000
set_option exponentiation.threshold 5000
namespace Go.SE
open Go

variable {P : Program} {R : AEnd → Prop}

/-! the curves' fields -/

abbrev pCurve : Nat := 115792089237316195423570985008687907853269984665640564039457584007908834671663
abbrev pOrder : Nat := 115792089237316195423570985008687907852837564279074904382605163141518161494337
abbrev pBase : Nat := 21888242871839275222246405745257275088696311157297823662689037894645226208583
def fCurve : AV := FP pCurve 15580212934572586289 (W256 * W256 % pCurve)
def fOrder : AV := FP pOrder 5408259542528602431 (W256 * W256 % pOrder)
def fBase : AV := FP pBase 9786893198990664585 (W256 * W256 % pBase)
theorem ok_curve : Fok pCurve 15580212934572586289 (W256 * W256 % pCurve) := ⟨by decide, by decide, by decide, by decide, rfl⟩
theorem ok_order : Fok pOrder 5408259542528602431 (W256 * W256 % pOrder) := ⟨by decide, by decide, by decide, by decide, rfl⟩
theorem ok_base : Fok pBase 9786893198990664585 (W256 * W256 % pBase) := ⟨by decide, by decide, by decide, by decide, rfl⟩

def t_fCurve : T :=
  .ret (.c (.rp [.int .u64 18446744069414583343, .int .u64 18446744073709551615, .int .u64 18446744073709551615, .int .u64 18446744073709551615, .int .u64 15580212934572586289, .int .u64 8392367050913, .int .u64 1, .int .u64 0, .int .u64 0]))
def t_fOrder : T :=
  .ret (.c (.rp [.int .u64 13822214165235122497, .int .u64 13451932020343611451, .int .u64 18446744073709551614, .int .u64 18446744073709551615, .int .u64 5408259542528602431, .int .u64 9902555850136342848, .int .u64 8364476168144746616, .int .u64 16616019711348246470, .int .u64 11342065889886772165]))
def t_fBase : T :=
  .ret (.c (.rp [.int .u64 4332616871279656263, .int .u64 10917124144477883021, .int .u64 13281191951274694749, .int .u64 3486998266802970665, .int .u64 9786893198990664585, .int .u64 17522657719365597833, .int .u64 13107472804851548667, .int .u64 5164255478447964150, .int .u64 493319470278259999]))
theorem fCurve_den : D P (fun e => e = .ret fCurve) [] 0 [] t_fCurve := d_ret rfl
theorem fOrder_den : D P (fun e => e = .ret fOrder) [] 0 [] t_fOrder := d_ret rfl
theorem fBase_den : D P (fun e => e = .ret fBase) [] 0 [] t_fBase := d_ret rfl

def Fields (P : Program) (f : FuncId) : Prop := Ct P f [] (fun e => e = .ret (.sl 3 [fCurve, fOrder, fBase]))
def t_fields (c o b : FuncId) : T :=
  .node (.call c [] true) <| -- 0
  .node (.call o [] true) <| -- 1
  .node (.call b [] true) <| -- 2
  .node (.op (.isnil .pt false) [.v 0]) <| -- 3
  .br (.v 3) (
    .ret (.c .nils)) (
    .node (.op (.isnil .pt false) [.v 1]) <| -- 4
    .br (.v 4) (
      .ret (.c .nils)) (
      .node (.op (.isnil .pt false) [.v 2]) <| -- 5
      .br (.v 5) (
        .ret (.c .nils)) (
        .node (.op .mklst [.v 0, .v 1, .v 2]) <| -- 6
        .node (.op (.mksl 1) [.v 6, .c (.int .i64 0), .c (.int .i64 3)]) <| -- 7
        .ret (.v 7))))
theorem fields_den {c o b : FuncId} (hc : Ct P c [] (fun e => e = .ret fCurve)) (ho : Ct P o [] (fun e => e = .ret fOrder)) (hb : Ct P b [] (fun e => e = .ret fBase)) : D P (fun e => e = .ret (.sl 3 [fCurve, fOrder, fBase])) [] 0 [] (t_fields c o b) := by
  refine d_call hc (fun _ => rfl) (d_call ho (fun _ => rfl) (d_call hb (fun _ => rfl) ?_))
  refine d_op (v := .bool false) rfl (d_br false rfl (fun h => by cases h) (fun _ => ?_))
  refine d_op (v := .bool false) rfl (d_br false rfl (fun h => by cases h) (fun _ => ?_))
  refine d_op (v := .bool false) rfl (d_br false rfl (fun h => by cases h) (fun _ => ?_))
  exact d_op (ev_mklst rfl) (d_op (ev_mksl1 rfl rfl) (d_ret rfl))

/-- what stands in the list -/
theorem field_at {i : Nat} (h : i < 3) : ∃ m iv sq rest, Fok m iv sq ∧ 3 ≤ m ∧ PR.Prime m ∧ (i ≠ 1 → m % 4 = 3) ∧ ∀ {z : Int}, z = (i : Int) → evalO (.eaddr 1) [.sl 3 [fCurve, fOrder, fBase], .int .i64 z] = some (.rp (FP m iv sq :: rest)) := by
  match i, h with
  | 0, _ => exact ⟨_, _, _, _, ok_curve, by decide, PR.prime_curve, fun _ => by decide, fun {z} hz => by subst hz; rfl⟩
  | 1, _ => exact ⟨_, _, _, _, ok_order, by decide, PR.prime_order, fun h => absurd rfl h, fun {z} hz => by subst hz; rfl⟩
  | 2, _ => exact ⟨_, _, _, _, ok_base, by decide, PR.prime_base, fun _ => by decide, fun {z} hz => by subst hz; rfl⟩

/-! inverses modulo a prime -/

section
variable {m a b : Nat}

theorem not_dvd_mod (h : a % m ≠ 0) : ¬ m ∣ a % m := fun hd => h (by rw [← Nat.mod_eq_zero_of_dvd hd, Nat.mod_mod])

theorem inv_ok (hp : PR.Prime m) (h3 : 3 ≤ m) (h : a % m ≠ 0) : a % m * invM m a % m = 1 := by
  have := PR.fermat hp (not_dvd_mod h)
  unfold invM
  rw [Nat.mul_mod, Nat.mod_mod, Nat.mod_mod, Nat.mul_mod_mod, ← Nat.pow_succ', show (m - 2).succ = m - 1 by omega]
  exact this
theorem aInv_ne (hp : PR.Prime m) (h3 : 3 ≤ m) (h : a % m ≠ 0) : aInv m a = (invM m a, true) := by unfold aInv; rw [if_pos (inv_ok hp h3 h)]
theorem aInv_zero (h : a % m = 0) : aInv m a = (0, false) := by
  unfold aInv
  rw [if_neg]
  rw [h, Nat.zero_mul, Nat.zero_mod]; decide
theorem aInv_iff (hp : PR.Prime m) (h3 : 3 ≤ m) : (aInv m a).2 = decide (a % m ≠ 0) := by
  by_cases h : a % m = 0
  · rw [aInv_zero h]; simp [h]
  · rw [aInv_ne hp h3 h]; simp [h]

theorem mod_ne_of_mul (_ : 3 ≤ m) (h : a * b % m = 1) : a % m ≠ 0 := fun h0 => by
  rw [Nat.mul_mod, h0, Nat.zero_mul, Nat.zero_mod] at h; cases h

/-- there is just one -/
theorem inv_unique (hp : PR.Prime m) (h3 : 3 ≤ m) (hb : b < m) (h : a * b % m = 1) : aInv m a = (b, true) := by
  have hne := mod_ne_of_mul h3 h
  rw [aInv_ne hp h3 hne]
  have h1 := inv_ok hp h3 hne
  have hx : invM m a < m := Nat.mod_lt _ (by omega)
  have e : invM m a = b := by
    have e1 : invM m a * (a * b) % m = invM m a := by rw [Nat.mul_mod, h, Nat.mul_one, Nat.mod_mod, Nat.mod_eq_of_lt hx]
    have e2 : invM m a * (a * b) % m = b := by
      have : invM m a * (a * b) = a * invM m a * b := by grind
      have h1' : a * invM m a % m = 1 := by rw [Nat.mul_mod, Nat.mod_eq_of_lt hx]; exact h1
      rw [this, Nat.mul_mod, h1', Nat.one_mul, Nat.mod_mod, Nat.mod_eq_of_lt hb]
    rw [← e1, e2]
  rw [e]

theorem inv_back (hp : PR.Prime m) (h3 : 3 ≤ m) (h : a % m ≠ 0) : aInv m (invM m a) = (a % m, true) :=
  inv_unique hp h3 (Nat.mod_lt _ (by omega)) (by rw [Nat.mul_comm]; exact inv_ok hp h3 h)
theorem inv_mul (hp : PR.Prime m) (h3 : 3 ≤ m) (ha : a % m ≠ 0) (hb : b % m ≠ 0) : aInv m (a * b % m) = (invM m a * invM m b % m, true) := by
  refine inv_unique hp h3 (Nat.mod_lt _ (by omega)) ?_
  have h1 := inv_ok hp h3 ha
  have h2 := inv_ok hp h3 hb
  have : a * b % m * (invM m a * invM m b % m) % m = (a % m * invM m a) % m * ((b % m * invM m b) % m) % m := by
    rw [← Nat.mul_mod, ← Nat.mul_mod]
    have e : a % m * invM m a * (b % m * invM m b) = (a % m) * (b % m) * (invM m a * invM m b) := by grind
    rw [e, Nat.mul_mod ((a % m) * (b % m)), ← Nat.mul_mod a, ← Nat.mul_mod]
  rw [this, h1, h2, Nat.one_mul, Nat.mod_eq_of_lt (by omega)]
end

def t_fieldInverses (fields inv mul ofF lives : FuncId) : T :=
  .node (.op (.cell 4 0) [.v 0]) <| -- 2
  .node (.op (.cell 4 1) [.v 0]) <| -- 3
  .node (.op (.cell 4 2) [.v 0]) <| -- 4
  .node (.op (.cell 4 3) [.v 0]) <| -- 5
  .node (.op (.cell 4 0) [.v 1]) <| -- 6
  .node (.op (.cell 4 1) [.v 1]) <| -- 7
  .node (.op (.cell 4 2) [.v 1]) <| -- 8
  .node (.op (.cell 4 3) [.v 1]) <| -- 9
  .node (.call fields [] true) <| -- 10
  .node (.op .len [.v 10]) <| -- 11
  .node (.op (.bin .neq) [.v 11, .c (.int .i64 3)]) <| -- 12
  .br (.v 12) (
    .ret (.c (.bool false))) (
    .loop [.c (.int .i64 0)] [true] <| -- 13 to 13
      .node (.op (.bin .lss) [.v 13, .c (.int .i64 3)]) <| -- 14
      .br (.v 14) (
        .node (.op (.eaddr 1) [.v 10, .v 13]) <| -- 15
        .node (.op (.rld false 1) [.v 15]) <| -- 16
        .node (.op .mkagg [.v 2, .v 3, .v 4, .v 5]) <| -- 17
        .node (.call inv [.v 16, .v 17] false) <| -- 18
        .node (.op (.ext 0 false) [.v 18]) <| -- 19
        .node (.op (.ext 1 true) [.v 18]) <| -- 20
        .node (.op (.cell 4 0) [.v 19]) <| -- 21
        .node (.op (.cell 4 1) [.v 19]) <| -- 22
        .node (.op (.cell 4 2) [.v 19]) <| -- 23
        .node (.op (.cell 4 3) [.v 19]) <| -- 24
        .node (.op .mkagg [.v 6, .v 7, .v 8, .v 9]) <| -- 25
        .node (.call inv [.v 16, .v 25] false) <| -- 26
        .node (.op (.ext 0 false) [.v 26]) <| -- 27
        .node (.op (.ext 1 true) [.v 26]) <| -- 28
        .node (.op (.cell 4 0) [.v 27]) <| -- 29
        .node (.op (.cell 4 1) [.v 27]) <| -- 30
        .node (.op (.cell 4 2) [.v 27]) <| -- 31
        .node (.op (.cell 4 3) [.v 27]) <| -- 32
        .node (.op (.un .not) [.v 20]) <| -- 33
        .br (.v 33) (
          .node (.op (.bin .add) [.v 13, .c (.int .i64 1)]) <| -- 34
          .back 0 [.v 34]) (
          .node (.op (.un .not) [.v 28]) <| -- 34
          .br (.v 34) (
            .node (.op (.bin .add) [.v 13, .c (.int .i64 1)]) <| -- 35
            .back 0 [.v 35]) (
            .node (.op .mkagg [.v 21, .v 22, .v 23, .v 24]) <| -- 35
            .node (.call inv [.v 16, .v 35] false) <| -- 36
            .node (.op (.ext 0 false) [.v 36]) <| -- 37
            .node (.op (.ext 1 true) [.v 36]) <| -- 38
            .node (.op (.cell 4 0) [.v 37]) <| -- 39
            .node (.op (.cell 4 1) [.v 37]) <| -- 40
            .node (.op (.cell 4 2) [.v 37]) <| -- 41
            .node (.op (.cell 4 3) [.v 37]) <| -- 42
            .node (.op .mkagg [.v 2, .v 3, .v 4, .v 5]) <| -- 43
            .node (.op .mkagg [.v 6, .v 7, .v 8, .v 9]) <| -- 44
            .node (.call mul [.v 16, .v 43, .v 44] false) <| -- 45
            .node (.call inv [.v 16, .v 45] false) <| -- 46
            .node (.op (.ext 0 false) [.v 46]) <| -- 47
            .node (.op (.ext 1 true) [.v 46]) <| -- 48
            .node (.op (.cell 4 0) [.v 47]) <| -- 49
            .node (.op (.cell 4 1) [.v 47]) <| -- 50
            .node (.op (.cell 4 2) [.v 47]) <| -- 51
            .node (.op (.cell 4 3) [.v 47]) <| -- 52
            .node (.op .mkagg [.v 2, .v 3, .v 4, .v 5]) <| -- 53
            .node (.call ofF [.v 16, .v 53] false) <| -- 54
            .node (.op .mkagg [.v 39, .v 40, .v 41, .v 42]) <| -- 55
            .node (.op (.eqv true [.int .u64, .int .u64, .int .u64, .int .u64]) [.v 55, .v 54]) <| -- 56
            .br (.v 56) (
              .ret (.c (.bool false))) (
              .node (.op .mkagg [.v 21, .v 22, .v 23, .v 24]) <| -- 57
              .node (.op .mkagg [.v 29, .v 30, .v 31, .v 32]) <| -- 58
              .node (.call mul [.v 16, .v 57, .v 58] false) <| -- 59
              .node (.op .mkagg [.v 49, .v 50, .v 51, .v 52]) <| -- 60
              .node (.op (.eqv true [.int .u64, .int .u64, .int .u64, .int .u64]) [.v 60, .v 59]) <| -- 61
              .br (.v 61) (
                .ret (.c (.bool false))) (
                .node (.op (.un .not) [.v 48]) <| -- 62
                .br (.v 62) (
                  .ret (.c (.bool false))) (
                  .node (.op (.bin .add) [.v 13, .c (.int .i64 1)]) <| -- 63
                  .back 0 [.v 63])))))) (
        .node (.call lives [] true) <| -- 15
        .ret (.v 15)))
theorem fieldInverses_den {fields inv mul ofF lives : FuncId} (hf : Fields P fields) (hi : FInvC P inv) (hm : FWC P mul aMul) (ho : FW1 P ofF aOf) (hv : Ct P lives [] (fun e => e = .ret (.bool true))) {a b : Nat} (ha : a < W256) (hb : b < W256) :
    D P (fun e => e = .ret (.bool true)) [] 2 [WV b, WV a] (t_fieldInverses fields inv mul ofF lives) := by
  refine d_cells rfl rfl rfl rfl (d_cells rfl rfl rfl rfl (d_call hf (fun _ => rfl) (d_op ev_len (d_op ev_neq (f_no (by decide) rfl ?_)))))
  refine d_while (fun i : Nat => [.int .i64 (i : Int)]) (fun i => i ≤ 3) (fun i => 3 - i) 0 (by decide) rfl ?_
  intro i hi3
  refine d_op ev_lss (d_if rfl (fun h1 => ?_) (fun h1 => d_call hv (fun _ => rfl) (d_ret rfl)))
  obtain ⟨m, iv, sq, rest, hF, h3, hp, _, hat⟩ := field_at (i := i) (by omega)
  have hm0 : 0 < m := by omega
  have hmW := hF.2.1
  have lt : ∀ x, x % m < W256 := fun x => Nat.lt_trans (Nat.mod_lt _ hm0) hmW
  have nxt : ∀ {n : Nat} {ρ : List AV} {v : Atom}, (v.at n ρ = .int .i64 ((i : Int) + 1)) → ∃ y : Nat, [v.at n ρ] = [.int .i64 (y : Int)] ∧ y ≤ 3 ∧ 3 - y < 3 - i := fun h => ⟨i + 1, by rw [h]; rfl, by omega, by omega⟩
  have hIa := hi m iv sq a hF h3 ha
  have hIb := hi m iv sq b hF h3 hb
  refine d_op (hat rfl) (d_op (ev_rld1 rfl) ?_)
  refine d_op (v := WV a) ev_wl (d_call hIa (fun h => by cases h) (d_op (ev_ext rfl (fun h => by cases h)) (d_op (ev_ext rfl (fun _ => rfl)) (d_cells rfl rfl rfl rfl ?_))))
  refine d_op (v := WV b) ev_wl (d_call hIb (fun h => by cases h) (d_op (ev_ext rfl (fun h => by cases h)) (d_op (ev_ext rfl (fun _ => rfl)) (d_cells rfl rfl rfl rfl ?_))))
  by_cases ha0 : a % m = 0
  · rw [aInv_zero ha0]
    refine d_op (v := .bool true) rfl (d_br true rfl (fun _ => d_op (ev_add (by constructor <;> omega)) (d_back rfl ⟨i + 1, rfl, by omega, by omega⟩)) (fun h => by cases h))
  · rw [aInv_ne hp h3 ha0]
    refine d_op (v := .bool false) rfl (d_br false rfl (fun h => by cases h) (fun _ => ?_))
    by_cases hb0 : b % m = 0
    · rw [aInv_zero hb0]
      refine d_op (v := .bool true) rfl (d_br true rfl (fun _ => d_op (ev_add (by constructor <;> omega)) (d_back rfl ⟨i + 1, rfl, by omega, by omega⟩)) (fun h => by cases h))
    · rw [aInv_ne hp h3 hb0]
      have hx : invM m a < W256 := lt _
      have hy : invM m b < W256 := lt _
      have hback := hi m iv sq (invM m a) hF h3 hx
      rw [inv_back hp h3 ha0] at hback
      have hab : Ct P mul [FP m iv sq, WV a, WV b] (fun e => e = .ret (WV (a * b % m))) := hm m iv sq a b hF ha hb
      have hiab := hi m iv sq (a * b % m) hF h3 (lt _)
      rw [inv_mul hp h3 ha0 hb0] at hiab
      have hxy : Ct P mul [FP m iv sq, WV (invM m a), WV (invM m b)] (fun e => e = .ret (WV (invM m a * invM m b % m))) := hm m iv sq _ _ hF hx hy
      refine d_op (v := .bool false) rfl (d_br false rfl (fun h => by cases h) (fun _ => ?_))
      refine d_op (v := WV (invM m a)) ev_wl (d_call hback (fun h => by cases h) (d_op (ev_ext rfl (fun h => by cases h)) (d_op (ev_ext rfl (fun _ => rfl)) (d_cells rfl rfl rfl rfl ?_))))
      refine d_op (v := WV a) ev_wl (d_op (v := WV b) ev_wl (d_call hab (fun h => by cases h) (d_call hiab (fun h => by cases h) (d_op (ev_ext rfl (fun h => by cases h)) (d_op (ev_ext rfl (fun _ => rfl)) (d_cells rfl rfl rfl rfl ?_))))))
      refine d_op (v := WV a) ev_wl (d_call (ho m iv sq a hF ha) (fun h => by cases h) (d_op (v := WV (a % m)) ev_wl (d_op (ev_wne (lt _) (lt _)) (f_no (fun h => h rfl) rfl ?_))))
      refine d_op (v := WV (invM m a)) ev_wl (d_op (v := WV (invM m b)) ev_wl (d_call hxy (fun h => by cases h) (d_op (v := WV (invM m a * invM m b % m)) ev_wl (d_op (ev_wne (lt _) (lt _)) (f_no (fun h => h rfl) rfl ?_)))))
      refine d_op (v := .bool false) rfl (d_br false rfl (fun h => by cases h) (fun _ => ?_))
      exact d_op (ev_add (by constructor <;> omega)) (d_back rfl ⟨i + 1, rfl, by omega, by omega⟩)

/-! roots modulo a prime -/

theorem odd_pow {a b m : Nat} (h : (a + b) % m = 0) : ∀ k, (a ^ (2 * k + 1) + b ^ (2 * k + 1)) % m = 0
  | 0 => by simpa using h
  | k + 1 => by
    have ih := odd_pow h k
    obtain ⟨c, hc⟩ := Nat.dvd_of_mod_eq_zero h
    obtain ⟨d, hd⟩ := Nat.dvd_of_mod_eq_zero ih
    have key : ((a : Int) ^ (2 * (k + 1) + 1) + (b : Int) ^ (2 * (k + 1) + 1)) = (m : Int) * ((c : Int) * ((a : Int) ^ (2 * k + 2) + (b : Int) ^ (2 * k + 2)) - (a : Int) * (b : Int) * (d : Int)) := by
      have hc' : (a : Int) + (b : Int) = (m : Int) * (c : Int) := by exact_mod_cast hc
      have hd' : (a : Int) ^ (2 * k + 1) + (b : Int) ^ (2 * k + 1) = (m : Int) * (d : Int) := by exact_mod_cast hd
      have e1 : ∀ x : Int, x ^ (2 * (k + 1) + 1) = x ^ (2 * k + 1) * x * x := fun x => by rw [show 2 * (k + 1) + 1 = 2 * k + 1 + 1 + 1 by omega, Int.pow_succ, Int.pow_succ]
      have e2 : ∀ x : Int, x ^ (2 * k + 2) = x ^ (2 * k + 1) * x := fun x => by rw [show 2 * k + 2 = 2 * k + 1 + 1 by omega, Int.pow_succ]
      rw [e1, e1, e2, e2]
      generalize (a : Int) ^ (2 * k + 1) = p at *
      generalize (b : Int) ^ (2 * k + 1) = q at *
      grind
    have : ((a ^ (2 * (k + 1) + 1) + b ^ (2 * (k + 1) + 1) : Nat) : Int) % (m : Int) = 0 := by
      have e : ((a ^ (2 * (k + 1) + 1) + b ^ (2 * (k + 1) + 1) : Nat) : Int) = (a : Int) ^ (2 * (k + 1) + 1) + (b : Int) ^ (2 * (k + 1) + 1) := by simp
      rw [e, key, Int.mul_emod_right]
    exact_mod_cast this

section
variable {m a : Nat}

/-- Euler's sign of a number -/
def sgn (m a : Nat) : Nat := (a % m) ^ ((m - 1) / 2) % m

theorem sgn_cases (hp : PR.Prime m) (h4 : m % 4 = 3) (h : a % m ≠ 0) : sgn m a = 1 ∨ sgn m a = m - 1 := by
  have h2 : sgn m a * sgn m a % m = 1 := by
    unfold sgn
    rw [← Nat.mul_mod, ← Nat.pow_add, show (m - 1) / 2 + (m - 1) / 2 = m - 1 by omega]
    exact PR.fermat hp (not_dvd_mod h)
  have hs : sgn m a < m := Nat.mod_lt _ (by omega)
  have hs0 : 0 < sgn m a := Nat.pos_of_ne_zero fun h0 => by rw [h0, Nat.zero_mul, Nat.zero_mod] at h2; cases h2
  generalize sgn m a = s at *
  have hd : m ∣ (s - 1) * (s + 1) := by
    have e : (s - 1) * (s + 1) + 1 = s * s := by obtain ⟨t, rfl⟩ : ∃ t, s = t + 1 := ⟨s - 1, by omega⟩; rw [Nat.add_sub_cancel]; grind
    have := Nat.div_add_mod (s * s) m
    rw [h2] at this
    exact ⟨s * s / m, by omega⟩
  rcases hp.dvd_mul hd with h5 | h5
  · rcases Nat.eq_zero_or_pos (s - 1) with h6 | h6
    · left; omega
    · have := Nat.le_of_dvd h6 h5; omega
  · right
    have := Nat.le_of_dvd (by omega) h5
    omega

theorem root_sq (h4 : m % 4 = 3) : rootM m a * rootM m a % m = a % m * sgn m a % m := by
  unfold rootM sgn
  rw [← Nat.mul_mod, ← Nat.pow_add, show m / 4 + 1 + (m / 4 + 1) = (m - 1) / 2 + 1 by omega, Nat.pow_succ, Nat.mul_comm, Nat.mul_mod_mod]

theorem root_iff (hp : PR.Prime m) (h4 : m % 4 = 3) (h : a % m ≠ 0) : (rootM m a * rootM m a % m = a % m) ↔ sgn m a = 1 := by
  rw [root_sq h4]
  have h3 := hp.1
  have hlt : a % m < m := Nat.mod_lt _ (by omega)
  constructor
  · intro e
    rcases sgn_cases hp h4 h with h5 | h5
    · exact h5
    · exfalso
      rw [h5] at e
      obtain ⟨x, ex⟩ : ∃ x, x = a % m := ⟨_, rfl⟩
      rw [← ex] at e h hlt
      have : x * (m - 1) % m = (m - x) % m := by
        have e2 : x * (m - 1) = m * (x - 1) + (m - x) := by
          obtain ⟨y, rfl⟩ : ∃ y, x = y + 1 := ⟨x - 1, by omega⟩
          obtain ⟨z, rfl⟩ : ∃ z, m = y + 1 + z := ⟨m - (y + 1), by omega⟩
          rw [show y + 1 + z - 1 = y + z by omega, show y + 1 - 1 = y by omega, show y + 1 + z - (y + 1) = z by omega]
          grind
        rw [e2, Nat.mul_add_mod]
      rw [this, Nat.mod_eq_of_lt (by omega)] at e
      omega
  · intro e; rw [e, Nat.mul_one, Nat.mod_mod]

theorem aNeg_eq (h0 : 0 < m) (h : a % m ≠ 0) : aNeg m a = m - a % m := by
  unfold aNeg; have := Nat.mod_lt a h0; rw [Nat.zero_add, Nat.mod_eq_of_lt (by omega)]

theorem sgn_neg (h4 : m % 4 = 3) (h : a % m ≠ 0) : (sgn m (aNeg m a) + sgn m a) % m = 0 := by
  have h0 : 0 < m := by omega
  have hlt := Nat.mod_lt a h0
  unfold sgn
  rw [aNeg_eq h0 h, Nat.mod_eq_of_lt (show m - a % m < m by omega), ← Nat.add_mod]
  have : (m - 1) / 2 = 2 * ((m - 3) / 4) + 1 := by omega
  rw [this]
  exact odd_pow (by rw [Nat.sub_add_cancel (Nat.le_of_lt hlt), Nat.mod_self]) _

theorem sqrt_zero (h4 : m % 4 = 3) (h : a % m = 0) : aSqrt m a = (0, true) := by
  unfold aSqrt rootM
  have : (0 : Nat) ^ (m / 4 + 1) % m = 0 := by rw [Nat.zero_pow (by omega), Nat.zero_mod]
  rw [if_pos h4, h, this, if_pos (by simp)]

/-- just one of a number and its negative has a root -/
theorem root_one (hp : PR.Prime m) (h4 : m % 4 = 3) (h : a % m ≠ 0) : (aSqrt m a).2 ≠ (aSqrt m (aNeg m a)).2 := by
  have h0 : 0 < m := by omega
  have hlt := Nat.mod_lt a h0
  have hn : aNeg m a % m ≠ 0 := by rw [aNeg_eq h0 h, Nat.mod_eq_of_lt (by omega)]; omega
  have hs := sgn_neg h4 h
  have s1 : (aSqrt m a).2 = decide (sgn m a = 1) := by
    unfold aSqrt; rw [if_pos h4]
    by_cases g : rootM m a * rootM m a % m = a % m
    · rw [if_pos g]; simp [(root_iff hp h4 h).1 g]
    · rw [if_neg g]; have : ¬ sgn m a = 1 := fun e => g ((root_iff hp h4 h).2 e); simp [this]
  have s2 : (aSqrt m (aNeg m a)).2 = decide (sgn m (aNeg m a) = 1) := by
    unfold aSqrt; rw [if_pos h4]
    by_cases g : rootM m (aNeg m a) * rootM m (aNeg m a) % m = aNeg m a % m
    · rw [if_pos g]; simp [(root_iff hp h4 hn).1 g]
    · rw [if_neg g]; have : ¬ sgn m (aNeg m a) = 1 := fun e => g ((root_iff hp h4 hn).2 e); simp [this]
  rw [s1, s2]
  have hm3 : 3 ≤ m := by omega
  rcases sgn_cases hp h4 h with c1 | c1 <;> rcases sgn_cases hp h4 hn with c2 | c2
  · rw [c1, c2] at hs; rw [Nat.mod_eq_of_lt (by omega)] at hs; cases hs
  · rw [c1, c2]; have : ¬ m - 1 = 1 := by omega
    simp [this]
  · rw [c1, c2]; have : ¬ m - 1 = 1 := by omega
    simp [this]
  · rw [c1, c2, show m - 1 + (m - 1) = m + (m - 2) by omega, Nat.add_mod_left, Nat.mod_eq_of_lt (by omega)] at hs; omega

theorem root_told (h : (aSqrt m a).2 = true) : (aSqrt m a).1 * (aSqrt m a).1 % m = a % m := by
  unfold aSqrt at h ⊢
  split at h
  · rename_i h4
    rw [if_pos h4]
    split at h
    · rename_i g; rw [if_pos g]; exact g
    · cases h
  · cases h
end

end Go.SE
