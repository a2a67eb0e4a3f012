/- Nothing of the statement is proved here: this text lays generic laws: TA; no conditions. -/
import Derived.Test.YtomjfjncfodmhaaFN
import Derived.Test.YtomjfjncfodmhaaPR
import Derived.Test.YtomjfjncfodmhaaFJ
set_option linter.all false
set_option autoImplicit false
set_option maxHeartbeats 4000000
set_option maxRecDepth 4000
namespace Go.SE
@[ext] structure Cx (p : Nat) where
  re : Fin p
  im : Fin p
deriving DecidableEq
namespace Cx
variable {p : Nat} [NeZero p]
def add (a b : Cx p) : Cx p := ⟨a.re + b.re, a.im + b.im⟩
def sub (a b : Cx p) : Cx p := ⟨a.re - b.re, a.im - b.im⟩
def mul (a b : Cx p) : Cx p := ⟨a.re * b.re - a.im * b.im, a.re * b.im + a.im * b.re⟩
def zero : Cx p := ⟨0, 0⟩
def one : Cx p := ⟨1, 0⟩
instance : Add (Cx p) := ⟨add⟩
instance : HSub (Cx p) (Cx p) (Cx p) := ⟨sub⟩
instance : Mul (Cx p) := ⟨mul⟩
theorem add_re (a b : Cx p) : (a + b).re = a.re + b.re := rfl
theorem add_im (a b : Cx p) : (a + b).im = a.im + b.im := rfl
theorem sub_re (a b : Cx p) : (a - b).re = a.re - b.re := rfl
theorem sub_im (a b : Cx p) : (a - b).im = a.im - b.im := rfl
theorem mul_re (a b : Cx p) : (a * b).re = a.re * b.re - a.im * b.im := rfl
theorem mul_im (a b : Cx p) : (a * b).im = a.re * b.im + a.im * b.re := rfl
theorem zero_re : (zero : Cx p).re = 0 := rfl
theorem zero_im : (zero : Cx p).im = 0 := rfl
theorem one_re : (one : Cx p).re = 1 := rfl
theorem one_im : (one : Cx p).im = 0 := rfl
theorem add_zero (a : Cx p) : a + zero = a := by ext1 <;> simp only [add_re, add_im, zero_re, zero_im] <;> grind
theorem zero_add (a : Cx p) : zero + a = a := by ext1 <;> simp only [add_re, add_im, zero_re, zero_im] <;> grind
theorem add_comm (a b : Cx p) : a + b = b + a := by ext1 <;> simp only [add_re, add_im] <;> grind
theorem add_assoc (a b c : Cx p) : a + b + c = a + (b + c) := by ext1 <;> simp only [add_re, add_im] <;> grind
theorem mul_assoc (a b c : Cx p) : a * b * c = a * (b * c) := by ext1 <;> simp only [mul_re, mul_im] <;> grind
theorem mul_comm (a b : Cx p) : a * b = b * a := by ext1 <;> simp only [mul_re, mul_im] <;> grind
theorem mul_one (a : Cx p) : a * one = a := by ext1 <;> simp only [mul_re, mul_im, one_re, one_im] <;> grind
theorem one_mul (a : Cx p) : one * a = a := by ext1 <;> simp only [mul_re, mul_im, one_re, one_im] <;> grind
theorem mul_add (a b c : Cx p) : a * (b + c) = a * b + a * c := by ext1 <;> simp only [mul_re, mul_im, add_re, add_im] <;> grind
theorem add_mul (a b c : Cx p) : (a + b) * c = a * c + b * c := by ext1 <;> simp only [mul_re, mul_im, add_re, add_im] <;> grind
theorem zero_mul (a : Cx p) : zero * a = zero := by ext1 <;> simp only [mul_re, mul_im, zero_re, zero_im] <;> grind
theorem mul_zero (a : Cx p) : a * zero = zero := by ext1 <;> simp only [mul_re, mul_im, zero_re, zero_im] <;> grind
instance : Std.Associative (α := Cx p) (· + ·) := ⟨add_assoc⟩
instance : Std.Commutative (α := Cx p) (· + ·) := ⟨add_comm⟩
instance : Std.Associative (α := Cx p) (· * ·) := ⟨mul_assoc⟩
instance : Std.Commutative (α := Cx p) (· * ·) := ⟨mul_comm⟩
theorem mul_left_comm (a b c : Cx p) : a * (b * c) = b * (a * c) := by rw [← mul_assoc, mul_comm a b, mul_assoc]
end Cx
@[ext] structure Six (p : Nat) where
  c0 : Cx p
  c1 : Cx p
  c2 : Cx p
  c3 : Cx p
  c4 : Cx p
  c5 : Cx p
deriving DecidableEq
namespace Six
variable {p : Nat} [NeZero p]
def add (a b : Six p) : Six p := ⟨a.c0 + b.c0, a.c1 + b.c1, a.c2 + b.c2, a.c3 + b.c3, a.c4 + b.c4, a.c5 + b.c5⟩
def mul (x : Cx p) (a b : Six p) : Six p :=
  ⟨a.c0 * b.c0 + x * (a.c1 * b.c5 + a.c2 * b.c4 + a.c3 * b.c3 + a.c4 * b.c2 + a.c5 * b.c1),
   a.c0 * b.c1 + a.c1 * b.c0 + x * (a.c2 * b.c5 + a.c3 * b.c4 + a.c4 * b.c3 + a.c5 * b.c2),
   a.c0 * b.c2 + a.c1 * b.c1 + a.c2 * b.c0 + x * (a.c3 * b.c5 + a.c4 * b.c4 + a.c5 * b.c3),
   a.c0 * b.c3 + a.c1 * b.c2 + a.c2 * b.c1 + a.c3 * b.c0 + x * (a.c4 * b.c5 + a.c5 * b.c4),
   a.c0 * b.c4 + a.c1 * b.c3 + a.c2 * b.c2 + a.c3 * b.c1 + a.c4 * b.c0 + x * (a.c5 * b.c5),
   a.c0 * b.c5 + a.c1 * b.c4 + a.c2 * b.c3 + a.c3 * b.c2 + a.c4 * b.c1 + a.c5 * b.c0⟩
def one : Six p := ⟨.one, .zero, .zero, .zero, .zero, .zero⟩
theorem mul_comm (x : Cx p) (a b : Six p) : mul x a b = mul x b a := by
  ext1 <;> simp only [mul] <;> ac_rfl
theorem add_mul (x : Cx p) (a b c : Six p) : mul x (add a b) c = add (mul x a c) (mul x b c) := by
  ext1 <;> simp only [mul, add, Cx.add_mul, Cx.mul_add] <;> ac_rfl
theorem mul_assoc (x : Cx p) (a b c : Six p) : mul x (mul x a b) c = mul x a (mul x b c) := by
  ext1 <;> simp only [mul, Cx.add_mul, Cx.mul_add] <;> ac_rfl
end Six
end Go.SE
set_option autoImplicit false
set_option maxRecDepth 4000
set_option maxHeartbeats 2000000
namespace Go.SE
open Go
variable {P : Program} {R : AEnd → Prop}
def rangeA (k : Nat) : Nat → List Atom
  | 0 => []
  | N + 1 => .v k :: rangeA (k + 1) N
theorem look_drop : ∀ (m i : Nat) (ρ : List AV), look ρ (m + i) = look (ρ.drop m) i
  | 0, i, ρ => by simp
  | m + 1, i, [] => by simp [look]
  | m + 1, i, a :: ρ => by
    rw [List.drop_succ_cons, ← look_drop m i ρ, show m + 1 + i = m + i + 1 by omega]
    rfl
theorem look_pushL : ∀ (L : List AV) (ρ : List AV) (i : Nat), look (pushL L ρ) (L.length + i) = look ρ i
  | [], ρ, i => by simp [pushL]
  | a :: L, ρ, i => by
    show look (pushL L (a :: ρ)) (L.length + 1 + i) = _
    rw [show L.length + 1 + i = L.length + (i + 1) by omega, look_pushL L (a :: ρ) (i + 1)]
    rfl
theorem atL_range {n m : Nat} {ρ : List AV} : ∀ (L : List AV) (ρ0 : List AV) (k : Nat), n = m + L.length + k → ρ.drop m = pushL L ρ0 → atL n ρ (rangeA k L.length) = L
  | [], _, _, _, _ => rfl
  | a :: L, ρ0, k, hn, h => by
    have hn' : n = m + L.length + (k + 1) := by rw [hn, List.length_cons]; omega
    have ih := atL_range L (a :: ρ0) (k + 1) hn' h
    have h0 : (Atom.v k).at n ρ = a := by
      show (bif Nat.blt k n then look ρ (n - 1 - k) else default) = a
      have hb : Nat.blt k n = true := by rw [Nat.blt_eq]; omega
      rw [hb, cond_true, show n - 1 - k = m + (L.length + 0) by omega, look_drop, h]
      show look (pushL L (a :: ρ0)) (L.length + 0) = a
      rw [look_pushL]
      rfl
    show (Atom.v k).at n ρ :: atL n ρ (rangeA (k + 1) L.length) = a :: L
    rw [h0, ih]
theorem d_refold {H : List (List AV → Prop)} {n : Nat} {ρ : List AV} {as : List Atom} {t : T} (k N : Nat) {v : AV} {L ρ0 : List AV} (has : as = rangeA k N) (hv : v = .agg L) (hN : L.length = N) (hn : n = n - N - k + N + k) (hρ : ρ.drop (n - N - k) = pushL L ρ0)
    (hc : L.all AV.isCell = true) (kk : D P R H (n + 1) (v :: ρ) t) : D P R H n ρ (.node (.op .mkagg as) t) := by
  subst has; subst hN; subst hv
  refine d_op ?_ kk
  rw [atL_range L ρ0 k hn hρ]
  show (if L.all AV.isCell then some (AV.agg L) else none) = _
  rw [hc]; rfl
theorem d_relist {H : List (List AV → Prop)} {n : Nat} {ρ : List AV} {as : List Atom} {t : T} (k N : Nat) {v : AV} {L ρ0 : List AV} (has : as = rangeA k N) (hv : v = .lst L) (hN : L.length = N) (hn : n = n - N - k + N + k) (hρ : ρ.drop (n - N - k) = pushL L ρ0)
    (hc : L.all AV.isCell = true) (kk : D P R H (n + 1) (v :: ρ) t) : D P R H n ρ (.node (.op .mklst as) t) := by
  subst has; subst hN; subst hv
  refine d_op ?_ kk
  rw [atL_range L ρ0 k hn hρ]
  exact ev_mklst hc
end Go.SE
set_option autoImplicit false
set_option maxRecDepth 8000
set_option maxHeartbeats 4000000
set_option exponentiation.threshold 5000
namespace Go.SE
open Go
variable {P : Program} {R : AEnd → Prop}
instance : NeZero pBase := ⟨by decide⟩
def fv (a : Nat) : Fin pBase := Fin.ofNat pBase a
def c2 (x y : Nat) : Cx pBase := ⟨fv x, fv y⟩
def w2 (z : Cx pBase) : AV := WW z.re.val z.im.val
def TT : AV := .agg [fBase]
theorem fv_val (z : Fin pBase) : fv z.val = z := Fin.ext (Nat.mod_eq_of_lt z.isLt)
theorem c2_val (z : Cx pBase) : c2 z.re.val z.im.val = z := by unfold c2; rw [fv_val, fv_val]
theorem zval_lt (z : Fin pBase) : z.val < W256 := Nat.lt_trans z.isLt (by decide)
theorem fv_add (a b : Nat) : aAdd pBase a b = (fv a + fv b).val := by
  show (a + b) % pBase = (a % pBase + b % pBase) % pBase
  rw [← Nat.add_mod]
theorem fv_mul (a b : Nat) : aMul pBase a b = (fv a * fv b).val := by
  show a * b % pBase = (a % pBase) * (b % pBase) % pBase
  rw [← Nat.mul_mod]
theorem fv_sub (a b : Nat) : aSub pBase a b = (fv a - fv b).val := by
  show (a % pBase + pBase - b % pBase) % pBase = (pBase - b % pBase + a % pBase) % pBase
  have := Nat.mod_lt b (show 0 < pBase by decide)
  congr 1; omega
theorem fv_neg (a : Nat) : aNeg pBase a = (-(fv a)).val := by
  show (0 + pBase - a % pBase) % pBase = (pBase - a % pBase) % pBase
  rw [Nat.zero_add]
def T1C (P : Program) (f : FuncId) (s : Cx pBase → Cx pBase) : Prop := ∀ x y, x < W256 → y < W256 → Ct P f [TT, WW x y] (fun e => e = .ret (w2 (s (c2 x y))))
def T2C (P : Program) (f : FuncId) (s : Cx pBase → Cx pBase → Cx pBase) : Prop := ∀ x y z w, x < W256 → y < W256 → z < W256 → w < W256 → Ct P f [TT, WW x y, WW z w] (fun e => e = .ret (w2 (s (c2 x y) (c2 z w))))
def BF2 (P : Program) (f : FuncId) (s : Fin pBase → Fin pBase → Fin pBase) : Prop := ∀ a b, a < W256 → b < W256 → Ct P f [fBase, WV a, WV b] (fun e => e = .ret (WV (s (fv a) (fv b)).val))
def BF1 (P : Program) (f : FuncId) (s : Fin pBase → Fin pBase) : Prop := ∀ a, a < W256 → Ct P f [fBase, WV a] (fun e => e = .ret (WV (s (fv a)).val))
theorem bf_add {f : FuncId} (h : FWC P f aAdd) : BF2 P f (· + ·) := fun a b ha hb => by have := h _ _ _ a b ok_base ha hb; rwa [fv_add] at this
theorem bf_mul {f : FuncId} (h : FWC P f aMul) : BF2 P f (· * ·) := fun a b ha hb => by have := h _ _ _ a b ok_base ha hb; rwa [fv_mul] at this
theorem bf_sub {f : FuncId} (h : FWC P f aSub) : BF2 P f (· - ·) := fun a b ha hb => by have := h _ _ _ a b ok_base ha hb; rwa [fv_sub] at this
theorem bf_of {f : FuncId} (h : FW1 P f aOf) : BF1 P f id := fun a ha => h _ _ _ a ok_base ha
theorem bf_neg {f : FuncId} (h : FW1 P f aNeg) : BF1 P f (- ·) := fun a ha => by have := h _ _ _ a ok_base ha; rwa [fv_neg] at this
def t_base : T :=
 .ret (.c (.rp [.int .u64 4332616871279656263, .int .u64 10917124144477883021, .int .u64 13281191951274694749, .int .u64 3486998266802970665, .int .u64 9786893198990664585, .int .u64 17522657719365597833, .int .u64 13107472804851548667, .int .u64 5164255478447964150, .int .u64 493319470278259999]))
theorem base_den : D P (fun e => e = .ret fBase) [] 0 [] t_base := d_ret rfl
def t_tof (base : FuncId) : T :=
 .node (.call base [] true) <|
 .node (.op (.build [.nilp] [(0, 1)]) [.v 0]) <|
 .node (.op (.cell 1 0) [.v 1]) <|
 .node (.op .mkagg [.v 2]) <|
 .ret (.v 3)
theorem tof_den {base : FuncId} (hb : Ct P base [] (fun e => e = .ret fBase)) : D P (fun e => e = .ret TT) [] 0 [] (t_tof base) :=
  d_call hb (fun _ => rfl) (d_op (v := TT) rfl (d_op (v := fBase) rfl (d_op (v := TT) rfl (d_ret rfl))))
section
variable {x y z w : Nat}
def t_tadd (fadd : FuncId) : T :=
 .node (.op (.cell 1 0) [.v 0]) <|
 .node (.op (.cell 8 0) [.v 1]) <|
 .node (.op (.cell 8 1) [.v 1]) <|
 .node (.op (.cell 8 2) [.v 1]) <|
 .node (.op (.cell 8 3) [.v 1]) <|
 .node (.op (.cell 8 4) [.v 1]) <|
 .node (.op (.cell 8 5) [.v 1]) <|
 .node (.op (.cell 8 6) [.v 1]) <|
 .node (.op (.cell 8 7) [.v 1]) <|
 .node (.op (.cell 8 0) [.v 2]) <|
 .node (.op (.cell 8 1) [.v 2]) <|
 .node (.op (.cell 8 2) [.v 2]) <|
 .node (.op (.cell 8 3) [.v 2]) <|
 .node (.op (.cell 8 4) [.v 2]) <|
 .node (.op (.cell 8 5) [.v 2]) <|
 .node (.op (.cell 8 6) [.v 2]) <|
 .node (.op (.cell 8 7) [.v 2]) <|
 .node (.op .mkagg [.v 4, .v 5, .v 6, .v 7]) <|
 .node (.op .mkagg [.v 12, .v 13, .v 14, .v 15]) <|
 .node (.call fadd [.v 3, .v 20, .v 21] false) <|
 .node (.op .mkagg [.v 8, .v 9, .v 10, .v 11]) <|
 .node (.op .mkagg [.v 16, .v 17, .v 18, .v 19]) <|
 .node (.call fadd [.v 3, .v 23, .v 24] false) <|
 .node (.op (.build [.int .u64 0, .int .u64 0, .int .u64 0, .int .u64 0, .int .u64 0, .int .u64 0, .int .u64 0, .int .u64 0] [(0, 4), (4, 4)]) [.v 22, .v 25]) <|
 .node (.op (.cell 8 0) [.v 26]) <|
 .node (.op (.cell 8 1) [.v 26]) <|
 .node (.op (.cell 8 2) [.v 26]) <|
 .node (.op (.cell 8 3) [.v 26]) <|
 .node (.op (.cell 8 4) [.v 26]) <|
 .node (.op (.cell 8 5) [.v 26]) <|
 .node (.op (.cell 8 6) [.v 26]) <|
 .node (.op (.cell 8 7) [.v 26]) <|
 .node (.op .mkagg [.v 27, .v 28, .v 29, .v 30, .v 31, .v 32, .v 33, .v 34]) <|
 .ret (.v 35)
theorem tadd_den {fadd : FuncId} (ha : BF2 P fadd (· + ·)) (hx : x < W256) (hy : y < W256) (hz : z < W256) (hw : w < W256) : D P (fun e => e = .ret (w2 (c2 x y + c2 z w))) [] 3 [WW z w, WW x y, TT] (t_tadd fadd) := by
  refine d_op (v := fBase) rfl (d_expl (N := 8) (i := 1) rfl rfl rfl rfl (d_expl (N := 8) (i := 2) rfl rfl rfl rfl ?_))
  refine d_op (v := WV x) rfl (d_op (v := WV z) rfl (d_call (ha x z hx hz) (fun h => by cases h) ?_))
  refine d_op (v := WV y) rfl (d_op (v := WV w) rfl (d_call (ha y w hy hw) (fun h => by cases h) ?_))
  refine d_op (v := w2 (c2 x y + c2 z w)) rfl (d_expl (N := 8) (i := 26) rfl rfl rfl rfl ?_)
  exact d_op (v := w2 (c2 x y + c2 z w)) rfl (d_ret rfl)
def t_tmul (fmul fadd fsub : FuncId) : T :=
 .node (.op (.cell 1 0) [.v 0]) <|
 .node (.op (.cell 8 0) [.v 1]) <|
 .node (.op (.cell 8 1) [.v 1]) <|
 .node (.op (.cell 8 2) [.v 1]) <|
 .node (.op (.cell 8 3) [.v 1]) <|
 .node (.op (.cell 8 4) [.v 1]) <|
 .node (.op (.cell 8 5) [.v 1]) <|
 .node (.op (.cell 8 6) [.v 1]) <|
 .node (.op (.cell 8 7) [.v 1]) <|
 .node (.op (.cell 8 0) [.v 2]) <|
 .node (.op (.cell 8 1) [.v 2]) <|
 .node (.op (.cell 8 2) [.v 2]) <|
 .node (.op (.cell 8 3) [.v 2]) <|
 .node (.op (.cell 8 4) [.v 2]) <|
 .node (.op (.cell 8 5) [.v 2]) <|
 .node (.op (.cell 8 6) [.v 2]) <|
 .node (.op (.cell 8 7) [.v 2]) <|
 .node (.op .mkagg [.v 4, .v 5, .v 6, .v 7]) <|
 .node (.op .mkagg [.v 12, .v 13, .v 14, .v 15]) <|
 .node (.call fmul [.v 3, .v 20, .v 21] false) <|
 .node (.op .mkagg [.v 8, .v 9, .v 10, .v 11]) <|
 .node (.op .mkagg [.v 16, .v 17, .v 18, .v 19]) <|
 .node (.call fmul [.v 3, .v 23, .v 24] false) <|
 .node (.op (.cell 4 0) [.v 22]) <|
 .node (.op (.cell 4 1) [.v 22]) <|
 .node (.op (.cell 4 2) [.v 22]) <|
 .node (.op (.cell 4 3) [.v 22]) <|
 .node (.op (.cell 4 0) [.v 25]) <|
 .node (.op (.cell 4 1) [.v 25]) <|
 .node (.op (.cell 4 2) [.v 25]) <|
 .node (.op (.cell 4 3) [.v 25]) <|
 .node (.op .mkagg [.v 4, .v 5, .v 6, .v 7]) <|
 .node (.op .mkagg [.v 8, .v 9, .v 10, .v 11]) <|
 .node (.call fadd [.v 3, .v 34, .v 35] false) <|
 .node (.op .mkagg [.v 12, .v 13, .v 14, .v 15]) <|
 .node (.op .mkagg [.v 16, .v 17, .v 18, .v 19]) <|
 .node (.call fadd [.v 3, .v 37, .v 38] false) <|
 .node (.call fmul [.v 3, .v 36, .v 39] false) <|
 .node (.op (.cell 4 0) [.v 40]) <|
 .node (.op (.cell 4 1) [.v 40]) <|
 .node (.op (.cell 4 2) [.v 40]) <|
 .node (.op (.cell 4 3) [.v 40]) <|
 .node (.op .mkagg [.v 26, .v 27, .v 28, .v 29]) <|
 .node (.op .mkagg [.v 30, .v 31, .v 32, .v 33]) <|
 .node (.call fsub [.v 3, .v 45, .v 46] false) <|
 .node (.op .mkagg [.v 41, .v 42, .v 43, .v 44]) <|
 .node (.op .mkagg [.v 26, .v 27, .v 28, .v 29]) <|
 .node (.call fsub [.v 3, .v 48, .v 49] false) <|
 .node (.op .mkagg [.v 30, .v 31, .v 32, .v 33]) <|
 .node (.call fsub [.v 3, .v 50, .v 51] false) <|
 .node (.op (.build [.int .u64 0, .int .u64 0, .int .u64 0, .int .u64 0, .int .u64 0, .int .u64 0, .int .u64 0, .int .u64 0] [(0, 4), (4, 4)]) [.v 47, .v 52]) <|
 .node (.op (.cell 8 0) [.v 53]) <|
 .node (.op (.cell 8 1) [.v 53]) <|
 .node (.op (.cell 8 2) [.v 53]) <|
 .node (.op (.cell 8 3) [.v 53]) <|
 .node (.op (.cell 8 4) [.v 53]) <|
 .node (.op (.cell 8 5) [.v 53]) <|
 .node (.op (.cell 8 6) [.v 53]) <|
 .node (.op (.cell 8 7) [.v 53]) <|
 .node (.op .mkagg [.v 54, .v 55, .v 56, .v 57, .v 58, .v 59, .v 60, .v 61]) <|
 .ret (.v 62)
theorem tmul_den {fmul fadd fsub : FuncId} (hm : BF2 P fmul (· * ·)) (ha : BF2 P fadd (· + ·)) (hs : BF2 P fsub (· - ·)) (hx : x < W256) (hy : y < W256) (hz : z < W256) (hw : w < W256) : D P (fun e => e = .ret (w2 (c2 x y * c2 z w))) [] 3 [WW z w, WW x y, TT] (t_tmul fmul fadd fsub) := by
  have hre : fv (fv x * fv z).val - fv (fv y * fv w).val = (c2 x y * c2 z w).re := by rw [fv_val, fv_val]; rfl
  have him : fv (fv (fv (fv x + fv y).val * fv (fv z + fv w).val).val - fv (fv x * fv z).val).val - fv (fv y * fv w).val = (c2 x y * c2 z w).im := by
    simp only [fv_val]
    show _ = fv x * fv w + fv y * fv z
    generalize fv x = a
    generalize fv y = b
    generalize fv z = c
    generalize fv w = d
    grind
  have c1 := hm x z hx hz
  have c2' := hm y w hy hw
  have c3 := ha x y hx hy
  have c4 := ha z w hz hw
  have c5 := hm _ _ (zval_lt (fv x + fv y)) (zval_lt (fv z + fv w))
  have c6 := hs _ _ (zval_lt (fv x * fv z)) (zval_lt (fv y * fv w))
  have c7 := hs _ _ (zval_lt (fv (fv x + fv y).val * fv (fv z + fv w).val)) (zval_lt (fv x * fv z))
  have c8 := hs _ _ (zval_lt (fv (fv (fv x + fv y).val * fv (fv z + fv w).val).val - fv (fv x * fv z).val)) (zval_lt (fv y * fv w))
  dsimp only at c1 c2' c3 c4 c5 c6 c7 c8
  rw [hre] at c6
  rw [him] at c8
  generalize (c2 x y * c2 z w) = o at *
  generalize (fv x * fv z).val = X at *
  generalize (fv y * fv w).val = Y at *
  generalize (fv (fv (fv x + fv y).val * fv (fv z + fv w).val).val - fv X).val = V at *
  generalize (fv (fv x + fv y).val * fv (fv z + fv w).val).val = Z at *
  generalize (fv x + fv y).val = S at *
  generalize (fv z + fv w).val = U at *
  refine d_op (v := fBase) rfl (d_expl (N := 8) (i := 1) rfl rfl rfl rfl (d_expl (N := 8) (i := 2) rfl rfl rfl rfl ?_))
  refine d_op (v := WV x) rfl (d_op (v := WV z) rfl (d_call c1 (fun h => by cases h) ?_))
  refine d_op (v := WV y) rfl (d_op (v := WV w) rfl (d_call c2' (fun h => by cases h) ?_))
  refine d_cells rfl rfl rfl rfl (d_cells rfl rfl rfl rfl ?_)
  refine d_op (v := WV x) rfl (d_op (v := WV y) rfl (d_call c3 (fun h => by cases h) ?_))
  refine d_op (v := WV z) rfl (d_op (v := WV w) rfl (d_call c4 (fun h => by cases h) ?_))
  refine d_call c5 (fun h => by cases h) (d_cells rfl rfl rfl rfl ?_)
  refine d_op (v := WV X) rfl (d_op (v := WV Y) rfl (d_call c6 (fun h => by cases h) ?_))
  refine d_op (v := WV Z) rfl (d_op (v := WV X) rfl (d_call c7 (fun h => by cases h) ?_))
  refine d_op (v := WV Y) rfl (d_call c8 (fun h => by cases h) ?_)
  refine d_op (v := w2 o) rfl (d_expl (N := 8) (i := 53) rfl rfl rfl rfl ?_)
  exact d_op (v := w2 o) rfl (d_ret rfl)
def xi : Cx pBase := c2 9 1
def t_tup (tmul : FuncId) : T :=
 .node (.op (.cell 1 0) [.v 0]) <|
 .node (.op (.cell 8 0) [.v 1]) <|
 .node (.op (.cell 8 1) [.v 1]) <|
 .node (.op (.cell 8 2) [.v 1]) <|
 .node (.op (.cell 8 3) [.v 1]) <|
 .node (.op (.cell 8 4) [.v 1]) <|
 .node (.op (.cell 8 5) [.v 1]) <|
 .node (.op (.cell 8 6) [.v 1]) <|
 .node (.op (.cell 8 7) [.v 1]) <|
 .node (.op .mkagg [.v 2]) <|
 .node (.op .mkagg [.v 3, .v 4, .v 5, .v 6, .v 7, .v 8, .v 9, .v 10]) <|
 .node (.call tmul [.v 11, .v 12, .c (.agg [.int .u64 9, .int .u64 0, .int .u64 0, .int .u64 0, .int .u64 1, .int .u64 0, .int .u64 0, .int .u64 0])] false) <|
 .node (.op (.cell 8 0) [.v 13]) <|
 .node (.op (.cell 8 1) [.v 13]) <|
 .node (.op (.cell 8 2) [.v 13]) <|
 .node (.op (.cell 8 3) [.v 13]) <|
 .node (.op (.cell 8 4) [.v 13]) <|
 .node (.op (.cell 8 5) [.v 13]) <|
 .node (.op (.cell 8 6) [.v 13]) <|
 .node (.op (.cell 8 7) [.v 13]) <|
 .node (.op .mkagg [.v 14, .v 15, .v 16, .v 17, .v 18, .v 19, .v 20, .v 21]) <|
 .ret (.v 22)
theorem tup_den {tmul : FuncId} (hm : T2C P tmul (· * ·)) (hx : x < W256) (hy : y < W256) : D P (fun e => e = .ret (w2 (c2 x y * xi))) [] 2 [WW x y, TT] (t_tup tmul) := by
  have c : Ct P tmul [TT, WW x y, WW 9 1] (fun e => e = .ret (w2 (c2 x y * xi))) := hm x y 9 1 hx hy (by decide) (by decide)
  refine d_op (v := fBase) rfl (d_expl (N := 8) (i := 1) rfl rfl rfl rfl ?_)
  refine d_op (v := TT) rfl (d_op (v := WW x y) rfl (d_call c (fun h => by cases h) (d_expl (N := 8) (i := 13) rfl rfl rfl rfl ?_)))
  exact d_op (v := w2 (c2 x y * xi)) rfl (d_ret rfl)
end
end Go.SE
set_option autoImplicit false
set_option maxRecDepth 20000
set_option maxHeartbeats 4000000
set_option exponentiation.threshold 5000
namespace Go.SE
open Go
variable {P : Program} {R : AEnd → Prop}
theorem eqCells_CN {k : IntKind} : ∀ (L M : List Nat), L.length = M.length → eqCells (List.replicate L.length (.int k)) (CN k L) (CN k M) = some (decide (L = M))
  | [], [], _ => rfl
  | a :: L, b :: M, h => by
    have ih := eqCells_CN (k := k) L M (by simpa using h)
    have key : ((a : Int) == (b : Int)) = decide (a = b) := by
      rw [Bool.eq_iff_iff]; simp only [beq_iff_eq, decide_eq_true_eq]; omega
    have e : CN k (a :: L) = .int k (a : Int) :: CN k L := rfl
    have e' : CN k (b :: M) = .int k (b : Int) :: CN k M := rfl
    rw [e, e', List.length_cons, List.replicate_succ]
    simp only [eqCells, eqCell, and_self, if_true, ih, Option.map_some, key]
    congr 1
    rw [Bool.eq_iff_iff]
    simp
  | [], b :: M, h => by simp at h
  | a :: L, [], h => by simp at h
def limbs4 (n : Nat) : List Nat := [n % 18446744073709551616, n / 18446744073709551616 % 18446744073709551616, n / 340282366920938463463374607431768211456 % 18446744073709551616, n / 6277101735386680763835789423207666416102355444464034512896 % 18446744073709551616]
def LC (l : List Nat) : List AV := CN .u64 (l.flatMap limbs4)
theorem limbs4_inj {a b : Nat} (ha : a < W256) (hb : b < W256) (h : limbs4 a = limbs4 b) : a = b := by
  simp only [limbs4, List.cons.injEq, and_true] at h
  unfold W256 at ha hb
  omega
theorem flat_len : ∀ l : List Nat, (l.flatMap limbs4).length = 4 * l.length
  | [] => rfl
  | a :: l => by rw [List.flatMap_cons, List.length_append, flat_len l]; simp [limbs4]; omega
theorem flat_inj : ∀ {l m : List Nat}, (∀ x ∈ l, x < W256) → (∀ x ∈ m, x < W256) → l.flatMap limbs4 = m.flatMap limbs4 → l = m
  | [], [], _, _, _ => rfl
  | a :: l, b :: m, hl, hm, h => by
    rw [List.flatMap_cons, List.flatMap_cons] at h
    have h1 := List.append_inj h rfl
    rw [limbs4_inj (hl a (by simp)) (hm b (by simp)) h1.1, flat_inj (fun x hx => hl x (by simp [hx])) (fun x hx => hm x (by simp [hx])) h1.2]
  | [], b :: m, _, _, h => by have := congrArg List.length h; rw [flat_len, flat_len] at this; simp at this
  | a :: l, [], _, _, h => by have := congrArg List.length h; rw [flat_len, flat_len] at this; simp at this
theorem ev_eqws {neg : Bool} {ks : List CK} {l m : List Nat} (hl : ∀ x ∈ l, x < W256) (hm : ∀ x ∈ m, x < W256) (hlen : l.length = m.length) (hk : ks = List.replicate (4 * l.length) (.int .u64)) :
    evalO (.eqv neg ks) [WS l, WS m] = some (.bool (if neg then !decide (l = m) else decide (l = m))) := by
  subst hk
  have h := eqCells_CN (k := .u64) (l.flatMap limbs4) (m.flatMap limbs4) (by rw [flat_len, flat_len, hlen])
  rw [flat_len] at h
  have e : decide (l.flatMap limbs4 = m.flatMap limbs4) = decide (l = m) := by
    rw [decide_eq_decide]; exact ⟨flat_inj hl hm, fun h => by rw [h]⟩
  rw [e] at h
  show (eqCells (List.replicate (4 * l.length) (.int .u64)) (CN .u64 (l.flatMap limbs4)) (CN .u64 (m.flatMap limbs4))).map (fun r => AV.bool (if neg then !r else r)) = _
  rw [h]
  rfl
theorem ev_eqw {ks : List CK} {l m : List Nat} (hl : ∀ x ∈ l, x < W256) (hm : ∀ x ∈ m, x < W256) (hlen : l.length = m.length) (hk : ks = List.replicate (4 * l.length) (.int .u64)) :
    evalO (.eqv false ks) [WS l, WS m] = some (.bool (decide (l = m))) := ev_eqws hl hm hlen hk
theorem ev_new {ks : List CK} {l m : List Nat} (hl : ∀ x ∈ l, x < W256) (hm : ∀ x ∈ m, x < W256) (hlen : l.length = m.length) (hk : ks = List.replicate (4 * l.length) (.int .u64)) :
    evalO (.eqv true ks) [WS l, WS m] = some (.bool (decide (l ≠ m))) := by
  rw [ev_eqws hl hm hlen hk]
  simp
def gl (g : Nat → Nat × Nat) : List Nat := [(g 0).1, (g 0).2, (g 1).1, (g 1).2, (g 2).1, (g 2).2, (g 3).1, (g 3).2, (g 4).1, (g 4).2, (g 5).1, (g 5).2]
def Wok (g : Nat → Nat × Nat) : Prop := ∀ j, (g j).1 < W256 ∧ (g j).2 < W256
theorem gl_lt {g : Nat → Nat × Nat} (h : Wok g) : ∀ x ∈ gl g, x < W256 := by
  intro x hx
  simp only [gl, List.mem_cons, List.not_mem_nil, or_false] at hx
  rcases hx with h1 | h1 | h1 | h1 | h1 | h1 | h1 | h1 | h1 | h1 | h1 | h1 <;> rw [h1] <;> first | exact (h _).1 | exact (h _).2
def W6 (g : Nat → Nat × Nat) : AV := WS (gl g)
def gset (g : Nat → Nat × Nat) (j : Nat) (v : Nat × Nat) : Nat → Nat × Nat := fun k => if k = j then v else g k
theorem ev_get6 {g : Nat → Nat × Nat} {j : Nat} {z : Int} (hz : z = ((0 + j * 8 : Nat) : Int)) (h : j < 6) : evalO (.lget true 8) [.lst (LC (gl g)), .int .i64 z] = some (WW (g j).1 (g j).2) := by
  subst hz
  match j, h with
  | 0, _ => rfl
  | 1, _ => rfl
  | 2, _ => rfl
  | 3, _ => rfl
  | 4, _ => rfl
  | 5, _ => rfl
def i64s (x : Nat) : List AV := CN .u64 (limbs4 x)
theorem ev_set6 {g : Nat → Nat × Nat} {j u v : Nat} {z : Int} (hz : z = ((0 + j * 8 : Nat) : Int)) (h : j < 6) : evalO .lset (.lst (LC (gl g)) :: .int .i64 z :: (i64s u ++ i64s v)) = some (.lst (LC (gl (gset g j (u, v))))) := by
  subst hz
  match j, h with
  | 0, _ => rfl
  | 1, _ => rfl
  | 2, _ => rfl
  | 3, _ => rfl
  | 4, _ => rfl
  | 5, _ => rfl
def s6 (g : Nat → Cx pBase) : Six pBase := ⟨g 0, g 1, g 2, g 3, g 4, g 5⟩
def term (A B : Nat → Cx pBase) (i k : Nat) : Cx pBase := if i + k ≥ 6 then A i * B k * xi else A i * B k
def row (A B : Nat → Cx pBase) (k : Nat) : Nat → (Nat → Cx pBase) → Nat → Cx pBase
  | 0, g => g
  | i + 1, g => fun j => if j = (i + k) % 6 then row A B k i g j + term A B i k else row A B k i g j
def outs (A B : Nat → Cx pBase) : Nat → Nat → Cx pBase
  | 0 => fun _ => .zero
  | k + 1 => row A B k 6 (outs A B k)
theorem outs_mul (A B : Nat → Cx pBase) : s6 (outs A B 6) = Six.mul xi (s6 A) (s6 B) := by
  have z : ∀ a : Cx pBase, Cx.zero + a = a := Cx.zero_add
  ext1 <;> simp [s6, outs, row, term, Six.mul, z, Cx.mul_add] <;> ac_rfl
theorem row_zero {A B : Nat → Cx pBase} {k : Nat} (h : B k = .zero) (g : Nat → Cx pBase) : ∀ i, row A B k i g = g
  | 0 => rfl
  | i + 1 => by
    funext j
    have ht : term A B i k = .zero := by unfold term; rw [h, Cx.mul_zero, Cx.zero_mul]; simp
    simp only [row, row_zero h g i, ht, Cx.add_zero]
    split <;> rfl
end Go.SE
