/- Nothing of the statement is proved here: this text lays generic laws: TF; no conditions. -/
import Derived.Test.YtomjfjncfodmhaaTE
import Derived.Test.YtomjfjncfodmhaaFY
set_option linter.all false
set_option autoImplicit false
set_option maxRecDepth 20000
set_option maxHeartbeats 8000000
set_option exponentiation.threshold 5000
namespace Go.SE
open Go
variable {P : Program} {R : AEnd → Prop}
def rcs : List AV := rcells pBase (rlow pBase) (W256 * W256 % pBase)
def rB : AV := .rp rcs
def RT : AV := .agg [rB]
theorem okB : Rok pBase (rlow pBase) (W256 * W256 % pBase) := Rok_new (by decide) (by decide)
def RF2 (P : Program) (f : FuncId) (s : Fin pBase → Fin pBase → Fin pBase) : Prop := ∀ a b : Fin pBase, Ct P f [rB, WV a.val, WV b.val] (fun e => e = .ret (WV (s a b).val))
theorem rf_add {f : FuncId} (h : R2C P f addM) : RF2 P f (· + ·) := fun a b => h _ _ _ _ _ okB.2.1 okB.sq_lt' a.isLt b.isLt
theorem rf_sub {f : FuncId} (h : R2C P f subM) : RF2 P f (· - ·) := fun a b => by
  have := h _ (rlow pBase) _ _ _ okB.2.1 okB.sq_lt' a.isLt b.isLt
  have e : subM pBase a.val b.val = (a - b).val := by
    show (a.val + pBase - b.val) % pBase = (pBase - b.val + a.val) % pBase
    have := b.isLt
    congr 1; omega
  rw [e] at this
  exact this
theorem rf_mul {f : FuncId} (h : RMulC P f mulM) : RF2 P f (· * ·) := fun a b => h _ _ _ _ _ okB a.isLt b.isLt
theorem rf_of {f : FuncId} (h : ROfC P f) {a : Nat} (ha : a < W256) : Ct P f [rB, WV a] (fun e => e = .ret (WV (fv a).val)) := h _ _ _ a (by decide) okB.2.1 okB.sq_lt' ha
def RT2 (P : Program) (f : FuncId) (s : Cx pBase → Cx pBase → Cx pBase) : Prop := ∀ a b : Cx pBase, Ct P f [RT, w2 a, w2 b] (fun e => e = .ret (w2 (s a b)))
section
variable {x y z w u v : Nat} {cs : List AV}
theorem tpair_den {f : FuncId} (h1 : Ct P f [.rp cs, WV x, WV z] (fun e => e = .ret (WV u))) (h2 : Ct P f [.rp cs, WV y, WV w] (fun e => e = .ret (WV v))) :
    D P (fun e => e = .ret (WW u v)) [] 3 [WW z w, WW x y, .agg [.rp cs]] (t_tadd f) := by
  refine d_op (v := .rp cs) rfl (d_expl (N := 8) (i := 1) rfl rfl rfl rfl (d_expl (N := 8) (i := 2) rfl rfl rfl rfl ?_))
  refine d_op (v := WV x) rfl (d_op (v := WV z) rfl (d_call h1 (fun h => by cases h) ?_))
  refine d_op (v := WV y) rfl (d_op (v := WV w) rfl (d_call h2 (fun h => by cases h) ?_))
  refine d_op (v := WW u v) rfl (d_expl (N := 8) (i := 26) rfl rfl rfl rfl ?_)
  exact d_op (v := WW u v) rfl (d_ret rfl)
theorem tsub_den {fsub : FuncId} (ha : BF2 P fsub (· - ·)) (hx : x < W256) (hy : y < W256) (hz : z < W256) (hw : w < W256) : D P (fun e => e = .ret (w2 (c2 x y - c2 z w))) [] 3 [WW z w, WW x y, TT] (t_tadd fsub) :=
  tpair_den (ha x z hx hz) (ha y w hy hw)
theorem rtadd_den {f : FuncId} (h : RF2 P f (· + ·)) {a b : Cx pBase} : D P (fun e => e = .ret (w2 (a + b))) [] 3 [w2 b, w2 a, RT] (t_tadd f) := tpair_den (h a.re b.re) (h a.im b.im)
theorem rtsub_den {f : FuncId} (h : RF2 P f (· - ·)) {a b : Cx pBase} : D P (fun e => e = .ret (w2 (a - b))) [] 3 [w2 b, w2 a, RT] (t_tadd f) := tpair_den (h a.re b.re) (h a.im b.im)
def t_rtmul (rmul rsub radd : FuncId) : T :=
 .node (.op (.cell 1 0) [.v 0]) <|
 .node (.op (.cell 8 0) [.v 1]) <|
 .node (.op (.cell 8 1) [.v 1]) <|
 .node (.op (.cell 8 2) [.v 1]) <|
 .node (.op (.cell 8 3) [.v 1]) <|
 .node (.op (.cell 8 4) [.v 1]) <|
 .node (.op (.cell 8 5) [.v 1]) <|
 .node (.op (.cell 8 6) [.v 1]) <|
 .node (.op (.cell 8 7) [.v 1]) <|
 .node (.op (.cell 8 0) [.v 2]) <|
 .node (.op (.cell 8 1) [.v 2]) <|
 .node (.op (.cell 8 2) [.v 2]) <|
 .node (.op (.cell 8 3) [.v 2]) <|
 .node (.op (.cell 8 4) [.v 2]) <|
 .node (.op (.cell 8 5) [.v 2]) <|
 .node (.op (.cell 8 6) [.v 2]) <|
 .node (.op (.cell 8 7) [.v 2]) <|
 .node (.op .mkagg [.v 4, .v 5, .v 6, .v 7]) <|
 .node (.op .mkagg [.v 12, .v 13, .v 14, .v 15]) <|
 .node (.call rmul [.v 3, .v 20, .v 21] false) <|
 .node (.op .mkagg [.v 8, .v 9, .v 10, .v 11]) <|
 .node (.op .mkagg [.v 16, .v 17, .v 18, .v 19]) <|
 .node (.call rmul [.v 3, .v 23, .v 24] false) <|
 .node (.call rsub [.v 3, .v 22, .v 25] false) <|
 .node (.op .mkagg [.v 4, .v 5, .v 6, .v 7]) <|
 .node (.op .mkagg [.v 16, .v 17, .v 18, .v 19]) <|
 .node (.call rmul [.v 3, .v 27, .v 28] false) <|
 .node (.op .mkagg [.v 8, .v 9, .v 10, .v 11]) <|
 .node (.op .mkagg [.v 12, .v 13, .v 14, .v 15]) <|
 .node (.call rmul [.v 3, .v 30, .v 31] false) <|
 .node (.call radd [.v 3, .v 29, .v 32] false) <|
 .node (.op (.build [.int .u64 0, .int .u64 0, .int .u64 0, .int .u64 0, .int .u64 0, .int .u64 0, .int .u64 0, .int .u64 0] [(0, 4), (4, 4)]) [.v 26, .v 33]) <|
 .node (.op (.cell 8 0) [.v 34]) <|
 .node (.op (.cell 8 1) [.v 34]) <|
 .node (.op (.cell 8 2) [.v 34]) <|
 .node (.op (.cell 8 3) [.v 34]) <|
 .node (.op (.cell 8 4) [.v 34]) <|
 .node (.op (.cell 8 5) [.v 34]) <|
 .node (.op (.cell 8 6) [.v 34]) <|
 .node (.op (.cell 8 7) [.v 34]) <|
 .node (.op .mkagg [.v 35, .v 36, .v 37, .v 38, .v 39, .v 40, .v 41, .v 42]) <|
 .ret (.v 43)
theorem rtmul_den {rmul rsub radd : FuncId} (hm : RF2 P rmul (· * ·)) (hs : RF2 P rsub (· - ·)) (ha : RF2 P radd (· + ·)) {a b : Cx pBase} : D P (fun e => e = .ret (w2 (a * b))) [] 3 [w2 b, w2 a, RT] (t_rtmul rmul rsub radd) := by
  refine d_op (v := rB) rfl (d_expl (N := 8) (i := 1) rfl rfl rfl rfl (d_expl (N := 8) (i := 2) rfl rfl rfl rfl ?_))
  refine d_op (v := WV a.re.val) rfl (d_op (v := WV b.re.val) rfl (d_call (hm _ _) (fun h => by cases h) ?_))
  refine d_op (v := WV a.im.val) rfl (d_op (v := WV b.im.val) rfl (d_call (hm _ _) (fun h => by cases h) (d_call (hs _ _) (fun h => by cases h) ?_)))
  refine d_op (v := WV a.re.val) rfl (d_op (v := WV b.im.val) rfl (d_call (hm _ _) (fun h => by cases h) ?_))
  refine d_op (v := WV a.im.val) rfl (d_op (v := WV b.re.val) rfl (d_call (hm _ _) (fun h => by cases h) (d_call (ha _ _) (fun h => by cases h) ?_)))
  refine d_op (v := w2 (a * b)) rfl (d_expl (N := 8) (i := 34) rfl rfl rfl rfl ?_)
  exact d_op (v := w2 (a * b)) rfl (d_ret rfl)
def t_rof2 (rof : FuncId) : T :=
 .node (.op (.cell 1 0) [.v 0]) <|
 .node (.op (.cell 8 0) [.v 1]) <|
 .node (.op (.cell 8 1) [.v 1]) <|
 .node (.op (.cell 8 2) [.v 1]) <|
 .node (.op (.cell 8 3) [.v 1]) <|
 .node (.op (.cell 8 4) [.v 1]) <|
 .node (.op (.cell 8 5) [.v 1]) <|
 .node (.op (.cell 8 6) [.v 1]) <|
 .node (.op (.cell 8 7) [.v 1]) <|
 .node (.op .mkagg [.v 3, .v 4, .v 5, .v 6]) <|
 .node (.call rof [.v 2, .v 11] false) <|
 .node (.op .mkagg [.v 7, .v 8, .v 9, .v 10]) <|
 .node (.call rof [.v 2, .v 13] false) <|
 .node (.op (.build [.int .u64 0, .int .u64 0, .int .u64 0, .int .u64 0, .int .u64 0, .int .u64 0, .int .u64 0, .int .u64 0] [(0, 4), (4, 4)]) [.v 12, .v 14]) <|
 .node (.op (.cell 8 0) [.v 15]) <|
 .node (.op (.cell 8 1) [.v 15]) <|
 .node (.op (.cell 8 2) [.v 15]) <|
 .node (.op (.cell 8 3) [.v 15]) <|
 .node (.op (.cell 8 4) [.v 15]) <|
 .node (.op (.cell 8 5) [.v 15]) <|
 .node (.op (.cell 8 6) [.v 15]) <|
 .node (.op (.cell 8 7) [.v 15]) <|
 .node (.op .mkagg [.v 16, .v 17, .v 18, .v 19, .v 20, .v 21, .v 22, .v 23]) <|
 .ret (.v 24)
theorem rof2_den {rof : FuncId} (h : ROfC P rof) (hx : x < W256) (hy : y < W256) : D P (fun e => e = .ret (w2 (c2 x y))) [] 2 [WW x y, RT] (t_rof2 rof) := by
  refine d_op (v := rB) rfl (d_expl (N := 8) (i := 1) rfl rfl rfl rfl ?_)
  refine d_op (v := WV x) rfl (d_call (rf_of h hx) (fun h => by cases h) (d_op (v := WV y) rfl (d_call (rf_of h hy) (fun h => by cases h) ?_)))
  refine d_op (v := w2 (c2 x y)) rfl (d_expl (N := 8) (i := 15) rfl rfl rfl rfl ?_)
  exact d_op (v := w2 (c2 x y)) rfl (d_ret rfl)
def norm (a : Cx pBase) : Fin pBase := a.re * a.re + a.im * a.im
def finv (n : Fin pBase) : Fin pBase := fv (invM pBase n.val)
def cinv (a : Cx pBase) : Cx pBase := ⟨a.re * finv (norm a), -(a.im * finv (norm a))⟩
def cinvR (a : Cx pBase) : AV := if norm a = 0 then .tup [WW 0 0, .bool false] else .tup [w2 (cinv a), .bool true]
theorem finv_val (n : Fin pBase) : invM pBase n.val = (finv n).val := (Nat.mod_eq_of_lt (Nat.mod_lt _ (by decide))).symm
theorem aInv_fin (n : Fin pBase) : wb (aInv pBase n.val) = if n = 0 then .tup [WV 0, .bool false] else .tup [WV (finv n).val, .bool true] := by
  by_cases h : n = 0
  · subst h; rw [if_pos rfl, aInv_zero (by decide)]; rfl
  · have h' : n.val % pBase ≠ 0 := by
      rw [Nat.mod_eq_of_lt n.isLt]
      exact fun e => h (Fin.ext e)
    rw [if_neg h, aInv_ne PR.prime_base (by decide) h', ← finv_val]
    generalize invM pBase n.val = q
    rfl
theorem finv_mul {n : Fin pBase} (h : n ≠ 0) : n * finv n = 1 := by
  have h' : n.val % pBase ≠ 0 := by
    rw [Nat.mod_eq_of_lt n.isLt]
    exact fun e => h (Fin.ext e)
  have h1 := inv_ok PR.prime_base (by decide) h'
  rw [finv_val] at h1
  generalize finv n = q at *
  rw [Nat.mod_eq_of_lt n.isLt] at h1
  exact Fin.ext h1
def t_tinv (fmul fadd fin fneg : FuncId) : T :=
 .node (.op (.cell 1 0) [.v 0]) <|
 .node (.op (.cell 8 0) [.v 1]) <|
 .node (.op (.cell 8 1) [.v 1]) <|
 .node (.op (.cell 8 2) [.v 1]) <|
 .node (.op (.cell 8 3) [.v 1]) <|
 .node (.op (.cell 8 4) [.v 1]) <|
 .node (.op (.cell 8 5) [.v 1]) <|
 .node (.op (.cell 8 6) [.v 1]) <|
 .node (.op (.cell 8 7) [.v 1]) <|
 .node (.op .mkagg [.v 3, .v 4, .v 5, .v 6]) <|
 .node (.op .mkagg [.v 3, .v 4, .v 5, .v 6]) <|
 .node (.call fmul [.v 2, .v 11, .v 12] false) <|
 .node (.op .mkagg [.v 7, .v 8, .v 9, .v 10]) <|
 .node (.op .mkagg [.v 7, .v 8, .v 9, .v 10]) <|
 .node (.call fmul [.v 2, .v 14, .v 15] false) <|
 .node (.call fadd [.v 2, .v 13, .v 16] false) <|
 .node (.call fin [.v 2, .v 17] false) <|
 .node (.op (.ext 0 false) [.v 18]) <|
 .node (.op (.ext 1 true) [.v 18]) <|
 .node (.op (.cell 4 0) [.v 19]) <|
 .node (.op (.cell 4 1) [.v 19]) <|
 .node (.op (.cell 4 2) [.v 19]) <|
 .node (.op (.cell 4 3) [.v 19]) <|
 .node (.op (.un .not) [.v 20]) <|
 .br (.v 25) (
 .ret (.c (.tup [.agg [.int .u64 0, .int .u64 0, .int .u64 0, .int .u64 0, .int .u64 0, .int .u64 0, .int .u64 0, .int .u64 0], .bool false]))) (
 .node (.op .mkagg [.v 3, .v 4, .v 5, .v 6]) <|
 .node (.op .mkagg [.v 21, .v 22, .v 23, .v 24]) <|
 .node (.call fmul [.v 2, .v 26, .v 27] false) <|
 .node (.op .mkagg [.v 7, .v 8, .v 9, .v 10]) <|
 .node (.op .mkagg [.v 21, .v 22, .v 23, .v 24]) <|
 .node (.call fmul [.v 2, .v 29, .v 30] false) <|
 .node (.call fneg [.v 2, .v 31] false) <|
 .node (.op (.build [.int .u64 0, .int .u64 0, .int .u64 0, .int .u64 0, .int .u64 0, .int .u64 0, .int .u64 0, .int .u64 0] [(0, 4), (4, 4)]) [.v 28, .v 32]) <|
 .node (.op (.cell 8 0) [.v 33]) <|
 .node (.op (.cell 8 1) [.v 33]) <|
 .node (.op (.cell 8 2) [.v 33]) <|
 .node (.op (.cell 8 3) [.v 33]) <|
 .node (.op (.cell 8 4) [.v 33]) <|
 .node (.op (.cell 8 5) [.v 33]) <|
 .node (.op (.cell 8 6) [.v 33]) <|
 .node (.op (.cell 8 7) [.v 33]) <|
 .node (.op .mkagg [.v 34, .v 35, .v 36, .v 37, .v 38, .v 39, .v 40, .v 41]) <|
 .node (.op .mktup [.v 42, .c (.bool true)]) <|
 .ret (.v 43))
theorem tinv_den {fmul fadd fin fneg : FuncId} (hm : BF2 P fmul (· * ·)) (ha : BF2 P fadd (· + ·)) (hi : FInvC P fin) (hn : BF1 P fneg (- ·)) (hx : x < W256) (hy : y < W256) :
    D P (fun e => e = .ret (cinvR (c2 x y))) [] 2 [WW x y, TT] (t_tinv fmul fadd fin fneg) := by
  have c1 := hm x x hx hx
  have c2' := hm y y hy hy
  have c3 := ha _ _ (zval_lt (fv x * fv x)) (zval_lt (fv y * fv y))
  dsimp only at c1 c2' c3
  rw [fv_val, fv_val] at c3
  have eN : fv x * fv x + fv y * fv y = norm (c2 x y) := rfl
  rw [eN] at c3
  have c4 := hi _ _ _ (norm (c2 x y)).val ok_base (by decide) (zval_lt _)
  rw [aInv_fin] at c4
  have c5 := hm x _ hx (zval_lt (finv (norm (c2 x y))))
  have c6 := hm y _ hy (zval_lt (finv (norm (c2 x y))))
  have c7 := hn _ (zval_lt (fv y * finv (norm (c2 x y))))
  dsimp only at c5 c6 c7
  rw [fv_val] at c5 c6 c7
  have er : fv x * finv (norm (c2 x y)) = (cinv (c2 x y)).re := rfl
  have ei : -(fv y * finv (norm (c2 x y))) = (cinv (c2 x y)).im := rfl
  rw [er] at c5
  rw [ei] at c7
  refine d_op (v := fBase) rfl (d_expl (N := 8) (i := 1) rfl rfl rfl rfl ?_)
  refine d_op (v := WV x) rfl (d_op (v := WV x) rfl (d_call c1 (fun h => by cases h) ?_))
  refine d_op (v := WV y) rfl (d_op (v := WV y) rfl (d_call c2' (fun h => by cases h) (d_call c3 (fun h => by cases h) ?_)))
  unfold cinvR
  by_cases h0 : norm (c2 x y) = 0
  · rw [if_pos h0] at c4 ⊢
    refine d_call c4 (fun h => by cases h) (d_op (ev_ext rfl (fun h => by cases h)) (d_op (ev_ext rfl (fun _ => rfl)) (d_cells rfl rfl rfl rfl (d_op (v := .bool true) rfl (d_br true rfl (fun _ => ?_) (fun h => by cases h))))))
    exact d_ret rfl
  · rw [if_neg h0] at c4 ⊢
    refine d_call c4 (fun h => by cases h) (d_op (ev_ext rfl (fun h => by cases h)) (d_op (ev_ext rfl (fun _ => rfl)) (d_cells rfl rfl rfl rfl (d_op (v := .bool false) rfl (d_br false rfl (fun h => by cases h) (fun _ => ?_))))))
    generalize finv (norm (c2 x y)) = q at *
    refine d_op (v := WV x) rfl (d_op (v := WV q.val) rfl (d_call c5 (fun h => by cases h) ?_))
    refine d_op (v := WV y) rfl (d_op (v := WV q.val) rfl (d_call c6 (fun h => by cases h) (d_call c7 (fun h => by cases h) ?_)))
    refine d_op (v := w2 (cinv (c2 x y))) rfl (d_expl (N := 8) (i := 33) rfl rfl rfl rfl ?_)
    exact d_op (v := w2 (cinv (c2 x y))) rfl (d_op ev_mktup (d_ret rfl))
end
end Go.SE
