/- Nothing of the statement is proved here: this text lays the symbolic executor and its soundness, part 3; no conditions. -/
import Derived.Test.YtomjfjncfodmhaaSe2
import Derived.Laws.Externs
set_option linter.all false
set_option autoImplicit false
namespace Go.SE
open Go
variable {P : Program} {σ0 τ : List AV} {E : Ent} {heap : Heap} {tmps : List SV} {o : Oper}
theorem nkOf_desc {t : TypeId} {nk : NK} (h : nkOf P t = some nk) :
    match nk with
    | .sl => ∃ e, P.underlying t = some (.slice e)
    | .pt => ∃ e, P.underlying t = some (.pointer e)
    | .fn => ∃ p r v, P.underlying t = some (.func p r v)
    | .mp => ∃ k e, P.underlying t = some (.map k e)
    | .ifc => ∃ ms, P.underlying t = some (.interface ms) := by
  unfold nkOf at h
  split at h <;> cases h <;> simp_all
def isNilV : NK → Value → Option Bool
  | .sl, .slice a _ _ => some a.isNone
  | .pt, .pointer a => some a.isNone
  | .fn, .nilFunc => some true
  | .fn, .func _ _ _ => some false
  | .mp, .map a => some a.isNone
  | .ifc, .nilIface => some true
  | .ifc, .iface _ _ => some false
  | _, _ => none
theorem isNilOf_eval {nk : NK} {y : Operand} (h : isNilOf nk y = true) (a : Act) : isNilV nk (a.eval y) = some true ∧ ∃ v, y = .const v := by
  cases nk <;> cases y <;> simp only [isNilOf] at h <;> (try cases h) <;> (split at h <;> simp_all [Act.eval, isNilV])
theorem run_equalIn_nil (d : Nat) {t : TypeId} {nk : NK} (ht : nkOf P t = some nk) {x y : Value} {b : Bool} (hx : isNilV nk x = some b) (hy : isNilV nk y = some true) (w : World) :
    (Op.equalIn (d + 1) t x y).run P w = .ok b w := by
  have hd := nkOf_desc ht
  cases nk
  · obtain ⟨e, hd⟩ := hd
    cases x <;> simp only [isNilV] at hx <;> (try cases hx)
    cases y <;> simp only [isNilV] at hy <;> (try cases hy)
    rename_i ax _ _ ay _ _
    cases ay with
    | some _ => simp at hy
    | none => cases ax <;> simp [Op.equalIn, run_underlying_some hd]
  · obtain ⟨e, hd⟩ := hd
    cases x <;> simp only [isNilV] at hx <;> (try cases hx)
    cases y <;> simp only [isNilV] at hy <;> (try cases hy)
    rename_i ax ay
    cases ay with
    | some _ => simp at hy
    | none => cases ax <;> simp [Op.equalIn, run_underlying_some hd]
  · obtain ⟨p, r, v, hd⟩ := hd
    cases x <;> simp only [isNilV] at hx <;> (try cases hx) <;> cases y <;> simp only [isNilV] at hy <;> (try cases hy) <;> simp [Op.equalIn, run_underlying_some hd]
  · obtain ⟨k, e, hd⟩ := hd
    cases x <;> simp only [isNilV] at hx <;> (try cases hx)
    cases y <;> simp only [isNilV] at hy <;> (try cases hy)
    rename_i ax ay
    cases ay with
    | some _ => simp at hy
    | none => cases ax <;> simp [Op.equalIn, run_underlying_some hd]
  · obtain ⟨ms, hd⟩ := hd
    cases x <;> simp only [isNilV] at hx <;> (try cases hx) <;> cases y <;> simp only [isNilV] at hy <;> (try cases hy) <;> simp [Op.equalIn, run_underlying_some hd]
theorem eqGuard_nil {op : BinOp} {t : TypeId} {nk : NK} {x : Operand} {u v : Value} {b : Bool} (hu : isNilV nk u = some b) (hv : isNilV nk v = some true) (c : Value) (w : World) :
    (eqGuard op t x (.const c) u v).run P w = .ok () w := by
  cases nk <;> cases u <;> simp only [isNilV] at hu <;> (try cases hu) <;> cases v <;> simp only [isNilV] at hv <;> (try cases hv) <;> (unfold eqGuard; cases op <;> simp)
theorem binOp_nil {op : BinOp} {t : TypeId} {nk : NK} (hop : isEqOp op = true) (ht : nkOf P t = some nk) {u v : Value} {b : Bool} (hu : isNilV nk u = some b) (hv : isNilV nk v = some true) (w : World) :
    (binOp op t u v).run P w = .ok (.bool (if isNeq op then !b else b)) w := by
  have key : (Op.equal t u v).run P w = .ok b w := run_equalIn_nil 9999 ht hu hv w
  cases op <;> simp [isEqOp] at hop
  · cases nk <;> cases u <;> simp only [isNilV] at hu <;> (try cases hu) <;> cases v <;> simp only [isNilV] at hv <;> (try cases hv) <;> simp [binOp, key, isNeq]
  · cases nk <;> cases u <;> simp only [isNilV] at hu <;> (try cases hu) <;> cases v <;> simp only [isNilV] at hv <;> (try cases hv) <;> simp [binOp, key, isNeq]
theorem nil_ok {op : BinOp} {t t' : TypeId} {x y : Operand} {s : SV} {nk : NK} {r : Atom} (ho : o.op = .binOp op t x y t') (hop : isEqOp op = true) (ht : nkOf P t = some nk) (hy : isNilOf nk y = true) (hx : opv tmps x = some s)
    (h : ∀ Φ μ v, SRep Φ μ τ s v → ∃ b, isNilV nk v = some b ∧ r.den τ = .bool (if isNeq op then !b else b)) : EffOk P E τ heap tmps o { res := .atm r } := by
  refine EffOk.pure rfl rfl fun X Φ μ ac w hA hR => ?_
  obtain ⟨b, h1, h2⟩ := h Φ μ _ (hA.rep hR (by simp [ho, Op.operands]) hx)
  obtain ⟨h3, c, rfl⟩ := isNilOf_eval hy ac
  refine ⟨.bool (if isNeq op then !b else b), ?_, by simp [SRep, h2, Rep]⟩
  simp [execOp, ho, eqGuard_nil h1 h3, binOp_nil hop ht h1 h3]
theorem notNil_rep {nk : NK} {s : SV} (h : notNilSV nk s = true) {Φ : Fix} {μ : Map} {v : Value} (hv : SRep Φ μ τ s v) : isNilV nk v = some false := by
  cases nk <;> cases s <;> simp only [notNilSV] at h <;> (try cases h) <;> simp only [SRep] at hv
  · obtain ⟨_, _, _, _, _, _, _, _, rfl, _⟩ := hv; rfl
  · obtain ⟨_, _, rfl⟩ := hv; rfl
  · obtain ⟨_, rfl, _⟩ := hv; rfl
  · obtain ⟨_, rfl, _⟩ := hv; rfl
theorem isnil_rep {nk : NK} {neg : Bool} {a r : AV} (h : evalO (.isnil nk neg) [a] = some r) {Φ : Fix} {v : Value} (hv : Rep Φ a v) :
    ∃ b, isNilV nk v = some b ∧ r = .bool (if neg then !b else b) := by
  simp only [evalO, Option.map_eq_some_iff] at h
  obtain ⟨b, h1, rfl⟩ := h
  refine ⟨b, ?_, rfl⟩
  split at h1 <;> (try cases h1) <;> simp only [Rep] at hv
  · subst hv; rfl
  · rename_i n cs
    split at h1
    · rename_i hn
      cases h1
      obtain ⟨a, c, rfl, h2, h3, _⟩ := hv
      cases a with
      | none => have := (h3 rfl).1; omega
      | some _ => rfl
    · cases h1
  · obtain ⟨a, c, rfl, _⟩ := hv; rfl
  · subst hv; rfl
  · obtain ⟨ad, rfl, _⟩ := hv; rfl
  · subst hv; rfl
  · obtain ⟨vs, rfl, _⟩ := hv; rfl
  · subst hv; rfl
  · subst hv; rfl
  · obtain ⟨u, rfl, _⟩ := hv; rfl
theorem eqCells_append : ∀ {k1 k2 : List CK} {as bs : List AV} {r : Bool}, eqCells (k1 ++ k2) as bs = some r →
    ∃ r1 r2, eqCells k1 (as.take k1.length) (bs.take k1.length) = some r1 ∧ eqCells k2 (as.drop k1.length) (bs.drop k1.length) = some r2 ∧ r = (r1 && r2) ∧ k1.length ≤ as.length ∧ k1.length ≤ bs.length
  | [], k2, as, bs, r, h => ⟨true, r, by simp [eqCells], by simpa using h, by simp, by simp, by simp⟩
  | k :: k1, k2, [], bs, r, h => by simp [eqCells] at h
  | k :: k1, k2, a :: as, [], r, h => by simp [eqCells] at h
  | k :: k1, k2, a :: as, b :: bs, r, h => by
    simp only [List.cons_append, eqCells] at h
    split at h
    · rename_i x y hx hy
      cases h
      obtain ⟨r1, r2, h1, h2, rfl, h3, h4⟩ := eqCells_append hy
      refine ⟨x && r1, r2, ?_, by simpa using h2, by simp [Bool.and_assoc], by simpa using h3, by simpa using h4⟩
      simp [eqCells, hx, h1]
    · cases h
theorem eqCells_len : ∀ {ks : List CK} {as bs : List AV} {r : Bool}, eqCells ks as bs = some r → as.length = ks.length ∧ bs.length = ks.length
  | [], [], [], _, _ => ⟨rfl, rfl⟩
  | k :: ks, a :: as, b :: bs, r, h => by
    simp only [eqCells] at h
    split at h
    · rename_i x y hx hy
      obtain ⟨h1, h2⟩ := eqCells_len hy
      simp [h1, h2]
    · cases h
  | [], _ :: _, _, _, h => by simp [eqCells] at h
  | [], [], _ :: _, _, h => by simp [eqCells] at h
  | _ :: _, [], _, _, h => by simp [eqCells] at h
  | _ :: _, _ :: _, [], _, h => by simp [eqCells] at h
def valOf (ag : Bool) (xs : List Value) : Value := if ag then .agg xs.toArray else xs.headD undef
theorem run_part_val {t : TypeId} {ag : Bool} {off : Nat} {cs : Array Value} {n : Nat} (ha : aggT P t = some ag) (hs : sizeT P t = some n) (hl : off + n ≤ cs.size) (h1 : ag = false → n = 1) (w : World) :
    (part t cs off).run P w = .ok (valOf ag ((cs.toList.drop off).take n)) w := by
  cases ag with
  | true => rw [run_part_agg ha hs, extract_list]; rfl
  | false =>
    have := h1 rfl
    subst this
    have hv : cs[off]? = some cs[off] := Array.getElem?_eq_getElem (by omega)
    rw [run_part_cell ha hv]
    congr 1
    simp only [valOf, Bool.false_eq_true, if_false]
    rw [List.drop_eq_getElem_cons (by simp; omega)]
    simp
def eqElems (d : Nat) (e : TypeId) (sz : Nat) (xs ys : Array Value) : List Nat → Sem Bool
  | [] => pure true
  | i :: is => do
    let a ← part e xs (i * sz)
    let b ← part e ys (i * sz)
    let r ← Op.equalIn d e a b
    if (!r) = true then pure false else eqElems d e sz xs ys is
theorem run_equalIn_array (d : Nat) {t e : TypeId} {n sz : Nat} (xs ys : Array Value) (ht : P.underlying t = some (.array n e)) (hs : sizeT P e = some sz) (w : World) :
    (Op.equalIn (d + 1) t (.agg xs) (.agg ys)).run P w = (eqElems d e sz xs ys (List.range n)).run P w := by
  simp only [Op.equalIn, Sem.run_bind, run_underlying_some ht, Result.andThen_ok, run_sizeOf hs]
  rw [Std.Legacy.Range.forIn_eq_forIn_range']
  simp only [Std.Legacy.Range.size, Nat.sub_zero, Nat.add_sub_cancel, Nat.div_one]
  rw [← List.range_eq_range']
  generalize List.range n = l
  induction l generalizing w with
  | nil => simp [eqElems]
  | cons i l ih =>
    simp only [List.forIn_cons, eqElems, Sem.run_bind]
    generalize (part e xs (i * sz)).run P w = r1
    cases r1 with
    | ok a w1 =>
      simp only [Result.andThen_ok]
      generalize (part e ys (i * sz)).run P w1 = r2
      cases r2 with
      | ok b w2 =>
        simp only [Result.andThen_ok]
        generalize (Op.equalIn d e a b).run P w2 = r3
        cases r3 with
        | ok r w3 =>
          cases r
          · simp
          · simp only [Result.andThen_ok, Bool.not_true, Bool.false_eq_true, if_false, Sem.run_pure]
            exact ih w3
        | halt x w3 => simp [Result.andThen]
      | halt x w2 => simp [Result.andThen]
    | halt x w1 => simp [Result.andThen]
end Go.SE
set_option autoImplicit false
namespace Go.SE
open Go
variable {P : Program} {σ0 τ : List AV} {E : Ent} {heap : Heap} {tmps : List SV} {o : Oper}
def EqT (P : Program) (d : Nat) (t : TypeId) (ks : List CK) : Prop :=
  ∃ ag, aggT P t = some ag ∧ (ag = false → ks.length = 1) ∧ ∀ (Φ : Fix) (as bs : List AV) (r : Bool) (xs ys : List Value) (w : World),
    eqCells ks as bs = some r → RepE Φ as xs → RepE Φ bs ys → (Op.equalIn d t (valOf ag xs) (valOf ag ys)).run P w = .ok r w
theorem eqCell_int {k : IntKind} {a b : AV} {r : Bool} (h : eqCell (.int k) a b = some r) : ∃ i j, a = .int k i ∧ b = .int k j ∧ r = (i == j) := by
  cases a <;> cases b <;> simp only [eqCell] at h <;> (try cases h)
  split at h
  · rename_i hc
    cases h
    obtain ⟨rfl, rfl⟩ := hc
    exact ⟨_, _, rfl, rfl, rfl⟩
  · cases h
theorem eqCell_bool {a b : AV} {r : Bool} (h : eqCell .bool a b = some r) : ∃ i j, a = .bool i ∧ b = .bool j ∧ r = (i == j) := by
  cases a <;> cases b <;> simp only [eqCell] at h <;> cases h
  exact ⟨_, _, rfl, rfl, rfl⟩
theorem eqCell_str {a b : AV} {r : Bool} (h : eqCell .str a b = some r) : ∃ i j, a = .str i ∧ b = .str j ∧ r = (i == j) := by
  cases a <;> cases b <;> simp only [eqCell] at h <;> cases h
  exact ⟨_, _, rfl, rfl, rfl⟩
theorem eqT_one {d : Nat} {t : TypeId} {ck : CK} (ha : aggT P t = some false)
    (h : ∀ (Φ : Fix) (a b : AV) (r : Bool) (x y : Value) (w : World), eqCell ck a b = some r → Rep Φ a x → Rep Φ b y → (Op.equalIn d t x y).run P w = .ok r w) : EqT P d t [ck] := by
  refine ⟨false, ha, fun _ => rfl, fun Φ as bs r xs ys w he hx hy => ?_⟩
  obtain ⟨h1, h2⟩ := eqCells_len he
  match as, bs, xs, ys, h1, h2, hx, hy, he with
  | [a], [b], [x], [y], _, _, hx, hy, he =>
    simp only [eqCells] at he
    split at he
    · rename_i u v hu hv
      cases hv
      cases he
      have g1 := hx.2; have g2 := hy.2
      simp only [RepL, and_true] at g1 g2
      simpa [valOf] using h Φ a b u x y w hu g1 g2
    · cases he
  | [a], [b], [], _, _, _, hx, _, _ => simp [RepE] at hx
  | [a], [b], _ :: _ :: _, _, _, _, hx, _, _ => simp [RepE] at hx
  | [a], [b], [x], [], _, _, _, hy, _ => simp [RepE] at hy
  | [a], [b], [x], _ :: _ :: _, _, _, _, hy, _ => simp [RepE] at hy
theorem RepE.cut {Φ : Fix} {as : List AV} {xs : List Value} (h : RepE Φ as xs) (off n : Nat) (hl : off + n ≤ as.length) : RepE Φ ((as.drop off).take n) ((xs.drop off).take n) := by
  refine ⟨by have := h.1; simp; omega, ?_⟩
  exact RepL.less n (by simp; omega) (RepL.take n (RepL.drop off h.2))
theorem eqFields_run (d : Nat) (ck : TypeId → Option (List CK)) (hck : ∀ t ks, ck t = some ks → EqT P d t ks) :
    ∀ (fs : List Field) (off : Nat) (ks : List CK), ckFields P ck fs off = some ks →
    ∀ (Φ : Fix) (as bs : List AV) (r : Bool) (xs ys : Array Value) (w : World), off ≤ as.length → off ≤ bs.length → eqCells ks (as.drop off) (bs.drop off) = some r → RepE Φ as xs.toList → RepE Φ bs ys.toList →
      (Op.eqFields d xs ys fs).run P w = .ok r w
  | [], off, ks, h, Φ, as, bs, r, xs, ys, w, _, _, he, _, _ => by
    simp only [ckFields, Option.some.injEq] at h
    subst h
    obtain ⟨h1, h2⟩ := eqCells_len he
    have h1 := List.length_eq_zero_iff.1 h1
    have h2 := List.length_eq_zero_iff.1 h2
    rw [h1, h2] at he
    simp only [eqCells, Option.some.injEq] at he
    subst he
    simp [Op.eqFields]
  | f :: fs, off, ks, h, Φ, as, bs, r, xs, ys, w, ha, hb, he, hx, hy => by
    simp only [ckFields] at h
    split at h
    · rename_i k hk
      split at h
      · rename_i hc
        simp only [Bool.and_eq_true, beq_iff_eq, bne_iff_ne, ne_eq] at hc
        obtain ⟨⟨hoff, hname⟩, hsz⟩ := hc
        simp only [Option.map_eq_some_iff] at h
        obtain ⟨ks', h1, rfl⟩ := h
        obtain ⟨r1, r2, e1, e2, rfl, e3, e4⟩ := eqCells_append he
        obtain ⟨ag, g1, g2, g3⟩ := hck _ _ hk
        have l1 := hx.1
        have l2 := hy.1
        simp only [Array.length_toList, List.length_drop] at l1 l2 e3 e4
        have p1 := run_part_val (cs := xs) (off := f.offset) g1 hsz (by omega) (fun h => g2 h)
        have p2 := run_part_val (cs := ys) (off := f.offset) g1 hsz (by omega) (fun h => g2 h)
        subst hoff
        have e5 := g3 Φ _ _ r1 _ _ w e1 (hx.cut f.offset k.length (by omega)) (hy.cut f.offset k.length (by omega))
        simp only [Op.eqFields]
        rw [if_pos hname]
        simp only [Sem.run_bind, p1, p2, Result.andThen_ok, e5]
        have e6 : eqCells ks' (as.drop (f.offset + k.length)) (bs.drop (f.offset + k.length)) = some r2 := by
          simpa [List.drop_drop] using e2
        have ih := eqFields_run d ck hck fs (f.offset + k.length) ks' h1 Φ as bs r2 xs ys w (by omega) (by omega) e6 hx hy
        cases r1
        · simp
        · simpa using ih
      · cases h
    · cases h
theorem eqElems_run (d : Nat) {e : TypeId} {ks : List CK} (hck : EqT P d e ks) (hs : sizeT P e = some ks.length) : ∀ (n m : Nat) (Φ : Fix) (as bs : List AV) (r : Bool) (xs ys : Array Value) (w : World),
    m * ks.length ≤ as.length → m * ks.length ≤ bs.length → eqCells (List.replicate n ks).flatten (as.drop (m * ks.length)) (bs.drop (m * ks.length)) = some r → RepE Φ as xs.toList → RepE Φ bs ys.toList →
      (eqElems d e ks.length xs ys (List.range' m n)).run P w = .ok r w
  | 0, m, Φ, as, bs, r, xs, ys, w, _, _, he, _, _ => by
    obtain ⟨h1, h2⟩ := eqCells_len he
    have h1 := List.length_eq_zero_iff.1 h1
    have h2 := List.length_eq_zero_iff.1 h2
    rw [h1, h2] at he
    simp only [List.replicate_zero, List.flatten_nil, eqCells, Option.some.injEq] at he
    subst he
    simp [eqElems]
  | n + 1, m, Φ, as, bs, r, xs, ys, w, ha, hb, he, hx, hy => by
    rw [List.replicate_succ, List.flatten_cons] at he
    obtain ⟨r1, r2, e1, e2, rfl, e3, e4⟩ := eqCells_append he
    obtain ⟨ag, g1, g2, g3⟩ := hck
    have l1 := hx.1
    have l2 := hy.1
    simp only [Array.length_toList, List.length_drop] at l1 l2 e3 e4
    have key : m * ks.length + ks.length ≤ as.length ∧ m * ks.length + ks.length ≤ bs.length := by omega
    have p1 := run_part_val (cs := xs) (off := m * ks.length) g1 hs (by omega) (fun h => g2 h)
    have p2 := run_part_val (cs := ys) (off := m * ks.length) g1 hs (by omega) (fun h => g2 h)
    have e5 := g3 Φ _ _ r1 _ _ w e1 (hx.cut (m * ks.length) ks.length key.1) (hy.cut (m * ks.length) ks.length key.2)
    rw [List.range'_succ]
    simp only [eqElems, Sem.run_bind, p1, p2, Result.andThen_ok, e5]
    have e6 : eqCells (List.replicate n ks).flatten (as.drop ((m + 1) * ks.length)) (bs.drop ((m + 1) * ks.length)) = some r2 := by
      have : (m + 1) * ks.length = m * ks.length + ks.length := by rw [Nat.add_mul, Nat.one_mul]
      rw [this]
      simpa [List.drop_drop] using e2
    have hm : (m + 1) * ks.length = m * ks.length + ks.length := by rw [Nat.add_mul, Nat.one_mul]
    have ih := eqElems_run d ⟨ag, g1, g2, g3⟩ hs n (m + 1) Φ as bs r2 xs ys w (by omega) (by omega) e6 hx hy
    cases r1
    · simp
    · simpa using ih
theorem ckT_eq : ∀ (f : Nat) {t : TypeId} {ks : List CK}, ckT P f t = some ks → ∀ d, f ≤ d → EqT P d t ks
  | 0, _, _, h, _, _ => by simp [ckT] at h
  | f + 1, t, ks, h, d, hd => by
    obtain ⟨d, rfl⟩ : ∃ d', d = d' + 1 := ⟨d - 1, by omega⟩
    simp only [ckT] at h
    split at h
    · rename_i k ht
      cases h
      refine eqT_one (by simp [aggT, ht]) fun Φ a b r x y w he hx hy => ?_
      obtain ⟨i, j, rfl, rfl, rfl⟩ := eqCell_int he
      rw [hx.int_inv, hy.int_inv, run_equalIn_int _ _ _ _ _ _ _ ht]
    · rename_i ht
      cases h
      refine eqT_one (by simp [aggT, ht]) fun Φ a b r x y w he hx hy => ?_
      obtain ⟨i, j, rfl, rfl, rfl⟩ := eqCell_bool he
      rw [hx.bool_inv, hy.bool_inv, run_equalIn_bool' _ _ _ _ _ ht]
    · rename_i ht
      cases h
      refine eqT_one (by simp [aggT, ht]) fun Φ a b r x y w he hx hy => ?_
      obtain ⟨i, j, rfl, rfl, rfl⟩ := eqCell_str he
      rw [hx.str_inv, hy.str_inv, run_equalIn_string _ _ _ _ _ ht, ← beq_toListBytes]
    · rename_i n e ht
      split at h
      · rename_i ke hke
        split at h
        · rename_i hs
          cases h
          have hs : sizeT P e = some ke.length := by simpa using hs
          refine ⟨true, by simp [aggT, ht], (fun h => by cases h), fun Φ as bs r xs ys w he hx hy => ?_⟩
          simp only [valOf, if_true]
          rw [run_equalIn_array d _ _ ht hs, List.range_eq_range']
          refine eqElems_run d (ckT_eq f hke d (by omega)) hs n 0 Φ as bs r _ _ w (by simp) (by simp) ?_ (by simpa using hx) (by simpa using hy)
          simpa using he
        · cases h
      · cases h
    · rename_i fs ht
      split at h
      · cases h
      · rename_i hp
        refine ⟨true, by simp [aggT, ht], (fun h => by cases h), fun Φ as bs r xs ys w he hx hy => ?_⟩
        simp only [valOf, if_true]
        have hfs : P.fieldsOf t = fs := by simp [Program.fieldsOf, ht]
        rw [run_equalIn_struct w d t _ _ (by rw [hfs]; exact ht) (by simpa using hp), hfs]
        exact eqFields_run d (ckT P f) (fun t' ks' h' => ckT_eq f h' d (by omega)) fs.toList 0 ks h Φ as bs r _ _ w (by simp) (by simp) (by simpa using he) (by simpa using hx) (by simpa using hy)
    · cases h
theorem evalO_eqv {neg : Bool} {ks : List CK} {a b v : AV} (h : evalO (.eqv neg ks) [a, b] = some v) : ∃ ca cb r, a = .agg ca ∧ b = .agg cb ∧ eqCells ks ca cb = some r ∧ v = .bool (if neg then !r else r) := by
  cases a <;> cases b <;> simp only [evalO] at h <;> (try cases h)
  simp only [Option.map_eq_some_iff] at h
  obtain ⟨r, h1, h2⟩ := h
  exact ⟨_, _, r, rfl, rfl, h1, h2.symm⟩
theorem eqv_ok {op : BinOp} {t t' : TypeId} {x y : Operand} {s s' : SV} {ks : List CK} {a b r : Atom} (ho : o.op = .binOp op t x y t') (hop : isEqOp op = true) (hag : aggT P t = some true)
    (hk : ckT P 64 t = some ks) (hg : P.eqGuardType P.depth t = false) (hx : opv tmps x = some s) (hy : opv tmps y = some s')
    (ha : ∀ Φ μ v, SRep Φ μ τ s v → Rep Φ (a.den τ) v) (hb : ∀ Φ μ v, SRep Φ μ τ s' v → Rep Φ (b.den τ) v)
    (h : evalO (.eqv (isNeq op) ks) [a.den τ, b.den τ] = some (r.den τ)) : EffOk P E τ heap tmps o { res := .atm r } := by
  refine EffOk.pure rfl rfl fun X Φ μ ac w hA hR => ?_
  have h1 := ha Φ μ _ (hA.rep hR (by simp [ho, Op.operands]) hx)
  have h2 := hb Φ μ _ (hA.rep hR (by simp [ho, Op.operands]) hy)
  obtain ⟨ca, cb, q, e1, e2, e3, e4⟩ := evalO_eqv h
  rw [e1] at h1
  rw [e2] at h2
  simp only [Rep] at h1 h2
  obtain ⟨xs, h1, l1, m1⟩ := h1
  obtain ⟨ys, h2, l2, m2⟩ := h2
  obtain ⟨ag, g1, g2, g3⟩ := ckT_eq 64 hk 10000 (by omega)
  rw [hag] at g1
  cases g1
  have key := g3 Φ ca cb q xs.toList ys.toList w e3 ⟨by simpa using l1, m1⟩ ⟨by simpa using l2, m2⟩
  simp only [valOf, if_true, Array.toArray_toList] at key
  refine ⟨.bool (if isNeq op then !q else q), ?_, by simp [SRep, e4, Rep]⟩
  cases op <;> simp [isEqOp] at hop
  · simp [execOp, ho, h1, h2, run_eqGuard_agg w _ t x y xs ys hg, run_eql_struct, key, isNeq]
  · simp [execOp, ho, h1, h2, run_eqGuard_agg w _ t x y xs ys hg, run_neq_struct, key, isNeq]
end Go.SE
set_option autoImplicit false
namespace Go.SE
open Go
variable {P : Program} {σ0 τ : List AV} {E : Ent} {heap : Heap} {tmps : List SV} {o : Oper}
theorem isSome_int {P : Program} {e : TypeId} (h : (match P.underlying e with | some (.int .u8) => true | _ => false) = true) : P.underlying e = some (.int .u8) := by
  split at h
  · assumption
  · cases h
theorem strOf_rep {Φ : Fix} : ∀ {cs : List AV} {l : List UInt8} {vs : List Value}, strOf cs = some l → RepL Φ cs vs → ∃ ns : List Int, vs.take cs.length = ns.map (Value.int .u8) ∧ l = ns.map fun n => UInt8.ofNat n.toNat
  | [], l, vs, h, _ => by simp [strOf] at h; subst h; exact ⟨[], by simp, rfl⟩
  | c :: cs, l, [], h, hr => by simp [RepL] at hr
  | c :: cs, l, v :: vs, h, hr => by
    unfold strOf at h
    split at h
    · rename_i e; cases e
    · rename_i n cs' e
      cases e
      split at h
      · rename_i l' hl
        cases h
        simp only [RepL] at hr
        obtain ⟨ns, h1, h2⟩ := strOf_rep hl hr.2
        refine ⟨n :: ns, ?_, by simp [h2]⟩
        simp [h1, hr.1.int_inv]
      · cases h
    · cases h
theorem foldl_push : ∀ (ns : List Int) (r : ByteArray), ns.foldl (fun r n => r.push (UInt8.ofNat n.toNat)) r = ⟨r.data ++ (ns.map fun n => UInt8.ofNat n.toNat).toArray⟩
  | [], r => by simp
  | n :: ns, r => by
    rw [List.foldl_cons, foldl_push ns]
    simp [ByteArray.push]
def BytesAt (P : Program) (b : AV) (v : Value) (w : World) : Prop :=
  ∃ (a : Option Addr) (n c : Nat) (cs : List AV), v = .slice a n c ∧ b = .lst cs ∧ cs.length = n ∧ (a = none → n = 0) ∧
    ∀ ad, a = some ad → ∃ vs : List Value, (loadCells ad n).run P w = .ok vs.toArray w ∧ vs.length = n ∧ ∃ Φ, RepL Φ cs vs
theorem evalO_l2str {a v : AV} (h : evalO .l2str [a] = some v) : ∃ cs l, a = .lst cs ∧ strOf cs = some l ∧ v = .str ⟨l.toArray⟩ := by
  cases a with
  | lst cs =>
    simp only [evalO, Option.map_eq_some_iff] at h
    obtain ⟨l, h1, h2⟩ := h
    exact ⟨cs, l, rfl, h1, h2.symm⟩
  | _ => simp [evalO] at h
theorem sl2str_ok {src dst e : TypeId} {x : Operand} {rd : List Nat} {b r : Atom} (ho : o.op = .convert src dst x)
    (hs : P.underlying src = some (.slice e)) (hd : P.underlying dst = some .string) (he : P.underlying e = some (.int .u8))
    (hb : ∀ X Φ μ a w, Agree X heap tmps o { res := .atm r, rd := rd } → SRel E τ X Φ μ a w → BytesAt P (b.den τ) (a.eval x) w)
    (h : evalO .l2str [b.den τ] = some (r.den τ)) : EffOk P E τ heap tmps o { res := .atm r, rd := rd } := by
  refine EffOk.pure rfl rfl fun X Φ μ ac w hA hR => ?_
  obtain ⟨a, n, c, cs, e1, e2, e3, e4, e5⟩ := hb X Φ μ ac w hA hR
  obtain ⟨cs', l, f1, f2, f3⟩ := evalO_l2str h
  rw [e2] at f1; cases f1
  refine ⟨.string ⟨l.toArray⟩, ?_, by simp [SRep, f3, Rep]⟩
  have key : (convert src dst (.slice a n c)).run P w = .ok (.string ⟨l.toArray⟩) w := by
    rw [run_convert_bytes_string w src dst e a n c hs he hd]
    cases a with
    | none =>
      have hn := e4 rfl
      have : cs = [] := by apply List.length_eq_zero_iff.1; omega
      subst this
      simp [strOf] at f2
      subst f2
      simp [Conv.bytesToString]
      rfl
    | some ad =>
      obtain ⟨vs, g1, g2, Φ', g3⟩ := e5 ad rfl
      obtain ⟨ns, g4, rfl⟩ := strOf_rep f2 g3
      have hv : vs = ns.map (Value.int .u8) := by rw [← g4, List.take_of_length_le (by omega)]
      rw [run_bytesToString w ad n c ns (by rw [g1, hv]), foldl_push]
      simp [ByteArray.empty, ByteArray.emptyWithCapacity]
      rfl
  simp only [execOp, ho, e1, Sem.run_bind, key, Result.andThen_ok, Sem.run_pure]
theorem str2str_ok {src dst : TypeId} {x : Operand} {s : SV} {a u : Atom} (ho : o.op = .convert src dst x) (hx : opv tmps x = some s)
    (hs : P.underlying src = some .string) (hd : P.underlying dst = some .string)
    (ha : ∀ Φ μ v, SRep Φ μ τ s v → Rep Φ (a.den τ) v) (h : evalO .str2l [a.den τ] = some (u.den τ)) : EffOk P E τ heap tmps o { res := .atm a } := by
  refine EffOk.pure rfl rfl fun X Φ μ ac w hA hR => ?_
  have h1 := ha Φ μ _ (hA.rep hR (by simp [ho, Op.operands]) hx)
  cases e : a.den τ with
  | str st =>
    rw [e] at h1
    refine ⟨.string st, ?_, by simp [SRep, e, Rep]⟩
    simp [execOp, ho, h1.str_inv, convert, run_underlying_some hs, run_underlying_some hd]
  | _ => rw [e] at h; simp [evalO] at h
theorem u8s_rep (Φ : Fix) (s : ByteArray) : RepE Φ (u8s s) (s.data.toList.map fun b => Value.int .u8 b.toNat) := by
  refine ⟨by simp [u8s], ?_⟩
  unfold u8s
  generalize s.data.toList = l
  induction l with
  | nil => simp [RepL]
  | cons b l ih => simp only [List.map_cons, RepL, Rep]; exact ⟨trivial, ih⟩
theorem evalO_str2l {a v : AV} (h : evalO .str2l [a] = some v) : ∃ s, a = .str s ∧ v = .lst (u8s s) := by
  cases a with
  | str s => simp only [evalO, Option.some.injEq] at h; exact ⟨s, rfl, h.symm⟩
  | _ => simp [evalO] at h
theorem str2sl_ok {src dst e : TypeId} {x : Operand} {s : SV} {a b n : Atom} (ho : o.op = .convert src dst x) (hx : opv tmps x = some s)
    (hs : P.underlying src = some .string) (hd : P.underlying dst = some (.slice e)) (he : P.underlying e = some (.int .u8))
    (ha : ∀ Φ μ v, SRep Φ μ τ s v → Rep Φ (a.den τ) v) (h1 : evalO .str2l [a.den τ] = some (b.den τ)) (h2 : evalO .slen [a.den τ] = some (n.den τ)) :
    EffOk P E τ heap tmps o { res := .osl heap.length 1 zeroAtom n n, new := [some ⟨.dyn b, false⟩] } := by
  obtain ⟨st, e1, e2⟩ := evalO_str2l h1
  obtain ⟨st', e3, e4⟩ := evalO_slen h2
  rw [e1] at e3; cases e3
  refine EffOk.alloc (c := .dyn b) rfl rfl (fun id hi => by simp [Cells.refs] at hi) fun X Φ μ ac w hA hR => ?_
  have g1 := ha Φ μ _ (hA.rep hR (by simp [ho, Op.operands]) hx)
  rw [e1] at g1
  have hsz : (bytesRow st (grownCap w st.size 0 e)).size = grownCap w st.size 0 e := by
    have h0 : st.data.size = st.size := rfl
    have : st.size ≤ grownCap w st.size 0 e := by simp only [grownCap]; exact Nat.le_add_right _ _
    simp [bytesRow, h0]; omega
  refine ⟨.slice (some ⟨w.heap.size, 0, none⟩) st.size (grownCap w st.size 0 e), bytesRow st (grownCap w st.size 0 e), e,
    ((bytesRow st (grownCap w st.size 0 e)).size, (bytesRow st (grownCap w st.size 0 e)).size + 1), w.drew, ?_, hR.drew, ⟨u8s st, e2, ?_⟩, ?_, ?_⟩
  · simp only [execOp, ho, g1.str_inv, Sem.run_bind, run_bytes_of_string w src dst e st hs hd he, Result.andThen_ok, Sem.run_pure]
  · simp only [bytesRow, Array.toList_append, Array.toList_map]
    exact RepL.more _ (u8s_rep Φ st).2
  · intro i hi
    simp only
    omega
  · simp only [SRep]
    have hle : st.size ≤ grownCap w st.size 0 e := by simp only [grownCap]; exact Nat.le_add_right _ _
    exact ⟨0, st.size, st.size, grownCap w st.size 0 e, 0, rfl, e4, e4, by simp, Nat.le_refl _, hle, .inl rfl, by simp [hsz]⟩
end Go.SE
set_option autoImplicit false
namespace Go.SE
open Go
variable {P : Program} {σ0 τ : List AV} {E : Ent} {heap : Heap} {tmps : List SV} {o : Oper}
theorem range_rows {z : List Value} : ∀ (n : Nat), (List.range (n * z.length)).map (fun i => z.toArray[i % z.toArray.size]!) = (List.replicate n z).flatten
  | 0 => by simp
  | n + 1 => by
    have h : (n + 1) * z.length = n * z.length + z.length := by rw [Nat.add_mul, Nat.one_mul]
    rw [h, List.range_add, List.map_append, range_rows n, List.replicate_succ', List.flatten_append]
    congr 1
    simp only [List.map_map, List.flatten_cons, List.flatten_nil, List.append_nil]
    apply List.ext_getElem
    · simp
    · intro i h1 h2
      have hi : i < z.length := h2
      simp [Nat.mod_eq_of_lt hi, hi]
theorem made_rows (z : Array Value) (n : Nat) : ((Array.range (n * z.size)).map fun i => z[i % z.size]!).toList = (List.replicate n z.toList).flatten := by
  have := range_rows (z := z.toList) n
  simpa using this
theorem RepE.repl {Φ : Fix} {z : List AV} {vs : List Value} (h : RepE Φ z vs) : ∀ n, RepE Φ (repl n z) (List.replicate n vs).flatten
  | 0 => by simp [SE.repl, RepE, RepL]
  | n + 1 => by
    have ih := RepE.repl h n
    unfold SE.repl at *
    rw [List.replicate_succ, List.flatten_cons, List.replicate_succ, List.flatten_cons]
    exact ⟨by simp [h.1, ih.1], RepL.append h.1 h.2 ih.2⟩
theorem SRepL.repl {Φ : Fix} {μ : Map} {z : List SV} {vs : List Value} (h : SRepL Φ μ τ z vs) : ∀ n, SRepL Φ μ τ (List.replicate n z).flatten (List.replicate n vs).flatten
  | 0 => by simp [SRepL]
  | n + 1 => by
    rw [List.replicate_succ, List.flatten_cons, List.replicate_succ, List.flatten_cons]
    exact SRepL.append h (SRepL.repl h n)
theorem foldl_zip : ∀ (xs : List Value) (j off : Nat) (C : Array Value), off + j + xs.length ≤ C.size →
    (xs.zipIdx j).foldl (fun cs (p : Value × Nat) => cs.setIfInBounds (off + p.2) p.1) C = (splat C.toList (off + j) xs).toArray
  | [], j, off, C, _ => by simp [splat]
  | x :: xs, j, off, C, h => by
    simp only [List.length_cons] at h
    rw [List.zipIdx_cons, List.foldl_cons, foldl_zip xs (j + 1) off _ (by simp; omega)]
    congr 1
    have hlen : off + j < C.toList.length := by simp; omega
    simp only [splat, Array.toList_setIfInBounds, List.length_cons]
    rw [List.take_set, List.drop_set, if_pos (by omega), show off + (j + 1) = off + j + 1 from by omega, List.take_succ_eq_append_getElem hlen]
    rw [List.set_append_right _ _ (by simp; omega)]
    have : off + j - (List.take (off + j) C.toList).length = 0 := by simp; omega
    rw [this]
    simp [show off + j + 1 + xs.length = off + j + (xs.length + 1) from by omega]
theorem foldl_cells (v C : Array Value) (off : Nat) (h : off + v.size ≤ C.size) :
    v.zipIdx.foldl (fun cs (p : Value × Nat) => cs.setIfInBounds (off + p.2) p.1) C = (splat C.toList off v.toList).toArray := by
  have := foldl_zip v.toList 0 off C (by simpa using h)
  rw [← Array.foldl_toList, Array.toList_zipIdx]
  simpa using this
theorem fill_step {pl : Nat → Option (Nat × Nat)} {i off sz : Nat} {v : Value} {C : Array Value} {rest : List (Nat × Value)} (hp : pl i = some (off, sz)) (hs : v.cells.size = sz) (hl : off + sz ≤ C.size) :
    Instr.fill pl C ((i, v) :: rest) = Instr.fill pl (splat C.toList off v.cells.toList).toArray rest := by
  have h1 : ¬ (v.cells.size ≠ sz ∨ off + v.cells.size > C.size) := by rw [hs]; omega
  simp only [Instr.fill, hp]
  rw [if_neg (by simpa using h1), foldl_cells _ _ _ (by omega)]
theorem cells_rep {Φ : Fix} {a : AV} {v : Value} (h : Rep Φ a v) (hc : a.cells.all AV.isCell = true) : RepE Φ a.cells v.cells.toList := by
  cases a with
  | agg cs =>
    simp only [Rep] at h
    obtain ⟨vs, rfl, h1, h2⟩ := h
    exact ⟨(show vs.toList.length = cs.length by simpa using h1), h2⟩
  | _ =>
    all_goals
      have h1 := isCell_value h (by simpa [AV.cells] using hc)
      rw [Value.cells_one h1]
      exact ⟨rfl, by simp only [AV.cells, RepL]; exact ⟨h, trivial⟩⟩
theorem fill_av {Φ : Fix} {pl : Nat → Option (Nat × Nat)} : ∀ {is : List Nat} {ps : List (Nat × Nat)} {as : List AV} {vs : List Value} {cs cs' : List AV} {C : Array Value},
    mapPl pl is = some ps → fillAV cs ps as = some cs' → RepE Φ cs C.toList → RepE Φ as vs → is.length = as.length → ∃ C', Instr.fill pl C (is.zip vs) = some C' ∧ RepE Φ cs' C'.toList
  | [], ps, as, vs, cs, cs', C, hp, hf, hC, hv, hl => by
    simp [mapPl] at hp
    subst hp
    have : as = [] := by apply List.length_eq_zero_iff.1; simpa using hl.symm
    subst this
    simp [fillAV] at hf
    subst hf
    exact ⟨C, by simp [Instr.fill], hC⟩
  | i :: is, ps, [], vs, cs, cs', C, hp, hf, hC, hv, hl => by simp at hl
  | i :: is, ps, a :: as, [], cs, cs', C, hp, hf, hC, hv, hl => by simp [RepE] at hv
  | i :: is, ps, a :: as, v :: vs, cs, cs', C, hp, hf, hC, hv, hl => by
    simp only [mapPl] at hp
    split at hp
    · rename_i p ps' h1 h2
      cases hp
      obtain ⟨off, sz⟩ := p
      simp only [fillAV] at hf
      split at hf
      · rename_i hc
        obtain ⟨c1, c2, c3⟩ := hc
        simp only [RepE, RepL, List.length_cons] at hv
        have hcr := cells_rep hv.2.1 c3
        have hcs := hcr.1
        have hCs := hC.1
        simp only [Array.length_toList] at hcs hCs
        rw [List.zip_cons_cons, fill_step h1 (by omega) (by omega)]
        refine fill_av h2 hf ?_ ⟨by omega, hv.2.2⟩ (by simpa using hl)
        refine ⟨?_, RepL.put hC.2 hcr (by omega)⟩
        show (splat C.toList off v.cells.toList).length = _
        rw [splat_length (by simp; omega)]
        simp [putCells]; omega
      · cases hf
    · cases hp
theorem fill_sv {Φ : Fix} {μ : Map} {pl : Nat → Option (Nat × Nat)} : ∀ {is : List Nat} {ps : List (Nat × Nat)} {xs : List (Nat × List SV)} {vs : List Value} {cs cs' : List SV} {C : Array Value},
    mapPl pl is = some ps → All2 (fun (p : Nat × Nat) (x : Nat × List SV) => p.1 = x.1 ∧ x.2.length = p.2) ps xs → All2 (fun (x : Nat × List SV) (v : Value) => SRepL Φ μ τ x.2 v.cells.toList) xs vs →
    fillSV cs xs = some cs' → SRepL Φ μ τ cs C.toList → ∃ C', Instr.fill pl C (is.zip vs) = some C' ∧ SRepL Φ μ τ cs' C'.toList
  | [], ps, xs, vs, cs, cs', C, hp, hx, hv, hf, hC => by
    simp [mapPl] at hp
    subst hp
    match xs, hx with
    | [], _ =>
      simp [fillSV] at hf
      subst hf
      exact ⟨C, by simp [Instr.fill], hC⟩
  | i :: is, ps, xs, vs, cs, cs', C, hp, hx, hv, hf, hC => by
    simp only [mapPl] at hp
    split at hp
    · rename_i p ps' h1 h2
      cases hp
      match xs, vs, hx, hv with
      | (off, l) :: xs, v :: vs, hx, hv =>
        obtain ⟨⟨e1, e2⟩, hx1⟩ := hx
        obtain ⟨k1, hv1⟩ := hv
        obtain ⟨poff, sz⟩ := p
        simp only at e1 e2
        subst e1
        simp only [fillSV] at hf
        split at hf
        · rename_i hc
          have kl := k1.length
          have hCl := hC.length
          simp only [Array.length_toList] at kl hCl
          rw [List.zip_cons_cons, fill_step h1 (by omega) (by omega)]
          refine fill_sv h2 hx1 hv1 hf ?_
          show SRepL Φ μ τ _ (splat C.toList _ v.cells.toList)
          unfold splat
          rw [show (v.cells.toList).length = l.length by simpa using kl]
          exact SRepL.append (SRepL.append (SRepL.take _ hC) k1) (SRepL.drop _ hC)
        · cases hf
      | [], _, hx, _ => exact hx.elim
      | _ :: _, [], _, hv => exact hv.elim
    · cases hp
theorem built_eq {t : TypeId} {pl : Nat → Option (Nat × Nat)} {i : TypeInfo} {zv : Value} {parts : List (Nat × Value)} (hp : placeOf P t = some pl) (hi : P.info? t = some i) (hz : i.zero = some zv) :
    P.built t parts = Instr.fill pl zv.cells parts := by
  unfold placeOf at hp
  unfold Program.built
  split at hp
  · rename_i fs ht
    split at hp
    · rename_i places hpl
      cases hp
      simp [hi, ht, hz, hpl]
    · cases hp
  · rename_i n e ht
    split at hp
    · rename_i ie hie
      cases hp
      simp [hi, ht, hz, hie]
    · cases hp
  · cases hp
theorem zip_parts {a : Act} (parts : List (Nat × Operand)) : parts.map (fun p => (p.1, a.eval p.2)) = (parts.map (·.1)).zip ((parts.map (·.2)).map a.eval) := by
  induction parts with
  | nil => rfl
  | cons p l ih => simp [ih]
theorem evalO_build {z : List AV} {ps : List (Nat × Nat)} {as : List AV} {v : AV} (h : evalO (.build z ps) as = some v) : ∃ cs, fillAV z ps as = some cs ∧ v = .agg cs := by
  cases as <;> simp only [evalO, Option.map_eq_some_iff] at h <;> (obtain ⟨cs, h1, h2⟩ := h; exact ⟨cs, h1, h2.symm⟩)
theorem allAtm_eq : ∀ {ss : List SV} {as : List Atom}, allAtm ss = some as → ss = as.map .atm
  | [], as, h => by simp [allAtm] at h; simp [h]
  | s :: ss, as, h => by
    cases s <;> simp only [allAtm] at h <;> (try cases h)
    rename_i a
    split at h
    · rename_i as' h1
      cases h
      rw [allAtm_eq h1]; rfl
    · cases h
theorem build_av_ok {t : TypeId} {parts : Array (Nat × Operand)} {z : List AV} {ss : List SV} {as : List Atom} {pl : Nat → Option (Nat × Nat)} {ps : List (Nat × Nat)} {r : Atom}
    (ho : o.op = .build t parts) (hz : zeroT P t = some z) (hss : (parts.toList.map (·.2)).mapM (opv tmps) = some ss) (has : allAtm ss = some as) (hpl : placeOf P t = some pl) (hps : mapPl pl (parts.toList.map (·.1)) = some ps)
    (h : evalO (.build z ps) (as.map (Atom.den τ)) = some (r.den τ)) : EffOk P E τ heap tmps o { res := .atm r } := by
  refine EffOk.pure rfl rfl fun X Φ μ ac w hA hR => ?_
  have h1 := opvs_rep hA hR (fun x hx => by simp [ho, Op.operands]; simpa using hx) hss
  rw [allAtm_eq has, SRepL.atoms] at h1
  obtain ⟨i, zv, g1, g2, g3, _, _⟩ := zeroT_rep hz
  obtain ⟨cs, k1, k2⟩ := evalO_build h
  have hlen : (parts.toList.map (·.1)).length = (as.map (Atom.den τ)).length := by
    have := h1.1
    simp at this ⊢
    omega
  obtain ⟨C', f1, f2⟩ := fill_av hps k1 (g3 Φ) h1 hlen
  refine ⟨.agg C', ?_, ?_⟩
  · have := run_build (P := P) w t (parts.map fun (i, x) => (i, ac.eval x)) C' (by
      rw [built_eq hpl g1 g2, ← f1]
      congr 1
      have := zip_parts (a := ac) parts.toList
      simpa using this)
    simp only [execOp, ho, Sem.run_bind, this, Result.andThen_ok, Sem.run_pure]
  · simp only [SRep, k2, Rep]
    exact ⟨C', rfl, by simpa using f2.1, f2.2⟩
end Go.SE
set_option autoImplicit false
namespace Go.SE
open Go
variable {P : Program} {σ0 τ : List AV} {E : Ent} {heap : Heap} {tmps : List SV} {o : Oper}
theorem sureCell_back {s : SV} {b : Bool} {e e' : Em} (h : sureCell s e = some (b, e')) : e' = e := by
  unfold sureCell at h
  split at h
  · unfold cellAtom at h
    split at h <;> cases h <;> rfl
  all_goals (rw [EM.pure_eq] at h; cases h; rfl)
theorem partCells_back {sz : Nat} {s : SV} {cs : List SV} {e e' : Em} (h : partCells sz s e = some (cs, e')) (H : Hold P σ0 τ e') :
    Hold P σ0 τ e ∧ cs.length = sz ∧ (∀ id ∈ SV.refsL cs, id ∈ s.refs) ∧ ∀ Φ μ v, SRep Φ μ τ s v → SRepL Φ μ τ cs v.cells.toList ∧ ∀ u ∈ v.cells.toList, u.oneCell' = true := by
  simp only [partCells, EM.bind_eq] at h
  obtain ⟨b, e1, h1, h2⟩ := h
  have := sureCell_back h1
  subst this
  obtain ⟨H0, k1, k2, k3⟩ := explode_back h2 H
  exact ⟨H0, k1, k2, fun Φ μ v hv => ⟨(k3 Φ μ v hv).2.2.1, (k3 Φ μ v hv).2.2.2⟩⟩
theorem mapPlaces_back : ∀ {ps : List (Nat × Nat)} {ss : List SV} {xs : List (Nat × List SV)} {e e' : Em}, mapPlaces ps ss e = some (xs, e') → Hold P σ0 τ e' →
    Hold P σ0 τ e ∧ All2 (fun (p : Nat × Nat) (x : Nat × List SV) => p.1 = x.1 ∧ x.2.length = p.2) ps xs ∧ (∀ x ∈ xs, ∀ id ∈ SV.refsL x.2, id ∈ SV.refsL ss) ∧
      ∀ Φ μ vs, SRepL Φ μ τ ss vs → All2 (fun (x : Nat × List SV) (v : Value) => SRepL Φ μ τ x.2 v.cells.toList) xs vs
  | [], [], xs, e, e', h, H => by
    simp only [mapPlaces, EM.pure_eq] at h
    cases h
    exact ⟨H, trivial, by simp, fun Φ μ vs hv => by simp only [SRepL] at hv; subst hv; trivial⟩
  | (off, sz) :: ps, s :: ss, xs, e, e', h, H => by
    simp only [mapPlaces, EM.bind_eq, EM.pure_eq] at h
    obtain ⟨l, e1, h1, r, e2, h2, h3⟩ := h
    cases h3
    obtain ⟨H1, q1, q2, q3⟩ := mapPlaces_back h2 H
    obtain ⟨H0, k1, k2, k3⟩ := partCells_back h1 H1
    refine ⟨H0, ⟨⟨rfl, k1⟩, q1⟩, ?_, fun Φ μ vs hv => ?_⟩
    · intro x hx id hi
      rcases List.mem_cons.1 hx with rfl | hx
      · simp [SV.refsL, k2 id hi]
      · simp [SV.refsL, q2 x hx id hi]
    · cases vs with
      | nil => simp [SRepL] at hv
      | cons v vs =>
        simp only [SRepL] at hv
        exact ⟨(k3 Φ μ v hv.1).1, q3 Φ μ vs hv.2⟩
  | [], _ :: _, _, _, _, h, _ => by simp only [mapPlaces] at h; rw [fail_eq] at h; exact h.elim
  | _ :: _, [], _, _, _, h, _ => by simp only [mapPlaces] at h; rw [fail_eq] at h; exact h.elim
theorem build_sv_ok {t : TypeId} {parts : Array (Nat × Operand)} {z : List AV} {ss : List SV} {pl : Nat → Option (Nat × Nat)} {ps : List (Nat × Nat)} {xs : List (Nat × List SV)} {cs : List SV}
    (ho : o.op = .build t parts) (hz : zeroT P t = some z) (hss : (parts.toList.map (·.2)).mapM (opv tmps) = some ss) (hpl : placeOf P t = some pl) (hps : mapPl pl (parts.toList.map (·.1)) = some ps)
    (hx : All2 (fun (p : Nat × Nat) (x : Nat × List SV) => p.1 = x.1 ∧ x.2.length = p.2) ps xs)
    (hv : ∀ Φ μ vs, SRepL Φ μ τ ss vs → All2 (fun (x : Nat × List SV) (v : Value) => SRepL Φ μ τ x.2 v.cells.toList) xs vs)
    (hf : fillSV (z.map fun a => .atm (.c a)) xs = some cs) : EffOk P E τ heap tmps o { res := .agg cs } := by
  refine EffOk.pure rfl rfl fun X Φ μ ac w hA hR => ?_
  have h1 := opvs_rep hA hR (fun x hx => by simp [ho, Op.operands]; simpa using hx) hss
  obtain ⟨i, zv, g1, g2, g3, _, _⟩ := zeroT_rep hz
  obtain ⟨C', f1, f2⟩ := fill_sv hps hx (hv Φ μ _ h1) hf (C := zv.cells) (by rw [consts_atoms, SRepL.atoms, den_consts]; exact g3 Φ)
  refine ⟨.agg C', ?_, ?_⟩
  · have := run_build (P := P) w t (parts.map fun (i, x) => (i, ac.eval x)) C' (by
      rw [built_eq hpl g1 g2, ← f1]
      congr 1
      have := zip_parts (a := ac) parts.toList
      simpa using this)
    simp only [execOp, ho, Sem.run_bind, this, Result.andThen_ok, Sem.run_pure]
  · simp only [SRep]
    exact ⟨C', rfl, f2⟩
theorem mapPl_some {f : Nat → Nat × Nat} : ∀ (is : List Nat), mapPl (fun i => some (f i)) is = some (is.map f)
  | [] => rfl
  | i :: is => by simp [mapPl, mapPl_some is]
theorem elemT_some {t e : TypeId} (h : elemT P t = some e) : P.underlying t = some (.slice e) := by
  unfold elemT at h
  split at h
  · rename_i e' h1; cases h; exact h1
  · cases h
theorem buildSlice_ok {t e : TypeId} {len sz : Nat} {parts : Array (Nat × Operand)} {z : List AV} {ss : List SV} {xs : List (Nat × List SV)} {cs : List SV}
    (ho : o.op = .buildSlice t len parts) (he : elemT P t = some e) (hs : sizeT P e = some sz) (hz : (if len * sz = 0 then some [] else zeroT P e) = some z) (hlen : len * sz ≤ 2 ^ 24) (hzl : len * sz = 0 ∨ z.length = sz)
    (hss : (parts.toList.map (·.2)).mapM (opv tmps) = some ss)
    (hx : All2 (fun (p : Nat × Nat) (x : Nat × List SV) => p.1 = x.1 ∧ x.2.length = p.2) (parts.toList.map fun p => (p.1 * sz, sz)) xs)
    (hv : ∀ Φ μ vs, SRepL Φ μ τ ss vs → All2 (fun (x : Nat × List SV) (v : Value) => SRepL Φ μ τ x.2 v.cells.toList) xs vs)
    (hf : fillSV ((List.replicate len (z.map fun a => SV.atm (.c a))).flatten) xs = some cs) (hrefs : ∀ id ∈ SV.refsL cs, id < heap.length) :
    EffOk P E τ heap tmps o { res := .osl heap.length sz zeroAtom (.c (num len)) (.c (num len)), new := [some ⟨.fix cs, false⟩] } := by
  refine EffOk.alloc (c := .fix cs) rfl rfl (by simpa [Cells.refs] using hrefs) fun X Φ μ ac w hA hR => ?_
  have h1 := opvs_rep hA hR (fun x hx => by simp [ho, Op.operands]; simpa using hx) hss
  -- the cells of noughts
  obtain ⟨zc, hzc, hzr, hzs⟩ : ∃ zc : Array Value, (if len * sz = 0 then (pure #[] : Sem (Array Value)) else (do let zv ← zeroValue e; pure zv.cells)).run P w = .ok zc w ∧ RepE Φ z zc.toList ∧ (len * sz = 0 ∨ zc.size = sz) := by
    by_cases h0 : len * sz = 0
    · rw [if_pos h0] at hz
      cases hz
      exact ⟨#[], by simp [h0], ⟨rfl, by simp [RepL]⟩, .inl h0⟩
    · rw [if_neg h0] at hz
      obtain ⟨i, zv, g1, g2, g3, _, _⟩ := zeroT_rep hz
      refine ⟨zv.cells, by simp [h0, run_zeroValue g1 g2], g3 Φ, .inr ?_⟩
      have := (g3 Φ).1
      rcases hzl with h | h
      · exact absurd h h0
      · simp at this; omega
  have hrows : ((Array.range (len * sz)).map fun i => zc[i % zc.size]!).toList = (List.replicate len zc.toList).flatten := by
    rcases hzs with h0 | h0
    · rw [h0]
      have hl : ((List.replicate len zc.toList).flatten).length = 0 := by
        have h2 := hzr.1
        rcases Nat.eq_zero_or_pos len with hl | hl
        · simp [hl]
        · have : sz = 0 := by
            rcases Nat.mul_eq_zero.1 h0 with h | h
            · omega
            · exact h
          have h3 : z = [] := by rw [if_pos h0] at hz; cases hz; rfl
          subst h3
          have : zc.toList = [] := List.length_eq_zero_iff.1 h2
          simp [this]
      rw [List.length_eq_zero_iff.1 hl]
      simp
    · have := made_rows zc len
      rw [h0] at this ⊢
      exact this
  have hbase : SRepL Φ μ τ ((List.replicate len (z.map fun a => SV.atm (.c a))).flatten) ((Array.range (len * sz)).map fun i => zc[i % zc.size]!).toList := by
    rw [hrows]
    refine SRepL.repl ?_ len
    rw [consts_atoms, SRepL.atoms, den_consts]
    exact hzr
  have hps : mapPl (fun i => some (i * sz, sz)) (parts.toList.map (·.1)) = some (parts.toList.map fun p => (p.1 * sz, sz)) := by
    rw [mapPl_some]; simp
  obtain ⟨C', f1, f2⟩ := fill_sv hps hx (hv Φ μ _ h1) hf hbase
  have hCs : C'.size = len * sz := by
    have a1 := f2.length
    have a2 : ∀ {xs : List (Nat × List SV)} {a b : List SV}, fillSV a xs = some b → b.length = a.length := by
      intro xs
      induction xs with
      | nil => intro a b h; simp [fillSV] at h; rw [h]
      | cons x xs ih =>
        intro a b h
        obtain ⟨off, l⟩ := x
        simp only [fillSV] at h
        split at h
        · rw [ih h]; simp; omega
        · cases h
    have a3 := a2 hf
    have a4 := hbase.length
    simp at a1 a3 a4
    omega
  refine ⟨.slice (some ⟨w.heap.size, 0, none⟩) len len, C', e, (0, 0), w, ?_, hR, ⟨C'.toList, [], by simp, f2⟩, fun _ _ => by simp, ?_⟩
  · have hfill : Instr.fill (fun i => some (i * sz, sz)) ((Array.range (len * sz)).map fun i => zc[i % zc.size]!) (parts.toList.map fun p => (p.1, ac.eval p.2)) = some C' := by
      rw [zip_parts, ← f1]
    have hl : ¬ len * sz > 2 ^ 24 := by omega
    by_cases h0 : len * sz = 0
    · have hz0 : zc = #[] := by simpa [h0] using hzc.symm
      subst hz0
      rw [h0] at hfill
      simp only [execOp, ho, Sem.run_bind, Instr.buildSlice, run_underlying_some (elemT_some he), Result.andThen_ok, run_sizeOf hs, h0]
      simp at hfill
      simp [hfill, newRow]
    · simp only [h0, if_false, Sem.run_bind, Sem.run_pure] at hzc
      simp only [execOp, ho, Sem.run_bind, Instr.buildSlice, run_underlying_some (elemT_some he), Result.andThen_ok, run_sizeOf hs, if_neg hl, h0, if_false, Sem.run_pure]
      cases hzv : (zeroValue e).run P w with
      | halt h w' => rw [hzv] at hzc; simp at hzc
      | ok zv w' =>
        rw [hzv] at hzc
        simp only [Result.andThen_ok] at hzc
        injection hzc with hz1 hz2
        subst hz1; subst hz2
        simp [hfill, newRow]
  · simp only [SRep, den_zero, den_c]
    exact ⟨0, len, len, len, 0, rfl, rfl, rfl, by simp, Nat.le_refl _, Nat.le_refl _, .inl rfl, by simp [hCs]⟩
end Go.SE
set_option autoImplicit false
namespace Go.SE
open Go
variable {P : Program} {σ0 τ : List AV} {E : Ent} {heap : Heap} {tmps : List SV} {o : Oper}
def Feeds (P : Program) (sz : Nat) (x : Value) (n : Nat) (vs : List Value) (w : World) : Prop :=
  ∀ w' : World, w'.heap = w.heap → (Builtin.lenOf x).run P w' = .ok n w' ∧ ∀ m, m ≤ n → (Builtin.firstCells sz m x).run P w' = .ok (vs.take (m * sz)).toArray w'
def NewsAt (P : Program) (sz : Nat) (Φ : Fix) (b k : AV) (x : Value) (w : World) : Prop :=
  ∃ cs n vs, b = .lst cs ∧ k = num n ∧ RepE Φ cs vs ∧ cs.length = n * sz ∧ Feeds P sz x n vs w
theorem loadCells_zero (a : Addr) (w : World) : (loadCells a 0).run P w = .ok #[] w := by
  have := run_loadCells_list (P := P) (w := w) a [] (by simp)
  simpa using this
theorem feeds_block {sz b o n c : Nat} {C : Array Value} {t : TypeId} {fr : Nat × Nat} {w : World} (h : w.heap[b]? = some (.cells C t fr)) (hl : o + n * sz ≤ C.size) :
    Feeds P sz (.slice (some ⟨b, o, none⟩) n c) n ((C.toList.drop o).take (n * sz)) w := fun w' hw => by
  refine ⟨by simp [Builtin.lenOf], fun m hm => ?_⟩
  have hmn : m * sz ≤ n * sz := Nat.mul_le_mul_right _ hm
  have := loadCells_run (P := P) (b := b) (o := o) (n := m * sz) (w := w') (by rw [hw]; exact h) (by omega)
  simp only [Builtin.firstCells, this, List.take_take, Nat.min_eq_left hmn]
theorem feeds_zero {sz c : Nat} {a : Option Addr} {w : World} : Feeds P sz (.slice a 0 c) 0 [] w := fun w' _ => by
  refine ⟨by simp [Builtin.lenOf], fun m hm => ?_⟩
  have : m = 0 := by omega
  subst this
  cases a with
  | none => simp [Builtin.firstCells]
  | some a => simp [Builtin.firstCells, loadCells_zero]
theorem evalO_s2l {sz : Nat} {a v : AV} (h : evalO (.s2l sz) [a] = some v) : ∃ n cs, asSlice a = some (n, cs) ∧ cs.length = n * sz ∧ v = .lst cs := by
  simp only [evalO] at h
  split at h
  · rename_i n cs ha
    split at h
    · rename_i hl; cases h; exact ⟨n, cs, ha, hl, rfl⟩
    · cases h
  · cases h
theorem feeds_sl {Φ : Fix} {sz n : Nat} {cs : List AV} {v : Value} {w : World} (hw : WR Φ w) (h : Rep Φ (.sl n cs) v) (hl : cs.length = n * sz) :
    ∃ vs, RepE Φ cs vs ∧ Feeds P sz v n vs w := by
  by_cases hc : cs = []
  · subst hc
    simp only [Rep] at h
    obtain ⟨a, c, rfl, h1, h2, h3⟩ := h
    refine ⟨[], ⟨rfl, by simp [RepL]⟩, fun w' hw' => ⟨by simp [Builtin.lenOf], fun m hm => ?_⟩⟩
    have hl' : n * sz = 0 := hl.symm
    have : m * sz = 0 := by
      have := Nat.mul_le_mul_right sz hm
      omega
    cases a with
    | none => simp [Builtin.firstCells]
    | some a => simp [Builtin.firstCells, this, loadCells_zero]
  · obtain ⟨b, k, c, C, f1, f2, f3, f4⟩ := h.sl_addr hc
    obtain ⟨t, fr, hh⟩ := hw _ _ f3
    have hlen := f4.len
    have hck : 0 < cs.length := List.length_pos_iff.2 hc
    simp at hlen
    subst f1
    refine ⟨(C.toList.drop k).take (n * sz), ⟨by simp; omega, RepL.less _ (by omega) f4⟩, feeds_block hh (by omega)⟩
theorem newsOf_back {sz : Nat} {s : SV} {b k : Atom} {rd : List Nat} {e e' : Em} (h : newsOf heap sz s e = some ((b, k, rd), e')) (H : Hold P σ0 τ e') :
    Hold P σ0 τ e ∧ ∀ (X : LS) (Φ : Fix) (μ : Map) (a : Act) (w : World) (x : Value), SRel E τ X Φ μ a w → (∀ id ∈ rd, X.blk id = heap.getD id none) → SRep Φ μ τ s x → NewsAt P sz Φ (b.den τ) (k.den τ) x w := by
  unfold newsOf at h
  split at h
  · rename_i id sz' off len cap
    simp only [EM.bind_eq, EM.pure_eq, blk_eq] at h
    obtain ⟨sb, e1, ⟨sb', hsb, h1⟩, la, e2, h2, y, e3, h3, h4⟩ := h
    cases h1; cases h4
    obtain ⟨H2, q, _⟩ := emit_back h3 H
    obtain ⟨H1, q1⟩ := lstOf_back h2 H2
    refine ⟨H1, fun X Φ μ a w x hR hrd hx => ?_⟩
    simp only [List.map_cons, List.map_nil] at q
    obtain ⟨cs, o, n, g1, g2, g3, g4, g5⟩ := evalO_lsl q
    obtain ⟨_, ⟨C, t, fr, k2, k3, k4, k5, k6⟩, _⟩ := hR.blks id sb (by rw [hrd id (by simp)]; exact hsb)
    obtain ⟨cs', m1, m2⟩ := q1 Φ μ _ k5
    rw [g1] at m1; cases m1
    simp only [SRep] at hx
    obtain ⟨o1, l, kk, c, o', r1, r2, r3, rfl, r4, r5, r6, r7⟩ := hx
    rw [g2] at r1
    have := num_inj r1; subst this
    rw [g3] at r2
    have := num_inj r2; subst this
    have hlen := m2.len
    simp at hlen
    refine ⟨_, n, (C.toList.drop o).take (n * sz), g5, g3, ⟨?_, RepL.less _ (by simp; omega) (RepL.take _ (RepL.drop _ m2))⟩, ?_, ?_⟩
    · simp; omega
    · simp; omega
    · rcases r6 with rfl | rfl
      · exact feeds_block k2 (by omega)
      · have : n = 0 := by omega
        subst this
        simpa using feeds_zero
  · rename_i a0
    simp only [EM.bind_eq, EM.pure_eq] at h
    obtain ⟨n, e1, h1, y, e2, h2, h3⟩ := h
    cases h3
    obtain ⟨H2, q2, _⟩ := emit_back h2 H
    obtain ⟨H1, q1, _⟩ := emit_back h1 H2
    refine ⟨H1, fun X Φ μ a w x hR hrd hx => ?_⟩
    obtain ⟨n1, cs1, g1, g2⟩ := evalO_len q1
    obtain ⟨n2, cs2, f1, f2, f3⟩ := evalO_s2l q2
    rw [g1] at f1; cases f1
    simp only [SRep] at hx
    obtain ⟨vs, v1, v2⟩ := feeds_sl (P := P) (sz := sz) hR.mem.fix (asSlice_rep g1 hx) f2
    exact ⟨_, n1, vs, f3, g2, v1, f2, v2⟩
  · rw [fail_eq] at h; exact h.elim
theorem newsStr_back {s : SV} {b k : Atom} {rd : List Nat} {e e' : Em} (h : newsStr s e = some ((b, k, rd), e')) (H : Hold P σ0 τ e') :
    Hold P σ0 τ e ∧ rd = [] ∧ ∀ (Φ : Fix) (μ : Map) (w : World) (x : Value), SRep Φ μ τ s x → NewsAt P 1 Φ (b.den τ) (k.den τ) x w := by
  unfold newsStr at h
  split at h
  · rename_i a0
    simp only [EM.bind_eq, EM.pure_eq] at h
    obtain ⟨n, e1, h1, y, e2, h2, h3⟩ := h
    cases h3
    obtain ⟨H2, q2, _⟩ := emit_back h2 H
    obtain ⟨H1, q1, _⟩ := emit_back h1 H2
    refine ⟨H1, rfl, fun Φ μ w x hx => ?_⟩
    obtain ⟨s1, g1, g2⟩ := evalO_str2l q2
    obtain ⟨s2, f1, f2⟩ := evalO_slen q1
    rw [g1] at f1; cases f1
    simp only [SRep, g1] at hx
    rw [hx.str_inv]
    refine ⟨_, s1.size, _, g2, f2, u8s_rep Φ s1, ?_, fun w' _ => ⟨by simp [Builtin.lenOf], fun m hm => ?_⟩⟩
    · have : s1.data.size = s1.size := rfl
      simp [u8s, this]
    · have h0 : s1.data.size = s1.size := rfl
      simp only [Builtin.firstCells, Sem.run_pure, Nat.mul_one]
      congr 1
      apply Array.ext'
      simp only [Array.toList_map, List.map_take, ByteArray.data_extract, Array.toList_extract, List.extract_eq_take_drop, Nat.sub_zero, List.drop_zero]
  · rw [fail_eq] at h; exact h.elim
theorem evalO_chkmk {bytes : Nat} {a b v : AV} (h : evalO (.chkmk bytes) [a, b] = some v) : ∃ l c, a = num l ∧ b = num c ∧ l ≤ c ∧ bytes * c ≤ 2 ^ 48 := by
  simp only [evalO] at h
  split at h
  · rename_i l c h1 h2
    split at h
    · rename_i hc; exact ⟨l, c, nat?_num h1, nat?_num h2, hc.1, hc.2⟩
    · cases h
  · cases h
theorem evalO_lzero {bytes : Nat} {z : List AV} {a v : AV} (h : evalO (.lzero bytes z) [a] = some v) : ∃ n, a = num n ∧ bytes * n ≤ 2 ^ 48 ∧ v = .lst (repl n z) := by
  simp only [evalO] at h
  split at h
  · rename_i n h1
    split at h
    · rename_i hc; cases h; exact ⟨n, nat?_num h1, hc, rfl⟩
    · cases h
  · cases h
theorem made_eq (z : Array Value) (n : Nat) : (madeCells z (n * z.size)).toList = (List.replicate n z.toList).flatten := by
  have := made_rows z n
  simpa [madeCells] using this
theorem zero_eq (z : Array Value) (n : Nat) : (Builtin.zeroCells z n).toList = (List.replicate n z.toList).flatten := made_rows z n
theorem sizeT_some {t : TypeId} {i : TypeInfo} {n : Nat} (h : sizeT P t = some n) (hi : P.info? t = some i) : i.size = n := by
  unfold sizeT at h; rw [hi] at h; simpa using h
theorem bytesT_some {t : TypeId} {i : TypeInfo} {n : Nat} (h : bytesT P t = some n) (hi : P.info? t = some i) : i.bytes = n := by
  unfold bytesT at h; rw [hi] at h; simpa using h
theorem Rep.num_inv {Φ : Fix} {n : Nat} {v : Value} (h : Rep Φ (num n) v) : v = .int .i64 n := by simpa [Rep, num] using h
theorem make_ok {t e : TypeId} {lo co : Operand} {sl sc : SV} {sz bytes : Nat} {z : List AV} {l c u : Atom} {cells : Cells}
    (ho : o.op = .makeSlice t lo co) (he : elemT P t = some e) (hs : sizeT P e = some sz) (hb : bytesT P e = some bytes) (hz : zeroT P e = some z)
    (hzl : z.length = sz) (hb0 : 0 < bytes) (hlo : opv tmps lo = some sl) (hco : opv tmps co = some sc)
    (hl : ∀ Φ μ v, SRep Φ μ τ sl v → Rep Φ (l.den τ) v) (hc : ∀ Φ μ v, SRep Φ μ τ sc v → Rep Φ (c.den τ) v)
    (h : evalO (.chkmk bytes) [l.den τ, c.den τ] = some (u.den τ))
    (hcells : ∀ n, c.den τ = num n → ∀ Φ μ vs, RepE Φ (repl n z) vs → CRep Φ μ τ cells vs) (hrefs : cells.refs = []) :
    EffOk P E τ heap tmps o { res := .osl heap.length sz zeroAtom l c, new := [some ⟨cells, false⟩] } := by
  refine EffOk.alloc (c := cells) rfl rfl (by simp [hrefs]) fun X Φ μ ac w hA hR => ?_
  have g1 := hl Φ μ _ (hA.rep hR (by simp [ho, Op.operands]) hlo)
  have g2 := hc Φ μ _ (hA.rep hR (by simp [ho, Op.operands]) hco)
  obtain ⟨L, C, e1, e2, e3, e4⟩ := evalO_chkmk h
  rw [e1] at g1; rw [e2] at g2
  obtain ⟨i, zv, f1, f2, f3, _, _⟩ := zeroT_rep hz
  have hsz := sizeT_some hs f1
  have hby := bytesT_some hb f1
  subst hby
  have hzs : zv.cells.size = i.size := by
    have := (f3 Φ).1
    simp at this; omega
  have hCle : C ≤ i.bytes * C := Nat.le_mul_of_pos_left _ hb0
  have hrun := run_make (P := P) w t e i zv (elemT_some he) f1 f2 .i64 .i64 L C (by omega) (by omega) (by rw [← Int.natCast_mul]; omega) (by omega)
  simp only [Int.toNat_natCast] at hrun
  refine ⟨.slice (some ⟨w.heap.size, 0, none⟩) L C, madeCells zv.cells (C * i.size), e, (0, 0), w, ?_, hR, hcells C e2 Φ μ _ ?_, fun _ _ => by simp, ?_⟩
  · simp only [execOp, ho, g1.num_inv, g2.num_inv, Sem.run_bind, hrun, Result.andThen_ok, Sem.run_pure]
  · rw [← hzs, made_eq]
    exact (f3 Φ).repl C
  · simp only [SRep, den_zero]
    exact ⟨0, L, C, C, 0, rfl, e1, e2, by simp, e3, Nat.le_refl _, .inl rfl, by simp [size_madeCells, hsz]⟩
end Go.SE
set_option autoImplicit false
namespace Go.SE
open Go
variable {P : Program} {σ0 τ : List AV} {E : Ent} {heap : Heap} {tmps : List SV} {o : Oper}
def Brings (P : Program) (u : TypeId) (i : TypeInfo) (z : Value) (x : Value) (n : Nat) (vs : List Value) (w : World) : Prop :=
  (((∃ e', P.underlying u = some (.slice e')) ∨ P.underlying u = some .string) ∧ Feeds P i.size x n vs w ∧ vs.length = n * i.size) ∨
    (∃ k, P.underlying u = some (.int k) ∧ x = .int .i64 n ∧ n * i.bytes ≤ 281474976710656 ∧ n ≤ 281474976710656 ∧ vs = (Builtin.zeroCells z.cells n).toList)
theorem run_append_there {t u ty e : TypeId} {i : TypeInfo} {z x : Value} {n sLen sCap : Nat} {vs : List Value} {base : Option Addr} {w w' : World}
    (ht : P.underlying t = some (.slice e)) (hi : P.info? e = some i) (hz : i.zero = some z) (hzs : z.cells.size = i.size) (hx : Brings P u i z x n vs w) (hroom : sLen + n ≤ sCap)
    (hst : ∀ a, base = some a → (storeCells (a.add (sLen * i.size)) vs).run P w = .ok () w') (hn : base = none → w' = w) :
    (Builtin.append_ #[t, u] ty #[.slice base sLen sCap, x]).run P w = .ok (.slice base (sLen + n) sCap) w' := by
  rcases hx with ⟨hu, hf, hl⟩ | ⟨k, hu, rfl, hb, hle, rfl⟩
  · obtain ⟨f1, f2⟩ := hf w rfl
    have f2 := f2 n (Nat.le_refl _)
    rw [List.take_of_length_le (by omega)] at f2
    cases base with
    | none =>
      have := hn rfl; subst this
      rcases hu with ⟨e', hu⟩ | hu <;> simp [Builtin.append_, run_underlying_some ht, run_underlying_some hu, sizeOf, typeInfo, hi, f1, f2, hroom]
    | some a =>
      have hst := hst a rfl
      rcases hu with ⟨e', hu⟩ | hu <;> simp [Builtin.append_, run_underlying_some ht, run_underlying_some hu, sizeOf, typeInfo, hi, f1, f2, hroom, hst]
  · have hw : IntKind.i64.wrap (n : Int) = n := by rw [IntKind.wrap_i64]; omega
    have hneg : ¬ ((n : Int) < 0) := by omega
    have hbig : ¬ (281474976710656 < (n : Int) * (i.bytes : Int)) := by rw [← Int.natCast_mul]; omega
    by_cases h0 : n * i.size = 0
    · have hnil : (Builtin.zeroCells z.cells n) = #[] := by
        apply Array.eq_empty_of_size_eq_zero
        rw [size_zeroCells, hzs]; exact h0
      rw [hnil] at hst
      cases base with
      | none =>
        have := hn rfl; subst this
        simp [Builtin.append_, run_underlying_some ht, run_underlying_some hu, sizeOf, typeInfo, hi, asInt, asIntOf, hw, hneg, hbig, hroom, h0]
      | some a =>
        have hst := hst a rfl
        simp only [Array.toList_empty] at hst
        simp [Builtin.append_, run_underlying_some ht, run_underlying_some hu, sizeOf, typeInfo, hi, asInt, asIntOf, hw, hneg, hbig, hroom, h0, hst]
    · cases base with
      | none =>
        have := hn rfl; subst this
        simp [Builtin.append_, run_underlying_some ht, run_underlying_some hu, sizeOf, typeInfo, zeroValue, hi, hz, asInt, asIntOf, hw, hneg, hbig, hroom, h0]
      | some a =>
        have hst := hst a rfl
        simp [Builtin.append_, run_underlying_some ht, run_underlying_some hu, sizeOf, typeInfo, zeroValue, hi, hz, asInt, asIntOf, hw, hneg, hbig, hroom, h0, hst]
theorem run_append_new {t u ty e : TypeId} {i : TypeInfo} {z x : Value} {n sLen sCap : Nat} {olds vs : List Value} {base : Option Addr} {w : World}
    (ht : P.underlying t = some (.slice e)) (hi : P.info? e = some i) (hz : i.zero = some z) (hzs : z.cells.size = i.size) (hx : Brings P u i z x n vs w) (hroom : sCap < sLen + n)
    (hold : ∀ w', w'.heap = w.heap → (Builtin.firstCells i.size sLen (.slice base sLen sCap)).run P w' = .ok olds.toArray w') (hb0 : 0 < i.bytes) (hb : (sLen + n) * i.bytes ≤ 140737488355328) :
    (Builtin.append_ #[t, u] ty #[.slice base sLen sCap, x]).run P w = .ok (.slice (some ⟨w.heap.size, 0, none⟩) (sLen + n) (grownCap w (sLen + n) sCap e))
      (w.drew.alloc (.cells (olds.toArray ++ vs.toArray ++ Builtin.zeroCells z.cells (grownCap w (sLen + n) sCap e - (sLen + n))) e)) := by
  have hnr : ¬ (sLen + n ≤ sCap) := by omega
  have hle : sLen + n ≤ (sLen + n) * i.bytes := Nat.le_mul_of_pos_right _ hb0
  have h63 : ¬ (9223372036854775807 < ((sLen : Int) + (n : Int))) := by omega
  have hfit := growslice_fits hroom hb
  have h48 : ¬ (281474976710656 < Builtin.nextslicecap (sLen + n) sCap * i.bytes) := by omega
  have hold' := hold w.drew rfl
  rcases hx with ⟨hu, hf, hl⟩ | ⟨k, hu, rfl, hb', hle', rfl⟩
  · have f1 := (hf w rfl).1
    have f2 := (hf w.drew rfl).2 n (Nat.le_refl _)
    rw [List.take_of_length_le (by omega)] at f2
    rcases hu with ⟨e', hu⟩ | hu <;> (simp [Builtin.append_, run_underlying_some ht, run_underlying_some hu, sizeOf, typeInfo, zeroValue, hi, hz, f1, f2, hnr, h63, h48, Question.forced, hold', newRow, grownCap]; try (congr 2; apply Array.ext'; simp [List.append_assoc]))
  · have hw : IntKind.i64.wrap (n : Int) = n := by rw [IntKind.wrap_i64]; omega
    have hneg : ¬ ((n : Int) < 0) := by omega
    have hbig : ¬ (281474976710656 < (n : Int) * (i.bytes : Int)) := by rw [← Int.natCast_mul]; omega
    by_cases h0 : n * i.size = 0
    · have hnil : (Builtin.zeroCells z.cells n) = #[] := by
        apply Array.eq_empty_of_size_eq_zero
        rw [size_zeroCells, hzs]; exact h0
      rw [hnil]
      simp [Builtin.append_, run_underlying_some ht, run_underlying_some hu, sizeOf, typeInfo, zeroValue, hi, hz, asInt, asIntOf, hw, hneg, hbig, hnr, h63, h48, h0, Question.forced, hold', newRow, grownCap]
    · simp [Builtin.append_, run_underlying_some ht, run_underlying_some hu, sizeOf, typeInfo, zeroValue, hi, hz, asInt, asIntOf, hw, hneg, hbig, hnr, h63, h48, h0, Question.forced, hold', newRow, grownCap]
end Go.SE
set_option autoImplicit false
namespace Go.SE
open Go
variable {P : Program} {σ0 τ : List AV} {E : Ent} {heap : Heap} {tmps : List SV} {o : Oper}
theorem isStrT_some {u : TypeId} (h : isStrT P u = true) : P.underlying u = some .string := by
  unfold isStrT at h; split at h
  · assumption
  · cases h
theorem isSliceT_some {u : TypeId} (h : isSliceT P u = true) : ∃ e, P.underlying u = some (.slice e) := by
  unfold isSliceT at h; split at h
  · exact ⟨_, by assumption⟩
  · cases h
theorem isIntT_some {u : TypeId} (h : isIntT P u = true) : ∃ k, P.underlying u = some (.int k) := by
  unfold isIntT at h; split at h
  · exact ⟨_, by assumption⟩
  · cases h
theorem repl_length (n : Nat) (z : List AV) : (repl n z).length = n * z.length := by simp [repl]
def BringsAt (P : Program) (u : TypeId) (i : TypeInfo) (zv : Value) (Φ : Fix) (b k : AV) (x : Value) (w : World) : Prop :=
  ∃ cs n vs, b = .lst cs ∧ k = num n ∧ RepE Φ cs vs ∧ cs.length = n * i.size ∧ Brings P u i zv x n vs w
theorem newsT_back {u : TypeId} {i : TypeInfo} {zv : Value} {z : List AV} {s : SV} {b k : Atom} {rd : List Nat} {e e' : Em}
    (h : newsT P heap u i.size i.bytes z s e = some ((b, k, rd), e')) (H : Hold P σ0 τ e') (hz : ∀ Φ, RepE Φ z zv.cells.toList) (hzl : z.length = i.size) (hb0 : 0 < i.bytes)
    (h1 : isStrT P u = true → i.size = 1) :
    Hold P σ0 τ e ∧ ∀ (X : LS) (Φ : Fix) (μ : Map) (a : Act) (w : World) (x : Value), SRel E τ X Φ μ a w → (∀ id ∈ rd, X.blk id = heap.getD id none) → SRep Φ μ τ s x → BringsAt P u i zv Φ (b.den τ) (k.den τ) x w := by
  unfold newsT at h
  split at h
  · rename_i hs
    obtain ⟨H0, _, q⟩ := newsStr_back h H
    refine ⟨H0, fun X Φ μ a w x _ _ hx => ?_⟩
    obtain ⟨cs, n, vs, g1, g2, g3, g4, g5⟩ := q Φ μ w x hx
    rw [← h1 hs] at g4 g5
    exact ⟨cs, n, vs, g1, g2, g3, g4, .inl ⟨.inr (isStrT_some hs), g5, by rw [g3.1, g4]⟩⟩
  · split at h
    · rename_i hs
      obtain ⟨H0, q⟩ := newsOf_back (E := E) h H
      refine ⟨H0, fun X Φ μ a w x hR hrd hx => ?_⟩
      obtain ⟨cs, n, vs, g1, g2, g3, g4, g5⟩ := q X Φ μ a w x hR hrd hx
      exact ⟨cs, n, vs, g1, g2, g3, g4, .inl ⟨.inl (isSliceT_some hs), g5, by rw [g3.1, g4]⟩⟩
    · split at h
      · rename_i hs
        obtain ⟨kk, hk⟩ := isIntT_some hs
        unfold newsZero at h
        split at h
        · rename_i a0
          simp only [EM.bind_eq, EM.pure_eq] at h
          obtain ⟨y, e1, h2, h3⟩ := h
          cases h3
          obtain ⟨H0, q, _⟩ := emit_back h2 H
          refine ⟨H0, fun X Φ μ a w x _ _ hx => ?_⟩
          obtain ⟨n, g1, g2, g3⟩ := evalO_lzero q
          simp only [SRep, g1] at hx
          have hx := hx.num_inv
          have hn : n ≤ i.bytes * n := Nat.le_mul_of_pos_left _ hb0
          refine ⟨_, n, (Builtin.zeroCells zv.cells n).toList, g3, g1, ?_, by rw [repl_length, hzl], .inr ⟨kk, hk, hx, by rw [Nat.mul_comm]; omega, by omega, rfl⟩⟩
          rw [zero_eq]
          exact (hz Φ).repl n
        · rw [fail_eq] at h; exact h.elim
      · rw [fail_eq] at h; exact h.elim
theorem evalO_lapp {sz bytes : Nat} {a m b k v : AV} (h : evalO (.lapp sz bytes) [a, m, b, k] = some v) :
    ∃ as n bs j, a = .lst as ∧ m = num n ∧ b = .lst bs ∧ k = num j ∧ n * sz ≤ as.length ∧ bs.length = j * sz ∧ (n + j) * bytes ≤ 140737488355328 ∧ bs.all AV.isCell = true ∧ v = .lst (as.take (n * sz) ++ bs) := by
  cases a with
  | lst as =>
    cases b with
    | lst bs =>
      simp only [evalO] at h
      split at h
      · rename_i n j h1 h2
        split at h
        · rename_i hc; cases h
          exact ⟨as, n, bs, j, rfl, nat?_num h1, rfl, nat?_num h2, hc.1, hc.2.1, hc.2.2.1, hc.2.2.2, rfl⟩
        · cases h
      · cases h
    | _ => simp [evalO] at h
  | _ => simp [evalO] at h
theorem grown_crep {Φ : Fix} {cs bs : List AV} {us vs : List Value} {C : Array Value} (h1 : RepE Φ cs us) (h2 : RepE Φ bs vs) : RepL Φ (cs ++ bs) (us.toArray ++ vs.toArray ++ C).toList := by
  have := RepL.append h1.1 h1.2 h2.2
  simpa using RepL.more C.toList this
theorem call_mem {c : Call} {x : Operand} (ho : o.op = .call c) (hx : x ∈ c.args.toList) : x ∈ o.op.operands := by
  simp only [ho, Op.operands, Call.operands]
  simp only [Array.mem_append]
  right
  simpa using hx
theorem toArray_of_toList {α : Type} {a : Array α} {l : List α} (h : a.toList = l) : a = l.toArray := by
  apply Array.ext'; simpa using h
theorem append_osl_ok {c : Call} {t u e : TypeId} {xs xx : Operand} {ss sx : SV} {sz bytes : Nat} {z : List AV} {id : Nat} {len cap off la b k y n : Atom} {rd : List Nat} {sb : SB} {i : TypeInfo} {zv : Value}
    (ho : o.op = .call c) (hb : c.callee = .builtin .append) (hat : c.argTypes.toList = [t, u]) (hxs : c.args.toList = [xs, xx])
    (he : elemT P t = some e) (f1 : P.info? e = some i) (f2 : i.zero = some zv) (f3 : ∀ Φ, RepE Φ z zv.cells.toList) (hzl : z.length = i.size) (hb0 : 0 < i.bytes) (hs0 : 0 < i.size) (hsz : sz = i.size) (hby : bytes = i.bytes)
    (hss : opv tmps xs = some ss) (hsx : opv tmps xx = some sx) (hse : ss = .osl id sz off len cap) (hoff : off.den τ = num 0)
    (hsb : heap.getD id none = some sb) (hro : sb.ro = false)
    (hnews : ∀ (X : LS) (Φ : Fix) (μ : Map) (a : Act) (w : World) (x : Value), SRel E τ X Φ μ a w → (∀ id ∈ rd, X.blk id = heap.getD id none) → SRep Φ μ τ sx x → BringsAt P u i zv Φ (b.den τ) (k.den τ) x w)
    (hla : ∀ Φ μ vs, CRep Φ μ τ sb.cells vs → ∃ cs, la.den τ = .lst cs ∧ RepL Φ cs vs)
    (h1 : evalO (.lapp sz bytes) [la.den τ, len.den τ, b.den τ, k.den τ] = some (y.den τ)) (h2 : evalO (.ofs 1) [len.den τ, k.den τ] = some (n.den τ)) :
    EffOk P E τ heap tmps o { res := .osl heap.length sz zeroAtom n n, rd := id :: rd, wr := [(id, none)], new := [some ⟨.dyn y, false⟩] } := by
  subst hsz; subst hby
  intro X Φ μ ac w Q K hA hR hK
  have hgs := hA.rep hR (call_mem ho (by rw [hxs]; simp)) hss
  have hgx := hA.rep hR (call_mem ho (by rw [hxs]; simp)) hsx
  obtain ⟨ho1, ho2⟩ := hA.blk id (by simp)
  have hXb : X.blk id = some ⟨sb.cells, false⟩ := by rw [ho1, hsb]; cases sb; simp_all
  obtain ⟨cs, n', vs, g1, g2, g3, g4, g5⟩ := hnews X Φ μ ac w _ hR (fun j hj => (hA.blk j (by simp [hj])).1) hgx
  obtain ⟨_, ⟨C, ty, fr, k2, k3, k4, k5, k6⟩, _⟩ := hR.blks id _ hXb
  obtain ⟨as, m1, m2⟩ := hla Φ μ _ k5
  obtain ⟨as', N, bs, j, q1, q2, q3, q4, q5, q6, q7, q8, q9⟩ := evalO_lapp h1
  rw [m1] at q1; cases q1
  rw [g1] at q3; cases q3
  rw [g2] at q4
  have := num_inj q4; subst this
  obtain ⟨kk, jj, ii, r1, r2, r3, r4⟩ := evalO_ofs h2
  rw [q2] at r1
  have := num_inj r1; subst this
  rw [g2] at r2
  have hii : ii = n' := by unfold num at r2; injection r2 with _ r2; exact r2.symm
  subst hii
  simp only [Int.toNat_natCast, Nat.mul_one] at r4
  subst hse
  simp only [SRep] at hgs
  obtain ⟨oo, L, K0, c0, o', s1, s2, s3, s4, s5, s6, s7, s8⟩ := hgs
  rw [q2] at s2
  have := num_inj s2; subst this
  rw [hoff] at s1
  have := num_inj s1; subst this
  have hmlen := m2.len
  simp only [Array.length_toList] at hmlen
  have hzs : zv.cells.size = i.size := by have := (f3 Φ).1; simp at this; omega
  have hnew := hA.new1 rfl
  have hrun : ∀ v w', (Builtin.append_ #[t, u] o.type #[ac.eval xs, ac.eval xx]).run P w = .ok v w' → (execOp ac.eval o).run P w = .ok (.value v) w' := fun v w' hr => by
    refine run_builtin ho hb ?_
    rw [toArray_of_toList hat, toArray_of_toList hxs]
    simp only [builtin, Sem.run_bind, List.map_toArray, List.map_cons, List.map_nil, hr, Result.andThen_ok, Sem.run_pure]
  have h1c : ∀ u' ∈ vs, u'.oneCell' = true := RepL.oneCell g3.1 q8 g3.2
  have hvl : vs.length = n' * i.size := by rw [g3.1, g4]
  rw [upd_wr_new rfl rfl] at hK
  by_cases hroom : N + n' ≤ c0
  · -- there is room
    have hoz : N * i.size + n' * i.size ≤ c0 * i.size := by rw [← Nat.add_mul]; exact Nat.mul_le_mul_right _ hroom
    have hst := run_storeCells (P := P) (μ id).1 (o' + N * i.size) ty fr vs 0 C w k2 k4 (by omega) h1c
    simp only [Nat.add_zero] at hst
    have hap := run_append_there (P := P) (t := t) (u := u) (ty := o.type) (base := some ⟨(μ id).1, o', none⟩) (sCap := c0) (elemT_some he) f1 f2 hzs g5 hroom
      (fun a ha => by cases ha; rw [add_addr]; exact hst) (fun h => by cases h)
    rw [← s4] at hap
    have hsize : (splat C.toList (o' + N * i.size) vs).toArray.size = C.size := splat_size (by omega)
    have hcrep : CRep Φ μ τ (.dyn y) (splat C.toList (o' + N * i.size) vs).toArray.toList := by
      refine ⟨_, q9, ?_⟩
      have hcase : o' = 0 ∨ n' = 0 ∧ N = 0 := by
        rcases s7 with h | h
        · exact .inl h
        · right; omega
      rcases hcase with h0 | ⟨h0, h3⟩
      · subst h0
        simp only [Nat.zero_add]
        unfold splat
        have h4 : RepL Φ (as.take (N * i.size)) (C.toList.take (N * i.size)) := RepL.less _ (by simp; omega) (RepL.take _ m2)
        have h5 := RepL.append (by simp; omega) h4 g3.2
        have h6 := RepL.more (C.toList.drop (N * i.size + vs.length)) h5
        exact h6
      · subst h0; subst h3
        have hb0 : cs = [] := by apply List.length_eq_zero_iff.1; rw [g4]; simp
        subst hb0
        simp [RepL]
    have hm := hR.modify (c' := .dyn y) hXb (by rw [hsize, k3]) hcrep (by simp [Cells.refs])
    have hm2 := hm.rename (id := id) (id' := heap.length) (sb := ⟨.dyn y, false⟩) (by simp) (by simpa using hnew)
    have hX : (((X.set (lBlk id) (.bk (some ⟨.dyn y, false⟩))).set (lBlk id) (.bk none)) : LS) = X.set (lBlk id) (.bk none) := by
      funext l; simp only [LS.set]; split <;> rfl
    rw [hX] at hm2
    refine wp_of_value (hrun _ _ hap) (hK Φ _ _ _ hm2 ?_)
    simp only [SRep, den_zero, if_true]
    exact ⟨0, N + n', N + n', c0, o', rfl, r4, r4, rfl, Nat.le_refl _, hroom, s7, s8⟩
  · -- a new row
    have holdrun : ∀ w' : World, w'.heap = w.heap → (Builtin.firstCells i.size N (.slice (some ⟨(μ id).1, o', none⟩) N c0)).run P w' = .ok (((C.toList.drop o').take (N * i.size)).toArray) w' := fun w' hw' => by
      simp only [Builtin.firstCells]
      refine loadCells_run (by rw [hw']; exact k2) ?_
      have : N * i.size ≤ c0 * i.size := Nat.mul_le_mul_right _ (by omega)
      omega
    have hap := run_append_new (P := P) (t := t) (u := u) (ty := o.type) (elemT_some he) f1 f2 hzs g5 (by omega) holdrun hb0 q7
    rw [← s4] at hap
    have hge := grownCap_ge w (N + n') c0 e
    have holdc : RepE Φ (as.take (N * i.size)) ((C.toList.drop o').take (N * i.size)) := by
      have hNc : N * i.size ≤ c0 * i.size := Nat.mul_le_mul_right _ (by omega)
      have hl : ((C.toList.drop o').take (N * i.size)).length = N * i.size := by simp; omega
      refine ⟨by rw [hl]; simp; omega, ?_⟩
      rcases s7 with h | h
      · subst h
        simpa using RepL.less _ (by simp; omega) (RepL.take (N * i.size) m2)
      · have : N = 0 := by omega
        subst this; simp [RepL]
    have hal := (hR.kill (id := id)).drew.alloc (id := heap.length) (c := .dyn y) (C := ((C.toList.drop o').take (N * i.size)).toArray ++ vs.toArray ++ Builtin.zeroCells zv.cells (grownCap w (N + n') c0 e - (N + n'))) (t := e) (fr := (0, 0))
      (by simpa using hnew) ⟨_, q9, grown_crep holdc g3⟩ (by simp [Cells.refs]) (fun _ _ => by simp)
    refine wp_of_value (hrun _ _ hap) (hK Φ _ _ _ hal ?_)
    simp only [SRep, den_zero, if_true]
    refine ⟨0, N + n', N + n', grownCap w (N + n') c0 e, 0, rfl, r4, r4, rfl, Nat.le_refl _, hge, .inl rfl, ?_⟩
    have hl := holdc.1
    have : (as.take (N * i.size)).length = N * i.size := by simp; omega
    have e1 : grownCap w (N + n') c0 e * i.size = (N + n') * i.size + (grownCap w (N + n') c0 e - (N + n')) * i.size := by rw [← Nat.add_mul]; congr 1; omega
    have e2 : (N + n') * i.size = N * i.size + n' * i.size := Nat.add_mul _ _ _
    simp only [Array.size_append, List.size_toArray, size_zeroCells, hzs, hl, hvl]
    omega
end Go.SE
set_option autoImplicit false
namespace Go.SE
open Go
variable {P : Program} {σ0 τ : List AV} {E : Ent} {heap : Heap} {tmps : List SV} {o : Oper}
theorem evalO_noroom {a v : AV} (h : evalO .noroom [a] = some v) : v = a ∧ (a = .nils ∨ a = .c0) := by
  cases a <;> simp [evalO] at h <;> simp [h]
theorem noroom_rep {Φ : Fix} {a : AV} {v : Value} (h : a = .nils ∨ a = .c0) (hr : Rep Φ a v) : ∃ b : Option Addr, v = .slice b 0 0 := by
  rcases h with rfl | rfl <;> simp only [Rep] at hr
  · exact ⟨none, hr⟩
  · obtain ⟨b, h, _⟩ := hr; exact ⟨b, h⟩
theorem append_run_eq {c : Call} {t u : TypeId} {xs xx : Operand} (ho : o.op = .call c) (hb : c.callee = .builtin .append) (hat : c.argTypes.toList = [t, u]) (hxs : c.args.toList = [xs, xx]) {ac : Act} {w w' : World} {v : Value}
    (hr : (Builtin.append_ #[t, u] o.type #[ac.eval xs, ac.eval xx]).run P w = .ok v w') : (execOp ac.eval o).run P w = .ok (.value v) w' := by
  refine run_builtin ho hb ?_
  rw [toArray_of_toList hat, toArray_of_toList hxs]
  simp only [builtin, Sem.run_bind, List.map_toArray, List.map_cons, List.map_nil, hr, Result.andThen_ok, Sem.run_pure]
theorem append_none_ok {c : Call} {t u e : TypeId} {xs xx : Operand} {sx : SV} {z : List AV} {a0 b k v0 : Atom} {rd : List Nat} {i : TypeInfo} {zv : Value}
    (ho : o.op = .call c) (hb : c.callee = .builtin .append) (hat : c.argTypes.toList = [t, u]) (hxs : c.args.toList = [xs, xx])
    (he : elemT P t = some e) (f1 : P.info? e = some i) (f2 : i.zero = some zv) (f3 : ∀ Φ, RepE Φ z zv.cells.toList) (hzl : z.length = i.size)
    (hss : opv tmps xs = some (.atm a0)) (hsx : opv tmps xx = some sx)
    (hnews : ∀ (X : LS) (Φ : Fix) (μ : Map) (a : Act) (w : World) (x : Value), SRel E τ X Φ μ a w → (∀ id ∈ rd, X.blk id = heap.getD id none) → SRep Φ μ τ sx x → BringsAt P u i zv Φ (b.den τ) (k.den τ) x w)
    (h0 : evalO .noroom [a0.den τ] = some (v0.den τ)) (h1 : k.den τ = num 0) :
    EffOk P E τ heap tmps o { res := .atm a0, rd := rd } := by
  refine EffOk.pure rfl rfl fun X Φ μ ac w hA hR => ?_
  have hgs := hA.rep hR (call_mem ho (by rw [hxs]; simp)) hss
  have hgx := hA.rep hR (call_mem ho (by rw [hxs]; simp)) hsx
  obtain ⟨cs, n', vs, g1, g2, g3, g4, g5⟩ := hnews X Φ μ ac w _ hR (fun j hj => (hA.blk j (by simp [hj])).1) hgx
  rw [h1] at g2
  have := num_inj g2; subst this
  obtain ⟨_, hn⟩ := evalO_noroom h0
  simp only [SRep] at hgs
  obtain ⟨ba, hv⟩ := noroom_rep hn hgs
  have hzs : zv.cells.size = i.size := by have := (f3 Φ).1; simp at this; omega
  have hcs : cs = [] := by apply List.length_eq_zero_iff.1; rw [g4]; simp
  subst hcs
  have hvs : vs = [] := List.length_eq_zero_iff.1 g3.1
  subst hvs
  refine ⟨ac.eval xs, append_run_eq ho hb hat hxs ?_, by simpa [SRep] using hgs⟩
  have := run_append_there (P := P) (t := t) (u := u) (ty := o.type) (base := ba) (sLen := 0) (sCap := 0) (w' := w) (elemT_some he) f1 f2 hzs g5 (by omega)
      (fun a ha => by simp [storeCells]) (fun h => rfl)
  rw [hv]
  simpa using this
theorem append_atm_ok {c : Call} {t u e : TypeId} {xs xx : Operand} {sx : SV} {sz bytes : Nat} {z : List AV} {a0 b k y v0 v1 : Atom} {rd : List Nat} {i : TypeInfo} {zv : Value}
    (ho : o.op = .call c) (hb : c.callee = .builtin .append) (hat : c.argTypes.toList = [t, u]) (hxs : c.args.toList = [xs, xx])
    (he : elemT P t = some e) (f1 : P.info? e = some i) (f2 : i.zero = some zv) (f3 : ∀ Φ, RepE Φ z zv.cells.toList) (hzl : z.length = i.size) (hb0 : 0 < i.bytes) (hsz : sz = i.size) (hby : bytes = i.bytes)
    (hss : opv tmps xs = some (.atm a0)) (hsx : opv tmps xx = some sx)
    (hnews : ∀ (X : LS) (Φ : Fix) (μ : Map) (a : Act) (w : World) (x : Value), SRel E τ X Φ μ a w → (∀ id ∈ rd, X.blk id = heap.getD id none) → SRep Φ μ τ sx x → BringsAt P u i zv Φ (b.den τ) (k.den τ) x w)
    (h0 : evalO .noroom [a0.den τ] = some (v0.den τ))
    (h1 : evalO (.lapp sz bytes) [.lst [], num 0, b.den τ, k.den τ] = some (y.den τ)) (h2 : evalO .chki [num 0, k.den τ] = some (v1.den τ)) :
    EffOk P E τ heap tmps o { res := .osl heap.length sz zeroAtom k k, rd := rd, new := [some ⟨.dyn y, false⟩] } := by
  subst hsz; subst hby
  refine EffOk.alloc (c := .dyn y) rfl rfl (by simp [Cells.refs]) fun X Φ μ ac w hA hR => ?_
  have hgs := hA.rep hR (call_mem ho (by rw [hxs]; simp)) hss
  have hgx := hA.rep hR (call_mem ho (by rw [hxs]; simp)) hsx
  obtain ⟨cs, n', vs, g1, g2, g3, g4, g5⟩ := hnews X Φ μ ac w _ hR (fun j hj => (hA.blk j (by simp [hj])).1) hgx
  obtain ⟨as', N, bs, j, q1, q2, q3, q4, q5, q6, q7, q8, q9⟩ := evalO_lapp h1
  cases q1
  rw [g1] at q3; cases q3
  rw [g2] at q4
  have := num_inj q4; subst this
  have := num_inj q2; subst this
  obtain ⟨kk, ii, nn, r1, r2, r3, r4⟩ := evalO_chki h2
  rw [g2] at r2
  have := num_inj r2; subst this
  have hpos : 0 < n' := by
    unfold num at r1; injection r1 with _ r1
    omega
  obtain ⟨_, hn⟩ := evalO_noroom h0
  simp only [SRep] at hgs
  obtain ⟨ba, hv⟩ := noroom_rep hn hgs
  have hzs : zv.cells.size = i.size := by have := (f3 Φ).1; simp at this; omega
  have hvl : vs.length = n' * i.size := by rw [g3.1, g4]
  have hap := run_append_new (P := P) (t := t) (u := u) (ty := o.type) (base := ba) (sLen := 0) (sCap := 0) (olds := []) (elemT_some he) f1 f2 hzs g5 (by omega)
    (fun w' hw' => by cases ba <;> simp [Builtin.firstCells, loadCells_zero]) hb0 q7
  rw [← hv] at hap
  simp only [Nat.zero_add] at hap
  have hge := grownCap_ge w n' 0 e
  refine ⟨.slice (some ⟨w.heap.size, 0, none⟩) n' (grownCap w n' 0 e), _, e, (0, 0), w.drew, append_run_eq ho hb hat hxs hap, hR.drew, ⟨_, q9, ?_⟩, fun _ _ => by simp, ?_⟩
  · have : RepE Φ (List.take (0 * i.size) ([] : List AV)) [] := by simp [RepE, RepL]
    exact grown_crep this g3
  · simp only [SRep, den_zero, if_true]
    refine ⟨0, n', n', grownCap w n' 0 e, 0, rfl, g2, g2, rfl, Nat.le_refl _, hge, .inl rfl, ?_⟩
    have e1 : grownCap w n' 0 e * i.size = n' * i.size + (grownCap w n' 0 e - n') * i.size := by rw [← Nat.add_mul]; congr 1; omega
    simp only [Array.size_append, List.size_toArray, size_zeroCells, hzs, hvl, List.length_nil]
    omega
theorem evalO_lcpy {sz : Nat} {d o s k v : AV} (h : evalO (.lcpy sz) [d, o, s, k] = some v) :
    ∃ ds off ss n, d = .lst ds ∧ o = num off ∧ s = .lst ss ∧ k = num n ∧ off + n * sz ≤ ds.length ∧ n * sz ≤ ss.length ∧ (ss.take (n * sz)).all AV.isCell = true ∧ v = .lst (putCells ds off (ss.take (n * sz))) := by
  cases d with
  | lst ds =>
    cases s with
    | lst ss =>
      simp only [evalO] at h
      split at h
      · rename_i off n h1 h2
        split at h
        · rename_i hc; cases h
          exact ⟨ds, off, ss, n, rfl, nat?_num h1, rfl, nat?_num h2, hc.1, hc.2.1, hc.2.2, rfl⟩
        · cases h
      · cases h
    | _ => simp [evalO] at h
  | _ => simp [evalO] at h
theorem evalO_imin {a b v : AV} (h : evalO .imin [a, b] = some v) : ∃ x y, a = num x ∧ b = num y ∧ v = num (min x y) := by
  simp only [evalO] at h
  split at h
  · rename_i x y h1 h2
    cases h; exact ⟨x, y, nat?_num h1, nat?_num h2, rfl⟩
  · cases h
theorem copy_ok {c : Call} {t u e : TypeId} {xs xx : Operand} {ss sx : SV} {sz : Nat} {id : Nat} {len cap off la b k y n : Atom} {rd : List Nat} {sb : SB}
    (ho : o.op = .call c) (hb : c.callee = .builtin .copy) (hat : c.argTypes.toList = [t, u]) (hxs : c.args.toList = [xs, xx])
    (he : elemT P t = some e) (hs : sizeT P e = some sz)
    (hss : opv tmps xs = some ss) (hsx : opv tmps xx = some sx) (hse : ss = .osl id sz off len cap)
    (hsb : heap.getD id none = some sb) (hro : sb.ro = false)
    (hnews : ∀ (X : LS) (Φ : Fix) (μ : Map) (a : Act) (w : World) (x : Value), SRel E τ X Φ μ a w → (∀ id ∈ rd, X.blk id = heap.getD id none) → SRep Φ μ τ sx x → NewsAt P sz Φ (b.den τ) (k.den τ) x w)
    (hla : ∀ Φ μ vs, CRep Φ μ τ sb.cells vs → ∃ cs, la.den τ = .lst cs ∧ RepL Φ cs vs)
    (h1 : evalO .imin [k.den τ, len.den τ] = some (n.den τ)) (h2 : evalO (.lcpy sz) [la.den τ, off.den τ, b.den τ, n.den τ] = some (y.den τ)) :
    EffOk P E τ heap tmps o { res := .atm n, rd := id :: rd, wr := [(id, some ⟨.dyn y, false⟩)] } := by
  intro X Φ μ ac w Q K hA hR hK
  have hgs := hA.rep hR (call_mem ho (by rw [hxs]; simp)) hss
  have hgx := hA.rep hR (call_mem ho (by rw [hxs]; simp)) hsx
  obtain ⟨ho1, ho2⟩ := hA.blk id (by simp)
  have hXb : X.blk id = some ⟨sb.cells, false⟩ := by rw [ho1, hsb]; cases sb; simp_all
  obtain ⟨cs, n', vs, g1, g2, g3, g4, g5⟩ := hnews X Φ μ ac w _ hR (fun j hj => (hA.blk j (by simp [hj])).1) hgx
  obtain ⟨_, ⟨C, ty, fr, k2, k3, k4, k5, k6⟩, _⟩ := hR.blks id _ hXb
  obtain ⟨as, m1, m2⟩ := hla Φ μ _ k5
  obtain ⟨x1, x2, p1, p2, p3⟩ := evalO_imin h1
  rw [g2] at p1
  have := num_inj p1; subst this
  obtain ⟨ds, of, bs, N, q1, q2, q3, q4, q5, q6, q7, q8⟩ := evalO_lcpy h2
  rw [m1] at q1; cases q1
  rw [g1] at q3; cases q3
  rw [p3] at q4
  have := num_inj q4
  subst hse
  simp only [SRep] at hgs
  obtain ⟨oo, L, K0, c0, o', s1, s2, s3, s4, s5, s6, s7, s8⟩ := hgs
  rw [q2] at s1
  have := num_inj s1; subst this
  rw [p2] at s2
  have := num_inj s2; subst this
  have hmlen := m2.len
  simp only [Array.length_toList] at hmlen
  obtain ⟨v1, v2⟩ := g5 w rfl
  have v2 := v2 N (by omega)
  have hvl : vs.length = cs.length := g3.1
  have htl : (vs.take (N * sz)).length = N * sz := by simp; omega
  have htr : RepE Φ (cs.take (N * sz)) (vs.take (N * sz)) := ⟨by simp; omega, RepL.less _ (by simp; omega) (RepL.take _ g3.2)⟩
  have h1c := RepL.oneCell htr.1 q7 htr.2
  have hfit : o' + (vs.take (N * sz)).length ≤ C.size := by
    rw [htl]
    rcases s7 with h | h
    · omega
    · have : N = 0 := by omega
      subst this
      have : o' + c0 * sz ≤ C.size := by omega
      omega
  have hst := run_storeCells (P := P) (μ id).1 o' ty fr (vs.take (N * sz)) 0 C w k2 k4 (by simpa using hfit) h1c
  simp only [Nat.add_zero] at hst
  have hcp : (Builtin.copy_ #[t, u] o.type #[ac.eval xs, ac.eval xx]).run P w = .ok (goInt N) (w.setRow (μ id).1 (splat C.toList o' (vs.take (N * sz))).toArray) := by
    have hmin : Nat.min n' x2 = N := by omega
    simp [Builtin.copy_, run_underlying_some (elemT_some he), s4, v1, run_sizeOf hs, hmin, v2, hst]
  have hrun : (execOp ac.eval o).run P w = .ok (.value (goInt N)) (w.setRow (μ id).1 (splat C.toList o' (vs.take (N * sz))).toArray) := by
    refine run_builtin ho hb ?_
    rw [toArray_of_toList hat, toArray_of_toList hxs]
    simp only [builtin, Sem.run_bind, List.map_toArray, List.map_cons, List.map_nil, hcp, Result.andThen_ok, Sem.run_pure]
  rw [upd_wr rfl rfl] at hK
  refine wp_of_value hrun (hK Φ μ _ _ (hR.modify hXb ?_ ?_ ?_) ?_)
  · rw [splat_size hfit, k3]
  · refine ⟨_, q8, ?_⟩
    show RepL Φ _ (splat C.toList o' (vs.take (N * sz)))
    rcases s7 with h | h
    · subst h
      exact RepL.put m2 htr (by simp; omega)
    · have : N = 0 := by omega
      subst this
      simpa [putCells, splat] using m2
  · simp [Cells.refs]
  · simp only [SRep, p3]
    have : min n' x2 = N := by omega
    rw [this]
    simp [Rep, num, goInt]
end Go.SE
set_option autoImplicit false
namespace Go.SE
open Go Go.RowKit
variable {P : Program} {σ0 τ : List AV} {E : Ent} {heap : Heap} {tmps : List SV} {o : Oper}
theorem SRel.call {X : LS} {Φ Φ' : Fix} {μ : Map} {a : Act} {w w' : World} (h : SRel E τ X Φ μ a w) (hf : WR Φ' w') (hle : Φ.le Φ') (hag : ∀ b, b < w.heap.size → Φ' b = Φ b)
    (hB : Below w.heap.size w w') : SRel E τ X Φ' μ a w' where
  dfr := h.dfr
  nt := h.nt
  mem := {
    os := hB.os.trans h.mem.os
    tape := hB.tape.trans h.mem.tape
    output := hB.output.trans h.mem.output
    size := Nat.le_trans h.mem.size hB.size
    frame := fun b hb ho => by rw [hB.block b (Nat.lt_of_lt_of_le hb h.mem.size)]; exact h.mem.frame b hb ho
    fix := hf
    phi := fun b hb ho => by rw [hag b (Nat.lt_of_lt_of_le hb h.mem.size)]; exact h.mem.phi b hb ho
    phi0 := Fix.le_trans h.mem.phi0 hle }
  tmps := fun t => SRep.mono hle _ _ (fun _ _ => rfl) (h.tmps t)
  refs := h.refs
  blks := fun id sb hb => by
    obtain ⟨h1, ⟨C, t, fr, h2, h3, h4, h5, h6⟩, h7⟩ := h.blks id sb hb
    have hlt := h.lt id h1
    refine ⟨h1, ⟨C, t, fr, by rw [hB.block _ hlt]; exact h2, h3, h4, CRep.mono hle _ _ (fun _ _ => rfl) h5, ?_⟩, h7⟩
    rw [hag _ hlt]; exact h6
  home := h.home
  lt := fun id hid => Nat.lt_of_lt_of_le (h.lt id hid) hB.size
  inj := h.inj
  old := h.old
theorem LS.set_same {X : LS} {id : Nat} {b : Option SB} (h : X (lBlk id) = .bk b) : X.set (lBlk id) (.bk b) = X := by
  funext l
  unfold LS.set
  split
  · rename_i e; subst e; exact h.symm
  · rfl
theorem LS.blk_some {X : LS} {id : Nat} {sb : SB} (h : X.blk id = some sb) : X (lBlk id) = .bk (some sb) := by
  unfold LS.blk at h
  split at h
  · rename_i b hb; rw [hb, h]
  · cases h
theorem SRel.freezeMany : ∀ (ids : List Nat) {X : LS} {Φ : Fix} {μ : Map} {a : Act} {w : World}, SRel E τ X Φ μ a w →
    (∀ id ∈ ids, ∃ sb, heap.getD id none = some sb ∧ sb.ro = false ∧ (X.blk id = some sb ∨ X.blk id = some { sb with ro := true })) →
    ∃ Φ', Φ.le Φ' ∧ SRel E τ (X.upd ((frozen heap ids).map fun p => (lBlk p.1, LV.bk p.2))) Φ' μ a w ∧ ∀ id ∈ ids, ∀ C t fr, w.heap[(μ id).1]? = some (.cells C t fr) → Φ' (μ id).1 = some C
  | [], X, Φ, μ, a, w, h, _ => ⟨Φ, Fix.le_refl _, by simpa [frozen, LS.upd] using h, by simp⟩
  | id :: ids, X, Φ, μ, a, w, h, hs => by
    obtain ⟨sb, h1, h2, h3⟩ := hs id (by simp)
    have hcons : ∀ (X : LS), X.upd ((frozen heap (id :: ids)).map fun p => (lBlk p.1, LV.bk p.2)) = (X.set (lBlk id) (.bk (some { sb with ro := true }))).upd ((frozen heap ids).map fun p => (lBlk p.1, LV.bk p.2)) := fun X => by
      simp only [frozen, List.map_cons, LS.upd, List.foldl_cons, h1, Option.map_some]
    rw [hcons]
    have hset : ∃ Φ1, Φ.le Φ1 ∧ SRel E τ (X.set (lBlk id) (.bk (some { sb with ro := true }))) Φ1 μ a w ∧ ∀ C t fr, w.heap[(μ id).1]? = some (.cells C t fr) → Φ1 (μ id).1 = some C := by
      rcases h3 with h3 | h3
      · have h3' : X.blk id = some ⟨sb.cells, false⟩ := by rw [h3]; cases sb; simp_all
        obtain ⟨Φ1, C, t, fr, k1, _, k3, k4, k5⟩ := h.freeze h3'
        exact ⟨Φ1, k3, k5, fun C' t' fr' hh => by rw [k1] at hh; cases hh; exact k4⟩
      · refine ⟨Φ, Fix.le_refl _, ?_, fun C' t' fr' hh => ?_⟩
        · rw [LS.set_same (LS.blk_some h3)]; exact h
        · obtain ⟨_, ⟨C, t, fr, k1, _, _, _, k6⟩, _⟩ := h.blks id _ h3
          rw [k1] at hh; cases hh
          simpa using k6
    obtain ⟨Φ1, k1, k2, k3⟩ := hset
    obtain ⟨Φ2, m1, m2, m3⟩ := SRel.freezeMany ids k2 (fun j hj => by
      obtain ⟨sj, g1, g2, g3⟩ := hs j (by simp [hj])
      refine ⟨sj, g1, g2, ?_⟩
      rw [LS.blk_set_blk]
      split
      · rename_i e; subst e
        rw [h1] at g1; cases g1
        exact .inr rfl
      · exact g3)
    refine ⟨Φ2, Fix.le_trans k1 m1, m2, fun j hj C t fr hh => ?_⟩
    rcases List.mem_cons.1 hj with rfl | hj
    · exact m1 _ _ (k3 C t fr hh)
    · exact m3 j hj C t fr hh
theorem mapEM_ids {f : SV → EM (Atom × List Nat)} (hf : ∀ s p e e', f s e = some (p, e') → ∀ id ∈ p.2, ∃ sb, heap.getD id none = some sb) :
    ∀ {l : List SV} {ps : List (Atom × List Nat)} {e e' : Em}, mapEM f l e = some (ps, e') → ∀ id ∈ (ps.map (·.2)).flatten, ∃ sb, heap.getD id none = some sb
  | [], ps, e, e', h, id, hi => by
    simp only [mapEM, EM.pure_eq] at h
    cases h; simp at hi
  | s :: l, ps, e, e', h, id, hi => by
    simp only [mapEM, EM.bind_eq, EM.pure_eq] at h
    obtain ⟨b, e1, h1, bs, e2, h2, h3⟩ := h
    cases h3
    simp only [List.map_cons, List.flatten_cons, List.mem_append] at hi
    rcases hi with hi | hi
    · exact hf s b e e1 h1 id hi
    · exact mapEM_ids hf h2 id hi
theorem freeze_ids : ∀ {n : Nat} {s : SV} {p : Atom × List Nat} {e e' : Em}, freeze heap n s e = some (p, e') → ∀ id ∈ p.2, ∃ sb, heap.getD id none = some sb
  | 0, s, p, e, e', h, id, hi => by simp only [freeze] at h; rw [fail_eq] at h; exact h.elim
  | n + 1, s, p, e, e', h, id, hi => by
    have many : ∀ {l : List SV} {ps : List (Atom × List Nat)} {e e' : Em}, mapEM (freeze heap n) l e = some (ps, e') → ∀ id ∈ (ps.map (·.2)).flatten, ∃ sb, heap.getD id none = some sb :=
      fun h => mapEM_ids (fun s p e e' h => freeze_ids h) h
    cases s with
    | undef => simp only [freeze] at h; rw [fail_eq] at h; exact h.elim
    | fn f l => simp only [freeze] at h; rw [fail_eq] at h; exact h.elim
    | atm a => simp only [freeze, EM.pure_eq] at h; cases h; simp at hi
    | agg l =>
      simp only [freeze, EM.bind_eq, EM.pure_eq] at h
      obtain ⟨ps, e1, h1, a, e2, h2, h3⟩ := h
      cases h3
      exact many h1 id hi
    | tup l =>
      simp only [freeze, EM.bind_eq, EM.pure_eq] at h
      obtain ⟨ps, e1, h1, a, e2, h2, h3⟩ := h
      cases h3
      exact many h1 id hi
    | ifc t s =>
      simp only [freeze, EM.bind_eq, EM.pure_eq] at h
      obtain ⟨p1, e1, h1, a, e2, h2, h3⟩ := h
      cases h3
      exact freeze_ids h1 id hi
    | ptr i off =>
      simp only [freeze, EM.bind_eq, blk_eq] at h
      obtain ⟨sb, e1, ⟨sb', hsb, h1⟩, h⟩ := h
      cases h1
      cases hc : sb.cells with
      | dyn a =>
        simp only [hc, EM.bind_eq, EM.pure_eq] at h
        obtain ⟨x, e2, h2, h3⟩ := h
        cases h3
        simp only [List.mem_singleton] at hi
        subst hi; exact ⟨_, hsb⟩
      | fix l =>
        simp only [hc, EM.bind_eq, EM.pure_eq] at h
        obtain ⟨ps, e2, h2, a, e3, h3, x, e4, h4, h5⟩ := h
        cases h5
        simp only [List.mem_cons] at hi
        rcases hi with rfl | hi
        · exact ⟨_, hsb⟩
        · exact many h2 id hi
    | osl i sz off len cap =>
      simp only [freeze, EM.bind_eq, blk_eq] at h
      obtain ⟨sb, e1, ⟨sb', hsb, h1⟩, h⟩ := h
      cases h1
      cases hc : sb.cells with
      | dyn a =>
        simp only [hc, EM.bind_eq, EM.pure_eq] at h
        obtain ⟨x, e2, h2, h3⟩ := h
        cases h3
        simp only [List.mem_singleton] at hi
        subst hi; exact ⟨_, hsb⟩
      | fix l =>
        simp only [hc, EM.bind_eq, EM.pure_eq] at h
        obtain ⟨ps, e2, h2, a, e3, h3, x, e4, h4, h5⟩ := h
        cases h5
        simp only [List.mem_cons] at hi
        rcases hi with rfl | hi
        · exact ⟨_, hsb⟩
        · exact many h2 id hi
theorem enterable_run {f : FuncId} (h : enterable P f = true) (args : Array Value) (w : World) : (callFunc f args).run P w = .ok (.enter f args) w := by
  unfold enterable at h
  split at h
  · rename_i fn hfn
    simp only [Bool.and_eq_true, Bool.not_eq_true'] at h
    have hb : fn.body.isNone = false := by cases hb : fn.body <;> simp_all
    have hn : (fn.name = "runtime.NumGoroutine") = False := by simpa using h.2
    simp only [callFunc, Sem.run_bind, run_program, Result.andThen_ok, hfn, h.2, hb, Bool.false_eq_true, if_false, Sem.run_pure]
  · cases h
theorem callTarget_go {f : FuncId} {args : List SV} (h : callTarget tmps o = some (f, args)) : ∃ c fv, o.op = .call c ∧ c.callee = .value fv ∧
    ∀ {X : LS} {Φ : Fix} {μ : Map} {a : Act} {w : World} {e : Eff}, Agree X heap tmps o e → SRel E τ X Φ μ a w →
      ∃ vs : List Value, SRepL Φ μ τ args vs ∧ (execOp a.eval o).run P w = (callFunc f vs.toArray).run P w := by
  unfold callTarget at h
  split at h
  · rename_i c hc
    split at h
    · rename_i fv hfv
      refine ⟨c, fv, hc, hfv, fun {X Φ μ a w e} hA hR => ?_⟩
      have hfm : fv ∈ o.op.operands := by simp [hc, Op.operands, Call.operands, hfv]
      have ham : ∀ x ∈ c.args.toList, x ∈ o.op.operands := fun x hx => call_mem hc hx
      split at h
      · rename_i n cs as hf has
        simp only [Option.some.injEq, Prod.mk.injEq] at h
        obtain ⟨rfl, rfl⟩ := h
        have g1 := hA.rep hR hfm hf
        have g2 := opvs_rep hA hR ham has
        simp only [SRep, Atom.den, Rep] at g1
        obtain ⟨vs, g3, g4, g5⟩ := g1
        refine ⟨c.args.toList.map a.eval ++ vs.toList, SRepL.append g2 ?_, ?_⟩
        · rw [consts_atoms, SRepL.atoms, den_consts]
          exact ⟨by simpa using g4, g5⟩
        · simp only [execOp, hc, resolve, hfv, g3, Deferred.ofValue, Sem.run_bind, Sem.run_pure, Result.andThen_ok, invoke]
          congr 2
          apply Array.ext'
          simp
      · rename_i n l as hf has
        simp only [Option.some.injEq, Prod.mk.injEq] at h
        obtain ⟨rfl, rfl⟩ := h
        have g1 := hA.rep hR hfm hf
        have g2 := opvs_rep hA hR ham has
        simp only [SRep] at g1
        obtain ⟨vs, g3, g4⟩ := g1
        refine ⟨c.args.toList.map a.eval ++ vs.toList, SRepL.append g2 g4, ?_⟩
        simp only [execOp, hc, resolve, hfv, g3, Deferred.ofValue, Sem.run_bind, Sem.run_pure, Result.andThen_ok, invoke]
        congr 2
        apply Array.ext'
        simp
      · cases h
    · cases h
  · cases h
theorem callTarget_run {f : FuncId} {args : List SV} (h : callTarget tmps o = some (f, args)) : ∃ c fv, o.op = .call c ∧ c.callee = .value fv ∧
    ∀ {X : LS} {Φ : Fix} {μ : Map} {a : Act} {w : World} {e : Eff}, Agree X heap tmps o e → SRel E τ X Φ μ a w → enterable P f = true →
      ∃ vs : List Value, SRepL Φ μ τ args vs ∧ (execOp a.eval o).run P w = .ok (.enter f vs.toArray) w := by
  obtain ⟨c, fv, h1, h2, h3⟩ := callTarget_go (P := P) (E := E) (τ := τ) (heap := heap) h
  exact ⟨c, fv, h1, h2, fun {X Φ μ a w e} hA hR hen => by
    obtain ⟨vs, g1, g2⟩ := h3 hA hR
    exact ⟨vs, g1, by rw [g2, enterable_run hen]⟩⟩
theorem run_sub64' (x y b : Nat) (hb : b ≤ 1) (w : World) :
    ((do
      let (x, y, b) ← Extern.MathBitsCarry.three "Sub64" #[.int .u64 x, .int .u64 y, .int .u64 b]
      pure (Extern.MathBitsCarry.pair ((x + Extern.MathBitsCarry.m64 - y - b) % Extern.MathBitsCarry.m64) (if x < y + b then 1 else 0)) : Sem Value)).run P w =
      .ok (.tuple #[.int .u64 (((x + 18446744073709551616 - y - b) % 18446744073709551616 : Nat) : Int), .int .u64 ((if x < y + b then 1 else 0 : Nat) : Int)]) w := by
  have : b = 0 ∨ b = 1 := by omega
  rcases this with rfl | rfl <;> rfl
def sub64E : Array Value → Sem Value := fun args => do
  let (x, y, b) ← Extern.MathBitsCarry.three "Sub64" args
  pure (Extern.MathBitsCarry.pair ((x + Extern.MathBitsCarry.m64 - y - b) % Extern.MathBitsCarry.m64) (if x < y + b then 1 else 0))
theorem findNext_none {fn : Func} {s : String} (hn : fn.name = s) (ho : fn.origin = "") (h1 : Extern.allNextRows.lookup s = none) (h2 : Extern.allNextRows.lookup "" = none) : Extern.findNext fn = none := by
  simp only [Extern.findNext, hn, ho, h1, h2]; rfl
theorem find_of {fn : Func} {s : String} {e : Array Value → Sem Value} (hn : fn.name = s) (h1 : Extern.allGenericRows.lookup s = none) (h2 : Extern.allTypedRows.lookup s = none) (h3 : Extern.allRows.lookup s = some e) : Extern.find fn = some e := by
  simp only [Extern.find, hn, h1, h2, h3]; rfl
theorem run_add64_extern {f : FuncId} {fn : Func} (hf : P.funcs[f]? = some fn) (hb : fn.body.isNone = true) (hn : fn.name = "math/bits.Add64") (ho : fn.origin = "") (args : Array Value) (w : World) :
    (callFunc f args).run P w = ((add64Entry args).run P w).andThen fun v w' => .ok (.value v) w' :=
  run_callFunc_extern hf (by rw [hn]; decide) hb (findNext_none hn ho (by kernel_rfl) (by kernel_rfl)) (find_of hn (by kernel_rfl) (by kernel_rfl) (by kernel_rfl)) args w
theorem run_sub64_extern {f : FuncId} {fn : Func} (hf : P.funcs[f]? = some fn) (hb : fn.body.isNone = true) (hn : fn.name = "math/bits.Sub64") (ho : fn.origin = "") (args : Array Value) (w : World) :
    (callFunc f args).run P w = ((sub64E args).run P w).andThen fun v w' => .ok (.value v) w' :=
  run_callFunc_extern hf (by rw [hn]; decide) hb (findNext_none hn ho (by kernel_rfl) (by kernel_rfl)) (find_of hn (by kernel_rfl) (by kernel_rfl) (by kernel_rfl)) args w
theorem evalO_add64 {a b c v : AV} (h : evalO .add64 [a, b, c] = some v) : ∃ x y z : Int, a = .int .u64 x ∧ b = .int .u64 y ∧ c = .int .u64 z ∧ 0 ≤ x ∧ 0 ≤ y ∧ 0 ≤ z ∧ z ≤ 1 ∧
    v = .tup [.int .u64 ((x + y + z) % 18446744073709551616), .int .u64 ((x + y + z) / 18446744073709551616)] := by
  cases a <;> try (simp [evalO] at h; done)
  rename_i k x
  cases k <;> try (simp [evalO] at h; done)
  cases b <;> try (simp [evalO] at h; done)
  rename_i k y
  cases k <;> try (simp [evalO] at h; done)
  cases c <;> try (simp [evalO] at h; done)
  rename_i k z
  cases k <;> try (simp [evalO] at h; done)
  simp only [evalO] at h
  split at h
  · rename_i hc
    cases h
    exact ⟨x, y, z, rfl, rfl, rfl, hc.1, hc.2.1, hc.2.2.1, hc.2.2.2, rfl⟩
  · cases h
theorem evalO_sub64 {a b c v : AV} (h : evalO .sub64 [a, b, c] = some v) : ∃ x y z : Int, a = .int .u64 x ∧ b = .int .u64 y ∧ c = .int .u64 z ∧ 0 ≤ x ∧ 0 ≤ y ∧ y < 18446744073709551616 ∧ 0 ≤ z ∧ z ≤ 1 ∧
    v = .tup [.int .u64 ((x - y - z) % 18446744073709551616), .int .u64 (if x < y + z then 1 else 0)] := by
  cases a <;> try (simp [evalO] at h; done)
  rename_i k x
  cases k <;> try (simp [evalO] at h; done)
  cases b <;> try (simp [evalO] at h; done)
  rename_i k y
  cases k <;> try (simp [evalO] at h; done)
  cases c <;> try (simp [evalO] at h; done)
  rename_i k z
  cases k <;> try (simp [evalO] at h; done)
  simp only [evalO] at h
  split at h
  · rename_i hc
    cases h
    exact ⟨x, y, z, rfl, rfl, rfl, hc.1, hc.2.1, hc.2.2.1, hc.2.2.2.1, hc.2.2.2.2, rfl⟩
  · cases h
theorem extern_ok {f : FuncId} {x : O} {s0 s1 s2 : SV} {a b c r : Atom} (ht : callTarget tmps o = some (f, [s0, s1, s2])) (hx : externOp P f = some x)
    (q0 : ∀ Φ μ v, SRep Φ μ τ s0 v → Rep Φ (a.den τ) v) (q1 : ∀ Φ μ v, SRep Φ μ τ s1 v → Rep Φ (b.den τ) v) (q2 : ∀ Φ μ v, SRep Φ μ τ s2 v → Rep Φ (c.den τ) v)
    (h : evalO x [a.den τ, b.den τ, c.den τ] = some (r.den τ)) : EffOk P E τ heap tmps o { res := .atm r } := by
  refine EffOk.pure rfl rfl fun X Φ μ ac w hA hR => ?_
  obtain ⟨_, _, _, _, hrun⟩ := callTarget_go (P := P) (E := E) (τ := τ) (heap := heap) ht
  obtain ⟨vs, h1, h2⟩ := hrun hA hR
  have h1' : ∃ v0 v1 v2, vs = [v0, v1, v2] ∧ SRep Φ μ τ s0 v0 ∧ SRep Φ μ τ s1 v1 ∧ SRep Φ μ τ s2 v2 := by
    match vs, h1 with
    | [v0, v1, v2], h1 =>
      simp only [SRepL] at h1
      exact ⟨v0, v1, v2, rfl, h1.1, h1.2.1, h1.2.2.1⟩
  obtain ⟨v0, v1, v2, rfl, g0, g1, g2⟩ := h1'
  have r0 := q0 _ _ _ g0
  have r1 := q1 _ _ _ g1
  have r2 := q2 _ _ _ g2
  rw [h2]
  unfold externOp at hx
  split at hx
  · rename_i fn hfn
    split at hx
    · rename_i hb
      simp only [Bool.and_eq_true, beq_iff_eq] at hb
      split at hx
      · rename_i hn
        cases hx
        obtain ⟨x, y, z, e0, e1, e2, b0, b1, b2, b3, e3⟩ := evalO_add64 h
        rw [e0] at r0; rw [e1] at r1; rw [e2] at r2
        refine ⟨.tuple #[.int .u64 ((x + y + z) % 18446744073709551616), .int .u64 ((x + y + z) / 18446744073709551616)], ?_, ?_⟩
        · rw [run_add64_extern hfn hb.1 (by simpa using hn) hb.2, r0.int_inv, r1.int_inv, r2.int_inv]
          show ((add64Entry #[.int .u64 x, .int .u64 y, .int .u64 z]).run P w).andThen _ = _
          rw [run_add64 x y z b0 b1 b2 b3]
          rfl
        · simp [SRep, e3, Rep, RepL]
      · split at hx
        · rename_i hn
          cases hx
          obtain ⟨x, y, z, e0, e1, e2, b0, b1, b2, b3, b4, e3⟩ := evalO_sub64 h
          rw [e0] at r0; rw [e1] at r1; rw [e2] at r2
          obtain ⟨x, rfl⟩ := Int.eq_ofNat_of_zero_le b0
          obtain ⟨y, rfl⟩ := Int.eq_ofNat_of_zero_le b1
          obtain ⟨z, rfl⟩ := Int.eq_ofNat_of_zero_le b3
          refine ⟨.tuple #[.int .u64 (((x + 18446744073709551616 - y - z) % 18446744073709551616 : Nat) : Int), .int .u64 ((if x < y + z then 1 else 0 : Nat) : Int)], ?_, ?_⟩
          · rw [run_sub64_extern hfn hb.1 (by simpa using hn) hb.2, r0.int_inv, r1.int_inv, r2.int_inv]
            show ((sub64E #[.int .u64 x, .int .u64 y, .int .u64 z]).run P w).andThen _ = _
            unfold sub64E
            rw [run_sub64' x y z (by omega)]
            rfl
          · have e4 : ((((x + 18446744073709551616 - y - z) % 18446744073709551616 : Nat)) : Int) = ((x : Int) - y - z) % 18446744073709551616 := by omega
            have e5 : ((if x < y + z then 1 else 0 : Nat) : Int) = if (x : Int) < (y : Int) + (z : Int) then 1 else 0 := by split <;> split <;> omega
            rw [e4, e5]
            simp [SRep, e3, Rep, RepL]
        · cases hx
    · cases hx
  · cases hx
theorem unfrozen_mem {ids : List Nat} {id : Nat} : id ∈ unfrozen heap ids ↔ id ∈ ids ∧ ∃ sb, heap.getD id none = some sb ∧ sb.ro = false := by
  unfold unfrozen
  rw [List.mem_filter]
  constructor
  · rintro ⟨h1, h2⟩
    split at h2
    · rename_i sb hsb
      exact ⟨h1, sb, hsb, by simpa using h2⟩
    · cases h2
  · rintro ⟨h1, sb, h2, h3⟩
    exact ⟨h1, by rw [h2]; simp [h3]⟩
theorem call_ok {f : FuncId} {args : List SV} {ps : List (Atom × List Nat)} {r : Atom} (ht : callTarget tmps o = some (f, args)) (hen : enterable P f = true)
    (hq : All2 (FrzOk heap τ) args ps) (hids : ∀ id ∈ (ps.map (·.2)).flatten, ∃ sb, heap.getD id none = some sb)
    (hct : Ct P f ((ps.map (·.1)).map (Atom.den τ)) (fun e => e = .ret (r.den τ))) :
    EffOk P E τ heap tmps o { res := .atm r, rd := (ps.map (·.2)).flatten, wr := frozen heap (unfrozen heap (ps.map (·.2)).flatten) } := by
  intro X Φ μ ac w Q K hA hR hK
  obtain ⟨c, fv, _, _, hrun⟩ := callTarget_run (P := P) (E := E) (τ := τ) (heap := heap) ht
  obtain ⟨vs, h1, h2⟩ := hrun hA hR hen
  have hblk : ∀ id ∈ (ps.map (·.2)).flatten, X.blk id = heap.getD id none := fun id hi => (hA.blk id (by simp only [List.mem_append]; exact .inl hi)).1
  obtain ⟨Φ1, k1, k2, k3⟩ := SRel.freezeMany (heap := heap) (unfrozen heap (ps.map (·.2)).flatten) hR (fun id hi => by
    obtain ⟨m1, sb, m2, m3⟩ := unfrozen_mem.1 hi
    exact ⟨sb, m2, m3, .inl (by rw [hblk id m1]; exact m2)⟩)
  have hst : Stays heap E τ (ps.map (·.2)).flatten Φ1 X Φ μ ac w := by
    refine ⟨hR, k1, fun id hi => ⟨hblk id hi, fun C t fr hh => ?_⟩⟩
    obtain ⟨sb, hsb⟩ := hids id hi
    cases hro : sb.ro with
    | false => exact k3 id (unfrozen_mem.2 ⟨hi, sb, hsb, hro⟩) C t fr hh
    | true =>
      obtain ⟨_, ⟨C', t', fr', g1, _, _, _, g6⟩, _⟩ := hR.blks id sb (by rw [hblk id hi]; exact hsb)
      rw [g1] at hh; cases hh
      rw [hro] at g6
      exact k1 _ _ (by simpa using g6)
  have hargs := frzL hq hst h1
  have hc := hct Φ1 w vs k2.mem.fix hargs
  unfold Oper.wp
  rw [h2]
  show Calls P f vs.toArray w _
  refine hc.mono fun e w' hh => ?_
  obtain ⟨Φ2, rr, g1, g2, g3, g4, g5, g6⟩ := hh
  subst g1
  obtain ⟨x, rfl, g7⟩ := g2
  refine hK Φ2 μ w' x ?_ (by simpa [SRep] using g7)
  have : memW heap.length { res := .atm r, rd := (ps.map (·.2)).flatten, wr := frozen heap (unfrozen heap (ps.map (·.2)).flatten) } = (frozen heap (unfrozen heap (ps.map (·.2)).flatten)).map fun p => (lBlk p.1, LV.bk p.2) := by
    simp [memW, newIds]
  rw [this]
  exact k2.call g3 g4 g5 g6
end Go.SE
set_option autoImplicit false
namespace Go.SE
open Go Go.RowKit
variable {P : Program} {σ0 τ : List AV} {E : Ent} {heap : Heap} {tmps : List SV} {o : Oper}
theorem refsOk_mem {n : Nat} {l : List Nat} (h : refsOk n l = true) : ∀ id ∈ l, id < n := fun id hi => by
  have := List.all_eq_true.1 h id hi
  simpa [Nat.blt_eq] using this
theorem effOld_new {len : Nat} {e : Eff} {sb : SB} (h : effOld len e = true) (hn : e.new = [some sb]) : ∀ id ∈ sb.cells.refs, id < len := fun id hi =>
  refsOk_mem h id (by simp only [hn, List.map_cons, List.map_nil, refsB, List.mem_append]; right; simpa using hi)
theorem effOld_wr {len : Nat} {e : Eff} {sb : SB} {i : Nat} (h : effOld len e = true) (hn : e.wr = [(i, some sb)]) : ∀ id ∈ sb.cells.refs, id < len := fun id hi =>
  refsOk_mem h id (by simp only [hn, List.map_cons, List.map_nil, refsB, List.mem_append]; left; simpa using hi)
def StepOk (P : Program) (E : Ent) (τ : List AV) (heap : Heap) (tmps : List SV) (o : Oper) (x : EM Eff) : Prop :=
  ∀ (σ0 : List AV) (e e' : Em) (ef : Eff), x e = some (ef, e') → Hold P σ0 τ e' → effOld heap.length ef = true → Hold P σ0 τ e ∧ EffOk P E τ heap tmps o ef
theorem nilCheck_atm_ok {x : Operand} {a r : Atom} (ho : o.op = .nilCheck x) (hx : opv tmps x = some (.atm a)) (h : evalO .nilchk [a.den τ] = some (r.den τ)) : EffOk P E τ heap tmps o { res := .atm r } := by
  refine EffOk.pure rfl rfl fun X Φ μ ac w hA hR => ?_
  have h1 := hA.rep hR (by simp [ho, Op.operands]) hx
  obtain ⟨h2, h3⟩ := evalO_nilchk h
  have h1' := h1
  simp only [SRep] at h1
  refine ⟨ac.eval x, ?_, by simpa [SRep, h2] using h1'⟩
  rcases h3 with ⟨cs, h3⟩ | ⟨f, cs, h3⟩ | ⟨t, u, h3⟩ <;> rw [h3] at h1 <;> simp only [Rep] at h1
  · obtain ⟨ad, h1, _⟩ := h1; simp [execOp, ho, h1]
  · obtain ⟨vs, h1, _⟩ := h1
    rw [h1]
    cases f <;> simp [execOp, ho, h1]
  · obtain ⟨v, h1, _⟩ := h1; simp [execOp, ho, h1]
theorem binStep_ok {op : BinOp} {t t' : TypeId} {x y : Operand} (ho : o.op = .binOp op t x y t') : StepOk P E τ heap tmps o (binStep P tmps op t x y) := by
  intro σ0 e e' ef h H _
  simp only [binStep, EM.bind_eq, lift_eq] at h
  obtain ⟨a, e1, ⟨a', ha, h1⟩, b, e2, ⟨b', hb, h2⟩, h⟩ := h
  cases h1; cases h2
  split at h
  · rename_i hop
    have plain : ∀ {o' : O}, (do let a ← atomOf a; let b ← atomOf b; let r ← emit o' [a, b]; pure ({ res := .atm r } : Eff) : EM Eff) e = some (ef, e') →
        ∃ (a' b' r : Atom), Hold P σ0 τ e ∧ (∀ Φ μ v, SRep Φ μ τ a v → Rep Φ (a'.den τ) v) ∧ (∀ Φ μ v, SRep Φ μ τ b v → Rep Φ (b'.den τ) v) ∧ evalO o' [a'.den τ, b'.den τ] = some (r.den τ) ∧ ef = { res := .atm r } := fun h => by
      simp only [EM.bind_eq, EM.pure_eq] at h
      obtain ⟨a1, e1, h1, b1, e2, h2, r, e3, h3, h4⟩ := h
      cases h4
      obtain ⟨H3, q, _⟩ := emit_back h3 H
      obtain ⟨H2, q2⟩ := atomOf_back h2 H3
      obtain ⟨H1, q1⟩ := atomOf_back h1 H2
      exact ⟨a1, b1, r, H1, q1, q2, q, rfl⟩
    generalize ht : P.underlying t = ud at h
    split at h
    · obtain ⟨a1, b1, r, H1, q1, q2, q, rfl⟩ := plain h
      exact ⟨H1, bin_ok ho ha hb q1 q2 q⟩
    · obtain ⟨a1, b1, r, H1, q1, q2, q, rfl⟩ := plain h
      exact ⟨H1, bin_ok ho ha hb q1 q2 q⟩
    · skip
      obtain ⟨a1, b1, r, H1, q1, q2, q, rfl⟩ := plain h
      exact ⟨H1, bb_ok ho hop ht ha hb q1 q2 q⟩
    · skip
      simp only [EM.bind_eq, lift_eq, need_eq] at h
      obtain ⟨ks, e1, ⟨ks', hks, h1⟩, _, e2, ⟨hg, h2⟩, h⟩ := h
      cases h1; cases h2
      obtain ⟨a1, b1, r, H1, q1, q2, q, rfl⟩ := plain (by simpa only [EM.bind_eq, EM.pure_eq] using h)
      exact ⟨H1, eqv_ok ho hop (by simp [aggT, ht]) hks (by simpa using hg) ha hb q1 q2 q⟩
    · skip
      simp only [EM.bind_eq, lift_eq, need_eq] at h
      obtain ⟨ks, e1, ⟨ks', hks, h1⟩, _, e2, ⟨hg, h2⟩, h⟩ := h
      cases h1; cases h2
      obtain ⟨a1, b1, r, H1, q1, q2, q, rfl⟩ := plain (by simpa only [EM.bind_eq, EM.pure_eq] using h)
      exact ⟨H1, eqv_ok ho hop (by simp [aggT, ht]) hks (by simpa using hg) ha hb q1 q2 q⟩
    · simp only [EM.bind_eq, lift_eq, need_eq] at h
      obtain ⟨nk, e1, ⟨nk', hnk, h1⟩, _, e2, ⟨hy, h2⟩, h⟩ := h
      cases h1; cases h2
      split at h
      · rename_i hnn
        rw [EM.pure_eq] at h; cases h
        refine ⟨H, nil_ok ho hop hnk hy ha fun Φ μ v hv => ⟨false, notNil_rep hnn hv, ?_⟩⟩
        cases hneq : isNeq op <;> simp [Atom.den, hneq]
      · simp only [EM.bind_eq, EM.pure_eq] at h
        obtain ⟨a1, e1, h1, r, e2, h2, h3⟩ := h
        cases h3
        obtain ⟨H2, q, _⟩ := emit_back h2 H
        obtain ⟨H1, q1⟩ := atomOf_back h1 H2
        exact ⟨H1, nil_ok ho hop hnk hy ha fun Φ μ v hv => isnil_rep q (q1 Φ μ v hv)⟩
  · simp only [EM.bind_eq, EM.pure_eq] at h
    obtain ⟨a1, e1, h1, b1, e2, h2, r, e3, h3, h4⟩ := h
    cases h4
    obtain ⟨H3, q, _⟩ := emit_back h3 H
    obtain ⟨H2, q2⟩ := atomOf_back h2 H3
    obtain ⟨H1, q1⟩ := atomOf_back h1 H2
    exact ⟨H1, bin_ok ho ha hb q1 q2 q⟩
theorem buildStep_ok {t : TypeId} {parts : Array (Nat × Operand)} (ho : o.op = .build t parts) : StepOk P E τ heap tmps o (buildStep P tmps t parts.toList) := by
  intro σ0 e e' ef h H _
  simp only [buildStep, EM.bind_eq, lift_eq] at h
  obtain ⟨z, e1, ⟨z', hz, h1⟩, ss, e2, ⟨ss', hss, h2⟩, pl, e3, ⟨pl', hpl, h3⟩, ps, e4, ⟨ps', hps, h4⟩, h⟩ := h
  cases h1; cases h2; cases h3; cases h4
  generalize has : allAtm ss = oa at h
  split at h
  · rename_i as
    simp only [EM.bind_eq, EM.pure_eq] at h
    obtain ⟨r, e5, h5, h6⟩ := h
    cases h6
    obtain ⟨H1, q, _⟩ := emit_back h5 H
    exact ⟨H1, build_av_ok ho hz hss has hpl hps q⟩
  · simp only [EM.bind_eq, EM.pure_eq, lift_eq] at h
    obtain ⟨xs, e5, h5, cs, e6, ⟨cs', hcs, h6⟩, h7⟩ := h
    cases h6; cases h7
    obtain ⟨H1, q1, q2, q3⟩ := mapPlaces_back h5 H
    exact ⟨H1, build_sv_ok ho hz hss hpl hps q1 q3 hcs⟩
theorem buildSliceStep_ok {t : TypeId} {len : Nat} {parts : Array (Nat × Operand)} (ho : o.op = .buildSlice t len parts) : StepOk P E τ heap tmps o (buildSliceStep P heap tmps t len parts.toList) := by
  intro σ0 e e' ef h H hold
  simp only [buildSliceStep, EM.bind_eq, lift_eq, need_eq, EM.pure_eq] at h
  obtain ⟨te, e1, ⟨te', he, h1⟩, sz, e2, ⟨sz', hs, h2⟩, z, e3, ⟨z', hz, h3⟩, _, e4, ⟨hn, h4⟩, ss, e5, ⟨ss', hss, h5⟩, xs, e6, h6, cs, e7, ⟨cs', hcs, h7⟩, h8⟩ := h
  cases h1; cases h2; cases h3; cases h4; cases h5; cases h7; cases h8
  obtain ⟨H1, q1, q2, q3⟩ := mapPlaces_back h6 H
  simp only [Bool.and_eq_true, Bool.or_eq_true, beq_iff_eq, Nat.ble_eq] at hn
  exact ⟨H1, buildSlice_ok ho he hs hz hn.1 hn.2 hss q1 q3 hcs (by have := effOld_new hold rfl; simpa [Cells.refs] using this)⟩
theorem smallLit_den {a : Atom} {n : Nat} (h : smallLit a = some n) : a.den τ = num n := by
  unfold smallLit at h
  split at h
  · rename_i m hm
    split at h
    · cases h; exact natLit_den hm
    · cases h
  · cases h
theorem makeStep_ok {t : TypeId} {l c : Operand} (ho : o.op = .makeSlice t l c) : StepOk P E τ heap tmps o (makeStep P heap tmps t l c) := by
  intro σ0 e e' ef h H hold
  simp only [makeStep, EM.bind_eq, lift_eq, need_eq] at h
  obtain ⟨te, e1, ⟨te', he, h1⟩, sz, e2, ⟨sz', hs, h2⟩, bytes, e3, ⟨by', hby, h3⟩, z, e4, ⟨z', hz, h4⟩, _, e5, ⟨hzl, h5⟩, _, e6, ⟨hpos, h6⟩, sl, e7, ⟨sl', hl, h7⟩, la, e8, h8, sc, e9, ⟨sc', hc, h9⟩, ca, e10, h10, u, e11, h11, h⟩ := h
  cases h1; cases h2; cases h3; cases h4; cases h5; cases h6; cases h7; cases h9
  simp only [Bool.and_eq_true, Nat.blt_eq, beq_iff_eq] at hpos hzl
  have fin : ∀ {e12 : Em} {cells : Cells}, Hold P σ0 τ e12 → emit (.chkmk bytes) [la, ca] e10 = some (u, e12) →
      (∀ n, ca.den τ = num n → ∀ Φ μ vs, RepE Φ (repl n z) vs → CRep Φ μ τ cells vs) → cells.refs = [] →
      Hold P σ0 τ e ∧ EffOk P E τ heap tmps o { res := .osl heap.length sz zeroAtom la ca, new := [some ⟨cells, false⟩] } := fun H12 hem hcells hrefs => by
    obtain ⟨H3, q, _⟩ := emit_back hem H12
    obtain ⟨H2, q2⟩ := atomOf_back h10 H3
    obtain ⟨H1, q1⟩ := atomOf_back h8 H2
    exact ⟨H1, make_ok ho he hs hby hz hzl hpos.1 hl hc q1 q2 q hcells hrefs⟩
  generalize hn : smallLit ca = on at h
  split at h
  · rename_i n
    rw [EM.pure_eq] at h; cases h
    refine fin H h11 (fun m hm Φ μ vs hv => ?_) ?_
    · rw [smallLit_den hn] at hm
      have := num_inj hm; subst this
      have : (List.replicate n (z.map fun a => SV.atm (.c a))).flatten = (repl n z).map fun a => SV.atm (.c a) := by
        unfold repl
        rw [List.map_flatten, List.map_replicate]
      rw [this]
      exact crep_consts hv
    · have : (List.replicate n (z.map fun a => SV.atm (.c a))).flatten = (repl n z).map fun a => SV.atm (.c a) := by
        unfold repl
        rw [List.map_flatten, List.map_replicate]
      simp only [Cells.refs, this, refsL_consts]
  · simp only [EM.bind_eq, EM.pure_eq] at h
    obtain ⟨x, e12, h12, h13⟩ := h
    cases h13
    obtain ⟨H3, q, _⟩ := emit_back h12 H
    refine fin H3 h11 (fun m hm Φ μ vs hv => ?_) rfl
    obtain ⟨n, g1, g2, g3⟩ := evalO_lzero q
    rw [hm] at g1
    have := num_inj g1; subst this
    exact ⟨_, g3, hv.2⟩
theorem opt_back {x : Option Operand} {as : List Atom} {e e' : Em} (h : optAtom tmps x e = some (as, e')) (H : Hold P σ0 τ e') (hm : ∀ y, x = some y → y ∈ o.op.operands) :
    Hold P σ0 τ e ∧ ∀ X Φ μ a w (ef : Eff), Agree X heap tmps o ef → SRel E τ X Φ μ a w → (x = none ∧ as = []) ∨ ∃ y b, x = some y ∧ as = [b] ∧ Rep Φ (b.den τ) (a.eval y) := by
  obtain ⟨H0, _, q⟩ := optAtom_back (E := E) (heap := heap) (o := o) h H
  exact ⟨H0, fun X Φ μ a w ef hA hR => q X Φ μ a w ef hA hR hm⟩
theorem sliceStep_ok {t : TypeId} {x : Operand} {lo hi mx : Option Operand} (ho : o.op = .slice t x lo hi mx) : StepOk P E τ heap tmps o (sliceStep P heap tmps t x lo hi mx) := by
  intro σ0 e e' ef h H hold
  simp only [sliceStep, EM.bind_eq, lift_eq, need_eq] at h
  obtain ⟨s, e1, ⟨s', hs, h1⟩, lo', e2, h2, hi', e3, h3, mx', e4, h4, _, e5, ⟨hmh, h5⟩, h⟩ := h
  cases h1; cases h5
  have ml : ∀ y, lo = some y → y ∈ o.op.operands := fun y hy => by simp [ho, Op.operands, hy]
  have mh : ∀ y, hi = some y → y ∈ o.op.operands := fun y hy => by simp [ho, Op.operands, hy]
  have mm : ∀ y, mx = some y → y ∈ o.op.operands := fun y hy => by simp [ho, Op.operands, hy]
  have hmh' : mx.isSome = true → hi.isSome = true := fun h => by cases mx <;> simp_all
  have back : Hold P σ0 τ e4 → Hold P σ0 τ e ∧
      (∀ X Φ μ a w (ef : Eff), Agree X heap tmps o ef → SRel E τ X Φ μ a w → (lo = none ∧ lo' = []) ∨ ∃ y b, lo = some y ∧ lo' = [b] ∧ Rep Φ (b.den τ) (a.eval y)) ∧
      (∀ X Φ μ a w (ef : Eff), Agree X heap tmps o ef → SRel E τ X Φ μ a w → (hi = none ∧ hi' = []) ∨ ∃ y b, hi = some y ∧ hi' = [b] ∧ Rep Φ (b.den τ) (a.eval y)) ∧
      (∀ X Φ μ a w (ef : Eff), Agree X heap tmps o ef → SRel E τ X Φ μ a w → (mx = none ∧ mx' = []) ∨ ∃ y b, mx = some y ∧ mx' = [b] ∧ Rep Φ (b.den τ) (a.eval y)) := fun H4 => by
    obtain ⟨H3, q3⟩ := opt_back (E := E) (heap := heap) h4 H4 mm
    obtain ⟨H2, q2⟩ := opt_back (E := E) (heap := heap) h3 H3 mh
    obtain ⟨H1, q1⟩ := opt_back (E := E) (heap := heap) h2 H2 ml
    exact ⟨H1, q1, q2, q3⟩
  generalize ht : P.underlying t = ud at h
  split at h
  · rename_i n te
    simp only [EM.bind_eq, lift_eq, need_eq] at h
    obtain ⟨sz, e6, ⟨sz', hsz, h6⟩, _, e7, ⟨hpos, h7⟩, h⟩ := h
    cases h6; cases h7
    split at h
    · rename_i id off
      simp only [EM.bind_eq, blk_eq, EM.pure_eq] at h
      obtain ⟨sb, e8, ⟨sb', hsb, h8⟩, _, e9, h9, ⟨l, hh, m⟩, e10, h10, r, e11, h11, h12⟩ := h
      cases h8; cases h12
      obtain ⟨H3, q3⟩ := sliceOwn_back h11 H
      obtain ⟨H2, c1, c2, c3, q2⟩ := bounds_back h10 H3
      obtain ⟨H1, q1⟩ := spans_back h9 H2
      obtain ⟨H0, p1, p2, p3⟩ := back H1
      refine ⟨H0, ?_⟩
      exact slice_ptr_ok ho hs ht hsz hsb hmh' p1 p2 p3 c1 c2 c3 q2 q1 q3
    · rw [fail_eq] at h; exact h.elim
  · rename_i te
    simp only [EM.bind_eq, lift_eq, need_eq] at h
    obtain ⟨sz, e6, ⟨sz', hsz, h6⟩, _, e7, ⟨hpos, h7⟩, h⟩ := h
    cases h6; cases h7
    split at h
    · rename_i id sz' off len cap
      simp only [EM.bind_eq, need_eq, EM.pure_eq] at h
      obtain ⟨_, e8, ⟨hzz, h8⟩, ⟨l, hh, m⟩, e10, h10, r, e11, h11, h12⟩ := h
      cases h8; cases h12
      have : sz' = sz := by simpa using hzz
      subst this
      obtain ⟨H3, q3⟩ := sliceOwn_back h11 H
      obtain ⟨H2, c1, c2, c3, q2⟩ := bounds_back h10 H3
      obtain ⟨H0, p1, p2, p3⟩ := back H2
      exact ⟨H0, slice_osl_ok ho hs ht hsz hmh' p1 p2 p3 c1 c2 c3 q2 q3⟩
    · rename_i a
      simp only [EM.bind_eq, EM.pure_eq] at h
      obtain ⟨r, e8, h8, h9⟩ := h
      cases h9
      obtain ⟨H2, q, _⟩ := emit_back h8 H
      obtain ⟨H0, p1, p2, p3⟩ := back H2
      exact ⟨H0, slc_ok ho hs ht hsz p1 p2 p3 q⟩
    · rw [fail_eq] at h; exact h.elim
  · skip
    simp only [EM.bind_eq, need_eq] at h
    obtain ⟨_, e6, ⟨hmx, h6⟩, h⟩ := h
    cases h6
    split at h
    · rename_i a
      simp only [EM.bind_eq, EM.pure_eq] at h
      obtain ⟨r, e8, h8, h9⟩ := h
      cases h9
      obtain ⟨H2, q, _⟩ := emit_back h8 H
      obtain ⟨H0, p1, p2, p3⟩ := back H2
      have hm0 : mx = none := by cases mx <;> simp_all
      subst hm0
      exact ⟨H0, sls_ok ho hs ht p1 p2 q⟩
    · rw [fail_eq] at h; exact h.elim
  · rw [fail_eq] at h; exact h.elim
theorem indexAddrStep_ok {t : TypeId} {x ix : Operand} (ho : o.op = .indexAddr t x ix) : StepOk P E τ heap tmps o (indexAddrStep P tmps t x ix) := by
  intro σ0 e e' ef h H hold
  simp only [indexAddrStep, EM.bind_eq, lift_eq] at h
  obtain ⟨s, e1, ⟨s', hs, h1⟩, si, e2, ⟨si', hsi, h2⟩, i, e3, h3, h⟩ := h
  cases h1; cases h2
  generalize ht : P.underlying t = ud at h
  split at h
  · rename_i n te
    simp only [EM.bind_eq, lift_eq] at h
    obtain ⟨sz, e4, ⟨sz', hsz, h4⟩, h⟩ := h
    cases h4
    split at h
    · simp only [EM.bind_eq, EM.pure_eq] at h
      obtain ⟨u, e5, h5, r, e6, h6, h7⟩ := h
      cases h7
      obtain ⟨H3, q3, _⟩ := emit_back h6 H
      obtain ⟨H2, q2, _⟩ := emit_back h5 H3
      obtain ⟨H1, q1⟩ := atomOf_back h3 H2
      exact ⟨H1, indexAddr_ptr_ok ho hs hsi ht hsz q1 q2 q3⟩
    · simp only [EM.bind_eq, EM.pure_eq] at h
      obtain ⟨r, e6, h6, h7⟩ := h
      cases h7
      obtain ⟨H2, q2, _⟩ := emit_back h6 H
      obtain ⟨H1, q1⟩ := atomOf_back h3 H2
      exact ⟨H1, indexAddr_rp_ok ho hs hsi ht hsz q1 q2⟩
    · rw [fail_eq] at h; exact h.elim
  · rename_i te
    simp only [EM.bind_eq, lift_eq] at h
    obtain ⟨sz, e4, ⟨sz', hsz, h4⟩, h⟩ := h
    cases h4
    split at h
    · simp only [EM.bind_eq, EM.pure_eq, need_eq] at h
      obtain ⟨_, e0, ⟨hzz, h0⟩, u, e5, h5, r, e6, h6, h7⟩ := h
      cases h7; cases h0
      have hzz := eq_of_beq hzz
      subst hzz
      obtain ⟨H3, q3, _⟩ := emit_back h6 H
      obtain ⟨H2, q2, _⟩ := emit_back h5 H3
      obtain ⟨H1, q1⟩ := atomOf_back h3 H2
      exact ⟨H1, indexAddr_osl_ok ho hs hsi ht hsz q1 q2 q3⟩
    · simp only [EM.bind_eq, EM.pure_eq, need_eq] at h
      obtain ⟨_, e0, ⟨hpos, h0⟩, r, e6, h6, h7⟩ := h
      cases h7; cases h0
      obtain ⟨H2, q2, _⟩ := emit_back h6 H
      obtain ⟨H1, q1⟩ := atomOf_back h3 H2
      exact ⟨H1, indexAddr_sl_ok ho hs hsi ht hsz (by simpa [Nat.blt_eq] using hpos) q1 q2⟩
    · rw [fail_eq] at h; exact h.elim
  · rw [fail_eq] at h; exact h.elim
theorem evalO_sub {off k : Nat} {a v : AV} (h : evalO (.sub off k) [a] = some v) : ∃ cs, a = .agg cs ∧ off + k ≤ cs.length ∧ v = .agg ((cs.drop off).take k) := by
  cases a with
  | agg cs =>
    simp only [evalO] at h
    split at h
    · rename_i hc; cases h; exact ⟨cs, rfl, hc, rfl⟩
    · cases h
  | _ => simp [evalO] at h
theorem evalO_fld {i : Nat} {a v : AV} (h : evalO (.fld i) [a] = some v) : ∃ cs, a = .agg cs ∧ cs[i]? = some v := by
  cases a with
  | agg cs =>
    simp only [evalO] at h
    split at h
    · rename_i c hc
      split at h
      · cases h; exact ⟨cs, rfl, hc⟩
      · cases h
    · cases h
  | _ => simp [evalO] at h
theorem fieldStep_ok {t : TypeId} {x : Operand} {f : Nat} (ho : o.op = .field t x f) : StepOk P E τ heap tmps o (fieldStep P tmps t x f) := by
  intro σ0 e e' ef h H hold
  simp only [fieldStep, EM.bind_eq, lift_eq] at h
  obtain ⟨s, e1, ⟨s', hs, h1⟩, fd, e2, ⟨fd', hf, h2⟩, ag, e3, ⟨ag', ha, h3⟩, sz, e4, ⟨sz', hsz, h4⟩, h⟩ := h
  cases h1; cases h2; cases h3; cases h4
  split at h
  · rename_i l
    split at h
    · rename_i hag
      simp only [EM.bind_eq, need_eq, EM.pure_eq] at h
      obtain ⟨_, e5, ⟨hl, h5⟩, h6⟩ := h
      cases h5; cases h6
      exact ⟨H, field_sv_ok ho hs hf ha hsz (by rw [if_pos hag]; exact ⟨by simpa [Nat.ble_eq] using hl, rfl⟩)⟩
    · rename_i hag
      simp only [EM.bind_eq, lift_eq, EM.pure_eq] at h
      obtain ⟨r, e5, ⟨r', hr, h5⟩, h6⟩ := h
      cases h5; cases h6
      exact ⟨H, field_sv_ok ho hs hf ha hsz (by rw [if_neg hag]; exact hr)⟩
  · rename_i cs
    split at h
    · rename_i hag
      simp only [EM.bind_eq, need_eq, EM.pure_eq] at h
      obtain ⟨_, e5, ⟨hl, h5⟩, h6⟩ := h
      cases h5; cases h6
      exact ⟨H, field_av_ok (a := .c (.agg cs)) ho hs hf ha hsz rfl (by rw [if_pos hag]; exact ⟨by simpa [Nat.ble_eq] using hl, rfl⟩)⟩
    · rename_i hag
      simp only [EM.bind_eq, lift_eq, EM.pure_eq, need_eq] at h
      obtain ⟨r, e5, ⟨r', hr, h5⟩, _, e6, ⟨hcell, h6⟩, h7⟩ := h
      cases h5; cases h6; cases h7
      exact ⟨H, field_av_ok (a := .c (.agg cs)) (r := .c r) ho hs hf ha hsz rfl (by rw [if_neg hag]; exact hr)⟩
  · rename_i a hna
    simp only [EM.bind_eq, EM.pure_eq] at h
    obtain ⟨r, e5, h5, h6⟩ := h
    cases h6
    split at h5
    · rename_i hag
      obtain ⟨H1, q, _⟩ := emit_back h5 H
      obtain ⟨cs, g1, g2, g3⟩ := evalO_sub q
      exact ⟨H1, field_av_ok ho hs hf ha hsz g1 (by rw [if_pos hag]; exact ⟨g2, g3⟩)⟩
    · rename_i hag
      obtain ⟨H1, q, _⟩ := emit_back h5 H
      obtain ⟨cs, g1, g2⟩ := evalO_fld q
      exact ⟨H1, field_av_ok ho hs hf ha hsz g1 (by rw [if_neg hag]; exact g2)⟩
  · rw [fail_eq] at h; exact h.elim
theorem indexStep_ok {t : TypeId} {x ix : Operand} (ho : o.op = .index t x ix) : StepOk P E τ heap tmps o (indexStep P tmps t x ix) := by
  intro σ0 e e' ef h H hold
  simp only [indexStep, EM.bind_eq, lift_eq] at h
  obtain ⟨s, e1, ⟨s', hs, h1⟩, si, e2, ⟨si', hsi, h2⟩, i, e3, h3, h⟩ := h
  cases h1; cases h2
  generalize ht : P.underlying t = ud at h
  split at h
  · rename_i n te
    simp only [EM.bind_eq, lift_eq] at h
    obtain ⟨sz, e4, ⟨sz', hsz, h4⟩, ag, e5, ⟨ag', hag, h5⟩, h⟩ := h
    cases h4; cases h5
    generalize hk : natLit i = ok at h
    split at h
    · rename_i l k
      split at h
      · rename_i hagt
        simp only [EM.bind_eq, need_eq, EM.pure_eq] at h
        obtain ⟨_, e6, ⟨hc, h6⟩, h7⟩ := h
        cases h6; cases h7
        simp only [Bool.and_eq_true, Nat.blt_eq, Nat.ble_eq] at hc
        obtain ⟨H1, q1⟩ := atomOf_back h3 H
        exact ⟨H1, index_sv_ok ho hs hsi ht hag hsz q1 hk hc.1 (by rw [if_pos hagt]; exact ⟨hc.2, rfl⟩)⟩
      · rename_i hagt
        simp only [EM.bind_eq, need_eq, lift_eq, EM.pure_eq] at h
        obtain ⟨_, e6, ⟨hc, h6⟩, r, e7, ⟨r', hr, h7⟩, h8⟩ := h
        cases h6; cases h7; cases h8
        obtain ⟨H1, q1⟩ := atomOf_back h3 H
        exact ⟨H1, index_sv_ok ho hs hsi ht hag hsz q1 hk (by simpa [Nat.blt_eq] using hc) (by rw [if_neg hagt]; exact hr)⟩
    · simp only [EM.bind_eq, need_eq, EM.pure_eq] at h
      obtain ⟨_, e6, ⟨hpos, h6⟩, a, e7, h7, r, e8, h8, h9⟩ := h
      cases h6; cases h9
      obtain ⟨H3, q3, _⟩ := emit_back h8 H
      obtain ⟨H2, q2⟩ := atomOf_back h7 H3
      obtain ⟨H1, q1⟩ := atomOf_back h3 H2
      exact ⟨H1, index_av_ok ho hs hsi ht hag hsz (by simpa [Nat.blt_eq] using hpos) q2 q1 q3⟩
  · skip
    simp only [EM.bind_eq, EM.pure_eq] at h
    obtain ⟨a, e7, h7, r, e8, h8, h9⟩ := h
    cases h9
    obtain ⟨H3, q3, _⟩ := emit_back h8 H
    obtain ⟨H2, q2⟩ := atomOf_back h7 H3
    obtain ⟨H1, q1⟩ := atomOf_back h3 H2
    exact ⟨H1, index_str_ok ho hs hsi ht q2 q1 q3⟩
  · rw [fail_eq] at h; exact h.elim
end Go.SE
