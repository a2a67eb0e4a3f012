/- Nothing of the statement is proved here: this text lays the symbolic executor and its soundness, part 4; no conditions. -/
import Derived.Test.YtomjfjncfodmhaaSe3
set_option linter.all false
set_option autoImplicit false
namespace Go.SE
open Go Go.RowKit
variable {P : Program} {σ0 τ : List AV} {E : Ent} {heap : Heap} {tmps : List SV} {o : Oper}
theorem bytesAt_of {sz : Nat} {s : SV} {b k : Atom} {rd : List Nat} {e e' : Em} (h : newsOf heap sz s e = some ((b, k, rd), e')) (H : Hold P σ0 τ e') {Φ : Fix} {μ : Map} {x : Value} (hx : SRep Φ μ τ s x) :
    ∃ a n c, x = .slice a n c := by
  unfold newsOf at h
  split at h
  · simp only [SRep] at hx
    obtain ⟨o1, l, kk, c, o', r1, r2, r3, rfl, _⟩ := hx
    exact ⟨_, _, _, rfl⟩
  · rename_i a0
    simp only [EM.bind_eq, EM.pure_eq] at h
    obtain ⟨n, e1, h1, y, e2, h2, h3⟩ := h
    cases h3
    obtain ⟨H2, q2, _⟩ := emit_back h2 H
    obtain ⟨H1, q1, _⟩ := emit_back h1 H2
    obtain ⟨n1, cs1, g1, g2⟩ := evalO_len q1
    simp only [SRep] at hx
    have := asSlice_rep g1 hx
    simp only [Rep] at this
    obtain ⟨a, c, rfl, _⟩ := this
    exact ⟨_, _, _, rfl⟩
  · rw [fail_eq] at h; exact h.elim
theorem newsAt_bytes {Φ : Fix} {b k : AV} {x : Value} {w : World} (h : NewsAt P 1 Φ b k x w) (hs : ∃ a n c, x = .slice a n c) : BytesAt P b x w := by
  obtain ⟨cs, n, vs, h1, h2, h3, h4, h5⟩ := h
  obtain ⟨a, n', c, rfl⟩ := hs
  obtain ⟨f1, f2⟩ := h5 w rfl
  have f2 := f2 n (Nat.le_refl _)
  simp only [Builtin.lenOf, Sem.run_pure, Result.ok.injEq, and_true] at f1
  subst f1
  have hv : vs.length = n' := by rw [h3.1, h4]; simp
  rw [Nat.mul_one, List.take_of_length_le (by omega)] at f2
  refine ⟨a, n', c, cs, rfl, h1, by rw [h4]; simp, fun ha => ?_, fun ad ha => ⟨vs, ?_, hv, Φ, h3.2⟩⟩
  · subst ha
    simp only [Builtin.firstCells, Sem.run_pure, Result.ok.injEq, and_true] at f2
    have := congrArg Array.size f2
    simp at this; omega
  · subst ha
    simpa [Builtin.firstCells] using f2
theorem convertStep_ok {src dst : TypeId} {x : Operand} (ho : o.op = .convert src dst x) : StepOk P E τ heap tmps o (convertStep P heap tmps src dst x) := by
  intro σ0 e e' ef h H hold
  simp only [convertStep, EM.bind_eq, lift_eq] at h
  obtain ⟨s, e1, ⟨s', hs, h1⟩, h⟩ := h
  cases h1
  generalize hus : P.underlying src = us at h
  generalize hud : P.underlying dst = ud at h
  split at h
  · simp only [EM.bind_eq, EM.pure_eq] at h
    obtain ⟨a, e2, h2, r, e3, h3, h4⟩ := h
    cases h4
    obtain ⟨H2, q2, _⟩ := emit_back h3 H
    obtain ⟨H1, q1⟩ := atomOf_back h2 H2
    exact ⟨H1, cvt_ok ho hs hus hud q1 q2⟩
  · simp only [EM.bind_eq, EM.pure_eq] at h
    obtain ⟨a, e2, h2, r, e3, h3, h4⟩ := h
    cases h4
    obtain ⟨H2, q2, _⟩ := emit_back h3 H
    obtain ⟨H1, q1⟩ := atomOf_back h2 H2
    exact ⟨H1, str2str_ok ho hs hus hud q1 q2⟩
  · simp only [EM.bind_eq, EM.pure_eq, need_eq] at h
    obtain ⟨_, e2, ⟨he, h2⟩, ⟨b, k, rd⟩, e3, h3, r, e4, h4, h5⟩ := h
    cases h2; cases h5
    obtain ⟨H2, q2, _⟩ := emit_back h4 H
    obtain ⟨H1, q1⟩ := newsOf_back (E := E) h3 H2
    refine ⟨H1, sl2str_ok ho hus hud (isSome_int he) (fun X Φ μ a w hA hR => ?_) q2⟩
    have hx := hA.rep hR (by simp [ho, Op.operands]) hs
    exact newsAt_bytes (q1 X Φ μ a w _ hR (fun id hi => (hA.blk id (by simp [hi])).1) hx) (bytesAt_of h3 H2 hx)
  · simp only [EM.bind_eq, EM.pure_eq, need_eq] at h
    obtain ⟨_, e2, ⟨he, h2⟩, a, e3, h3, b, e4, h4, n, e5, h5, h6⟩ := h
    cases h2; cases h6
    obtain ⟨H3, q3, _⟩ := emit_back h5 H
    obtain ⟨H2, q2, _⟩ := emit_back h4 H3
    obtain ⟨H1, q1⟩ := atomOf_back h3 H2
    exact ⟨H1, str2sl_ok ho hs hus hud (isSome_int he) q1 q2 q3⟩
  · rw [fail_eq] at h; exact h.elim
theorem callStep_ok {K : Knowns} {f : FuncId} {args : List SV} (ht : callTarget tmps o = some (f, args)) : StepOk P E τ heap tmps o (callStep P K heap o f args) := by
  intro σ0 e e' ef h H hold
  simp only [callStep, EM.bind_eq, need_eq, EM.pure_eq] at h
  obtain ⟨_, e1, ⟨hen, h1⟩, ps, e2, h2, r, e3, h3, h4⟩ := h
  cases h1; cases h4
  obtain ⟨H2, q2, _⟩ := emitCall_back h3 H
  obtain ⟨H1, q1⟩ := mapEM_back (Q := FrzOk heap τ) (fun a e b e' h H => freeze_back h H) h2 H2
  exact ⟨H1, call_ok ht hen q1 (mapEM_ids (fun s p e e' h => freeze_ids h) h2) q2⟩
theorem externStep_ok {x : O} {f : FuncId} {args : List SV} (ht : callTarget tmps o = some (f, args)) (hx : externOp P f = some x) : StepOk P E τ heap tmps o (externStep x args) := by
  intro σ0 e e' ef h H hold
  unfold externStep at h
  split at h
  · rename_i s0 s1 s2
    simp only [EM.bind_eq, EM.pure_eq] at h
    obtain ⟨a, e1, h1, b, e2, h2, c, e3, h3, r, e4, h4, h5⟩ := h
    cases h5
    obtain ⟨H4, q4, _⟩ := emit_back h4 H
    obtain ⟨H3, q3⟩ := atomOf_back h3 H4
    obtain ⟨H2, q2⟩ := atomOf_back h2 H3
    obtain ⟨H1, q1⟩ := atomOf_back h1 H2
    exact ⟨H1, extern_ok ht hx q1 q2 q3 q4⟩
  · rw [fail_eq] at h; exact h.elim
theorem sizeT_of_zero {e : TypeId} {z : List AV} {sz bytes : Nat} (hz : zeroT P e = some z) (hs : sizeT P e = some sz) (hb : bytesT P e = some bytes) :
    ∃ i zv, P.info? e = some i ∧ i.zero = some zv ∧ (∀ Φ, RepE Φ z zv.cells.toList) ∧ i.size = sz ∧ i.bytes = bytes := by
  obtain ⟨i, zv, h1, h2, h3, _, _⟩ := zeroT_rep hz
  exact ⟨i, zv, h1, h2, h3, sizeT_some hs h1, bytesT_some hb h1⟩
theorem appendStep_ok {c : Call} {t u : TypeId} {xs xx : Operand} {ss sx : SV} (ho : o.op = .call c) (hb : c.callee = .builtin .append) (hat : c.argTypes.toList = [t, u]) (hxs : c.args.toList = [xs, xx])
    (hss : opv tmps xs = some ss) (hsx : opv tmps xx = some sx) : StepOk P E τ heap tmps o (appendStep P heap t u ss sx) := by
  intro σ0 e e' ef h H hold
  simp only [appendStep, EM.bind_eq, need_eq, lift_eq] at h
  obtain ⟨te, e1, ⟨_, he, h1⟩, sz, e2, ⟨_, hs, h2⟩, bytes, e3, ⟨_, hby, h3⟩, z, e4, ⟨_, hz, h4⟩, _, e5, ⟨hn, h5⟩, ⟨b, k, rd⟩, e6, h6, h⟩ := h
  cases h1; cases h2; cases h3; cases h4; cases h5
  simp only [Bool.and_eq_true, Nat.blt_eq, beq_iff_eq, Bool.or_eq_true, Bool.not_eq_true'] at hn
  obtain ⟨⟨⟨n1, n2⟩, n3⟩, n4⟩ := hn
  obtain ⟨i, zv, f1, f2, f3, rfl, rfl⟩ := sizeT_of_zero hz hs hby
  have news : Hold P σ0 τ e6 → _ := fun H6 => newsT_back (E := E) h6 H6 f3 n1 n3 (fun hst => by rcases n4 with h | h; rw [hst] at h; cases h; exact h)
  split at h
  · rename_i id sz' off len cap
    simp only [EM.bind_eq, need_eq, blk_eq, EM.pure_eq] at h
    obtain ⟨sb, e7, ⟨_, hsb, h7⟩, _, e8, ⟨hc, h8⟩, la, e9, h9, y, e10, h10, n, e11, h11, h12⟩ := h
    cases h7; cases h8; cases h12
    simp only [Bool.and_eq_true, beq_iff_eq, Bool.not_eq_true'] at hc
    obtain ⟨⟨c1, c2⟩, c3⟩ := hc
    subst c2
    obtain ⟨H5, q5, _⟩ := emit_back h11 H
    obtain ⟨H4, q4, _⟩ := emit_back h10 H5
    obtain ⟨H3, q3⟩ := lstOf_back h9 H4
    obtain ⟨H2, q2⟩ := news H3
    exact ⟨H2, append_osl_ok ho hb hat hxs he f1 f2 f3 n1 n3 n2 rfl rfl hss hsx rfl (natLit_den c3) hsb c1 q2 q3 q4 q5⟩
  · rename_i a0
    simp only [EM.bind_eq] at h
    obtain ⟨v0, e7, h7, h⟩ := h
    split at h
    · rename_i hk
      rw [EM.pure_eq] at h; cases h
      obtain ⟨H3, q3, _⟩ := emit_back h7 H
      obtain ⟨H2, q2⟩ := news H3
      exact ⟨H2, append_none_ok ho hb hat hxs he f1 f2 f3 n1 hss hsx q2 q3 (natLit_den (by simpa using hk))⟩
    · simp only [EM.bind_eq, EM.pure_eq] at h
      obtain ⟨y, e8, h8, v1, e9, h9, h10⟩ := h
      cases h10
      obtain ⟨H5, q5, _⟩ := emit_back h9 H
      obtain ⟨H4, q4, _⟩ := emit_back h8 H5
      obtain ⟨H3, q3, _⟩ := emit_back h7 H4
      obtain ⟨H2, q2⟩ := news H3
      exact ⟨H2, append_atm_ok ho hb hat hxs he f1 f2 f3 n1 n3 rfl rfl hss hsx q2 q3 q4 q5⟩
  · rw [fail_eq] at h; exact h.elim
theorem copyStep_ok {c : Call} {t u : TypeId} {xs xx : Operand} {ss sx : SV} (ho : o.op = .call c) (hb : c.callee = .builtin .copy) (hat : c.argTypes.toList = [t, u]) (hxs : c.args.toList = [xs, xx])
    (hss : opv tmps xs = some ss) (hsx : opv tmps xx = some sx) : StepOk P E τ heap tmps o (copyStep P heap t u ss sx) := by
  intro σ0 e e' ef h H hold
  simp only [copyStep, EM.bind_eq, need_eq, lift_eq] at h
  obtain ⟨te, e1, ⟨_, he, h1⟩, sz, e2, ⟨_, hs, h2⟩, _, e5, ⟨hn, h5⟩, ⟨b, k, rd⟩, e6, h6, h⟩ := h
  cases h1; cases h2; cases h5
  simp only [Bool.and_eq_true, Nat.blt_eq, beq_iff_eq, Bool.or_eq_true, Bool.not_eq_true'] at hn
  obtain ⟨n1, n2⟩ := hn
  have news : Hold P σ0 τ e6 → Hold P σ0 τ e ∧ ∀ (X : LS) (Φ : Fix) (μ : Map) (a : Act) (w : World) (x : Value), SRel E τ X Φ μ a w → (∀ id ∈ rd, X.blk id = heap.getD id none) → SRep Φ μ τ sx x → NewsAt P sz Φ (b.den τ) (k.den τ) x w := fun H6 => by
    split at h6
    · rename_i hst
      have : sz = 1 := by rcases n2 with h | h; rw [hst] at h; cases h; exact h
      subst this
      obtain ⟨H0, _, q⟩ := newsStr_back h6 H6
      exact ⟨H0, fun X Φ μ a w x _ _ hx => q Φ μ w x hx⟩
    · split at h6
      · exact newsOf_back h6 H6
      · rw [fail_eq] at h6; exact h6.elim
  split at h
  · rename_i id sz' off len cap
    simp only [EM.bind_eq, need_eq, blk_eq, EM.pure_eq] at h
    obtain ⟨sb, e7, ⟨_, hsb, h7⟩, _, e8, ⟨hc, h8⟩, la, e9, h9, n, e10, h10, y, e11, h11, h12⟩ := h
    cases h7; cases h8; cases h12
    simp only [Bool.and_eq_true, beq_iff_eq, Bool.not_eq_true'] at hc
    obtain ⟨c1, c2⟩ := hc
    subst c2
    obtain ⟨H5, q5, _⟩ := emit_back h11 H
    obtain ⟨H4, q4, _⟩ := emit_back h10 H5
    obtain ⟨H3, q3⟩ := lstOf_back h9 H4
    obtain ⟨H2, q2⟩ := news H3
    exact ⟨H2, copy_ok ho hb hat hxs he hs hss hsx rfl hsb c1 q2 q3 q4 q5⟩
  · rw [fail_eq] at h; exact h.elim
theorem mapM_one {xs : List Operand} {s : SV} (h : xs.mapM (opv tmps) = some [s]) : ∃ x, xs = [x] ∧ opv tmps x = some s := by
  match xs, h with
  | [x], h =>
    rw [List.mapM_cons] at h
    cases hx : opv tmps x with
    | none => rw [hx] at h; cases h
    | some a => rw [hx] at h; simp at h; subst h; exact ⟨x, rfl, hx⟩
  | [], h => simp at h
  | x :: y :: l, h =>
    rw [List.mapM_cons, List.mapM_cons] at h
    cases hx : opv tmps x with
    | none => rw [hx] at h; cases h
    | some a =>
      cases hy : opv tmps y with
      | none => rw [hx, hy] at h; cases h
      | some b =>
        cases hl : l.mapM (opv tmps) with
        | none => rw [hx, hy, hl] at h; cases h
        | some r => rw [hx, hy, hl] at h; simp at h
theorem mapM_two {xs : List Operand} {s s' : SV} (h : xs.mapM (opv tmps) = some [s, s']) : ∃ x y, xs = [x, y] ∧ opv tmps x = some s ∧ opv tmps y = some s' := by
  match xs, h with
  | [], h => simp at h
  | x :: l, h =>
    rw [List.mapM_cons] at h
    cases hx : opv tmps x with
    | none => rw [hx] at h; cases h
    | some a =>
      cases hl : l.mapM (opv tmps) with
      | none => rw [hx, hl] at h; cases h
      | some r =>
        rw [hx, hl] at h
        simp at h
        obtain ⟨rfl, rfl⟩ := h
        obtain ⟨y, rfl, hy⟩ := mapM_one hl
        exact ⟨x, y, rfl, hx, hy⟩
theorem builtinStep_ok {c : Call} {b : Builtin} (ho : o.op = .call c) (hb : c.callee = .builtin b) : StepOk P E τ heap tmps o (builtinStep P heap tmps b c.argTypes.toList c.args.toList) := by
  intro σ0 e e' ef h H hold
  simp only [builtinStep, EM.bind_eq, lift_eq] at h
  obtain ⟨ss, e1, ⟨_, hss, h1⟩, h⟩ := h
  cases h1
  generalize hat : c.argTypes.toList = ats at h
  split at h
  · obtain ⟨x, hxs, hx⟩ := mapM_one hss
    rename_i t ts s
    generalize hu : P.underlying t = ut at h
    split at h
    · rw [EM.pure_eq] at h; cases h
      exact ⟨H, len_arr_ok ho hb hat hxs hu⟩
    · split at h
      · rw [EM.pure_eq] at h; cases h
        exact ⟨H, len_osl_ok ho hb hat hxs hx hu⟩
      · simp only [EM.bind_eq, EM.pure_eq] at h
        obtain ⟨r, e2, h2, h3⟩ := h
        cases h3
        obtain ⟨H1, q, _⟩ := emit_back h2 H
        exact ⟨H1, len_sl_ok ho hb hat hxs hx hu q⟩
      · rw [fail_eq] at h; exact h.elim
    · simp only [EM.bind_eq, EM.pure_eq] at h
      obtain ⟨a, e2, h2, r, e3, h3, h4⟩ := h
      cases h4
      obtain ⟨H2, q2, _⟩ := emit_back h3 H
      obtain ⟨H1, q1⟩ := atomOf_back h2 H2
      exact ⟨H1, len_str_ok ho hb hat hxs hx q1 hu q2⟩
    · rw [fail_eq] at h; exact h.elim
  · obtain ⟨x, y, hxs, hx, hy⟩ := mapM_two hss
    exact appendStep_ok ho hb hat hxs hx hy σ0 e e' ef h H hold
  · obtain ⟨x, y, hxs, hx, hy⟩ := mapM_two hss
    exact copyStep_ok ho hb hat hxs hx hy σ0 e e' ef h H hold
  · obtain ⟨x, y, hxs, hx, hy⟩ := mapM_two hss
    simp only [EM.bind_eq, EM.pure_eq] at h
    obtain ⟨a, e2, h2, a', e3, h3, r, e4, h4, h5⟩ := h
    cases h5
    obtain ⟨H3, q3, _⟩ := emit_back h4 H
    obtain ⟨H2, q2⟩ := atomOf_back h3 H3
    obtain ⟨H1, q1⟩ := atomOf_back h2 H2
    exact ⟨H1, maxmin_ok ho hb hxs hx hy q1 q2 (.inl ⟨rfl, q3⟩)⟩
  · obtain ⟨x, y, hxs, hx, hy⟩ := mapM_two hss
    simp only [EM.bind_eq, EM.pure_eq] at h
    obtain ⟨a, e2, h2, a', e3, h3, r, e4, h4, h5⟩ := h
    cases h5
    obtain ⟨H3, q3, _⟩ := emit_back h4 H
    obtain ⟨H2, q2⟩ := atomOf_back h3 H3
    obtain ⟨H1, q1⟩ := atomOf_back h2 H2
    exact ⟨H1, maxmin_ok ho hb hxs hx hy q1 q2 (.inr ⟨rfl, q3⟩)⟩
  · rw [fail_eq] at h; exact h.elim
end Go.SE
set_option autoImplicit false
namespace Go.SE
open Go Go.RowKit
variable {P : Program} {σ0 τ : List AV} {E : Ent} {heap : Heap} {tmps : List SV} {o : Oper}
theorem hArgs_back : ∀ {fls : List Bool} {ss : List SV} {k : Nat} {as : List HA} {own ids : List Nat} {e e' : Em}, hArgs heap fls ss k e = some ((as, own, ids), e') → Hold P σ0 τ e' →
    Hold P σ0 τ e ∧ (∀ id ∈ ids, ∃ sb, heap.getD id none = some sb) ∧
      ∀ E X Φ μ a w Φ' vs (all : List Nat), all.drop k = own → Stays heap E τ ids Φ' X Φ μ a w → SRepL Φ μ τ ss vs → HRepL Φ' (fun j => μ (all.getD j 0)) (as.map (HA.den τ)) vs
  | [], [], k, as, own, ids, e, e', h, H => by
    simp only [hArgs, EM.pure_eq] at h
    cases h
    exact ⟨H, by simp, fun E X Φ μ a w Φ' vs all _ _ hv => by simpa [SRepL, HRepL] using hv⟩
  | fl :: fls, s :: ss, k, as, own, ids, e, e', h, H => by
    simp only [hArgs] at h
    have head : ∀ {all own : List Nat} {id : Nat}, all.drop k = id :: own → all.getD k 0 = id ∧ all.drop (k + 1) = own := fun {all own id} hd => by
      have hk : k < all.length := by
        rcases Nat.lt_or_ge k all.length with h' | h'
        · exact h'
        · rw [List.drop_eq_nil_of_le h'] at hd; cases hd
      rw [List.drop_eq_getElem_cons hk] at hd
      cases hd
      exact ⟨by simp [hk], rfl⟩
    split at h
    · split at h
      · rename_i id sz off len cap
        simp only [EM.bind_eq, EM.pure_eq] at h
        obtain ⟨⟨as1, own1, ids1⟩, e1, h1, h2⟩ := h
        cases h2
        obtain ⟨H0, q1, q2⟩ := hArgs_back h1 H
        refine ⟨H0, q1, fun E X Φ μ a w Φ' vs all hd hs hv => ?_⟩
        obtain ⟨hk1, hk2⟩ := head hd
        cases vs with
        | nil => simp [SRepL] at hv
        | cons v vs =>
          simp only [SRepL] at hv
          simp only [List.map_cons, HRepL]
          refine ⟨?_, q2 E X Φ μ a w Φ' vs all hk2 hs hv.2⟩
          have := hv.1
          simp only [SRep] at this
          obtain ⟨oo, l, kk, c, o', g1, g2, g3, g4⟩ := this
          simp only [HA.den, HRep, hk1]
          exact ⟨oo, l, kk, c, o', g1, g2, g3, g4⟩
      · rename_i id off
        simp only [EM.bind_eq, EM.pure_eq] at h
        obtain ⟨⟨as1, own1, ids1⟩, e1, h1, h2⟩ := h
        cases h2
        obtain ⟨H0, q1, q2⟩ := hArgs_back h1 H
        refine ⟨H0, q1, fun E X Φ μ a w Φ' vs all hd hs hv => ?_⟩
        obtain ⟨hk1, hk2⟩ := head hd
        cases vs with
        | nil => simp [SRepL] at hv
        | cons v vs =>
          simp only [SRepL] at hv
          simp only [List.map_cons, HRepL]
          refine ⟨?_, q2 E X Φ μ a w Φ' vs all hk2 hs hv.2⟩
          have := hv.1
          simp only [SRep] at this
          simp only [HA.den, HRep, hk1]
          exact this
      · rw [fail_eq] at h; exact h.elim
    · simp only [EM.bind_eq, EM.pure_eq] at h
      obtain ⟨p, e0, h0, ⟨as1, own1, ids1⟩, e1, h1, h2⟩ := h
      cases h2
      obtain ⟨H1, q1, q2⟩ := hArgs_back h1 H
      obtain ⟨H0, q0⟩ := freeze_back h0 H1
      refine ⟨H0, fun id hid => ?_, fun E X Φ μ a w Φ' vs all hd hs hv => ?_⟩
      · rcases List.mem_append.1 hid with h | h
        · exact freeze_ids h0 id h
        · exact q1 id h
      · cases vs with
        | nil => simp [SRepL] at hv
        | cons v vs =>
          simp only [SRepL] at hv
          simp only [List.map_cons, HRepL]
          exact ⟨q0 E X Φ μ a w Φ' v (hs.sub fun id hi => by simp [hi]) hv.1, q2 E X Φ μ a w Φ' vs all hd (hs.sub fun id hi => by simp [hi]) hv.2⟩
  | [], _ :: _, _, _, _, _, _, _, h, _ => by simp only [hArgs] at h; rw [fail_eq] at h; exact h.elim
  | _ :: _, [], _, _, _, _, _, _, h, _ => by simp only [hArgs] at h; rw [fail_eq] at h; exact h.elim
theorem distinct_get : ∀ {l : List Nat}, distinct l = true → ∀ (i j a : Nat), l[i]? = some a → l[j]? = some a → i = j
  | [], _, i, _, _, h, _ => by simp at h
  | x :: l, hd, i, j, a, hi, hj => by
    simp only [distinct, Bool.and_eq_true, List.all_eq_true, Bool.not_eq_true'] at hd
    cases i with
    | zero =>
      cases j with
      | zero => rfl
      | succ j =>
        have h1 : x = a := by simpa using hi
        have h2 := hd.1 a (List.mem_of_getElem? (by simpa using hj))
        rw [h1, Nat.beq_refl] at h2
        cases h2
    | succ i =>
      cases j with
      | zero =>
        have h1 : x = a := by simpa using hj
        have h2 := hd.1 a (List.mem_of_getElem? (by simpa using hi))
        rw [h1, Nat.beq_refl] at h2
        cases h2
      | succ j => rw [distinct_get hd.2 i j a (by simpa using hi) (by simpa using hj)]
theorem ownLst_back {id : Nat} {a : Atom} {e e' : Em} (h : ownLst heap id e = some (a, e')) (H : Hold P σ0 τ e') :
    Hold P σ0 τ e ∧ ∃ sb, heap.getD id none = some sb ∧ sb.ro = false ∧ ∀ Φ μ vs, CRep Φ μ τ sb.cells vs → ∃ cs, a.den τ = .lst cs ∧ RepL Φ cs vs := by
  simp only [ownLst, EM.bind_eq, blk_eq, need_eq] at h
  obtain ⟨sb, e1, ⟨_, hsb, h1⟩, _, e2, ⟨hro, h2⟩, h3⟩ := h
  cases h1; cases h2
  obtain ⟨H0, q⟩ := lstOf_back h3 H
  exact ⟨H0, sb, hsb, by simpa using hro, q⟩
theorem All2.at {α β : Type} {Q : α → β → Prop} : ∀ {as : List α} {bs : List β} {i : Nat} {a : α} {b : β}, All2 Q as bs → as[i]? = some a → bs[i]? = some b → Q a b
  | [], [], _, _, _, _, h, _ => by simp at h
  | x :: as, y :: bs, 0, a, b, h, ha, hb => by
    have h1 : x = a := by simpa using ha
    have h2 : y = b := by simpa using hb
    rw [← h1, ← h2]; exact h.1
  | x :: as, y :: bs, i + 1, a, b, h, ha, hb => All2.at h.2 (i := i) (by simpa using ha) (by simpa using hb)
  | [], _ :: _, _, _, _, h, _, _ => h.elim
  | _ :: _, [], _, _, _, h, _, _ => h.elim
theorem upd_own_blk : ∀ {own : List Nat} {zs : List Atom} {X : LS} (id : Nat), distinct own = true → own.length = zs.length →
    (X.upd ((own.zip zs).map fun p => (lBlk p.1, LV.bk (some ⟨.dyn p.2, false⟩)))).blk id = match (own.zip zs).find? (fun p => p.1 == id) with | some p => some ⟨.dyn p.2, false⟩ | none => X.blk id
  | [], zs, X, id, _, _ => by simp [LS.upd]
  | _ :: _, [], X, id, _, h => by simp at h
  | i :: own, z :: zs, X, id, hd, hl => by
    simp only [distinct, Bool.and_eq_true, List.all_eq_true, Bool.not_eq_true'] at hd
    simp only [List.zip_cons_cons, List.map_cons]
    show ((X.set (lBlk i) _).upd _).blk id = _
    rw [upd_own_blk id hd.2 (by simpa using hl), List.find?_cons]
    by_cases h : i = id
    · subst h
      have hnone : (own.zip zs).find? (fun p => p.1 == i) = none := by
        rw [List.find?_eq_none]
        rintro ⟨j, y⟩ hp he
        have hj := (List.of_mem_zip hp).1
        have := hd.1 j hj
        simp only [beq_iff_eq] at he
        rw [he, Nat.beq_refl] at this
        cases this
      rw [hnone]
      simp
    · have : (i == id) = false := by simpa using h
      simp only [this]
      cases (own.zip zs).find? (fun p => p.1 == id) with
      | some p => rfl
      | none => simp [Ne.symm h]
end Go.SE
set_option autoImplicit false
namespace Go.SE
open Go Go.RowKit
variable {P : Program} {σ0 τ : List AV} {E : Ent} {heap : Heap} {tmps : List SV} {o : Oper}
theorem LS.upd_own_tmp : ∀ (l : List (Nat × Atom)) (X : LS) (t : Nat), (X.upd (l.map fun p => (lBlk p.1, LV.bk (some ⟨.dyn p.2, false⟩)))).tmp t = X.tmp t
  | [], _, _ => rfl
  | p :: l, X, t => by
    show ((X.set (lBlk p.1) _).upd _).tmp t = _
    rw [LS.upd_own_tmp l]; simp
theorem LS.upd_own_dfn : ∀ (l : List (Nat × Atom)) (X : LS) (t : Nat), (X.upd (l.map fun p => (lBlk p.1, LV.bk (some ⟨.dyn p.2, false⟩)))).dfn t = X.dfn t
  | [], _, _ => rfl
  | p :: l, X, t => by
    show ((X.set (lBlk p.1) _).upd _).dfn t = _
    rw [LS.upd_own_dfn l]; simp
theorem LS.upd_append (X : LS) (W V : List (Nat × LV)) : X.upd (W ++ V) = (X.upd W).upd V := by simp [LS.upd, List.foldl_append]
theorem LS.upd_cons (X : LS) (p : Nat × LV) (W : List (Nat × LV)) : X.upd (p :: W) = (X.set p.1 p.2).upd W := rfl
theorem LS.upd_nil (X : LS) : X.upd [] = X := rfl
theorem LS.upd_dfn_of : ∀ (n : Nat) (m : Nat) (X : LS), (X.upd ((List.range' m n).map fun id => (lDfn id, LV.df true))) = fun l =>
    if l % 3 = 2 ∧ m ≤ l / 3 ∧ l / 3 < m + n then .df true else X l
  | 0, m, X => by
    funext l
    simp only [List.range'_zero, List.map_nil, LS.upd_nil]
    rw [if_neg (by omega)]
  | n + 1, m, X => by
    rw [List.range'_succ, List.map_cons, LS.upd_cons, LS.upd_dfn_of n (m + 1)]
    funext l
    simp only [LS.set]
    by_cases h : l % 3 = 2 ∧ m ≤ l / 3 ∧ l / 3 < m + (n + 1)
    · rw [if_pos h]
      by_cases h2 : l = lDfn m
      · rw [if_pos h2]
        split <;> rfl
      · rw [if_pos ⟨h.1, by unfold lDfn at h2; omega, by omega⟩]
    · rw [if_neg h, if_neg (by omega), if_neg (by unfold lDfn; omega)]
theorem LS.upd_new_of : ∀ (new : List (Option SB)) (m : Nat) (X : LS), (X.upd (((List.range' m new.length).zip new).map fun p => (lBlk p.1, LV.bk p.2))) = fun l =>
    if l % 3 = 1 ∧ m ≤ l / 3 ∧ l / 3 < m + new.length then .bk (new.getD (l / 3 - m) none) else X l
  | [], m, X => by
    funext l
    simp only [List.length_nil, List.range'_zero, List.zip_nil_left, List.map_nil, LS.upd_nil]
    rw [if_neg (by omega)]
  | b :: new, m, X => by
    rw [List.length_cons, List.range'_succ, List.zip_cons_cons, List.map_cons, LS.upd_cons, LS.upd_new_of new (m + 1)]
    funext l
    simp only [LS.set]
    by_cases h : l % 3 = 1 ∧ m ≤ l / 3 ∧ l / 3 < m + (new.length + 1)
    · rw [if_pos h]
      by_cases h2 : l = lBlk m
      · rw [if_pos h2, if_neg (by unfold lBlk at h2; omega)]
        have : l / 3 - m = 0 := by unfold lBlk at h2; omega
        rw [this]; rfl
      · have h3 : m + 1 ≤ l / 3 := by unfold lBlk at h2; omega
        rw [if_pos ⟨h.1, h3, by omega⟩, show l / 3 - m = (l / 3 - (m + 1)) + 1 from by omega]
        simp
    · rw [if_neg h, if_neg (by omega), if_neg (by unfold lBlk; omega)]
theorem find_own {own : List Nat} {zs : List Atom} {id : Nat} {p : Nat × Atom} (h : (own.zip zs).find? (fun p => p.1 == id) = some p) : ∃ k : Nat, own[k]? = some id ∧ zs[k]? = some p.2 := by
  have h1 := List.find?_some h
  have h2 := List.mem_of_find?_eq_some h
  obtain ⟨k, hk⟩ := List.mem_iff_getElem?.1 h2
  have := List.getElem?_zip_eq_some.1 hk
  refine ⟨k, ?_, this.2⟩
  rw [this.1]
  simpa using h1
theorem SRel.callH {X : LS} {Φ Φ' : Fix} {μ : Map} {a : Act} {w w' : World} {own : List Nat} {zs : List Atom} (h : SRel E τ X Φ μ a w)
    (hd : distinct own = true) (hl : own.length = zs.length) (hown : ∀ id ∈ own, ∃ sb, X.blk id = some sb ∧ sb.ro = false)
    (hnew : ∀ (k id : Nat) (z : Atom), own[k]? = some id → zs[k]? = some z → HOwn Φ' w' (μ id) (z.den τ))
    (hf : WR Φ' w') (hle : Φ.le Φ') (hag : ∀ b, b < w.heap.size → (∀ id ∈ own, b ≠ (μ id).1) → Φ' b = Φ b)
    (ho : w'.os = w.os) (ht : w'.tape = w.tape) (hout : w'.output = w.output) (hs : w.heap.size ≤ w'.heap.size) (hB : ∀ b, b < w.heap.size → (∀ id ∈ own, b ≠ (μ id).1) → w'.heap[b]? = w.heap[b]?) :
    SRel E τ (X.upd ((own.zip zs).map fun p => (lBlk p.1, LV.bk (some ⟨.dyn p.2, false⟩)))) Φ' μ a w' := by
  have hfar : ∀ b, b < E.w0.heap.size → ¬ E.own b → ∀ id ∈ own, b ≠ (μ id).1 := fun b hb hbo id hid e => by
    obtain ⟨sb, h1, h2⟩ := hown id hid
    subst e
    rcases h.home id sb h1 h2 with h3 | h3
    · omega
    · exact hbo h3
  have hblk : ∀ id sb, (X.upd ((own.zip zs).map fun p => (lBlk p.1, LV.bk (some ⟨.dyn p.2, false⟩)))).blk id = some sb →
      (∃ (k : Nat) (z : Atom), own[k]? = some id ∧ zs[k]? = some z ∧ sb = ⟨.dyn z, false⟩) ∨ (id ∉ own ∧ X.blk id = some sb) := fun id sb hb => by
    rw [upd_own_blk id hd hl] at hb
    split at hb
    · rename_i p hp
      obtain ⟨k, h1, h2⟩ := find_own hp
      cases hb
      exact .inl ⟨k, p.2, h1, h2, rfl⟩
    · rename_i hn
      refine .inr ⟨fun hm => ?_, hb⟩
      obtain ⟨k, hk⟩ := List.mem_iff_getElem?.1 hm
      have hkl := (List.getElem?_eq_some_iff.1 hk).1
      rw [List.find?_eq_none] at hn
      exact hn (id, zs[k]'(by omega)) (List.mem_of_getElem? (List.getElem?_zip_eq_some.2 ⟨hk, List.getElem?_eq_getElem (by omega)⟩)) (by simp)
  have hxro : ∀ id sb, (X.upd ((own.zip zs).map fun p => (lBlk p.1, LV.bk (some ⟨.dyn p.2, false⟩)))).blk id = some sb → sb.ro = false → ∃ sb', X.blk id = some sb' ∧ sb'.ro = false := fun id sb hb hro => by
    rcases hblk id sb hb with ⟨k, z, h1, _, _⟩ | ⟨_, h1⟩
    · exact hown id (List.mem_of_getElem? h1)
    · exact ⟨sb, h1, hro⟩
  refine ⟨h.dfr, h.nt, ⟨ho.trans h.mem.os, ht.trans h.mem.tape, hout.trans h.mem.output, Nat.le_trans h.mem.size hs, fun b hb hbo => ?_, hf, fun b hb hbo => ?_, Fix.le_trans h.mem.phi0 hle⟩,
    fun t => ?_, fun t id hid => ?_, fun id sb hb => ?_, fun id sb hb hro => ?_, fun id hid => ?_, fun i j sb sb' hi hj hro hro' hij => ?_, fun id hid => ?_⟩
  · rw [hB b (Nat.lt_of_lt_of_le hb h.mem.size) (hfar b hb hbo)]; exact h.mem.frame b hb hbo
  · rw [hag b (Nat.lt_of_lt_of_le hb h.mem.size) (hfar b hb hbo)]; exact h.mem.phi b hb hbo
  · rw [LS.upd_own_tmp]
    exact SRep.mono hle _ _ (fun _ _ => rfl) (h.tmps t)
  · rw [LS.upd_own_tmp] at hid
    rw [LS.upd_own_dfn]
    exact h.refs t id hid
  · rw [LS.upd_own_dfn]
    rcases hblk id sb hb with ⟨k, z, h1, h2, rfl⟩ | ⟨hno, h1⟩
    · obtain ⟨sb0, g1, g2⟩ := hown id (List.mem_of_getElem? h1)
      obtain ⟨C, t, fr, k1, k2, k3, k4, k5⟩ := hnew k id z h1 h2
      refine ⟨(h.blks id sb0 g1).1, ⟨C, t, fr, k1, k2, k3, k4, by simpa using k5⟩, by simp [Cells.refs]⟩
    · obtain ⟨g1, ⟨C, t, fr, k2, k3, k4, k5, k6⟩, g7⟩ := h.blks id sb h1
      have hne : ∀ i ∈ own, (μ id).1 ≠ (μ i).1 := fun i hi => by
        obtain ⟨sbi, m1, m2⟩ := hown i hi
        cases hro : sb.ro with
        | false => exact h.inj id i sb sbi h1 m1 hro m2 (fun e => hno (e ▸ hi))
        | true =>
          rw [hro] at k6
          simp only [if_true] at k6
          obtain ⟨_, ⟨_, _, _, _, _, _, _, n6⟩, _⟩ := h.blks i sbi m1
          rw [m2] at n6
          simp only [Bool.false_eq_true, if_false] at n6
          intro e
          rw [e, n6] at k6
          cases k6
      have hlt := h.lt id g1
      refine ⟨g1, ⟨C, t, fr, by rw [hB _ hlt hne]; exact k2, k3, k4, CRep.mono hle _ _ (fun _ _ => rfl) k5, ?_⟩, fun i hi => by rw [LS.upd_own_dfn]; exact g7 i hi⟩
      rw [hag _ hlt hne]
      exact k6
  · obtain ⟨sb', h1, h2⟩ := hxro id sb hb hro
    exact h.home id sb' h1 h2
  · rw [LS.upd_own_dfn] at hid
    exact Nat.lt_of_lt_of_le (h.lt id hid) hs
  · obtain ⟨s1, h1, h2⟩ := hxro i sb hi hro
    obtain ⟨s2, h3, h4⟩ := hxro j sb' hj hro'
    exact h.inj i j s1 s2 h1 h3 h2 h4 hij
  · rw [LS.upd_own_dfn]; exact h.old id hid
theorem SRel.news {Y : LS} {Φ : Fix} {μ : Map} {a : Act} {w : World} {m N : Nat} {ns : List Atom} {p : Nat → Nat × Nat} (h : SRel E τ Y Φ μ a w)
    (hN : E.w0.heap.size ≤ N) (hlt : ∀ id, Y.dfn id = true → (μ id).1 < N) (hnew : ∀ j, j < ns.length → Y.dfn (m + j) = false)
    (hown : ∀ j z, ns[j]? = some z → HOwn Φ w (p j) (z.den τ)) (hge : ∀ j, j < ns.length → N ≤ (p j).1)
    (hdis : ∀ i j, i < ns.length → j < ns.length → i ≠ j → (p i).1 ≠ (p j).1) :
    SRel E τ (Y.upd (((List.range' m ns.length).map fun id => (lDfn id, LV.df true)) ++ (((List.range' m ns.length).zip (ns.map fun z => some (⟨.dyn z, false⟩ : SB))).map fun q => (lBlk q.1, LV.bk q.2))))
      Φ (fun i => if m ≤ i ∧ i < m + ns.length then p (i - m) else μ i) a w := by
  have hl : ns.length = (ns.map fun z => some (⟨.dyn z, false⟩ : SB)).length := by simp
  rw [LS.upd_append, LS.upd_dfn_of, hl, LS.upd_new_of, ← hl]
  have htmp : ∀ t, LS.tmp (fun l => if l % 3 = 1 ∧ m ≤ l / 3 ∧ l / 3 < m + ns.length then LV.bk ((ns.map fun z => some (⟨.dyn z, false⟩ : SB)).getD (l / 3 - m) none) else
      if l % 3 = 2 ∧ m ≤ l / 3 ∧ l / 3 < m + ns.length then .df true else Y l) t = Y.tmp t := fun t => by
    unfold LS.tmp
    dsimp only
    rw [if_neg (by unfold lTmp; omega), if_neg (by unfold lTmp; omega)]
  have hblk : ∀ id, LS.blk (fun l => if l % 3 = 1 ∧ m ≤ l / 3 ∧ l / 3 < m + ns.length then LV.bk ((ns.map fun z => some (⟨.dyn z, false⟩ : SB)).getD (l / 3 - m) none) else
      if l % 3 = 2 ∧ m ≤ l / 3 ∧ l / 3 < m + ns.length then .df true else Y l) id = if m ≤ id ∧ id < m + ns.length then (ns.map fun z => some (⟨.dyn z, false⟩ : SB)).getD (id - m) none else Y.blk id := fun id => by
    unfold LS.blk
    dsimp only
    have h2 : lBlk id / 3 = id := by unfold lBlk; omega
    have h1 : lBlk id % 3 = 1 := by unfold lBlk; omega
    rw [h2]
    by_cases hi : m ≤ id ∧ id < m + ns.length
    · rw [if_pos ⟨h1, hi⟩, if_pos hi]
    · rw [if_neg (fun e => hi e.2), if_neg (by omega), if_neg hi]
  have hdfn : ∀ id, LS.dfn (fun l => if l % 3 = 1 ∧ m ≤ l / 3 ∧ l / 3 < m + ns.length then LV.bk ((ns.map fun z => some (⟨.dyn z, false⟩ : SB)).getD (l / 3 - m) none) else
      if l % 3 = 2 ∧ m ≤ l / 3 ∧ l / 3 < m + ns.length then .df true else Y l) id = if m ≤ id ∧ id < m + ns.length then true else Y.dfn id := fun id => by
    unfold LS.dfn
    dsimp only
    have h2 : lDfn id / 3 = id := by unfold lDfn; omega
    have h1 : lDfn id % 3 = 2 := by unfold lDfn; omega
    rw [h2, if_neg (by omega)]
    by_cases hi : m ≤ id ∧ id < m + ns.length
    · rw [if_pos ⟨h1, hi⟩, if_pos hi]
    · rw [if_neg (fun e => hi e.2), if_neg hi]
  have hfar : ∀ id, Y.dfn id = true → ¬ (m ≤ id ∧ id < m + ns.length) := fun id hd hr => by
    have := hnew (id - m) (by omega)
    rw [show m + (id - m) = id from by omega, hd] at this
    cases this
  have hne : ∀ id, Y.dfn id = true → (if m ≤ id ∧ id < m + ns.length then p (id - m) else μ id) = μ id := fun id hd => if_neg (hfar id hd)
  have hnb : ∀ id sb, (ns.map fun z => some (⟨.dyn z, false⟩ : SB)).getD (id - m) none = some sb → ∃ z, ns[id - m]? = some z ∧ sb = ⟨.dyn z, false⟩ := fun id sb hs => by
    rw [List.getD_eq_getElem?_getD, List.getElem?_map] at hs
    cases hz : ns[id - m]? with
    | none => rw [hz] at hs; cases hs
    | some z =>
      rw [hz] at hs
      simp only [Option.map_some, Option.getD_some, Option.some.injEq] at hs
      exact ⟨z, rfl, hs.symm⟩
  have hpl : ∀ j, j < ns.length → (p j).1 < w.heap.size := fun j hj => by
    obtain ⟨C, t, fr, h1, _⟩ := hown j _ (List.getElem?_eq_getElem hj)
    exact (Array.getElem?_eq_some_iff.1 h1).1
  refine ⟨h.dfr, h.nt, h.mem, fun t => ?_, fun t id hid => ?_, fun id sb hb => ?_, fun id sb hb hro => ?_, fun id hid => ?_, fun i j sb sb' hi hj hro hro' hij => ?_, fun id hid => ?_⟩
  · rw [htmp]
    exact SRep.mono (Fix.le_refl Φ) _ _ (fun i hi => hne i (h.refs t i hi)) (h.tmps t)
  · rw [htmp] at hid
    rw [hdfn, h.refs t id hid]
    split <;> rfl
  · rw [hblk] at hb
    rw [hdfn]
    by_cases hi : m ≤ id ∧ id < m + ns.length
    · rw [if_pos hi] at hb
      obtain ⟨z, h1, rfl⟩ := hnb id sb hb
      obtain ⟨C, t, fr, k1, k2, k3, k4, k5⟩ := hown _ z h1
      simp only [if_pos hi]
      exact ⟨trivial, ⟨C, t, fr, k1, k2, k3, k4, by simpa using k5⟩, by simp [Cells.refs]⟩
    · rw [if_neg hi] at hb
      simp only [if_neg hi]
      obtain ⟨g1, ⟨C, t, fr, k1, k2, k3, k4, k5⟩, g3⟩ := h.blks id sb hb
      exact ⟨g1, ⟨C, t, fr, k1, k2, k3, CRep.mono (Fix.le_refl Φ) _ _ (fun i hi => hne i (g3 i hi)) k4, k5⟩, fun i hi => by
        rw [hdfn, g3 i hi]; split <;> rfl⟩
  · rw [hblk] at hb
    by_cases hi : m ≤ id ∧ id < m + ns.length
    · rw [if_pos hi]
      exact .inl (Nat.le_trans hN (hge _ (by omega)))
    · rw [if_neg hi] at hb
      rw [if_neg hi]
      exact h.home id sb hb hro
  · rw [hdfn] at hid
    by_cases hi : m ≤ id ∧ id < m + ns.length
    · rw [if_pos hi]
      exact hpl _ (by omega)
    · rw [if_neg hi] at hid
      rw [if_neg hi]
      exact h.lt id hid
  · rw [hblk] at hi hj
    by_cases h1 : m ≤ i ∧ i < m + ns.length <;> by_cases h2 : m ≤ j ∧ j < m + ns.length
    · rw [if_pos h1, if_pos h2]
      exact hdis _ _ (by omega) (by omega) (by omega)
    · rw [if_neg h2] at hj
      rw [if_pos h1, if_neg h2]
      have a1 := hlt j (h.blks j sb' hj).1
      have a2 := hge (i - m) (by omega)
      omega
    · rw [if_neg h1] at hi
      rw [if_neg h1, if_pos h2]
      have a1 := hlt i (h.blks i sb hi).1
      have a2 := hge (j - m) (by omega)
      omega
    · rw [if_neg h1] at hi
      rw [if_neg h2] at hj
      rw [if_neg h1, if_neg h2]
      exact h.inj i j sb sb' hi hj hro hro' hij
  · rw [hdfn]
    obtain ⟨g1, g2⟩ := h.old id hid
    refine ⟨by rw [g1]; split <;> rfl, ?_⟩
    rw [hne id g1]; exact g2
end Go.SE
set_option autoImplicit false
namespace Go.SE
open Go Go.RowKit
variable {P : Program} {σ0 τ : List AV} {E : Ent} {heap : Heap} {tmps : List SV} {o : Oper}
def HV.below (n : Nat) : HV → Prop
  | .val _ => True
  | .osl k _ _ _ _ => k < n
  | .ptr k _ => k < n
theorem HRepL.congr {Φ : Fix} {ν ν' : Nat → Nat × Nat} {n : Nat} (hν : ∀ k, k < n → ν k = ν' k) : ∀ {hs : List HV} {us : List Value}, (∀ h ∈ hs, h.below n) → HRepL Φ ν hs us → HRepL Φ ν' hs us
  | [], us, _, h => by simpa [HRepL] using h
  | h :: hs, [], _, hr => by simp [HRepL] at hr
  | h :: hs, u :: us, hb, hr => by
    simp only [HRepL] at hr ⊢
    refine ⟨?_, HRepL.congr hν (fun h' hh => hb h' (by simp [hh])) hr.2⟩
    have h0 := hr.1
    have h1 := hb h (by simp)
    cases h with
    | val a => exact h0
    | osl k sz o l c =>
      simp only [HRep] at h0 ⊢
      rw [← hν k h1]; exact h0
    | ptr k o =>
      simp only [HRep] at h0 ⊢
      rw [← hν k h1]; exact h0
theorem ext_get {vs : List AV} {x a : Atom} {i : Nat} {b : Bool} {v : AV} (hx : x.den τ = .tup vs) (q : evalO (.ext i b) ([x].map (Atom.den τ)) = some (a.den τ)) (g : vs[i]? = some v) : a.den τ = v := by
  simp only [List.map_cons, List.map_nil, hx] at q
  obtain ⟨vs', m1, m2⟩ := evalO_ext q
  cases m1
  rw [g] at m2
  injection m2 with m2; exact m2.symm
theorem partsH_back {ids : List Nat} {x : Atom} : ∀ {ss : List HS} {n : Nat} {svs : List SV} {m : Nat} {e e' : Em}, partsH ids x ss n e = some ((svs, m), e') → Hold P σ0 τ e' →
    Hold P σ0 τ e ∧ (∀ (vs : List AV) (hs : List HV), x.den τ = .tup vs → HS.fitsL ss hs → ((hs.map HV.parts).flatten) <+: vs.drop n → m = n + ((hs.map HV.parts).flatten).length ∧ (∀ h ∈ hs, h.below ids.length) ∧
      ∀ (Φ : Fix) (μ : Map) (us : List Value), HRepL Φ (fun k => μ (ids.getD k 0)) hs us → SRepL Φ μ τ svs us)
  | [], n, svs, m, e, e', h, H => by
    simp only [partsH, EM.pure_eq] at h
    cases h
    refine ⟨H, fun vs hs hx hf _ => ?_⟩
    cases hs with
    | nil => exact ⟨by simp, by simp, fun Φ μ us hu => by simpa [HRepL, SRepL] using hu⟩
    | cons _ _ => exact hf.elim
  | .val c :: ss, n, svs, m, e, e', h, H => by
    simp only [partsH, EM.bind_eq, EM.pure_eq] at h
    obtain ⟨a, e1, h1, ⟨svs1, m1⟩, e2, h2, h3⟩ := h
    cases h3
    obtain ⟨H1, q1⟩ := partsH_back h2 H
    obtain ⟨H0, q0, _⟩ := emit_back h1 H1
    refine ⟨H0, fun vs hs hx hf hp => ?_⟩
    cases hs with
    | nil => exact hf.elim
    | cons y hs =>
      cases y with
      | osl _ _ _ _ _ => exact hf.1.elim
      | ptr _ _ => exact hf.1.elim
      | val b =>
        simp only [List.map_cons, List.flatten_cons, HV.parts, List.cons_append, List.nil_append] at hp ⊢
        obtain ⟨r, hr⟩ := hp
        have g0 : vs[n]? = some b := by have := congrArg (fun l => l[0]?) hr; simpa using this.symm
        have g1 : vs.drop (n + 1) = (hs.map HV.parts).flatten ++ r := by
          have := congrArg (fun l => l.drop 1) hr
          simpa using this.symm
        obtain ⟨k1, k2, k3⟩ := q1 vs hs hx hf.2 ⟨r, g1.symm⟩
        have ha : a.den τ = b := ext_get hx q0 g0
        refine ⟨by rw [k1]; simp; omega, fun h hh => ?_, fun Φ μ us hu => ?_⟩
        · rcases List.mem_cons.1 hh with rfl | hh
          · trivial
          · exact k2 h hh
        cases us with
        | nil => simp [HRepL] at hu
        | cons u us =>
          simp only [HRepL, HRep] at hu
          simp only [SRepL, SRep, ha]
          exact ⟨hu.1, k3 Φ μ us hu.2⟩
  | .osl k sz z :: ss, n, svs, m, e, e', h, H => by
    simp only [partsH, EM.bind_eq, EM.pure_eq, lift_eq] at h
    obtain ⟨id, e1, ⟨_, hid, h1⟩, o, e2, h2, le, e3, h3, c, e4, h4, ⟨svs1, m1⟩, e5, h5, h6⟩ := h
    cases h1; cases h6
    obtain ⟨H4, q4⟩ := partsH_back h5 H
    obtain ⟨H3, q3, _⟩ := emit_back h4 H4
    obtain ⟨H2, q2, _⟩ := emit_back h3 H3
    obtain ⟨H1, q1, _⟩ := emit_back h2 H2
    refine ⟨H1, fun vs hs hx hf hp => ?_⟩
    cases hs with
    | nil => exact hf.elim
    | cons y hs =>
      cases y with
      | val _ => exact hf.1.elim
      | ptr _ _ => exact hf.1.elim
      | osl k' sz' o' l' c' =>
        obtain ⟨⟨hk, hsz, hz⟩, hf2⟩ := hf
        subst hk; subst hsz
        simp only [List.map_cons, List.flatten_cons, HV.parts, List.cons_append, List.nil_append] at hp ⊢
        obtain ⟨r, hr⟩ := hp
        have g0 : vs[n]? = some o' := by have := congrArg (fun l => l[0]?) hr; simpa using this.symm
        have g1 : vs[n + 1]? = some l' := by have := congrArg (fun l => l[1]?) hr; simpa using this.symm
        have g2 : vs[n + 2]? = some c' := by have := congrArg (fun l => l[2]?) hr; simpa using this.symm
        have g3 : vs.drop (n + 3) = (hs.map HV.parts).flatten ++ r := by
          have := congrArg (fun l => l.drop 3) hr
          simpa using this.symm
        obtain ⟨k1, k2, k3⟩ := q4 vs hs hx hf2 ⟨r, g3.symm⟩
        have ho : o.den τ = o' := ext_get hx q1 g0
        have hl : le.den τ = l' := ext_get hx q2 g1
        have hc : c.den τ = c' := ext_get hx q3 g2
        have hkl := (List.getElem?_eq_some_iff.1 hid).1
        refine ⟨by rw [k1]; simp; omega, fun h hh => ?_, fun Φ μ us hu => ?_⟩
        · rcases List.mem_cons.1 hh with rfl | hh
          · exact hkl
          · exact k2 h hh
        cases us with
        | nil => simp [HRepL] at hu
        | cons u us =>
          simp only [HRepL] at hu
          simp only [SRepL]
          refine ⟨?_, k3 Φ μ us hu.2⟩
          have h7 := hu.1
          simp only [HRep] at h7
          have hid' : ids.getD k 0 = id := by rw [List.getD_eq_getElem?_getD, hid]; rfl
          rw [hid'] at h7
          have ho' : (if z then zeroAtom else o).den τ = o' := by
            cases z with
            | true => rw [hz rfl]; rfl
            | false => exact ho
          simp only [SRep, ho', hl, hc]
          exact h7
  | .ptr k :: ss, n, svs, m, e, e', h, H => by
    simp only [partsH, EM.bind_eq, EM.pure_eq, lift_eq] at h
    obtain ⟨id, e1, ⟨_, hid, h1⟩, o, e2, h2, ⟨svs1, m1⟩, e5, h5, h6⟩ := h
    cases h1; cases h6
    obtain ⟨H4, q4⟩ := partsH_back h5 H
    obtain ⟨H1, q1, _⟩ := emit_back h2 H4
    refine ⟨H1, fun vs hs hx hf hp => ?_⟩
    cases hs with
    | nil => exact hf.elim
    | cons y hs =>
      cases y with
      | val _ => exact hf.1.elim
      | osl _ _ _ _ _ => exact hf.1.elim
      | ptr k' o' =>
        obtain ⟨hk, hf2⟩ := hf
        have hk : k = k' := hk
        subst hk
        simp only [List.map_cons, List.flatten_cons, HV.parts, List.cons_append, List.nil_append] at hp ⊢
        obtain ⟨r, hr⟩ := hp
        have g0 : vs[n]? = some o' := by have := congrArg (fun l => l[0]?) hr; simpa using this.symm
        have g3 : vs.drop (n + 1) = (hs.map HV.parts).flatten ++ r := by
          have := congrArg (fun l => l.drop 1) hr
          simpa using this.symm
        obtain ⟨k1, k2, k3⟩ := q4 vs hs hx hf2 ⟨r, g3.symm⟩
        have ho : o.den τ = o' := ext_get hx q1 g0
        have hkl := (List.getElem?_eq_some_iff.1 hid).1
        refine ⟨by rw [k1]; simp; omega, fun h hh => ?_, fun Φ μ us hu => ?_⟩
        · rcases List.mem_cons.1 hh with rfl | hh
          · exact hkl
          · exact k2 h hh
        cases us with
        | nil => simp [HRepL] at hu
        | cons u us =>
          simp only [HRepL] at hu
          simp only [SRepL]
          refine ⟨?_, k3 Φ μ us hu.2⟩
          have h7 := hu.1
          simp only [HRep] at h7
          have hid' : ids.getD k 0 = id := by rw [List.getD_eq_getElem?_getD, hid]; rfl
          rw [hid'] at h7
          simp only [SRep, ho]
          exact h7
theorem shRes_back {t : Bool} {l : List SV} {s : SV} {e e' : Em} (h : shRes t l e = some (s, e')) : e = e' ∧ ∀ (Φ : Fix) (μ : Map) (hμ : Nat → Nat × Nat) (sh : Sh) (hs : List HV) (x : Value), sh.tup = t →
    (∀ us, HRepL Φ hμ hs us → SRepL Φ μ τ l us) → HRet Φ hμ sh hs x → SRep Φ μ τ s x := by
  unfold shRes at h
  split at h
  · simp only [EM.pure_eq] at h
    cases h
    rename_i ht
    refine ⟨rfl, fun Φ μ hμ sh hs x hsh hq hr => ?_⟩
    unfold HRet at hr
    rw [hsh, if_pos ht] at hr
    obtain ⟨vs, h1, h2⟩ := hr
    simp only [SRep]
    exact ⟨vs, h1, hq _ h2⟩
  · rename_i ht
    split at h
    · rename_i s'
      simp only [EM.pure_eq] at h
      cases h
      refine ⟨rfl, fun Φ μ hμ sh hs x hsh hq hr => ?_⟩
      unfold HRet at hr
      rw [hsh, if_neg ht] at hr
      obtain ⟨h1, rfl, h2⟩ := hr
      have := hq [x] ⟨h2, by simp [HRepL]⟩
      simp only [SRepL] at this
      exact this.1
    · rw [fail_eq] at h; exact h.elim
theorem callHStep_ok {f : FuncId} {flags : List Bool} {sh : Sh} {args : List SV} (ht : callTarget tmps o = some (f, args)) : StepOk P E τ heap tmps o (callHStep P heap o f flags sh args) := by
  intro σ0 e e' ef h H hold
  simp only [callHStep, EM.bind_eq, need_eq, EM.pure_eq] at h
  obtain ⟨_, e1, ⟨hen, h1⟩, ⟨as, own, ids⟩, e2, h2, _, e3, ⟨hc, h3⟩, _, e3', ⟨hnb, h3'⟩, bs, e4, h4, x, e5, h5, ⟨svs, n⟩, e6, h6, s, e7, h7, zs, e8, h8, ns, e9, h9, h10⟩ := h
  cases h1; cases h3; cases h3'; cases h10
  dsimp only at hc hnb h4 h5 h6 h8 h9 hold
  simp only [Bool.and_eq_true, List.all_eq_true, Bool.not_eq_true'] at hc
  simp only [Nat.ble_eq] at hnb
  obtain ⟨hdis, hsep⟩ := hc
  obtain ⟨H8, q8⟩ := mapEM_back (Q := fun (k : Nat) (z : Atom) => evalO (.ext (n + k) false) [x.den τ] = some (z.den τ)) (fun k e z e' h H => by
    obtain ⟨g1, g2, _⟩ := emit_back h H
    exact ⟨g1, g2⟩) h9 H
  obtain ⟨H7, q7⟩ := mapEM_back (Q := fun (k : Nat) (z : Atom) => evalO (.ext (n + k) false) [x.den τ] = some (z.den τ)) (fun k e z e' h H => by
    obtain ⟨g1, g2, _⟩ := emit_back h H
    exact ⟨g1, g2⟩) h8 H8
  obtain ⟨he7, qs⟩ := shRes_back (τ := τ) h7
  subst he7
  obtain ⟨HE5, qp⟩ := partsH_back h6 H7
  obtain ⟨H4, q4⟩ := emitCallH_back h5 HE5
  obtain ⟨H3, q3⟩ := mapEM_back (Q := fun (id : Nat) (a : Atom) => ∃ sb, heap.getD id none = some sb ∧ sb.ro = false ∧ ∀ Φ μ vs, CRep Φ μ τ sb.cells vs → ∃ cs, a.den τ = .lst cs ∧ RepL Φ cs vs) (fun id e a e' h H => ownLst_back h H) h4 H4
  obtain ⟨H2, q2, q1⟩ := hArgs_back h2 H3
  have hbl : own.length = bs.length := q3.length.symm
  have hzl : own.length = zs.length := by have := q7.length; simpa using this.symm
  have hnl : ns.length = sh.nb - own.length := by have := q8.length; simpa using this
  refine ⟨H2, ?_⟩
  intro X Φ μ ac w Q K hA hR hK
  obtain ⟨c, fv, _, _, hrun⟩ := callTarget_run (P := P) (E := E) (τ := τ) (heap := heap) ht
  obtain ⟨vs, m1, m2⟩ := hrun hA hR hen
  have hblk : ∀ id ∈ own ++ ids, X.blk id = heap.getD id none := fun id hi => (hA.blk id (by simp only [List.mem_append] at hi ⊢; exact .inl hi)).1
  -- what is read stays
  obtain ⟨Φ1, k1, k2, k3⟩ := SRel.freezeMany (heap := heap) (unfrozen heap ids) hR (fun id hi => by
    obtain ⟨g1, sb, g2, g3⟩ := unfrozen_mem.1 hi
    exact ⟨sb, g2, g3, .inl (by rw [hblk id (by simp [g1])]; exact g2)⟩)
  have hst : Stays heap E τ ids Φ1 X Φ μ ac w := by
    refine ⟨hR, k1, fun id hi => ⟨hblk id (by simp [hi]), fun C t fr hh => ?_⟩⟩
    obtain ⟨sb, hsb⟩ := q2 id hi
    cases hro : sb.ro with
    | false => exact k3 id (unfrozen_mem.2 ⟨hi, sb, hsb, hro⟩) C t fr hh
    | true =>
      obtain ⟨_, ⟨C', t', fr', g1, _, _, _, g6⟩, _⟩ := hR.blks id sb (by rw [hblk id (by simp [hi])]; exact hsb)
      rw [g1] at hh; cases hh
      rw [hro] at g6
      exact k1 _ _ (by simpa using g6)
  have hargs := q1 E X Φ μ ac w Φ1 vs own (by simp) hst m1
  -- the blocks handed over are not among those
  have hkeep : ∀ (l : List Nat) (Y : LS) (id : Nat), id ∉ l → (Y.upd ((frozen heap l).map fun p => (lBlk p.1, LV.bk p.2))).blk id = Y.blk id := by
    intro l
    induction l with
    | nil => intro Y id _; rfl
    | cons j l ih =>
      intro Y id hn
      have hstep : (Y.upd ((frozen heap (j :: l)).map fun p => (lBlk p.1, LV.bk p.2))) = (Y.set (lBlk j) (.bk ((heap.getD j none).map fun sb => { sb with ro := true }))).upd ((frozen heap l).map fun p => (lBlk p.1, LV.bk p.2)) := rfl
      rw [hstep, ih _ id (fun h => hn (by simp [h]))]
      simp [show id ≠ j from fun e => hn (by simp [e])]
  have hdfn : ∀ (l : List Nat) (Y : LS) (id : Nat), (Y.upd ((frozen heap l).map fun p => (lBlk p.1, LV.bk p.2))).dfn id = Y.dfn id := by
    intro l
    induction l with
    | nil => intro Y id; rfl
    | cons j l ih =>
      intro Y id
      have hstep : (Y.upd ((frozen heap (j :: l)).map fun p => (lBlk p.1, LV.bk p.2))) = (Y.set (lBlk j) (.bk ((heap.getD j none).map fun sb => { sb with ro := true }))).upd ((frozen heap l).map fun p => (lBlk p.1, LV.bk p.2)) := rfl
      rw [hstep, ih]
      simp
  have hnot : ∀ id ∈ own, id ∉ unfrozen heap ids := fun id hid hm => by
    have := hsep id hid id (unfrozen_mem.1 hm).1
    rw [Nat.beq_refl] at this
    cases this
  have hown : ∀ (k id : Nat) (b : Atom), own[k]? = some id → bs[k]? = some b → ∃ sb, X.blk id = some sb ∧ sb.ro = false ∧ HOwn Φ1 w (μ id) (b.den τ) := fun k id b hk hb => by
    obtain ⟨sb, g1, g2, g3⟩ := q3.at hk hb
    have hid := List.mem_of_getElem? hk
    have hX : X.blk id = some sb := by rw [hblk id (by simp [hid])]; exact g1
    refine ⟨sb, hX, g2, ?_⟩
    obtain ⟨_, ⟨C, t, fr, n2, n3, n4, n5, n6⟩, _⟩ := k2.blks id sb (by rw [hkeep _ _ _ (hnot id hid)]; exact hX)
    rw [g2] at n6
    exact ⟨C, t, fr, n2, n3, n4, g3 Φ1 μ _ n5, by simpa using n6⟩
  have hownX : ∀ id ∈ own, ∃ sb, X.blk id = some sb ∧ sb.ro = false := fun id hid => by
    obtain ⟨k, hk⟩ := List.mem_iff_getElem?.1 hid
    have hkl := (List.getElem?_eq_some_iff.1 hk).1
    obtain ⟨sb, g1, g2, _⟩ := hown k id (bs[k]'(by omega)) hk (List.getElem?_eq_getElem (by omega))
    exact ⟨sb, g1, g2⟩
  have hget : ∀ k, k < own.length → ∃ id, own[k]? = some id ∧ own.getD k 0 = id := fun k hk => ⟨own[k], List.getElem?_eq_getElem hk, by simp [hk]⟩
  have hcall := q4 Φ1 w (fun j => μ (own.getD j 0)) vs k2.mem.fix (fun k b hb => by
    have hkl := (List.getElem?_eq_some_iff.1 hb).1
    simp only [List.length_map] at hkl
    obtain ⟨id, hid, hid'⟩ := hget k (by omega)
    have hbk : bs[k]? = some bs[k] := List.getElem?_eq_getElem hkl
    rw [List.getElem?_map, hbk] at hb
    simp only [Option.map_some, Option.some.injEq] at hb
    obtain ⟨_, _, _, g⟩ := hown k id _ hid hbk
    simp only [hid']
    rw [← hb]; exact g) (fun i j hi hj hij => by
    simp only [List.length_map] at hi hj
    obtain ⟨id, hid, hid'⟩ := hget i (by omega)
    obtain ⟨jd, hjd, hjd'⟩ := hget j (by omega)
    simp only [hid', hjd']
    obtain ⟨s1, g1, g2⟩ := hownX id (List.mem_of_getElem? hid)
    obtain ⟨s2, g3, g4⟩ := hownX jd (List.mem_of_getElem? hjd)
    refine hR.inj id jd s1 s2 g1 g3 g2 g4 (fun e => ?_)
    subst e
    exact hij (distinct_get hdis i j id hid hjd)) hargs
  unfold Oper.wp
  rw [m2]
  show Calls P f vs.toArray w _
  refine hcall.mono fun en w' hh => ?_
  obtain ⟨Φ2, μ2, hs, bs', xv, rfl, f1, g1, f2, g3, f3, f4, f5, f6, g4, g5, g6, g7, g8, g9, g10, g11, g12⟩ := hh
  have hx : x.den τ = .tup ((hs.map HV.parts).flatten ++ bs') := by injection g1 with g1; exact g1.symm
  obtain ⟨hn, hbe, qp⟩ := qp _ hs hx f1 (by simp)
  rw [List.length_map] at f3 f4 f5 g7 g12
  have hn : n = (hs.map HV.parts).flatten.length := by rw [hn]; omega
  have hz0 : ∀ (k : Nat) (z : Atom), evalO (.ext (n + k) false) [x.den τ] = some (z.den τ) → bs'[k]? = some (z.den τ) := fun k z q => by
    rw [hx] at q
    obtain ⟨vs', y1, y2⟩ := evalO_ext q
    cases y1
    rw [List.getElem?_append_right (by omega), hn, show (hs.map HV.parts).flatten.length + k - (hs.map HV.parts).flatten.length = k from by omega] at y2
    exact y2
  have hz : ∀ (k : Nat) (z : Atom), zs[k]? = some z → bs'[k]? = some (z.den τ) := fun k z hk => by
    have hkl := (List.getElem?_eq_some_iff.1 hk).1
    exact hz0 k z (q7.at (List.getElem?_range (by omega)) hk)
  have hw : ∀ (k : Nat) (z : Atom), ns[k]? = some z → bs'[own.length + k]? = some (z.den τ) := fun k z hk => by
    have hkl := (List.getElem?_eq_some_iff.1 hk).1
    have hr : (List.range' own.length (sh.nb - own.length))[k]? = some (own.length + k) := by
      rw [List.getElem?_range' (by omega)]; simp
    exact hz0 _ z (q8.at hr hk)
  have hplace : ∀ b, (∀ id ∈ own, b ≠ (μ id).1) → ∀ k, k < bs.length → b ≠ (μ (own.getD k 0)).1 := fun b hb k hk => by
    obtain ⟨id, hid, hid'⟩ := hget k (by omega)
    rw [hid']; exact hb id (List.mem_of_getElem? hid)
  have hfin := k2.callH (own := own) (zs := zs) (Φ' := Φ2) (w' := w') hdis hzl (fun id hid => by
      obtain ⟨sb, h1, h2⟩ := hownX id hid
      exact ⟨sb, by rw [hkeep _ _ _ (hnot id hid)]; exact h1, h2⟩)
    (fun k id z hk hzk => by
      have hkl := (List.getElem?_eq_some_iff.1 hk).1
      have := g4 k _ (hz k z hzk)
      have hid' : own.getD k 0 = id := by rw [List.getD_eq_getElem?_getD, hk]; rfl
      rw [f4 k (by omega)] at this
      simp only [hid'] at this
      exact this) g5 g6 (fun b hb hne => g7 b hb (hplace b hne)) g8 g9 g10 g11 (fun b hb hne => g12 b hb (hplace b hne))
  have hnewdfn : ∀ j, j < ns.length → X.dfn (heap.length + j) = false := fun j hj => hA.new _ (by
    simp only [newIds, List.length_map]
    exact List.mem_range'_1.2 ⟨by omega, by omega⟩)
  have hfin2 := hfin.news (m := heap.length) (N := w.heap.size) (ns := ns) (p := fun j => μ2 (own.length + j)) hR.mem.size
    (fun id hid => by
      rw [LS.upd_own_dfn, hdfn] at hid
      exact hR.lt id hid)
    (fun j hj => by rw [LS.upd_own_dfn, hdfn]; exact hnewdfn j hj)
    (fun j z hj => g4 _ _ (hw j z hj))
    (fun j hj => f5 _ (by omega) (by omega))
    (fun i j hi hj hij => f6 _ _ (by omega) (by omega) (by omega))
  refine hK Φ2 (fun i => if heap.length ≤ i ∧ i < heap.length + ns.length then μ2 (own.length + (i - heap.length)) else μ i) w' xv ?_ ?_
  · have hmem : memW heap.length { res := s, rd := own ++ ids, wr := frozen heap (unfrozen heap ids) ++ (own.zip zs).map fun p => (p.1, some (⟨.dyn p.2, false⟩ : SB)), new := ns.map fun z => some (⟨.dyn z, false⟩ : SB) } =
        (((frozen heap (unfrozen heap ids)).map fun p => (lBlk p.1, LV.bk p.2)) ++ (own.zip zs).map fun p => (lBlk p.1, LV.bk (some ⟨.dyn p.2, false⟩))) ++
          (((List.range' heap.length ns.length).map fun id => (lDfn id, LV.df true)) ++ (((List.range' heap.length ns.length).zip (ns.map fun z => some (⟨.dyn z, false⟩ : SB))).map fun q => (lBlk q.1, LV.bk q.2))) := by
      simp [memW, newIds, List.append_assoc]
    rw [LS.upd_append] at hfin2
    rw [hmem, LS.upd_append, LS.upd_append, LS.upd_append]
    exact hfin2
  · refine qs Φ2 _ μ2 sh hs xv rfl (fun us hu => qp Φ2 _ us (HRepL.congr (n := sh.nb) (fun k hk => ?_) (fun h hh => ?_) hu)) f2
    · by_cases h : k < own.length
      · obtain ⟨id, hid, hid'⟩ := hget k h
        have hlt : id < heap.length := by
          obtain ⟨sb, y1, _⟩ := q3.at hid (List.getElem?_eq_getElem (by omega) : bs[k]? = some (bs[k]'(by omega)))
          rw [List.getD_eq_getElem?_getD] at y1
          cases hh : heap[id]? with
          | none => rw [hh] at y1; cases y1
          | some _ => exact (List.getElem?_eq_some_iff.1 hh).1
        have : (own ++ List.range' heap.length (sh.nb - own.length)).getD k 0 = id := by
          rw [List.getD_eq_getElem?_getD, List.getElem?_append_left h, hid]; rfl
        simp only [this]
        rw [if_neg (by omega), f4 k (by omega), hid']
      · have : (own ++ List.range' heap.length (sh.nb - own.length)).getD k 0 = heap.length + (k - own.length) := by
          rw [List.getD_eq_getElem?_getD, List.getElem?_append_right (by omega), List.getElem?_range' (by omega)]; simp
        simp only [this]
        rw [if_pos (by omega)]
        congr 1
        omega
    · have := hbe h hh
      rw [List.length_append, List.length_range'] at this
      rw [show sh.nb = own.length + (sh.nb - own.length) from by omega]
      exact this
end Go.SE
set_option autoImplicit false
namespace Go.SE
open Go Go.RowKit
variable {P : Program} {M : Muts} {σ0 τ : List AV} {E : Ent} {heap : Heap} {tmps : List SV} {o : Oper}
theorem opStep0_ok : StepOk P E τ heap tmps o (opStep0 P M heap tmps o) := by
  intro σ0 e e' ef h H hold
  unfold opStep0 at h
  generalize ho : o.op = op at h
  split at h
  · rename_i x
    simp only [EM.bind_eq, lift_eq, EM.pure_eq] at h
    obtain ⟨s, e1, ⟨_, hs, h1⟩, h2⟩ := h
    cases h1; cases h2
    exact ⟨H, move_ok (.inl ho) hs⟩
  · rename_i x
    simp only [EM.bind_eq, lift_eq, EM.pure_eq] at h
    obtain ⟨s, e1, ⟨_, hs, h1⟩, h2⟩ := h
    cases h1; cases h2
    exact ⟨H, move_ok (.inr ho) hs⟩
  · simp only [EM.bind_eq, lift_eq, EM.pure_eq] at h
    obtain ⟨z, e1, ⟨_, hz, h1⟩, h2⟩ := h
    cases h1; cases h2
    exact ⟨H, alloc_ok ho hz⟩
  · simp only [EM.bind_eq, lift_eq, EM.pure_eq] at h
    obtain ⟨s, e1, ⟨_, hs, h1⟩, ag, e2, ⟨_, hag, h2⟩, sz, e3, ⟨_, hsz, h3⟩, cs, e4, h4, h5⟩ := h
    cases h1; cases h2; cases h3; cases h5
    obtain ⟨H1, q1, q2, q3⟩ := explode_back h4 H
    exact ⟨H1, box_ok (n := 0) ho hs (by have := effOld_new hold rfl; simpa [Cells.refs] using this) q3⟩
  · exact buildStep_ok ho σ0 e e' ef h H hold
  · exact buildSliceStep_ok ho σ0 e e' ef h H hold
  · rename_i t x
    simp only [EM.bind_eq, lift_eq] at h
    obtain ⟨s, e1, ⟨_, hs, h1⟩, ag, e2, ⟨_, hag, h2⟩, sz, e3, ⟨_, hsz, h3⟩, h⟩ := h
    cases h1; cases h2; cases h3
    split at h
    · simp only [EM.bind_eq, blk_eq, EM.pure_eq] at h
      obtain ⟨sb, e4, ⟨_, hsb, h4⟩, r, e5, h5, h6⟩ := h
      cases h4; cases h6
      obtain ⟨H1, _, q⟩ := loadFrom_back h5 H
      exact ⟨H1, load_own_ok ho hs hag hsz hsb q⟩
    · simp only [EM.bind_eq, need_eq, EM.pure_eq] at h
      obtain ⟨_, e4, ⟨hz, h4⟩, r, e5, h5, h6⟩ := h
      cases h4; cases h6
      obtain ⟨H1, q, _⟩ := emit_back h5 H
      exact ⟨H1, load_rp_ok ho hs hag hsz (by simpa [Nat.blt_eq] using hz) q⟩
    · rw [fail_eq] at h; exact h.elim
  · rename_i t x y
    simp only [EM.bind_eq, lift_eq] at h
    obtain ⟨s, e1, ⟨_, hs, h1⟩, v, e2, ⟨_, hv, h2⟩, ag, e3, ⟨_, hag, h3⟩, sz, e4, ⟨_, hsz, h4⟩, h⟩ := h
    cases h1; cases h2; cases h3; cases h4
    split at h
    · simp only [EM.bind_eq, blk_eq, need_eq, EM.pure_eq] at h
      obtain ⟨sb, e5, ⟨_, hsb, h5⟩, _, e6, ⟨hro, h6⟩, cs, e7, h7, c', e8, h8, h9⟩ := h
      cases h5; cases h6; cases h9
      obtain ⟨H2, r2, q2⟩ := storeTo_back h8 H
      obtain ⟨H1, q1, r1, q3⟩ := explode_back h7 H2
      exact ⟨H1, store_ok ho hs hv hsz hsb (by simpa using hro) (by have := effOld_wr hold rfl; simpa using this) q1 q3 q2⟩
    · rw [fail_eq] at h; exact h.elim
  · rename_i x
    simp only [EM.bind_eq, lift_eq] at h
    obtain ⟨s, e1, ⟨_, hs, h1⟩, h⟩ := h
    cases h1
    split at h
    · rw [EM.pure_eq] at h; cases h
      exact ⟨H, nilCheck_ptr_ok ho hs⟩
    · rw [EM.pure_eq] at h; cases h
      exact ⟨H, nilCheck_fn_ok ho hs⟩
    · simp only [EM.bind_eq, EM.pure_eq] at h
      obtain ⟨r, e5, h5, h6⟩ := h
      cases h6
      obtain ⟨H1, q, _⟩ := emit_back h5 H
      exact ⟨H1, nilCheck_atm_ok ho hs q⟩
    · rw [fail_eq] at h; exact h.elim
  · exact binStep_ok ho σ0 e e' ef h H hold
  · rename_i op t x
    simp only [EM.bind_eq, lift_eq, EM.pure_eq] at h
    obtain ⟨s, e1, ⟨_, hs, h1⟩, a, e2, h2, r, e3, h3, h4⟩ := h
    cases h1; cases h4
    obtain ⟨H2, q2, _⟩ := emit_back h3 H
    obtain ⟨H1, q1⟩ := atomOf_back h2 H2
    exact ⟨H1, un_ok ho hs q1 q2⟩
  · exact convertStep_ok ho σ0 e e' ef h H hold
  · rename_i t x
    simp only [EM.bind_eq, lift_eq, need_eq] at h
    obtain ⟨s, e1, ⟨_, hs, h1⟩, ⟨n, te⟩, e2, ⟨_, har, h2⟩, sz, e3, ⟨_, hsz, h3⟩, _, e4, ⟨hn, h4⟩, h⟩ := h
    cases h1; cases h2; cases h3; cases h4
    have ht := arrayT_some har
    have hn : 0 < n := by simpa [Nat.blt_eq] using hn
    split at h
    · simp only [EM.bind_eq, need_eq, EM.pure_eq] at h
      obtain ⟨_, e5, ⟨hzz, h5⟩, u, e6, h6, h7⟩ := h
      cases h5; cases h7
      obtain ⟨H1, q, _⟩ := emit_back h6 H
      exact ⟨H1, osl_arr_ok ho hs ht hn q⟩
    · simp only [EM.bind_eq, EM.pure_eq, need_eq] at h
      obtain ⟨_, e5, ⟨hz, h5⟩, r, e6, h6, h7⟩ := h
      cases h5; cases h7
      obtain ⟨H1, q, _⟩ := emit_back h6 H
      exact ⟨H1, sl_arr_ok ho hs ht (by simpa [Nat.blt_eq] using hz) q⟩
    · rw [fail_eq] at h; exact h.elim
  · rename_i t x
    simp only [EM.bind_eq, lift_eq, need_eq] at h
    obtain ⟨s, e1, ⟨_, hs, h1⟩, _, e2, ⟨hd, h2⟩, h⟩ := h
    cases h1; cases h2
    generalize ht : P.underlying t = ud at hd
    have hdd : ∃ d, ud = some d ∧ ∀ ms, d ≠ .interface ms := by
      cases ud with
      | none => simp at hd
      | some d => refine ⟨d, rfl, fun ms hm => ?_⟩; subst hm; simp at hd
    obtain ⟨d, rfl, hd'⟩ := hdd
    split at h
    · simp only [EM.bind_eq, EM.pure_eq] at h
      obtain ⟨r, e5, h5, h6⟩ := h
      cases h6
      obtain ⟨H1, q, _⟩ := emit_back h5 H
      exact ⟨H1, mkifc_ok ho hs ht hd' q⟩
    · rw [EM.pure_eq] at h; cases h
      exact ⟨H, mkifc_sv_ok ho hs ht hd'⟩
  · simp only [EM.bind_eq, lift_eq, need_eq, EM.pure_eq] at h
    obtain ⟨_, e1, ⟨hf, h1⟩, ss, e2, ⟨_, hss, h2⟩, h3⟩ := h
    cases h1; cases h2; cases h3
    exact ⟨H, mkfunc_ok ho hf hss⟩
  · exact makeStep_ok ho σ0 e e' ef h H hold
  · exact sliceStep_ok ho σ0 e e' ef h H hold
  · rename_i t x f
    simp only [EM.bind_eq, lift_eq, need_eq] at h
    obtain ⟨s, e1, ⟨_, hs, h1⟩, fd, e2, ⟨_, hf, h2⟩, sz, e3, ⟨_, hsz, h3⟩, _, e4, ⟨hz, h4⟩, h⟩ := h
    cases h1; cases h2; cases h3; cases h4
    have hz : 0 < sz := by simpa [Nat.blt_eq] using hz
    split at h
    · simp only [EM.bind_eq, EM.pure_eq] at h
      obtain ⟨r, e5, h5, h6⟩ := h
      cases h6
      obtain ⟨H1, q, _⟩ := emit_back h5 H
      exact ⟨H1, fieldAddr_ptr_ok ho hs hf hsz hz q⟩
    · simp only [EM.bind_eq, EM.pure_eq] at h
      obtain ⟨r, e5, h5, h6⟩ := h
      cases h6
      obtain ⟨H1, q, _⟩ := emit_back h5 H
      exact ⟨H1, fieldAddr_rp_ok ho hs hf hsz hz q⟩
    · rw [fail_eq] at h; exact h.elim
  · exact fieldStep_ok ho σ0 e e' ef h H hold
  · exact indexAddrStep_ok ho σ0 e e' ef h H hold
  · exact indexStep_ok ho σ0 e e' ef h H hold
  · rename_i x i
    simp only [EM.bind_eq, lift_eq] at h
    obtain ⟨s, e1, ⟨_, hs, h1⟩, h⟩ := h
    cases h1
    split at h
    · simp only [EM.bind_eq, lift_eq, EM.pure_eq] at h
      obtain ⟨r, e5, ⟨_, hr, h5⟩, h6⟩ := h
      cases h5; cases h6
      exact ⟨H, ext_tup_ok ho hs hr⟩
    · simp only [EM.bind_eq, EM.pure_eq] at h
      obtain ⟨r, e5, h5, h6⟩ := h
      cases h6
      obtain ⟨H1, q, _⟩ := emit_back h5 H
      exact ⟨H1, ext_ok ho hs q⟩
    · rw [fail_eq] at h; exact h.elim
  · rename_i c
    generalize hb : c.callee = cal at h
    split at h
    · rename_i b
      exact builtinStep_ok ho hb σ0 e e' ef h H hold
    · generalize hct : callTarget tmps o = ct at h
      split at h
      · rename_i f args
        generalize mutsOf f o.dst M.h = mo at h
        split at h
        · exact callHStep_ok hct σ0 e e' ef h H hold
        · generalize hx : externOp P f = ex at h
          split at h
          · exact externStep_ok hct hx σ0 e e' ef h H hold
          · exact callStep_ok hct σ0 e e' ef h H hold
      · rw [fail_eq] at h; exact h.elim
  · rw [fail_eq] at h; exact h.elim
theorem opStep_ok {e e' : Em} {ef : Eff} (h : opStep P M heap tmps o e = some (ef, e')) (H : Hold P σ0 τ e') : Hold P σ0 τ e ∧ EffOk P E τ heap tmps o ef := by
  simp only [opStep, EM.bind_eq, need_eq, EM.pure_eq] at h
  obtain ⟨ef', e1, h1, _, e2, ⟨hold, h2⟩, h3⟩ := h
  cases h2; cases h3
  exact opStep0_ok σ0 e e' ef h1 H hold
end Go.SE
set_option autoImplicit false
namespace Go.SE
open Go Go.RowKit
def Keeps {α : Type} (x : EM α) : Prop := ∀ e a e', x e = some (a, e') → e'.n0 = e.n0 ∧ e'.k0 = e.k0
theorem Keeps.bind {α β : Type} {x : EM α} {f : α → EM β} (h : Keeps x) (hf : ∀ a, Keeps (f a)) : Keeps (x >>= f) := fun e b e' he => by
  obtain ⟨a, e1, h1, h2⟩ := EM.bind_eq.1 he
  obtain ⟨k1, k2⟩ := h _ _ _ h1
  obtain ⟨k3, k4⟩ := hf a _ _ _ h2
  exact ⟨k3.trans k1, k4.trans k2⟩
theorem Keeps.pure {α : Type} (a : α) : Keeps (Pure.pure a : EM α) := fun e b e' he => by
  rw [EM.pure_eq] at he; cases he; exact ⟨rfl, rfl⟩
theorem Keeps.fail {α : Type} : Keeps (SE.fail : EM α) := fun e b e' he => by
  rw [fail_eq] at he; exact he.elim
theorem Keeps.lift {α : Type} (x : Option α) : Keeps (SE.lift x) := fun e b e' he => by
  rw [lift_eq] at he; obtain ⟨a, _, h⟩ := he; cases h; exact ⟨rfl, rfl⟩
theorem Keeps.need (b : Bool) : Keeps (SE.need b) := fun e u e' he => by
  rw [need_eq] at he; obtain ⟨_, h⟩ := he; cases h; exact ⟨rfl, rfl⟩
theorem Keeps.blk (heap : Heap) (id : Nat) : Keeps (SE.blk heap id) := Keeps.lift _
theorem Keeps.emit (o : O) (args : List Atom) : Keeps (SE.emit o args) := fun e a e' he => by
  unfold SE.emit at he
  split at he
  · split at he
    · split at he
      · cases he; exact ⟨rfl, rfl⟩
      · cases he
    · cases he; exact ⟨rfl, rfl⟩
  · cases he
theorem Keeps.emitCall (K : Knowns) (f : FuncId) (args : List Atom) (c : Bool) : Keeps (SE.emitCall K f args c) := fun e a e' he => by
  unfold SE.emitCall at he
  split at he
  · split at he
    · split at he
      · cases he; exact ⟨rfl, rfl⟩
      · cases he
    · cases he; exact ⟨rfl, rfl⟩
  · cases he
theorem Keeps.cellAtom (a : Atom) : Keeps (SE.cellAtom a) := fun e b e' he => by
  unfold SE.cellAtom at he
  split at he <;> (cases he; exact ⟨rfl, rfl⟩)
theorem Keeps.mapEM {α β : Type} {f : α → EM β} (hf : ∀ a, Keeps (f a)) : ∀ l : List α, Keeps (SE.mapEM f l)
  | [] => Keeps.pure _
  | a :: l => Keeps.bind (hf a) fun _ => Keeps.bind (Keeps.mapEM hf l) fun _ => Keeps.pure _
theorem Keeps.ite {α : Type} {c : Prop} [Decidable c] {x y : EM α} (h : Keeps x) (k : Keeps y) : Keeps (if c then x else y) := by
  split
  · exact h
  · exact k
theorem Keeps.asCell (s : SV) : Keeps (SE.asCell s) := by
  unfold SE.asCell
  split <;> first | exact Keeps.pure _ | exact Keeps.fail | exact Keeps.bind (Keeps.cellAtom _) fun _ => Keeps.bind (Keeps.need _) fun _ => Keeps.pure _
theorem Keeps.cellAtm (s : SV) : Keeps (SE.cellAtm s) := by
  unfold SE.cellAtm
  split <;> first | exact Keeps.fail | exact Keeps.bind (Keeps.cellAtom _) fun _ => Keeps.bind (Keeps.need _) fun _ => Keeps.pure _
theorem Keeps.explode (ag : Bool) (n : Nat) (s : SV) : Keeps (SE.explode ag n s) := by
  unfold SE.explode
  refine Keeps.ite ?_ ?_
  · split
    · exact Keeps.bind (Keeps.need _) fun _ => Keeps.mapEM Keeps.asCell _
    · exact Keeps.bind (Keeps.need _) fun _ => Keeps.pure _
    · exact Keeps.bind (Keeps.need _) fun _ => Keeps.mapEM (fun i => Keeps.bind (Keeps.emit _ _) fun _ => Keeps.pure _) _
    · exact Keeps.fail
  · exact Keeps.bind (Keeps.need _) fun _ => Keeps.bind (Keeps.asCell _) fun _ => Keeps.pure _
theorem Keeps.atomOf (s : SV) : Keeps (SE.atomOf s) := by
  unfold SE.atomOf
  split
  · exact Keeps.pure _
  · exact Keeps.bind (Keeps.mapEM Keeps.cellAtm _) fun _ => Keeps.emit _ _
  · exact Keeps.fail
theorem Keeps.lstOf (sb : SB) : Keeps (SE.lstOf sb) := by
  unfold SE.lstOf
  split
  · exact Keeps.pure _
  · exact Keeps.bind (Keeps.mapEM Keeps.cellAtm _) fun _ => Keeps.emit _ _
theorem Keeps.loadFrom (sb : SB) (ag : Bool) (sz : Nat) (off : Atom) : Keeps (SE.loadFrom sb ag sz off) := by
  unfold SE.loadFrom
  refine Keeps.bind (Keeps.need _) fun _ => ?_
  split
  · refine Keeps.ite ?_ ?_
    · exact Keeps.bind (Keeps.need _) fun _ => Keeps.pure _
    · exact Keeps.lift _
  · exact Keeps.bind (Keeps.lstOf _) fun _ => Keeps.bind (Keeps.emit _ _) fun _ => Keeps.pure _
theorem Keeps.storeTo (sb : SB) (off : Atom) (xs : List SV) : Keeps (SE.storeTo sb off xs) := by
  unfold SE.storeTo
  split
  · exact Keeps.bind (Keeps.need _) fun _ => Keeps.pure _
  · exact Keeps.bind (Keeps.lstOf _) fun _ => Keeps.bind (Keeps.mapEM Keeps.cellAtm _) fun _ => Keeps.bind (Keeps.emit _ _) fun _ => Keeps.pure _
theorem Keeps.freeze (heap : Heap) : ∀ (n : Nat) (s : SV), Keeps (SE.freeze heap n s)
  | 0, s => Keeps.fail
  | n + 1, s => by
    have ih := Keeps.freeze heap n
    unfold SE.freeze
    split
    · exact Keeps.pure _
    · refine Keeps.bind (Keeps.blk _ _) fun sb => ?_
      split
      · exact Keeps.bind (Keeps.emit _ _) fun _ => Keeps.pure _
      · exact Keeps.bind (Keeps.mapEM ih _) fun _ => Keeps.bind (Keeps.emit _ _) fun _ => Keeps.bind (Keeps.emit _ _) fun _ => Keeps.pure _
    · refine Keeps.bind (Keeps.blk _ _) fun sb => ?_
      split
      · exact Keeps.bind (Keeps.emit _ _) fun _ => Keeps.pure _
      · exact Keeps.bind (Keeps.mapEM ih _) fun _ => Keeps.bind (Keeps.emit _ _) fun _ => Keeps.bind (Keeps.emit _ _) fun _ => Keeps.pure _
    · exact Keeps.bind (Keeps.mapEM ih _) fun _ => Keeps.bind (Keeps.emit _ _) fun _ => Keeps.pure _
    · exact Keeps.bind (Keeps.mapEM ih _) fun _ => Keeps.bind (Keeps.emit _ _) fun _ => Keeps.pure _
    · exact Keeps.bind (ih _) fun _ => Keeps.bind (Keeps.emit _ _) fun _ => Keeps.pure _
    · exact Keeps.fail
theorem Keeps.partCells (sz : Nat) (s : SV) : Keeps (SE.partCells sz s) := by
  unfold SE.partCells
  refine Keeps.bind ?_ fun _ => Keeps.explode _ _ _
  unfold SE.sureCell
  split <;> first | exact Keeps.cellAtom _ | exact Keeps.pure _
theorem Keeps.mapPlaces : ∀ (ps : List (Nat × Nat)) (ss : List SV), Keeps (SE.mapPlaces ps ss)
  | [], [] => Keeps.pure _
  | _ :: ps, s :: ss => Keeps.bind (Keeps.partCells _ _) fun _ => Keeps.bind (Keeps.mapPlaces ps ss) fun _ => Keeps.pure _
  | [], _ :: _ => Keeps.fail
  | _ :: _, [] => Keeps.fail
theorem Keeps.newsOf (heap : Heap) (sz : Nat) (s : SV) : Keeps (SE.newsOf heap sz s) := by
  unfold SE.newsOf
  split
  · exact Keeps.bind (Keeps.blk _ _) fun _ => Keeps.bind (Keeps.lstOf _) fun _ => Keeps.bind (Keeps.emit _ _) fun _ => Keeps.pure _
  · exact Keeps.bind (Keeps.emit _ _) fun _ => Keeps.bind (Keeps.emit _ _) fun _ => Keeps.pure _
  · exact Keeps.fail
theorem Keeps.newsStr (s : SV) : Keeps (SE.newsStr s) := by
  unfold SE.newsStr
  split
  · exact Keeps.bind (Keeps.emit _ _) fun _ => Keeps.bind (Keeps.emit _ _) fun _ => Keeps.pure _
  · exact Keeps.fail
theorem Keeps.newsZero (b : Nat) (z : List AV) (s : SV) : Keeps (SE.newsZero b z s) := by
  unfold SE.newsZero
  split
  · exact Keeps.bind (Keeps.emit _ _) fun _ => Keeps.pure _
  · exact Keeps.fail
theorem Keeps.newsT (P : Program) (heap : Heap) (u : TypeId) (sz b : Nat) (z : List AV) (s : SV) : Keeps (SE.newsT P heap u sz b z s) := by
  unfold SE.newsT
  exact Keeps.ite (Keeps.newsStr _) (Keeps.ite (Keeps.newsOf _ _ _) (Keeps.ite (Keeps.newsZero _ _ _) Keeps.fail))
theorem Keeps.optAtom (tmps : List SV) (x : Option Operand) : Keeps (SE.optAtom tmps x) := by
  unfold SE.optAtom
  split
  · exact Keeps.pure _
  · exact Keeps.bind (Keeps.lift _) fun _ => Keeps.bind (Keeps.atomOf _) fun _ => Keeps.pure _
theorem Keeps.bounds (lo hi mx : List Atom) (len cap : Atom) : Keeps (SE.bounds lo hi mx len cap) := by
  unfold SE.bounds
  exact Keeps.bind (Keeps.emit _ _) fun _ => Keeps.bind (Keeps.emit _ _) fun _ => Keeps.bind (Keeps.emit _ _) fun _ => Keeps.bind (Keeps.emit _ _) fun _ => Keeps.pure _
theorem Keeps.spans (sb : SB) (sz : Nat) (off : Atom) (n : Nat) : Keeps (SE.spans sb sz off n) := by
  unfold SE.spans
  split
  · exact Keeps.need _
  · exact Keeps.bind (Keeps.lstOf _) fun _ => Keeps.bind (Keeps.emit _ _) fun _ => Keeps.pure _
theorem Keeps.sliceOwn (id sz : Nat) (off l h m : Atom) : Keeps (SE.sliceOwn id sz off l h m) := by
  unfold SE.sliceOwn
  exact Keeps.bind (Keeps.emit _ _) fun _ => Keeps.bind (Keeps.emit _ _) fun _ => Keeps.bind (Keeps.emit _ _) fun _ => Keeps.pure _
end Go.SE
set_option autoImplicit false
namespace Go.SE
open Go Go.RowKit
variable (P : Program) (M : Muts) (heap : Heap) (tmps : List SV)
theorem Keeps.binStep (op : BinOp) (t : TypeId) (x y : Operand) : Keeps (SE.binStep P tmps op t x y) := by
  unfold SE.binStep
  repeat' first
    | exact Keeps.pure _ | exact Keeps.fail | exact Keeps.lift _ | exact Keeps.need _ | exact Keeps.blk _ _ | exact Keeps.emit _ _ | exact Keeps.emitCall _ _ _ _ | exact Keeps.atomOf _ | exact Keeps.lstOf _
    | exact Keeps.explode _ _ _ | exact Keeps.loadFrom _ _ _ _ | exact Keeps.storeTo _ _ _ | exact Keeps.mapPlaces _ _ | exact Keeps.newsOf _ _ _ | exact Keeps.newsStr _ | exact Keeps.newsT _ _ _ _ _ _ _
    | exact Keeps.optAtom _ _ | exact Keeps.bounds _ _ _ _ _ | exact Keeps.spans _ _ _ _ | exact Keeps.sliceOwn _ _ _ _ _ _ | exact Keeps.mapEM (fun _ => Keeps.freeze _ _ _) _
    
    | refine Keeps.bind ?_ fun _ => ?_ | refine Keeps.ite ?_ ?_ | split
theorem Keeps.buildStep (t : TypeId) (parts : List (Nat × Operand)) : Keeps (SE.buildStep P tmps t parts) := by
  unfold SE.buildStep
  repeat' first
    | exact Keeps.pure _ | exact Keeps.fail | exact Keeps.lift _ | exact Keeps.need _ | exact Keeps.blk _ _ | exact Keeps.emit _ _ | exact Keeps.emitCall _ _ _ _ | exact Keeps.atomOf _ | exact Keeps.lstOf _
    | exact Keeps.explode _ _ _ | exact Keeps.loadFrom _ _ _ _ | exact Keeps.storeTo _ _ _ | exact Keeps.mapPlaces _ _ | exact Keeps.newsOf _ _ _ | exact Keeps.newsStr _ | exact Keeps.newsT _ _ _ _ _ _ _
    | exact Keeps.optAtom _ _ | exact Keeps.bounds _ _ _ _ _ | exact Keeps.spans _ _ _ _ | exact Keeps.sliceOwn _ _ _ _ _ _ | exact Keeps.mapEM (fun _ => Keeps.freeze _ _ _) _
    
    | refine Keeps.bind ?_ fun _ => ?_ | refine Keeps.ite ?_ ?_ | split
theorem Keeps.buildSliceStep (t : TypeId) (n : Nat) (parts : List (Nat × Operand)) : Keeps (SE.buildSliceStep P heap tmps t n parts) := by
  unfold SE.buildSliceStep
  repeat' first
    | exact Keeps.pure _ | exact Keeps.fail | exact Keeps.lift _ | exact Keeps.need _ | exact Keeps.blk _ _ | exact Keeps.emit _ _ | exact Keeps.emitCall _ _ _ _ | exact Keeps.atomOf _ | exact Keeps.lstOf _
    | exact Keeps.explode _ _ _ | exact Keeps.loadFrom _ _ _ _ | exact Keeps.storeTo _ _ _ | exact Keeps.mapPlaces _ _ | exact Keeps.newsOf _ _ _ | exact Keeps.newsStr _ | exact Keeps.newsT _ _ _ _ _ _ _
    | exact Keeps.optAtom _ _ | exact Keeps.bounds _ _ _ _ _ | exact Keeps.spans _ _ _ _ | exact Keeps.sliceOwn _ _ _ _ _ _ | exact Keeps.mapEM (fun _ => Keeps.freeze _ _ _) _
    
    | refine Keeps.bind ?_ fun _ => ?_ | refine Keeps.ite ?_ ?_ | split
theorem Keeps.makeStep (t : TypeId) (l c : Operand) : Keeps (SE.makeStep P heap tmps t l c) := by
  unfold SE.makeStep
  repeat' first
    | exact Keeps.pure _ | exact Keeps.fail | exact Keeps.lift _ | exact Keeps.need _ | exact Keeps.blk _ _ | exact Keeps.emit _ _ | exact Keeps.emitCall _ _ _ _ | exact Keeps.atomOf _ | exact Keeps.lstOf _
    | exact Keeps.explode _ _ _ | exact Keeps.loadFrom _ _ _ _ | exact Keeps.storeTo _ _ _ | exact Keeps.mapPlaces _ _ | exact Keeps.newsOf _ _ _ | exact Keeps.newsStr _ | exact Keeps.newsT _ _ _ _ _ _ _
    | exact Keeps.optAtom _ _ | exact Keeps.bounds _ _ _ _ _ | exact Keeps.spans _ _ _ _ | exact Keeps.sliceOwn _ _ _ _ _ _ | exact Keeps.mapEM (fun _ => Keeps.freeze _ _ _) _
    
    | refine Keeps.bind ?_ fun _ => ?_ | refine Keeps.ite ?_ ?_ | split
theorem Keeps.appendStep (t u : TypeId) (s x : SV) : Keeps (SE.appendStep P heap t u s x) := by
  unfold SE.appendStep
  repeat' first
    | exact Keeps.pure _ | exact Keeps.fail | exact Keeps.lift _ | exact Keeps.need _ | exact Keeps.blk _ _ | exact Keeps.emit _ _ | exact Keeps.emitCall _ _ _ _ | exact Keeps.atomOf _ | exact Keeps.lstOf _
    | exact Keeps.explode _ _ _ | exact Keeps.loadFrom _ _ _ _ | exact Keeps.storeTo _ _ _ | exact Keeps.mapPlaces _ _ | exact Keeps.newsOf _ _ _ | exact Keeps.newsStr _ | exact Keeps.newsT _ _ _ _ _ _ _
    | exact Keeps.optAtom _ _ | exact Keeps.bounds _ _ _ _ _ | exact Keeps.spans _ _ _ _ | exact Keeps.sliceOwn _ _ _ _ _ _ | exact Keeps.mapEM (fun _ => Keeps.freeze _ _ _) _
    
    | refine Keeps.bind ?_ fun _ => ?_ | refine Keeps.ite ?_ ?_ | split
theorem Keeps.copyStep (t u : TypeId) (s x : SV) : Keeps (SE.copyStep P heap t u s x) := by
  unfold SE.copyStep
  repeat' first
    | exact Keeps.pure _ | exact Keeps.fail | exact Keeps.lift _ | exact Keeps.need _ | exact Keeps.blk _ _ | exact Keeps.emit _ _ | exact Keeps.emitCall _ _ _ _ | exact Keeps.atomOf _ | exact Keeps.lstOf _
    | exact Keeps.explode _ _ _ | exact Keeps.loadFrom _ _ _ _ | exact Keeps.storeTo _ _ _ | exact Keeps.mapPlaces _ _ | exact Keeps.newsOf _ _ _ | exact Keeps.newsStr _ | exact Keeps.newsT _ _ _ _ _ _ _
    | exact Keeps.optAtom _ _ | exact Keeps.bounds _ _ _ _ _ | exact Keeps.spans _ _ _ _ | exact Keeps.sliceOwn _ _ _ _ _ _ | exact Keeps.mapEM (fun _ => Keeps.freeze _ _ _) _
    
    | refine Keeps.bind ?_ fun _ => ?_ | refine Keeps.ite ?_ ?_ | split
theorem Keeps.sliceStep (t : TypeId) (x : Operand) (lo hi mx : Option Operand) : Keeps (SE.sliceStep P heap tmps t x lo hi mx) := by
  unfold SE.sliceStep
  repeat' first
    | exact Keeps.pure _ | exact Keeps.fail | exact Keeps.lift _ | exact Keeps.need _ | exact Keeps.blk _ _ | exact Keeps.emit _ _ | exact Keeps.emitCall _ _ _ _ | exact Keeps.atomOf _ | exact Keeps.lstOf _
    | exact Keeps.explode _ _ _ | exact Keeps.loadFrom _ _ _ _ | exact Keeps.storeTo _ _ _ | exact Keeps.mapPlaces _ _ | exact Keeps.newsOf _ _ _ | exact Keeps.newsStr _ | exact Keeps.newsT _ _ _ _ _ _ _
    | exact Keeps.optAtom _ _ | exact Keeps.bounds _ _ _ _ _ | exact Keeps.spans _ _ _ _ | exact Keeps.sliceOwn _ _ _ _ _ _ | exact Keeps.mapEM (fun _ => Keeps.freeze _ _ _) _
    
    | refine Keeps.bind ?_ fun _ => ?_ | refine Keeps.ite ?_ ?_ | split
theorem Keeps.indexAddrStep (t : TypeId) (x y : Operand) : Keeps (SE.indexAddrStep P tmps t x y) := by
  unfold SE.indexAddrStep
  repeat' first
    | exact Keeps.pure _ | exact Keeps.fail | exact Keeps.lift _ | exact Keeps.need _ | exact Keeps.blk _ _ | exact Keeps.emit _ _ | exact Keeps.emitCall _ _ _ _ | exact Keeps.atomOf _ | exact Keeps.lstOf _
    | exact Keeps.explode _ _ _ | exact Keeps.loadFrom _ _ _ _ | exact Keeps.storeTo _ _ _ | exact Keeps.mapPlaces _ _ | exact Keeps.newsOf _ _ _ | exact Keeps.newsStr _ | exact Keeps.newsT _ _ _ _ _ _ _
    | exact Keeps.optAtom _ _ | exact Keeps.bounds _ _ _ _ _ | exact Keeps.spans _ _ _ _ | exact Keeps.sliceOwn _ _ _ _ _ _ | exact Keeps.mapEM (fun _ => Keeps.freeze _ _ _) _
    
    | refine Keeps.bind ?_ fun _ => ?_ | refine Keeps.ite ?_ ?_ | split
theorem Keeps.fieldStep (t : TypeId) (x : Operand) (f : Nat) : Keeps (SE.fieldStep P tmps t x f) := by
  unfold SE.fieldStep
  repeat' first
    | exact Keeps.pure _ | exact Keeps.fail | exact Keeps.lift _ | exact Keeps.need _ | exact Keeps.blk _ _ | exact Keeps.emit _ _ | exact Keeps.emitCall _ _ _ _ | exact Keeps.atomOf _ | exact Keeps.lstOf _
    | exact Keeps.explode _ _ _ | exact Keeps.loadFrom _ _ _ _ | exact Keeps.storeTo _ _ _ | exact Keeps.mapPlaces _ _ | exact Keeps.newsOf _ _ _ | exact Keeps.newsStr _ | exact Keeps.newsT _ _ _ _ _ _ _
    | exact Keeps.optAtom _ _ | exact Keeps.bounds _ _ _ _ _ | exact Keeps.spans _ _ _ _ | exact Keeps.sliceOwn _ _ _ _ _ _ | exact Keeps.mapEM (fun _ => Keeps.freeze _ _ _) _
    
    | refine Keeps.bind ?_ fun _ => ?_ | refine Keeps.ite ?_ ?_ | split
theorem Keeps.convertStep (s d : TypeId) (x : Operand) : Keeps (SE.convertStep P heap tmps s d x) := by
  unfold SE.convertStep
  repeat' first
    | exact Keeps.pure _ | exact Keeps.fail | exact Keeps.lift _ | exact Keeps.need _ | exact Keeps.blk _ _ | exact Keeps.emit _ _ | exact Keeps.emitCall _ _ _ _ | exact Keeps.atomOf _ | exact Keeps.lstOf _
    | exact Keeps.explode _ _ _ | exact Keeps.loadFrom _ _ _ _ | exact Keeps.storeTo _ _ _ | exact Keeps.mapPlaces _ _ | exact Keeps.newsOf _ _ _ | exact Keeps.newsStr _ | exact Keeps.newsT _ _ _ _ _ _ _
    | exact Keeps.optAtom _ _ | exact Keeps.bounds _ _ _ _ _ | exact Keeps.spans _ _ _ _ | exact Keeps.sliceOwn _ _ _ _ _ _ | exact Keeps.mapEM (fun _ => Keeps.freeze _ _ _) _
    
    | refine Keeps.bind ?_ fun _ => ?_ | refine Keeps.ite ?_ ?_ | split
theorem Keeps.callStep (K : Knowns) (o : Oper) (f : FuncId) (args : List SV) : Keeps (SE.callStep P K heap o f args) := by
  unfold SE.callStep
  repeat' first
    | exact Keeps.pure _ | exact Keeps.fail | exact Keeps.lift _ | exact Keeps.need _ | exact Keeps.blk _ _ | exact Keeps.emit _ _ | exact Keeps.emitCall _ _ _ _ | exact Keeps.atomOf _ | exact Keeps.lstOf _
    | exact Keeps.explode _ _ _ | exact Keeps.loadFrom _ _ _ _ | exact Keeps.storeTo _ _ _ | exact Keeps.mapPlaces _ _ | exact Keeps.newsOf _ _ _ | exact Keeps.newsStr _ | exact Keeps.newsT _ _ _ _ _ _ _
    | exact Keeps.optAtom _ _ | exact Keeps.bounds _ _ _ _ _ | exact Keeps.spans _ _ _ _ | exact Keeps.sliceOwn _ _ _ _ _ _ | exact Keeps.mapEM (fun _ => Keeps.freeze _ _ _) _
    
    | refine Keeps.bind ?_ fun _ => ?_ | refine Keeps.ite ?_ ?_ | split
theorem Keeps.emitCallH (f : FuncId) (as : List HA) (bs : List Atom) (sh : Sh) : Keeps (SE.emitCallH f as bs sh) := fun e a e' he => by
  unfold SE.emitCallH at he
  split at he
  · cases he; exact ⟨rfl, rfl⟩
  · cases he
theorem Keeps.hArgs : ∀ (fls : List Bool) (ss : List SV) (k : Nat), Keeps (SE.hArgs heap fls ss k)
  | [], [], k => Keeps.pure _
  | fl :: fls, s :: ss, k => by
    unfold SE.hArgs
    refine Keeps.ite ?_ ?_
    · split
      · exact Keeps.bind (Keeps.hArgs fls ss _) fun _ => Keeps.pure _
      · exact Keeps.bind (Keeps.hArgs fls ss _) fun _ => Keeps.pure _
      · exact Keeps.fail
    · exact Keeps.bind (Keeps.freeze _ _ _) fun _ => Keeps.bind (Keeps.hArgs fls ss _) fun _ => Keeps.pure _
  | [], _ :: _, k => Keeps.fail
  | _ :: _, [], k => Keeps.fail
theorem Keeps.partsH (ids : List Nat) (x : Atom) : ∀ (l : List HS) (n : Nat), Keeps (SE.partsH ids x l n)
  | [], n => Keeps.pure _
  | .val c :: l, n => by
    unfold SE.partsH
    exact Keeps.bind (Keeps.emit _ _) fun _ => Keeps.bind (Keeps.partsH ids x l _) fun _ => Keeps.pure _
  | .osl k sz z :: l, n => by
    unfold SE.partsH
    exact Keeps.bind (Keeps.lift _) fun _ => Keeps.bind (Keeps.emit _ _) fun _ => Keeps.bind (Keeps.emit _ _) fun _ => Keeps.bind (Keeps.emit _ _) fun _ => Keeps.bind (Keeps.partsH ids x l _) fun _ => Keeps.pure _
  | .ptr k :: l, n => by
    unfold SE.partsH
    exact Keeps.bind (Keeps.lift _) fun _ => Keeps.bind (Keeps.emit _ _) fun _ => Keeps.bind (Keeps.partsH ids x l _) fun _ => Keeps.pure _
theorem Keeps.shRes (t : Bool) (l : List SV) : Keeps (SE.shRes t l) := by
  unfold SE.shRes
  split
  · exact Keeps.pure _
  · split
    · exact Keeps.pure _
    · exact Keeps.fail
theorem Keeps.callHStep (o : Oper) (f : FuncId) (flags : List Bool) (sh : Sh) (args : List SV) : Keeps (SE.callHStep P heap o f flags sh args) := by
  unfold SE.callHStep
  refine Keeps.bind (Keeps.need _) fun _ => Keeps.bind (Keeps.hArgs heap _ _ _) fun _ => Keeps.bind (Keeps.need _) fun _ => Keeps.bind (Keeps.need _) fun _ => Keeps.bind (Keeps.mapEM (fun id => ?_) _) fun _ =>
    Keeps.bind (Keeps.emitCallH _ _ _ _) fun _ => Keeps.bind (Keeps.partsH _ _ _ _) fun _ => Keeps.bind (Keeps.shRes _ _) fun _ => Keeps.bind (Keeps.mapEM (fun k => Keeps.emit _ _) _) fun _ => Keeps.bind (Keeps.mapEM (fun k => Keeps.emit _ _) _) fun _ => Keeps.pure _
  unfold SE.ownLst
  exact Keeps.bind (Keeps.blk _ _) fun _ => Keeps.bind (Keeps.need _) fun _ => Keeps.lstOf _
theorem Keeps.builtinStep (b : Builtin) (ts : List TypeId) (args : List Operand) : Keeps (SE.builtinStep P heap tmps b ts args) := by
  unfold SE.builtinStep
  repeat' first
    | exact Keeps.pure _ | exact Keeps.fail | exact Keeps.lift _ | exact Keeps.need _ | exact Keeps.blk _ _ | exact Keeps.emit _ _ | exact Keeps.emitCall _ _ _ _ | exact Keeps.atomOf _ | exact Keeps.lstOf _
    | exact Keeps.explode _ _ _ | exact Keeps.loadFrom _ _ _ _ | exact Keeps.storeTo _ _ _ | exact Keeps.mapPlaces _ _ | exact Keeps.newsOf _ _ _ | exact Keeps.newsStr _ | exact Keeps.newsT _ _ _ _ _ _ _
    | exact Keeps.optAtom _ _ | exact Keeps.bounds _ _ _ _ _ | exact Keeps.spans _ _ _ _ | exact Keeps.sliceOwn _ _ _ _ _ _ | exact Keeps.mapEM (fun _ => Keeps.freeze _ _ _) _
    | exact Keeps.appendStep _ _ _ _ _ _ | exact Keeps.copyStep _ _ _ _ _ _
    | refine Keeps.bind ?_ fun _ => ?_ | refine Keeps.ite ?_ ?_ | split
theorem Keeps.indexStep (t : TypeId) (x y : Operand) : Keeps (SE.indexStep P tmps t x y) := by
  unfold SE.indexStep
  repeat' first
    | exact Keeps.pure _ | exact Keeps.fail | exact Keeps.lift _ | exact Keeps.need _ | exact Keeps.blk _ _ | exact Keeps.emit _ _ | exact Keeps.emitCall _ _ _ _ | exact Keeps.atomOf _ | exact Keeps.lstOf _
    | exact Keeps.explode _ _ _ | exact Keeps.loadFrom _ _ _ _ | exact Keeps.storeTo _ _ _ | exact Keeps.mapPlaces _ _ | exact Keeps.newsOf _ _ _ | exact Keeps.newsStr _ | exact Keeps.newsT _ _ _ _ _ _ _
    | exact Keeps.optAtom _ _ | exact Keeps.bounds _ _ _ _ _ | exact Keeps.spans _ _ _ _ | exact Keeps.sliceOwn _ _ _ _ _ _ | exact Keeps.mapEM (fun _ => Keeps.freeze _ _ _) _
    
    | refine Keeps.bind ?_ fun _ => ?_ | refine Keeps.ite ?_ ?_ | split
theorem Keeps.externStep (x : O) (args : List SV) : Keeps (SE.externStep x args) := by
  unfold SE.externStep
  repeat' first
    | exact Keeps.fail | exact Keeps.emit _ _ | exact Keeps.atomOf _ | exact Keeps.pure _
    | refine Keeps.bind ?_ fun _ => ?_ | split
set_option maxHeartbeats 2000000 in
theorem Keeps.opStep0 (o : Oper) : Keeps (SE.opStep0 P M heap tmps o) := by
  unfold SE.opStep0
  repeat' first
    | exact Keeps.pure _ | exact Keeps.fail | exact Keeps.lift _ | exact Keeps.need _ | exact Keeps.blk _ _ | exact Keeps.emit _ _ | exact Keeps.emitCall _ _ _ _ | exact Keeps.atomOf _ | exact Keeps.lstOf _
    | exact Keeps.explode _ _ _ | exact Keeps.loadFrom _ _ _ _ | exact Keeps.storeTo _ _ _ | exact Keeps.mapPlaces _ _ | exact Keeps.newsOf _ _ _ | exact Keeps.newsStr _ | exact Keeps.newsT _ _ _ _ _ _ _
    | exact Keeps.optAtom _ _ | exact Keeps.bounds _ _ _ _ _ | exact Keeps.spans _ _ _ _ | exact Keeps.sliceOwn _ _ _ _ _ _ | exact Keeps.mapEM (fun _ => Keeps.freeze _ _ _) _
    | exact Keeps.binStep _ _ _ _ _ _  | exact Keeps.buildStep _ _ _ _  | exact Keeps.buildSliceStep _ _ _ _ _ _  | exact Keeps.makeStep _ _ _ _ _ _  | exact Keeps.sliceStep _ _ _ _ _ _ _ _  | exact Keeps.indexAddrStep _ _ _ _ _  | exact Keeps.fieldStep _ _ _ _ _  | exact Keeps.convertStep _ _ _ _ _ _  | exact Keeps.externStep _ _ | exact Keeps.callStep _ _ _ _ _ _ | exact Keeps.callHStep _ _ _ _ _ _ _  | exact Keeps.builtinStep _ _ _ _ _ _  | exact Keeps.indexStep _ _ _ _ _ 
    | refine Keeps.bind ?_ fun _ => ?_ | refine Keeps.ite ?_ ?_ | split
theorem Keeps.opStep (o : Oper) : Keeps (SE.opStep P M heap tmps o) :=
  Keeps.bind (Keeps.opStep0 P M heap tmps o) fun _ => Keeps.bind (Keeps.need _) fun _ => Keeps.pure _
end Go.SE
set_option autoImplicit false
namespace Go.SE
open Go Go.RowKit
variable {P : Program} {R : AEnd → Prop} {H : List (List AV → Prop)} {σ τ : List AV} {E : Ent}
structure VOk (vs : VS) (σ : List AV) (H : List (List AV → Prop)) : Prop where
  len : σ.length = vs.n
  kinds : kindsRep vs.kinds σ
  facts : ∀ p ∈ vs.facts, σ.getD p.1 default = .bool p.2 ∧ p.1 < vs.n
  dep : H.length = vs.dep
theorem factOf_mem {i : Nat} {b : Bool} : ∀ {l : List (Nat × Bool)}, factOf i l = some b → (i, b) ∈ l
  | [], h => by simp [factOf] at h
  | (j, c) :: l, h => by
    simp only [factOf] at h
    split at h
    · rename_i hj
      cases h
      have := Nat.eq_of_beq_eq_true hj
      subst this
      simp
    · exact List.mem_cons_of_mem _ (factOf_mem h)
theorem withBool_path {a : Atom} {vs : VS} {k : Bool → VS → T} (hv : VOk vs σ H) (h : den P R H σ (withBool a vs k)) :
    ∃ b vs', a.den σ = .bool b ∧ VOk vs' σ H ∧ vs'.n = vs.n ∧ vs'.dep = vs.dep ∧ vs'.kinds = vs.kinds ∧ den P R H σ (k b vs') := by
  unfold withBool at h
  split at h
  · exact ⟨_, vs, rfl, hv, rfl, rfl, rfl, h⟩
  · rename_i i
    split at h
    · rename_i b hb
      exact ⟨b, vs, (hv.facts _ (factOf_mem hb)).1, hv, rfl, rfl, rfl, h⟩
    · split at h
      · rename_i hi
        simp only [den] at h
        obtain ⟨b, h1, h2⟩ := h
        have hi : i < vs.n := by simpa [Nat.blt_eq] using hi
        have key : ∀ b, σ.getD i default = .bool b → VOk { vs with facts := (i, b) :: vs.facts } σ H := fun b hb =>
          ⟨hv.len, hv.kinds, fun p hp => by
            rcases List.mem_cons.1 hp with rfl | hp
            · exact ⟨hb, hi⟩
            · exact hv.facts p hp, hv.dep⟩
        cases b with
        | true => exact ⟨true, { vs with facts := (i, true) :: vs.facts }, h1, key true h1, rfl, rfl, rfl, by simpa using h2⟩
        | false => exact ⟨false, { vs with facts := (i, false) :: vs.facts }, h1, key false h1, rfl, rfl, rfl, by simpa using h2⟩
      · simp [den] at h
  · simp [den] at h
theorem nodesT_path : ∀ {l : List Node} {t : T}, den P R H σ (nodesT l t) → ∃ σ', RunR P σ l σ' ∧ den P R H σ' t
  | [], t, h => ⟨σ, rfl, h⟩
  | nd :: l, t, h => by
    obtain ⟨σ1, h1, h2⟩ := nodesT_path (l := l) h
    simp only [den] at h2
    obtain ⟨v, h3, h4⟩ := h2
    exact ⟨σ1 ++ [v], ⟨σ1, v, h1, h3, rfl⟩, h4⟩
theorem RunR.kinds : ∀ {l : List Node} {σ σ' : List AV}, RunR P σ l σ' → ∀ {ks : List Bool}, kindsRep ks σ → kindsRep (ks ++ l.reverse.map Node.kind) σ'
  | [], σ, σ', h, ks, hk => by cases h; simpa using hk
  | nd :: l, σ, σ', ⟨σ1, v, h1, h2, h3⟩, ks, hk => by
    subst h3
    have ih := RunR.kinds h1 hk
    rw [List.reverse_cons, List.map_append, ← List.append_assoc]
    refine kindsRep.append ih ⟨fun hkd => ?_, trivial⟩
    cases nd with
    | op o args => exact cellOut_sound hkd h2
    | call f args c => exact h2.2 hkd
    | callH f args bs sh => cases hkd
    | known f args x => cases hkd
theorem VOk.more {vs : VS} {em : Em} {σ' : List AV} (hv : VOk vs σ H) (h0 : em.n0 = vs.n) (hk : em.k0 = vs.kinds) (hr : RunR P σ em.nodes σ') :
    VOk (vs.of em) σ' H ∧ ∀ τ, σ' <+: τ → Hold P σ τ em := by
  refine ⟨⟨?_, ?_, fun p hp => ?_, hv.dep⟩, fun τ hτ => ⟨by rw [h0]; exact hv.len, by rw [hk]; exact hv.kinds, σ', hr, hτ⟩⟩
  · rw [hr.length, hv.len]; simp [VS.of, Em.n, h0]
  · simp only [VS.of, hk]
    exact hr.kinds hv.kinds
  · obtain ⟨h1, h2⟩ := hv.facts p hp
    refine ⟨?_, by simp only [VS.of, Em.n, h0]; omega⟩
    rw [← h1, getD_of_pre hr.start (by rw [hv.len]; exact h2)]
def LS.of (st : St) : LS := fun l =>
  if l % 3 = 0 then .sv (st.tmps.getD (l / 3) .undef) else if l % 3 = 1 then .bk (st.heap.getD (l / 3) none) else .df (decide (l / 3 < st.heap.length))
theorem LS.of_tmp (st : St) (t : Nat) : LS.of st (lTmp t) = .sv (st.tmps.getD t .undef) := by
  unfold LS.of lTmp
  rw [if_pos (by omega), show 3 * t / 3 = t from by omega]
theorem LS.of_blk (st : St) (id : Nat) : LS.of st (lBlk id) = .bk (st.heap.getD id none) := by
  unfold LS.of lBlk
  rw [if_neg (by omega), if_pos (by omega), show (3 * id + 1) / 3 = id from by omega]
theorem LS.of_dfn (st : St) (id : Nat) : LS.of st (lDfn id) = .df (decide (id < st.heap.length)) := by
  unfold LS.of lDfn
  rw [if_neg (by omega), if_neg (by omega), show (3 * id + 2) / 3 = id from by omega]
theorem loc_cases (l : Nat) : (∃ t, l = lTmp t) ∨ (∃ id, l = lBlk id) ∨ ∃ id, l = lDfn id := by
  unfold lTmp lBlk lDfn
  have : l % 3 = 0 ∨ l % 3 = 1 ∨ l % 3 = 2 := by omega
  rcases this with h | h | h
  · exact .inl ⟨l / 3, by omega⟩
  · exact .inr (.inl ⟨l / 3, by omega⟩)
  · exact .inr (.inr ⟨l / 3, by omega⟩)
@[simp] theorem LS.tmp_of (st : St) (t : Nat) : (LS.of st).tmp t = st.tmps.getD t .undef := by unfold LS.tmp; rw [LS.of_tmp]
@[simp] theorem LS.blk_of (st : St) (id : Nat) : (LS.of st).blk id = st.heap.getD id none := by unfold LS.blk; rw [LS.of_blk]
@[simp] theorem LS.dfn_of (st : St) (id : Nat) : (LS.of st).dfn id = decide (id < st.heap.length) := by unfold LS.dfn; rw [LS.of_dfn]
theorem LS.set_tmp_of {st : St} {d : Nat} {s : SV} (hd : d < st.tmps.length) : (LS.of st).set (lTmp d) (.sv s) = LS.of { st with tmps := st.tmps.set d s } := by
  funext l
  unfold LS.set
  rcases loc_cases l with ⟨t, rfl⟩ | ⟨id, rfl⟩ | ⟨id, rfl⟩
  · rw [LS.of_tmp, LS.of_tmp]
    by_cases h : t = d
    · subst h; rw [if_pos rfl]; simp [hd]
    · rw [if_neg (fun e => h (lTmp_inj.1 e))]
      simp [List.getElem?_set, Ne.symm h]
  · rw [if_neg (Ne.symm (lTmp_ne_lBlk d id)), LS.of_blk, LS.of_blk]
  · rw [if_neg (Ne.symm (lTmp_ne_lDfn d id)), LS.of_dfn, LS.of_dfn]
theorem LS.set_blk_of {st : St} {id : Nat} {b : Option SB} (hd : id < st.heap.length) : (LS.of st).set (lBlk id) (.bk b) = LS.of { st with heap := st.heap.set id b } := by
  funext l
  unfold LS.set
  rcases loc_cases l with ⟨t, rfl⟩ | ⟨i, rfl⟩ | ⟨i, rfl⟩
  · rw [if_neg (lTmp_ne_lBlk t id), LS.of_tmp, LS.of_tmp]
  · rw [LS.of_blk, LS.of_blk]
    by_cases h : i = id
    · subst h; rw [if_pos rfl]; simp [hd]
    · rw [if_neg (fun e => h (lBlk_inj.1 e))]
      simp [List.getElem?_set, Ne.symm h]
  · rw [if_neg (Ne.symm (lBlk_ne_lDfn id i)), LS.of_dfn, LS.of_dfn]; simp
theorem setBlks_length : ∀ (l : List (Nat × Option SB)) (heap : Heap), (setBlks heap l).length = heap.length
  | [], _ => rfl
  | (id, b) :: l, heap => by rw [setBlks, setBlks_length l]; simp
theorem LS.upd_wr_of : ∀ (l : List (Nat × Option SB)) {st : St}, (∀ p ∈ l, p.1 < st.heap.length) →
    (LS.of st).upd (l.map fun p => (lBlk p.1, LV.bk p.2)) = LS.of { st with heap := setBlks st.heap l }
  | [], st, _ => rfl
  | (id, b) :: l, st, h => by
    rw [List.map_cons, LS.upd_cons, LS.set_blk_of (h (id, b) (by simp))]
    have := LS.upd_wr_of l (st := { st with heap := st.heap.set id b }) (fun p hp => by simpa using h p (by simp [hp]))
    rw [this]
    rfl
theorem LS.memW_of {st : St} {e : Eff} (h : ∀ p ∈ e.wr, p.1 < st.heap.length) :
    (LS.of st).upd (memW st.heap.length e) = LS.of { st with heap := setBlks st.heap e.wr ++ e.new } := by
  unfold memW newIds
  rw [LS.upd_append, LS.upd_append, LS.upd_wr_of e.wr h, LS.upd_dfn_of, LS.upd_new_of]
  funext l
  have hl := setBlks_length e.wr st.heap
  rcases loc_cases l with ⟨t, rfl⟩ | ⟨i, rfl⟩ | ⟨i, rfl⟩
  · rw [if_neg (by unfold lTmp; omega), if_neg (by unfold lTmp; omega), LS.of_tmp, LS.of_tmp]
  · have h1 : lBlk i % 3 = 1 := by unfold lBlk; omega
    have h2 : lBlk i / 3 = i := by unfold lBlk; omega
    rw [h2]
    by_cases hi : st.heap.length ≤ i ∧ i < st.heap.length + e.new.length
    · rw [if_pos ⟨h1, hi⟩, LS.of_blk]
      simp only [List.getD_eq_getElem?_getD]
      rw [List.getElem?_append_right (by omega), hl]
    · rw [if_neg (by omega), if_neg (by unfold lBlk; omega), LS.of_blk, LS.of_blk]
      simp only [List.getD_eq_getElem?_getD]
      by_cases hi2 : i < st.heap.length
      · rw [List.getElem?_append_left (by omega)]
      · rw [List.getElem?_eq_none (by omega), List.getElem?_eq_none (by simp; omega)]
  · rw [if_neg (by unfold lDfn; omega)]
    have h1 : lDfn i % 3 = 2 := by unfold lDfn; omega
    have h2 : lDfn i / 3 = i := by unfold lDfn; omega
    rw [h2]
    by_cases hi : st.heap.length ≤ i ∧ i < st.heap.length + e.new.length
    · rw [if_pos ⟨h1, hi⟩, LS.of_dfn]
      simp; omega
    · rw [if_neg (by omega), LS.of_dfn, LS.of_dfn]
      simp [hl]; omega
theorem LS.apply_of {st : St} {o : Oper} {e : Eff} {vs : VS} (hd : dstOk st.tmps.length o.dst = true) (he : effOk st.heap.length e = true) (all : List Oper) :
    LS.of (st.apply o e vs) = (LS.of st).upd (footOf all st.heap.length o e).wr := by
  simp only [effOk, Bool.and_eq_true] at he
  have hw : ∀ p ∈ e.wr, p.1 < st.heap.length := fun p hp => refsOk_mem he.1.2 p.1 (List.mem_map.2 ⟨p, hp, rfl⟩)
  unfold footOf
  simp only
  rw [LS.upd_append, LS.memW_of hw]
  cases hdst : o.dst with
  | none => simp [St.apply, hdst, putSV, LS.upd]; rfl
  | some d =>
    have hd' : d < st.tmps.length := by rw [hdst] at hd; simpa [dstOk, Nat.blt_eq] using hd
    simp only [Option.toList_some, List.map_cons, List.map_nil, LS.upd_cons, LS.upd_nil]
    rw [LS.set_tmp_of (st := { st with heap := setBlks st.heap e.wr ++ e.new }) hd']
    simp [St.apply, hdst, putSV]; rfl
end Go.SE
set_option autoImplicit false
namespace Go.SE
open Go Go.RowKit
variable {P : Program} {R : AEnd → Prop} {H : List (List AV → Prop)} {σ τ : List AV}
def OpDoes (P : Program) (τ : List AV) (ops : Array Oper) (i n : Nat) (f : Foot) (Xi : LS) : Prop :=
  ∀ (E : Ent) (X : LS) (Φ : Fix) (μ : Map) (a : Act) (w : World) (Q : Exit → Act → World → Prop) (K : Act → World → Prop), E.nt = n →
    (∀ l ∈ f.rd, X l = Xi l) → SRel E τ X Φ μ a w → (∀ Φ' μ' a' w', SRel E τ (X.upd f.wr) Φ' μ' a' w' → K a' w') → wpOp P ops Q i K a w
def GuardIs (all : List Oper) (o : Oper) (st : St) (τ : List AV) (run : Bool) : Prop :=
  match o.guard with
  | none => run = true
  | some (j, want) => ∃ t a b, (all[j]?).bind (·.dst) = some t ∧ st.tmps.getD t .undef = .atm a ∧ ((a.den τ = .bool b ∧ run = (b == want)) ∨ (a = .c (.tup []) ∧ run = false))
theorem wanted_of {ops : Array Oper} {o : Oper} {st : St} {run : Bool} {E : Ent} {X : LS} {Φ : Fix} {μ : Map} {a : Act} {w : World}
    (hg : GuardIs ops.toList o st τ run) (hX : ∀ t ∈ guardTmp ops.toList o, X (lTmp t) = LS.of st (lTmp t)) (hR : SRel E τ X Φ μ a w) :
    Region.wanted o (yielded ops a.tmps) = run := by
  unfold GuardIs at hg
  unfold Region.wanted
  cases h : o.guard with
  | none => rw [h] at hg; simp [hg]
  | some p =>
    obtain ⟨j, want⟩ := p
    rw [h] at hg
    obtain ⟨t, at', b, h1, h2, h34⟩ := hg
    have hm : t ∈ guardTmp ops.toList o := by
      unfold guardTmp
      rw [h]
      simp only
      cases ho : ops.toList[j]? with
      | none => rw [ho] at h1; cases h1
      | some p =>
        rw [ho] at h1
        simp only [Option.bind_some] at h1
        simp only [h1, Option.toList_some, List.mem_singleton]
    have hx := hX t hm
    have ht := hR.tmps t
    have hxt : X.tmp t = .atm at' := by unfold LS.tmp; rw [hx, LS.of_tmp, h2]
    rw [hxt] at ht
    rcases h34 with ⟨h3, h4⟩ | ⟨h3, h4⟩
    case inr =>
      subst h3
      have hu : a.tmps.getD t undef = .tuple #[] := by
        simp only [SRep, Atom.den, Rep] at ht
        obtain ⟨vs, e1, e2, _⟩ := ht
        have e3 : vs = #[] := Array.eq_empty_of_size_eq_zero (by simpa using e2)
        rw [e1, e3]
      have hy : yielded ops a.tmps j = none := by
        unfold yielded
        have e1 : (ops[j]?).bind (·.dst) = some t := by simpa using h1
        rw [e1]
        cases hh : a.tmps[t]? with
        | none => simp [hh]
        | some v =>
          rw [Array.getD_eq_getD_getElem?, hh] at hu
          simp only [Option.getD_some] at hu
          subst hu
          simp [hh]
      simp only [hy]
      rw [h4]
      cases want <;> rfl
    simp only [SRep, h3] at ht
    have hb := ht.bool_inv
    have hy : yielded ops a.tmps j = some b := by
      unfold yielded
      have e1 : (ops[j]?).bind (·.dst) = some t := by simpa using h1
      rw [e1]
      cases hh : a.tmps[t]? with
      | none =>
        rw [Array.getD_eq_getD_getElem?, hh] at hb
        simp [undef] at hb
      | some v =>
        rw [Array.getD_eq_getD_getElem?, hh] at hb
        simp only [Option.getD_some] at hb
        subst hb
        simp [hh]
    simp only [hy]
    rw [h4]
    cases b <;> cases want <;> rfl
theorem LS.tmp_congr {X Y : LS} {t : Nat} (h : X (lTmp t) = Y (lTmp t)) : X.tmp t = Y.tmp t := by unfold LS.tmp; rw [h]
theorem LS.blk_congr {X Y : LS} {t : Nat} (h : X (lBlk t) = Y (lBlk t)) : X.blk t = Y.blk t := by unfold LS.blk; rw [h]
theorem LS.dfn_congr {X Y : LS} {t : Nat} (h : X (lDfn t) = Y (lDfn t)) : X.dfn t = Y.dfn t := by unfold LS.dfn; rw [h]
theorem agree_of {all : List Oper} {st : St} {o : Oper} {e : Eff} {X : LS} (he : effOk st.heap.length e = true) (h : ∀ l ∈ (footOf all st.heap.length o e).rd, X l = LS.of st l) :
    Agree X st.heap st.tmps o e where
  tmp := fun t ht => by
    rw [LS.tmp_congr (h (lTmp t) ?_), LS.tmp_of]
    simp only [footOf, List.mem_append, List.mem_map]
    exact .inl (.inl (.inl (.inl ⟨t, .inl ht, rfl⟩)))
  blk := fun id hid => by
    simp only [effOk, Bool.and_eq_true] at he
    refine ⟨?_, ?_⟩
    · rw [LS.blk_congr (h (lBlk id) ?_), LS.blk_of]
      simp only [footOf, List.mem_append]
      exact .inl (.inl (.inl (.inr (List.mem_map.2 ⟨id, hid, rfl⟩))))
    · rw [LS.dfn_congr (h (lDfn id) ?_), LS.dfn_of]
      · simp only [decide_eq_true_eq]
        rcases List.mem_append.1 hid with h1 | h1
        · exact refsOk_mem he.2 id h1
        · exact refsOk_mem he.1.2 id h1
      · simp only [footOf, List.mem_append]
        exact .inl (.inl (.inr (List.mem_map.2 ⟨id, hid, rfl⟩)))
  ref := fun id hid hlt => by
    rw [LS.dfn_congr (h (lDfn id) ?_), LS.dfn_of]
    · simpa using hlt
    · simp only [footOf, List.mem_append]
      exact .inl (.inr (List.mem_map.2 ⟨id, List.mem_filter.2 ⟨hid, by simpa [Nat.blt_eq] using hlt⟩, rfl⟩))
  new := fun id hid => by
    rw [LS.dfn_congr (h (lDfn id) ?_), LS.dfn_of]
    · simp only [newIds, List.mem_range'_1] at hid
      simp; omega
    · simp only [footOf, List.mem_append]
      exact .inr (List.mem_map.2 ⟨id, hid, rfl⟩)
theorem LS.upd_wr_dfn : ∀ (l : List (Nat × Option SB)) (X : LS) (id : Nat), (X.upd (l.map fun p => (lBlk p.1, LV.bk p.2))).dfn id = X.dfn id
  | [], _, _ => rfl
  | (i, b) :: l, X, id => by
    rw [List.map_cons, LS.upd_cons, LS.upd_wr_dfn l]; simp
theorem LS.memW_dfn {len : Nat} {e : Eff} {X : LS} {id : Nat} : (X.upd (memW len e)).dfn id = (X.dfn id || decide (len ≤ id ∧ id < len + e.new.length)) := by
  unfold memW newIds
  rw [LS.upd_append, LS.upd_append, LS.upd_new_of, LS.upd_dfn_of]
  have h1 : lDfn id % 3 = 2 := by unfold lDfn; omega
  have h2 : lDfn id / 3 = id := by unfold lDfn; omega
  unfold LS.dfn
  simp only [h1, h2]
  rw [if_neg (by omega)]
  by_cases h : len ≤ id ∧ id < len + e.new.length
  · rw [if_pos ⟨trivial, h⟩]; simp [h]
  · rw [if_neg (by omega)]
    have := LS.upd_wr_dfn e.wr X id
    unfold LS.dfn at this
    rw [this]
    simp only [h, decide_false, Bool.or_false]
theorem opDoes_eff {ops : Array Oper} {i : Nat} {o : Oper} {st : St} {e : Eff} (ho : ops[i]? = some o) (hE : ∀ E, EffOk P E τ st.heap st.tmps o e)
    (hd : dstOk st.tmps.length o.dst = true) (he : effOk st.heap.length e = true) (hg : GuardIs ops.toList o st τ true) :
    OpDoes P τ ops i st.tmps.length (footOf ops.toList st.heap.length o e) (LS.of st) := by
  intro E X Φ μ a w Q K hn hX hR hK
  have hA := agree_of he hX
  unfold wpOp
  rw [ho]
  have hw := wanted_of hg (fun t ht => hX (lTmp t) (by
    simp only [footOf, List.mem_append, List.mem_map]
    exact .inl (.inl (.inl (.inl ⟨t, .inr ht, rfl⟩))))) hR
  simp only [hw, if_true]
  refine .inl (hE E X Φ μ a w Q K hA hR fun Φ' μ' w' v h1 h2 => hK Φ' μ' _ _ ?_)
  simp only [footOf, LS.upd_append]
  cases hdst : o.dst with
  | none => simpa [LS.upd, Act.put] using h1
  | some d =>
    simp only [Option.toList_some, List.map_cons, List.map_nil, LS.upd_cons, LS.upd_nil]
    refine h1.put h2 (fun id hid => ?_) (by rw [hn]; rw [hdst] at hd; simpa [dstOk, Nat.blt_eq] using hd)
    rw [LS.memW_dfn]
    have hmem : id ∈ effRefs e := by simp only [effRefs, List.mem_append]; exact .inl (.inl hid)
    by_cases hlt : id < st.heap.length
    · rw [hA.ref id hmem hlt]; rfl
    · simp only [effOk, Bool.and_eq_true] at he
      have := refsOk_mem he.1.1 id hmem
      simp only [Bool.or_eq_true, decide_eq_true_eq]
      right; omega
theorem opDoes_skip {ops : Array Oper} {i : Nat} {o : Oper} {st : St} (ho : ops[i]? = some o)
    (hd : dstOk st.tmps.length o.dst = true) (hg : GuardIs ops.toList o st τ false) :
    OpDoes P τ ops i st.tmps.length (footOf ops.toList st.heap.length o skipEff) (LS.of st) := by
  intro E X Φ μ a w Q K hn hX hR hK
  unfold wpOp
  rw [ho]
  have hw := wanted_of hg (fun t ht => hX (lTmp t) (by
    simp only [footOf, List.mem_append, List.mem_map]
    exact .inl (.inl (.inl (.inl ⟨t, .inr ht, rfl⟩))))) hR
  simp only [hw, Bool.false_eq_true, if_false]
  refine hK Φ μ _ _ ?_
  simp only [footOf, LS.upd_append]
  have h0 : X.upd (memW st.heap.length skipEff) = X := by simp [skipEff, memW, newIds, LS.upd]
  rw [h0]
  cases hdst : o.dst with
  | none => simpa [LS.upd, Act.put] using hR
  | some d =>
    simp only [Option.toList_some, List.map_cons, List.map_nil, LS.upd_cons, LS.upd_nil]
    exact hR.put (by simp [skipEff, SRep, Atom.den, Rep, RepL, undef]) (by simp [skipEff, SV.refs]) (by rw [hn]; rw [hdst] at hd; simpa [dstOk, Nat.blt_eq] using hd)
theorem SRel.ext {E : Ent} {st : St} {Φ : Fix} {μ : Map} {a : Act} {w : World} (h : SRel E σ (LS.of st) Φ μ a w) (hs : inScope st = true) (hn : σ.length = st.vs.n) (hp : σ <+: τ) :
    SRel E τ (LS.of st) Φ μ a w := by
  have he : ∀ i, i < st.vs.n → σ.getD i default = τ.getD i default := fun i hi => getD_of_pre hp (by omega)
  simp only [inScope, Bool.and_eq_true] at hs
  have hmemL : ∀ {l : List SV}, (atomsSVL l).all (Atom.lt st.vs.n) = true → ∀ s ∈ l, (atomsSV s).all (Atom.lt st.vs.n) = true := by
    intro l
    induction l with
    | nil => intro _ s hs; cases hs
    | cons x l ih =>
      intro h s hs
      simp only [atomsSVL, List.all_append, Bool.and_eq_true] at h
      rcases List.mem_cons.1 hs with rfl | hs
      · exact h.1
      · exact ih h.2 s hs
  refine ⟨h.dfr, h.nt, h.mem, fun t => ?_, h.refs, fun id sb hb => ?_, h.home, h.lt, h.inj, h.old⟩
  · refine SRep.ext he _ _ ?_ (h.tmps t)
    rw [LS.tmp_of]
    rw [List.getD_eq_getElem?_getD]
    cases ht : st.tmps[t]? with
    | none => rfl
    | some s => exact hmemL hs.1 s (List.mem_of_getElem? ht)
  · obtain ⟨h1, ⟨C, ty, fr, h2, h3, h4, h5, h6⟩, h7⟩ := h.blks id sb hb
    refine ⟨h1, ⟨C, ty, fr, h2, h3, h4, ?_, h6⟩, h7⟩
    have hin : (atomsCells sb.cells).all (Atom.lt st.vs.n) = true := by
      rw [LS.blk_of, List.getD_eq_getElem?_getD] at hb
      cases ht : st.heap[id]? with
      | none => rw [ht] at hb; cases hb
      | some b =>
        rw [ht] at hb
        simp only [Option.getD_some] at hb
        subst hb
        have := List.all_eq_true.1 hs.2 _ (List.mem_of_getElem? ht)
        simpa using this
    cases hc : sb.cells with
    | fix l =>
      rw [hc] at h5 hin
      obtain ⟨xs, ys, g1, g2⟩ := h5
      exact ⟨xs, ys, g1, SRepL.ext he l xs hin g2⟩
    | dyn x =>
      rw [hc] at h5 hin
      obtain ⟨cs, g1, g2⟩ := h5
      refine ⟨cs, ?_, g2⟩
      rw [← Atom.den_ext (a := x) (by simpa [atomsCells] using hin) he]
      exact g1
end Go.SE
set_option autoImplicit false
namespace Go.SE
open Go Go.RowKit
variable {P : Program} {M : Muts} {R : AEnd → Prop} {H : List (List AV → Prop)} {σ τ : List AV}
theorem pick_ok {E : Ent} {heap : Heap} {tmps : List SV} {o : Oper} {c x y : Operand} {ca : Atom} {sx sy : SV} {t : Bool} (ho : o.op = .pick c x y) (hc : opv tmps c = some (.atm ca)) (hx : opv tmps x = some sx) (hy : opv tmps y = some sy)
    (ht : ca.den τ = .bool t) : EffOk P E τ heap tmps o { res := if t then sx else sy } := by
  refine EffOk.pure rfl rfl fun X Φ μ a w hA hR => ?_
  have h1 := hA.rep hR (by simp [ho, Op.operands]) hc
  have h2 := hA.rep hR (by simp [ho, Op.operands]) hx
  have h3 := hA.rep hR (by simp [ho, Op.operands]) hy
  simp only [SRep, ht] at h1
  have h1 := h1.bool_inv
  refine ⟨if t then a.eval x else a.eval y, by simp [execOp, ho, h1, asBool], ?_⟩
  cases t
  · simpa using h3
  · simpa using h2
def Row (P : Program) (τ : List AV) (ops : Array Oper) (n : Nat) : Nat → LS → List Foot → LS → Prop
  | _, X, [], Y => Y = X
  | i, X, f :: fs, Y => OpDoes P τ ops i n f X ∧ Row P τ ops n (i + 1) (X.upd f.wr) fs Y
def OpPans (P : Program) (τ : List AV) (ops : Array Oper) (i n : Nat) (Xi : LS) (v : AV) : Prop :=
  ∀ (E : Ent) (Φ : Fix) (μ : Map) (a : Act) (w : World) (Q : Exit → Act → World → Prop) (K : Act → World → Prop), E.nt = n → SRel E τ Xi Φ μ a w →
    (∀ Φ' x, Rep Φ' v x → Mem E Φ' w → Q (.panic [{ v := x, recovered := false }]) a w) → wpOp P ops Q i K a w
theorem evalO_isifc {a v : AV} (h : evalO .isifc [a] = some v) : v = a ∧ ∃ t u, a = .ifc t u := by
  cases a <;> simp [evalO] at h
  subst h; exact ⟨rfl, _, _, rfl⟩
theorem guardT_path {all : List Oper} {o : Oper} {st : St} {k : Bool → VS → T} (hv : VOk st.vs σ H) (h : den P R H σ (guardT all o st k)) :
    ∃ run vs', GuardIs all o st σ run ∧ VOk vs' σ H ∧ vs'.n = st.vs.n ∧ den P R H σ (k run vs') := by
  unfold guardT at h
  split at h
  · rename_i hg
    exact ⟨true, st.vs, by simp [GuardIs, hg], hv, rfl, h⟩
  · rename_i j want hg
    split at h
    · rename_i t ht
      split at h
      · rename_i a ha
        split at h
        · rename_i hsk
          have : a = .c (.tup []) := by
            unfold isSkip at hsk
            split at hsk
            · rfl
            · cases hsk
          exact ⟨false, st.vs, by simp only [GuardIs, hg]; exact ⟨t, a, false, ht, ha, .inr ⟨this, trivial⟩⟩, hv, rfl, h⟩
        obtain ⟨b, vs', h1, h2, h3, _, _, h4⟩ := withBool_path hv h
        exact ⟨b == want, vs', by simp only [GuardIs, hg]; exact ⟨t, a, b, ht, ha, .inl ⟨h1, rfl⟩⟩, h2, h3, h4⟩
      · simp [den] at h
    · simp [den] at h
theorem GuardIs.ext {all : List Oper} {o : Oper} {st : St} {run : Bool} (h : GuardIs all o st σ run) (hp : σ <+: τ) : GuardIs all o st τ run := by
  unfold GuardIs at *
  split
  · simpa [*] using h
  · rename_i j want hg
    simp only [hg] at h
    obtain ⟨t, a, b, h1, h2, h34⟩ := h
    rcases h34 with ⟨h3, h4⟩ | h34
    case inr => exact ⟨t, a, b, h1, h2, .inr h34⟩
    refine ⟨t, a, b, h1, h2, .inl ⟨?_, h4⟩⟩
    rw [← h3]
    symm
    cases a with
    | c x => rfl
    | v i =>
      refine getD_of_pre hp ?_
      rcases Nat.lt_or_ge i σ.length with hi | hi
      · exact hi
      · exfalso
        simp only [Atom.den, List.getD_eq_getElem?_getD, List.getElem?_eq_none hi, Option.getD_none] at h3
        cases h3
theorem oneT_path {draw : Bool} {o : Oper} {st : St} {k : Eff → VS → T} (hv : VOk st.vs σ H) (h : den P R H σ (oneT P M draw o st k)) :
    (∃ e vs' σ', VOk vs' σ' H ∧ σ <+: σ' ∧ (∀ τ, σ' <+: τ → ∀ E, EffOk P E τ st.heap st.tmps o e) ∧ den P R H σ' (k e vs')) ∨
    (draw = false ∧ ∃ x s p e1 e2 em a σ', o.op = .panic x ∧ opv st.tmps x = some s ∧ freeze st.heap 8 s e1 = some (p, e2) ∧ e1 = st.vs.em ∧ emit .isifc [p.1] e2 = some (a, em) ∧ Hold P σ σ' em ∧ σ <+: σ' ∧ R (.pan (a.den σ'))) := by
  have plain : ∀ {k' : Eff → VS → T}, den P R H σ (match opStep P M st.heap st.tmps o st.vs.em with | some (e, em) => nodesT em.nodes (k' e (st.vs.of em)) | none => .fail) →
      ∃ e vs' σ', VOk vs' σ' H ∧ σ <+: σ' ∧ (∀ τ, σ' <+: τ → ∀ E, EffOk P E τ st.heap st.tmps o e) ∧ den P R H σ' (k' e vs') := fun h => by
    split at h
    · rename_i e em hs
      obtain ⟨σ', h1, h2⟩ := nodesT_path h
      obtain ⟨k1, k2⟩ := Keeps.opStep P M st.heap st.tmps o _ _ _ hs
      obtain ⟨m1, m2⟩ := hv.more k1 k2 h1
      exact ⟨e, st.vs.of em, σ', m1, h1.start, fun τ hτ E => (opStep_ok hs (m2 τ hτ)).2, h2⟩
    · simp [den] at h
  unfold oneT at h
  generalize ho : o.op = op at h
  split at h
  · rename_i c x y
    generalize hc : opv st.tmps c = oc at h
    generalize hx : opv st.tmps x = ox at h
    generalize hy : opv st.tmps y = oy at h
    split at h
    · rename_i ca sx sy
      obtain ⟨b, vs', h1, h2, _, _, _, h4⟩ := withBool_path hv h
      refine .inl ⟨_, vs', σ, h2, List.prefix_rfl, fun τ hτ E => pick_ok ho hc hx hy ?_, h4⟩
      have : ca.den τ = ca.den σ := by
        cases ca with
        | c x => rfl
        | v i =>
          refine (getD_of_pre hτ ?_).symm
          rcases Nat.lt_or_ge i σ.length with hi | hi
          · exact hi
          · exfalso
            simp only [Atom.den, List.getD_eq_getElem?_getD, List.getElem?_eq_none hi, Option.getD_none] at h1
            cases h1
      rw [this]; exact h1
    · simp [den] at h
  · rename_i x
    right
    split at h
    · simp [den] at h
    · rename_i hd
      refine ⟨by simpa using hd, ?_⟩
      generalize hx : opv st.tmps x = ox at h
      split at h
      · rename_i s
        split at h
        · rename_i a em hs
          obtain ⟨σ', h1, h2⟩ := nodesT_path h
          obtain ⟨p, e2, g1, g2⟩ := EM.bind_eq.1 hs
          obtain ⟨k1, k2⟩ := Keeps.freeze st.heap 8 s _ _ _ g1
          obtain ⟨k3, k4⟩ := Keeps.emit _ _ _ _ _ g2
          obtain ⟨m1, m2⟩ := hv.more (k3.trans k1) (k4.trans k2) h1
          exact ⟨x, s, p, _, e2, em, a, σ', rfl, hx, g1, rfl, g2, m2 σ' List.prefix_rfl, h1.start, by simpa [den] using h2⟩
        · simp [den] at h
      · simp [den] at h
  · exact .inl (plain h)
theorem opPans_of {ops : Array Oper} {i : Nat} {o : Oper} {st : St} {x : Operand} {s : SV} {p : Atom × List Nat} {e1 e2 em : Em} {a0 : Atom} (hi : ops[i]? = some o) (ho : o.op = .panic x)
    (hx : opv st.tmps x = some s) (hf : freeze st.heap 8 s e1 = some (p, e2)) (he : emit .isifc [p.1] e2 = some (a0, em)) (H : Hold P σ τ em) (hg : GuardIs ops.toList o st τ true) :
    OpPans P τ ops i st.tmps.length (LS.of st) (a0.den τ) := by
  intro E Φ μ a w Q K hn hR hQ
  obtain ⟨H1, q, _⟩ := emit_back he H
  obtain ⟨_, q1⟩ := freeze_back hf H1
  obtain ⟨r1, t, u, r2⟩ := evalO_isifc q
  have hids := freeze_ids hf
  obtain ⟨Φ1, k1, k2, k3⟩ := SRel.freezeMany (heap := st.heap) (unfrozen st.heap p.2) hR (fun id hi => by
    obtain ⟨m1, sb, m2, m3⟩ := unfrozen_mem.1 hi
    exact ⟨sb, m2, m3, .inl (by rw [LS.blk_of]; exact m2)⟩)
  have hst : Stays st.heap E τ p.2 Φ1 (LS.of st) Φ μ a w := by
    refine ⟨hR, k1, fun id hi => ⟨LS.blk_of st id, fun C t fr hh => ?_⟩⟩
    obtain ⟨sb, hsb⟩ := hids id hi
    cases hro : sb.ro with
    | false => exact k3 id (unfrozen_mem.2 ⟨hi, sb, hsb, hro⟩) C t fr hh
    | true =>
      obtain ⟨_, ⟨C', t', fr', g1, _, _, _, g6⟩, _⟩ := hR.blks id sb (by rw [LS.blk_of]; exact hsb)
      rw [g1] at hh; cases hh
      rw [hro] at g6
      exact k1 _ _ (by simpa using g6)
  have hv : SRep Φ μ τ s (a.eval x) := opv_rep hx hR fun t _ => LS.tmp_of st t
  have hrep := q1 E (LS.of st) Φ μ a w Φ1 _ hst hv
  have hw := wanted_of hg (fun t _ => rfl) hR
  unfold wpOp
  rw [hi]
  simp only [hw, if_true]
  left
  rw [r1, r2] at hQ
  rw [r2] at hrep
  have hrep' := hrep
  simp only [Rep] at hrep
  obtain ⟨v, hv1, hv2⟩ := hrep
  unfold Oper.wp
  have hrun : (execOp a.eval o).run P w = .halt (.panic (.iface t v)) w := by
    have hp : (Instr.panic (.iface t v)).run P w = .halt (.panic (.iface t v)) w := rfl
    simp [execOp, ho, hv1, hp]
  rw [hrun]
  rw [hv1] at hrep'
  exact hQ Φ1 _ hrep' k2.mem
theorem drop_cons {α : Type} {l os : List α} {o : α} {i : Nat} (h : l.drop i = o :: os) : l[i]? = some o ∧ l.drop (i + 1) = os := by
  have h1 : i < l.length := by
    rcases Nat.lt_or_ge i l.length with h' | h'
    · exact h'
    · rw [List.drop_eq_nil_of_le h'] at h; cases h
  rw [List.drop_eq_getElem_cons h1] at h
  cases h
  exact ⟨List.getElem?_eq_getElem h1, rfl⟩
theorem St.apply_tmps {st : St} {o : Oper} {e : Eff} {vs : VS} : (st.apply o e vs).tmps.length = st.tmps.length := by
  unfold St.apply putSV
  cases o.dst <;> simp
theorem seOps_path {draw : Bool} {ops : Array Oper} : ∀ (os : List Oper) (i : Nat) (fs : List Foot) (st : St) (k : St → List Foot → T) (σ : List AV), ops.toList.drop i = os → VOk st.vs σ H →
    den P R H σ (seOps P M draw ops.toList os fs st k) →
    (∃ st' fs' σ', VOk st'.vs σ' H ∧ σ <+: σ' ∧ inScope st' = true ∧ st'.tmps.length = st.tmps.length ∧ fs'.length = os.length ∧
      (∀ τ, σ' <+: τ → Row P τ ops st.tmps.length i (LS.of st) fs' (LS.of st')) ∧ den P R H σ' (k st' (fs ++ fs'))) ∨
    (draw = false ∧ ∃ fs' Y σ' v, R (.pan v) ∧ σ <+: σ' ∧ Row P σ' ops st.tmps.length i (LS.of st) fs' Y ∧ OpPans P σ' ops (i + fs'.length) st.tmps.length Y v ∧ i + fs'.length < ops.size)
  | [], i, fs, st, k, σ, ho, hv, h => by
    simp only [seOps] at h
    split at h
    · rename_i hs
      exact .inl ⟨st, [], σ, hv, List.prefix_rfl, hs, rfl, rfl, fun τ _ => rfl, by simpa using h⟩
    · simp [den] at h
  | o :: os, i, fs, st, k, σ, ho, hv, h => by
    obtain ⟨ho1, ho2⟩ := drop_cons ho
    have hoi : ops[i]? = some o := by simpa using ho1
    simp only [seOps] at h
    obtain ⟨run, vs', hg, hv', hn', h⟩ := guardT_path hv h
    cases run with
    | true =>
      simp only [if_true] at h
      rcases oneT_path (st := { st with vs := vs' }) hv' h with ⟨e, vs2, σ1, hv2, hp, hE, h⟩ | ⟨hd, x, s, p, e1, e2, em, a0, σ1, hx1, hx2, hx3, hx4, hx5, hx6, hp, hR⟩
      · split at h
        · rename_i hc
          simp only [Bool.and_eq_true] at hc
          have step : ∀ τ, σ1 <+: τ → OpDoes P τ ops i st.tmps.length (footOf ops.toList st.heap.length o e) (LS.of st) := fun τ hτ =>
            opDoes_eff hoi (fun E => hE τ hτ E) hc.1 hc.2 (hg.ext (List.IsPrefix.trans hp hτ))
          have hX := LS.apply_of (vs := vs2) hc.1 hc.2 ops.toList
          rcases seOps_path os (i + 1) _ _ k σ1 ho2 (by simpa [St.apply] using hv2) h with ⟨st', fs', σ', g1, g2, g3, g4, g5, g6, g7⟩ | ⟨hd, fs', Y, σ', v, g1, g2, g3, g4, g5⟩
          · refine .inl ⟨st', footOf ops.toList st.heap.length o e :: fs', σ', g1, List.IsPrefix.trans hp g2, g3, by rw [g4, St.apply_tmps], by simp [g5], fun τ hτ => ?_, by simpa using g7⟩
            refine ⟨step τ (List.IsPrefix.trans g2 hτ), ?_⟩
            have := g6 τ hτ
            rw [hX, St.apply_tmps] at this
            exact this
          · refine .inr ⟨hd, footOf ops.toList st.heap.length o e :: fs', Y, σ', v, g1, List.IsPrefix.trans hp g2, ⟨step σ' g2, ?_⟩, ?_, by rw [List.length_cons]; omega⟩
            · rw [hX, St.apply_tmps] at g3; exact g3
            · rw [St.apply_tmps] at g4
              rw [List.length_cons, show i + (fs'.length + 1) = i + 1 + fs'.length from by omega]
              exact g4
        · simp [den] at h
      · refine .inr ⟨hd, [], LS.of st, σ1, a0.den σ1, hR, hp, rfl, ?_, by simpa using (Array.getElem?_eq_some_iff.1 hoi).1⟩
        exact opPans_of hoi hx1 hx2 hx3 hx5 hx6 (hg.ext hp)
    | false =>
      simp only [Bool.false_eq_true, if_false] at h
      split at h
      · rename_i hc
        have step : ∀ τ, σ <+: τ → OpDoes P τ ops i st.tmps.length (footOf ops.toList st.heap.length o skipEff) (LS.of st) := fun τ hτ =>
          opDoes_skip hoi hc (hg.ext hτ)
        have hX := LS.apply_of (vs := vs') (e := skipEff) hc (by simp [skipEff, effOk, refsOk, effRefs, SV.refs]) ops.toList
        rcases seOps_path os (i + 1) _ _ k σ ho2 (by simpa [St.apply] using hv') h with ⟨st', fs', σ', g1, g2, g3, g4, g5, g6, g7⟩ | ⟨hd, fs', Y, σ', v, g1, g2, g3, g4, g5⟩
        · refine .inl ⟨st', footOf ops.toList st.heap.length o skipEff :: fs', σ', g1, g2, g3, by rw [g4, St.apply_tmps], by simp [g5], fun τ hτ => ?_, by simpa using g7⟩
          refine ⟨step τ (List.IsPrefix.trans g2 hτ), ?_⟩
          have := g6 τ hτ
          rw [hX, St.apply_tmps] at this
          exact this
        · refine .inr ⟨hd, footOf ops.toList st.heap.length o skipEff :: fs', Y, σ', v, g1, g2, ⟨step σ' g2, ?_⟩, ?_, by rw [List.length_cons]; omega⟩
          · rw [hX, St.apply_tmps] at g3; exact g3
          · rw [St.apply_tmps] at g4
            rw [List.length_cons, show i + (fs'.length + 1) = i + 1 + fs'.length from by omega]
            exact g4
      · simp [den] at h
end Go.SE
set_option autoImplicit false
namespace Go.SE
open Go Go.RowKit
def writes (f : Foot) (l : Nat) : Prop := ∃ p ∈ f.wr, p.1 = l
theorem upd_not {W : List (Nat × LV)} {l : Nat} : ∀ {X : LS}, (¬ ∃ p ∈ W, p.1 = l) → X.upd W l = X l := by
  induction W with
  | nil => intro X _; rfl
  | cons p W ih =>
    intro X h
    rw [LS.upd_cons, ih (fun ⟨q, hq, e⟩ => h ⟨q, by simp [hq], e⟩)]
    unfold LS.set
    rw [if_neg (fun e => h ⟨p, by simp, e.symm⟩)]
theorem upd_same {W : List (Nat × LV)} {l : Nat} : ∀ {X X' : LS}, X l = X' l → X.upd W l = X'.upd W l := by
  induction W with
  | nil => intro X X' h; exact h
  | cons p W ih =>
    intro X X' h
    rw [LS.upd_cons, LS.upd_cons]
    refine ih ?_
    unfold LS.set
    split
    · rfl
    · exact h
theorem upd_wrote {W : List (Nat × LV)} {l : Nat} : ∀ {X X' : LS}, (∃ p ∈ W, p.1 = l) → X.upd W l = X'.upd W l := by
  induction W with
  | nil => intro X X' h; obtain ⟨p, hp, _⟩ := h; cases hp
  | cons p W ih =>
    intro X X' h
    rw [LS.upd_cons, LS.upd_cons]
    by_cases hw : ∃ q ∈ W, q.1 = l
    · exact ih hw
    · refine upd_same ?_
      obtain ⟨q, hq, e⟩ := h
      rcases List.mem_cons.1 hq with rfl | hq
      · unfold LS.set; rw [if_pos e.symm, if_pos e.symm]
      · exact absurd ⟨q, hq, e⟩ hw
def part (S : Nat → Bool) : Nat → List Foot → LS → LS
  | _, [], X => X
  | i, f :: fs, X => part S (i + 1) fs (if S i then X.upd f.wr else X)
def seqAt : Nat → List Foot → LS → LS
  | 0, _, X => X
  | _, [], X => X
  | k + 1, f :: fs, X => seqAt k fs (X.upd f.wr)
theorem part_not {S : Nat → Bool} {l : Nat} : ∀ {fs : List Foot} {i : Nat} {X : LS}, (∀ k f, fs[k]? = some f → S (i + k) = true → ¬ writes f l) → part S i fs X l = X l
  | [], _, _, _ => rfl
  | f :: fs, i, X, h => by
    simp only [part]
    rw [part_not (fs := fs) (fun k g hg hs => h (k + 1) g hg (by rw [show i + (k + 1) = i + 1 + k from by omega]; exact hs))]
    split
    · rename_i hs
      exact upd_not (h 0 f rfl hs)
    · rfl
theorem part_same {S : Nat → Bool} {l : Nat} : ∀ {fs : List Foot} {i : Nat} {X X' : LS}, X l = X' l → part S i fs X l = part S i fs X' l
  | [], _, _, _, h => h
  | f :: fs, i, X, X', h => by
    simp only [part]
    refine part_same ?_
    split
    · exact upd_same h
    · exact h
theorem part_seq {S : Nat → Bool} {l : Nat} : ∀ {fs : List Foot} {i k : Nat} {X X' : LS}, k < fs.length → X l = X' l → S (i + k) = false →
    (∀ m f, fs[m]? = some f → m < k → S (i + m) = false → ¬ writes f l) → (∀ m f, fs[m]? = some f → k < m → S (i + m) = true → ¬ writes f l) → part S i fs X l = seqAt k fs X' l
  | [], _, _, _, _, hk, _, _, _, _ => by simp at hk
  | f :: fs, i, 0, X, X', _, hX, hS, _, ha => by
    simp only [part, seqAt]
    rw [part_not (fun k g hg hs => ha (k + 1) g hg (by omega) (by rw [show i + (k + 1) = i + 1 + k from by omega]; exact hs))]
    rw [if_neg (by simpa using hS)]
    exact hX
  | f :: fs, i, k + 1, X, X', hk, hX, hS, hb, ha => by
    simp only [part, seqAt]
    refine part_seq (by simpa using hk) ?_ (by rw [show i + 1 + k = i + (k + 1) from by omega]; exact hS)
      (fun m g hg hm hs => hb (m + 1) g hg (by omega) (by rw [show i + (m + 1) = i + 1 + m from by omega]; exact hs))
      (fun m g hg hm hs => ha (m + 1) g hg (by omega) (by rw [show i + (m + 1) = i + 1 + m from by omega]; exact hs))
    split
    · exact upd_same hX
    · rename_i hs
      rw [upd_not (hb 0 f rfl (by omega) (by simpa using hs))]
      exact hX
theorem part_congr {S S' : Nat → Bool} : ∀ {fs : List Foot} {i : Nat} {X : LS}, (∀ k, k < fs.length → S (i + k) = S' (i + k)) → part S i fs X = part S' i fs X
  | [], _, _, _ => rfl
  | f :: fs, i, X, h => by
    simp only [part]
    rw [show S i = S' i from h 0 (by simp)]
    exact part_congr fun k hk => by
      have := h (k + 1) (by simpa using hk)
      rw [show i + 1 + k = i + (k + 1) from by omega]; exact this
theorem part_set {S S' : Nat → Bool} {l : Nat} : ∀ {fs : List Foot} {i k : Nat} {X : LS} {f : Foot}, fs[k]? = some f → S (i + k) = false → S' (i + k) = true → (∀ m, m ≠ k → S' (i + m) = S (i + m)) →
    (∀ m g, fs[m]? = some g → k < m → S (i + m) = true → ∀ p ∈ f.wr, ∀ q ∈ g.wr, q.1 ≠ p.1) → part S' i fs X l = ((part S i fs X).upd f.wr) l
  | [], _, _, _, _, h, _, _, _, _ => by simp at h
  | g :: fs, i, 0, X, f, h, h0, h1, h2, h3 => by
    have : g = f := by simpa using h
    subst this
    simp only [part]
    have h0' : S i = false := by simpa using h0
    have h1' : S' i = true := by simpa using h1
    rw [h0', h1', if_pos rfl, if_neg (by simp)]
    have hc : part S' (i + 1) fs (X.upd g.wr) = part S (i + 1) fs (X.upd g.wr) := part_congr fun k _ => by
      have := h2 (k + 1) (by omega)
      rw [show i + 1 + k = i + (k + 1) from by omega]; exact this
    rw [hc]
    by_cases hw : ∃ p ∈ g.wr, p.1 = l
    · rw [part_not (fun k f' hf hs => ?_)]
      · exact upd_wrote hw
      · rintro ⟨q, hq, e⟩
        obtain ⟨p, hp, e'⟩ := hw
        exact h3 (k + 1) f' hf (by omega) (by rw [show i + (k + 1) = i + 1 + k from by omega]; exact hs) p hp q hq (e.trans e'.symm)
    · rw [upd_not hw]
      exact part_same (upd_not hw)
  | g :: fs, i, k + 1, X, f, h, h0, h1, h2, h3 => by
    simp only [part]
    have := h2 0 (by omega)
    simp only [Nat.add_zero] at this
    rw [this]
    exact part_set (k := k) (by simpa using h) (by rw [show i + 1 + k = i + (k + 1) from by omega]; exact h0) (by rw [show i + 1 + k = i + (k + 1) from by omega]; exact h1)
      (fun m hm => by rw [show i + 1 + m = i + (m + 1) from by omega]; exact h2 (m + 1) (by omega))
      (fun m g' hg hm hs => h3 (m + 1) g' hg (by omega) (by rw [show i + (m + 1) = i + 1 + m from by omega]; exact hs))
theorem part_none {S : Nat → Bool} : ∀ {fs : List Foot} {i : Nat} {X : LS}, (∀ k, k < fs.length → S (i + k) = false) → part S i fs X = X
  | [], _, _, _ => rfl
  | f :: fs, i, X, h => by
    simp only [part]
    have := h 0 (by simp)
    simp only [Nat.add_zero] at this
    rw [this, if_neg (by simp)]
    exact part_none fun k hk => by
      rw [show i + 1 + k = i + (k + 1) from by omega]; exact h (k + 1) (by simpa using hk)
theorem part_all {S : Nat → Bool} : ∀ {fs : List Foot} {i : Nat} {X : LS}, (∀ k, k < fs.length → S (i + k) = true) → part S i fs X = seqAt fs.length fs X
  | [], _, _, _ => rfl
  | f :: fs, i, X, h => by
    simp only [part, seqAt, List.length_cons]
    have := h 0 (by simp)
    simp only [Nat.add_zero] at this
    rw [this, if_pos rfl]
    exact part_all fun k hk => by
      rw [show i + 1 + k = i + (k + 1) from by omega]; exact h (k + 1) (by simpa using hk)
section rows
variable {P : Program} {τ : List AV} {ops : Array Oper} {n : Nat}
theorem Row.at : ∀ {fs : List Foot} {i : Nat} {X Y : LS} {k : Nat} {f : Foot}, Row P τ ops n i X fs Y → fs[k]? = some f → OpDoes P τ ops (i + k) n f (seqAt k fs X)
  | [], _, _, _, _, _, _, h => by simp at h
  | g :: fs, i, X, Y, 0, f, h, hf => by
    have : g = f := by simpa using hf
    subst this
    exact h.1
  | g :: fs, i, X, Y, k + 1, f, h, hf => by
    have := Row.at h.2 (k := k) (f := f) (by simpa using hf)
    rw [show i + (k + 1) = i + 1 + k from by omega]
    exact this
theorem Row.last : ∀ {fs : List Foot} {i : Nat} {X Y : LS}, Row P τ ops n i X fs Y → Y = seqAt fs.length fs X
  | [], _, _, _, h => h
  | g :: fs, i, X, Y, h => by
    have := Row.last (fs := fs) h.2
    exact this
end rows
theorem masks_take : ∀ (os : List Oper) (acc : List Nat), (masks os acc).take acc.length = acc
  | [], acc => by simp [masks]
  | o :: os, acc => by
    rw [masks]
    have := masks_take os (acc ++ [(preds o).foldl (fun m i => m ||| 2 ^ i ||| acc.getD i 0) 0])
    have h2 := congrArg (List.take acc.length) this
    rw [List.take_take] at h2
    simp only [List.length_append, List.length_singleton, List.take_left'] at h2
    rw [Nat.min_eq_left (by omega)] at h2
    exact h2
theorem masks_at : ∀ (os : List Oper) (acc : List Nat) (k : Nat) (o : Oper), os[k]? = some o →
    (masks os acc).getD (acc.length + k) 0 = (preds o).foldl (fun m i => m ||| 2 ^ i ||| ((masks os acc).take (acc.length + k)).getD i 0) 0
  | [], _, _, _, h => by simp at h
  | o' :: os, acc, 0, o, h => by
    have : o' = o := by simpa using h
    subst this
    simp only [Nat.add_zero]
    rw [masks_take]
    rw [masks]
    have := masks_take os (acc ++ [(preds o').foldl (fun m i => m ||| 2 ^ i ||| acc.getD i 0) 0])
    rw [List.length_append, List.length_singleton] at this
    have h2 := congrArg (fun l : List Nat => l[acc.length]?) this
    simp only [List.getElem?_take_of_lt (Nat.lt_succ_self _)] at h2
    rw [List.getD_eq_getElem?_getD, h2]
    simp
  | o' :: os, acc, k + 1, o, h => by
    have ih := masks_at os (acc ++ [(preds o').foldl (fun m i => m ||| 2 ^ i ||| acc.getD i 0) 0]) k o (by simpa using h)
    rw [masks]
    simp only [List.length_append, List.length_singleton] at ih
    rw [show acc.length + (k + 1) = acc.length + 1 + k from by omega]
    exact ih
theorem foldl_bit {ms : List Nat} {b : Nat} : ∀ {l : List Nat} {m : Nat}, (l.foldl (fun m i => m ||| 2 ^ i ||| ms.getD i 0) m).testBit b = true →
    m.testBit b = true ∨ ∃ i ∈ l, i = b ∨ (ms.getD i 0).testBit b = true
  | [], m, h => .inl h
  | i :: l, m, h => by
    rcases foldl_bit (l := l) h with h1 | ⟨j, hj, h1⟩
    · rw [Nat.testBit_or, Nat.testBit_or] at h1
      simp only [Bool.or_eq_true] at h1
      rcases h1 with (h1 | h1) | h1
      · exact .inl h1
      · rw [Nat.testBit_two_pow] at h1
        exact .inr ⟨i, by simp, .inl (by simpa using h1)⟩
      · exact .inr ⟨i, by simp, .inr h1⟩
    · exact .inr ⟨j, by simp [hj], h1⟩
theorem mask_in {ops : List Oper} {S : Nat → Bool} (hcl : ∀ j o, ops[j]? = some o → S j = true → ∀ i ∈ preds o, S i = true) :
    ∀ (j : Nat) (o : Oper), ops[j]? = some o → (∀ i ∈ preds o, S i = true) → ∀ b, ((masks ops []).getD j 0).testBit b = true → S b = true := by
  intro j
  induction j using Nat.strongRecOn with
  | _ j ih =>
    intro o ho hp b hb
    have hm := masks_at ops [] j o ho
    simp only [List.length_nil, Nat.zero_add] at hm
    rw [hm] at hb
    rcases foldl_bit hb with h | ⟨i, hi, h⟩
    · simp at h
    · rcases h with rfl | h
      · exact hp i hi
      · have hij : i < j := by
          rcases Nat.lt_or_ge i j with h' | h'
          · exact h'
          · rw [List.getD_eq_getElem?_getD, List.getElem?_eq_none (by simp; omega)] at h
            simp at h
        have hlen : i < ops.length := by
          have := (List.getElem?_eq_some_iff.1 ho).1
          omega
        have h' : ((masks ops []).getD i 0).testBit b = true := by
          rw [List.getD_eq_getElem?_getD] at h ⊢
          rw [List.getElem?_take_of_lt hij] at h
          exact h
        exact ih i hij ops[i] (List.getElem?_eq_getElem hlen) (hcl i ops[i] (List.getElem?_eq_getElem hlen) (hp i hi)) b h'
end Go.SE
