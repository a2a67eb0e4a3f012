/- Nothing of the statement is proved here: this text lays the symbolic executor and its soundness, part 5; no conditions. -/
import Derived.Test.YtomjfjncfodmhaaSe4
set_option linter.all false
set_option autoImplicit false
namespace Go.SE
open Go Go.RowKit
variable {P : Program} {M : Muts} {R : AEnd → Prop} {H : List (List AV → Prop)} {σ τ : List AV} {ops : Array Oper} {n B : Nat}
theorem not_clash {f g : Foot} (h : clash f g = false) : (∀ p ∈ f.wr, p.1 ∉ g.rd) ∧ (∀ p ∈ f.wr, ∀ q ∈ g.wr, q.1 ≠ p.1) ∧ ∀ p ∈ g.wr, p.1 ∉ f.rd := by
  simp only [clash, Bool.or_eq_false_iff, List.any_eq_false, Bool.or_eq_true, List.contains_iff_mem, List.any_eq_true, not_or, not_exists, not_and] at h
  refine ⟨fun p hp => (h.1 p hp).1, fun p hp q hq e => (h.1 p hp).2 q hq ?_, fun p hp => h.2 p hp⟩
  rw [e]; exact Nat.beq_refl _
theorem pairs_of {ms : List Nat} {fs : List Foot} (h : pairsOk ms fs = true) {i j : Nat} {f g : Foot} (hij : i < j) (hf : fs[i]? = some f) (hg : fs[j]? = some g) (hb : (ms.getD j 0).testBit i = false) : clash f g = false := by
  unfold pairsOk at h
  rw [List.all_eq_true] at h
  have h1 := h j (List.mem_range.2 (List.getElem?_eq_some_iff.1 hg).1)
  rw [hg] at h1
  simp only [List.all_eq_true] at h1
  have h2 := h1 i (List.mem_range.2 hij)
  rw [hf] at h2
  simp only [hb, Bool.or_false, Bool.not_eq_true'] at h2
  exact h2
theorem predsOk_at : ∀ {os : List Oper} {m : Nat}, predsOk m os = true → ∀ {k : Nat} {o : Oper}, os[k]? = some o → ∀ i ∈ preds o, i < m + k
  | [], _, _, _, _, h => by simp at h
  | o :: os, m, h, 0, o', ho => by
    have : o = o' := by simpa using ho
    subst this
    simp only [predsOk, Bool.and_eq_true, List.all_eq_true] at h
    intro i hi
    have := h.1 i hi
    simpa [Nat.blt_eq] using this
  | o :: os, m, h, k + 1, o', ho => by
    simp only [predsOk, Bool.and_eq_true] at h
    intro i hi
    have := predsOk_at h.2 (k := k) (o := o') (by simpa using ho) i hi
    omega
theorem mem_preds {o : Oper} {i : Nat} : i ∈ preds o ↔ ∃ e ∈ o.after, Region.binds .any e = true ∧ e.on = i := by
  unfold preds
  rw [List.mem_filterMap]
  constructor
  · rintro ⟨e, he, h⟩
    split at h
    · rename_i hb
      exact ⟨e, by simpa using he, hb, by simpa using h⟩
    · cases h
  · rintro ⟨e, he, hb, h⟩
    exact ⟨e, by simpa using he, by rw [if_pos hb, h]⟩
def isIn (listed : Array Bool) (i : Nat) : Bool := listed.getD i false
theorem getD_tf {listed : Array Bool} {i : Nat} (h : i < listed.size) : listed.getD i true = listed.getD i false := by
  simp [h]
theorem any_ok {fs : List Foot} {X Y : LS} {Q : Exit → Act → World → Prop} (hord : orderOk ops.toList fs = true) (hrow : Row P τ ops n 0 X fs Y) {E : Ent} (hn : E.nt = n)
    (hQ : ∀ Φ μ a w, SRel E τ Y Φ μ a w → Q .normal a w) : ∀ (fuel : Nat) (listed : Array Bool) (Φ : Fix) (μ : Map) (a : Act) (w : World), listed.size = ops.size →
    (∀ j o, ops.toList[j]? = some o → isIn listed j = true → ∀ i ∈ preds o, isIn listed i = true) → ((List.range ops.size).filter fun i => !isIn listed i).length ≤ fuel →
    SRel E τ (part (isIn listed) 0 fs X) Φ μ a w → wpAny P .any ops Q fuel listed a w := by
  simp only [orderOk, Bool.and_eq_true] at hord
  obtain ⟨⟨⟨o1, o2⟩, o3⟩, o4⟩ := hord
  have hfl : fs.length = ops.size := by have := Nat.eq_of_beq_eq_true o1; simpa using this
  -- if none is ready all is done
  have done : ∀ (listed : Array Bool), listed.size = ops.size → Region.ready .any ops listed = [] → ∀ j, j < ops.size → isIn listed j = true := by
    intro listed hsz hr j
    induction j using Nat.strongRecOn with
    | _ j ih =>
      intro hj
      cases hb : isIn listed j with
      | true => rfl
      | false =>
        exfalso
        have : j ∈ Region.ready .any ops listed := by
          rw [mem_ready]
          refine ⟨by rw [getD_tf (by omega)]; exact hb, ops[j], Array.getElem?_eq_getElem hj, fun e he hbd => ?_⟩
          have hlt := predsOk_at o2 (k := j) (o := ops[j]) (by simp [hj]) e.on (mem_preds.2 ⟨e, he, hbd, rfl⟩)
          simp only [Nat.zero_add] at hlt
          exact ih e.on hlt (by omega)
        rw [hr] at this
        cases this
  have fin : ∀ (listed : Array Bool) Φ μ a w, listed.size = ops.size → Region.ready .any ops listed = [] → SRel E τ (part (isIn listed) 0 fs X) Φ μ a w → Q .normal a w := fun listed Φ μ a w hsz hr hR => by
    have := done listed hsz hr
    rw [part_all (fun k hk => by rw [Nat.zero_add]; exact this k (by omega)), ← hrow.last] at hR
    exact hQ Φ μ a w hR
  intro fuel
  induction fuel with
  | zero =>
    intro listed Φ μ a w hsz hcl hlen hR
    have hr : Region.ready .any ops listed = [] := by
      rw [List.eq_nil_iff_forall_not_mem]
      intro j hj
      obtain ⟨h0, o, ho, _⟩ := mem_ready.1 hj
      have hjs := (Array.getElem?_eq_some_iff.1 ho).1
      rw [getD_tf (by omega)] at h0
      have : (List.range ops.size).filter (fun i => !isIn listed i) = [] := List.length_eq_zero_iff.1 (by omega)
      have hm : j ∈ (List.range ops.size).filter (fun i => !isIn listed i) := List.mem_filter.2 ⟨List.mem_range.2 hjs, by unfold isIn; rw [h0]; rfl⟩
      rw [this] at hm
      cases hm
    exact ⟨hr, fin listed Φ μ a w hsz hr hR⟩
  | succ fuel ih =>
    intro listed Φ μ a w hsz hcl hlen hR
    refine ⟨fun hr => fin listed Φ μ a w hsz hr hR, fun j hj => ?_⟩
    obtain ⟨h0, o, ho, hall⟩ := mem_ready.1 hj
    have hjs := (Array.getElem?_eq_some_iff.1 ho).1
    rw [getD_tf (by omega)] at h0
    have hjf : isIn listed j = false := h0
    have hol : ops.toList[j]? = some o := by simpa using ho
    obtain ⟨f, hf⟩ : ∃ f, fs[j]? = some f := ⟨fs[j]'(by omega), List.getElem?_eq_getElem (by omega)⟩
    have hpj : ∀ i ∈ preds o, isIn listed i = true := fun i hi => by
      obtain ⟨e, he, hb, rfl⟩ := mem_preds.1 hi
      exact hall e he hb
    -- those ahead of j have been done
    have hahead : ∀ i, ((masks ops.toList []).getD j 0).testBit i = true → isIn listed i = true := mask_in hcl j o hol hpj
    -- j is not ahead of any that has been done
    have hbehind : ∀ i o', ops.toList[i]? = some o' → isIn listed i = true → ((masks ops.toList []).getD i 0).testBit j = false := fun i o' ho' hi => by
      cases hb : ((masks ops.toList []).getD i 0).testBit j with
      | false => rfl
      | true =>
        have := mask_in hcl i o' ho' (hcl i o' ho' hi) j hb
        rw [hjf] at this
        cases this
    have hcb : ∀ m g, fs[m]? = some g → m < j → isIn listed m = false → clash g f = false := fun m g hg hm hs => by
      refine pairs_of o4 hm hg hf ?_
      cases hb : ((masks ops.toList []).getD j 0).testBit m with
      | false => rfl
      | true => rw [hahead m hb] at hs; cases hs
    have hca : ∀ m g, fs[m]? = some g → j < m → isIn listed m = true → clash f g = false := fun m g hg hm hs => by
      refine pairs_of o4 hm hf hg ?_
      have hml : m < ops.size := by have := (List.getElem?_eq_some_iff.1 hg).1; omega
      exact hbehind m ops[m] (by simp [hml]) hs
    have hdo := hrow.at hf
    rw [Nat.zero_add] at hdo
    refine hdo E (part (isIn listed) 0 fs X) Φ μ a w Q _ hn (fun l hl => ?_) hR fun Φ' μ' a' w' hR' => ?_
    · refine part_seq (by omega) rfl (by rw [Nat.zero_add]; exact hjf) (fun m g hg hm hs => ?_) (fun m g hg hm hs => ?_)
      · rw [Nat.zero_add] at hs
        rintro ⟨p, hp, e⟩
        exact (not_clash (hcb m g hg hm hs)).1 p hp (e ▸ hl)
      · rw [Nat.zero_add] at hs
        rintro ⟨p, hp, e⟩
        exact (not_clash (hca m g hg hm hs)).2.2 p hp (e ▸ hl)
    · have hset : ∀ i, isIn (listed.setIfInBounds j true) i = if i = j then true else isIn listed i := fun i => by
        unfold isIn
        by_cases h : i = j
        · subst h; rw [if_pos rfl]; simp [hsz, hjs]
        · rw [if_neg h]; exact getD_set_ne false (Ne.symm h)
      refine ih (listed.setIfInBounds j true) Φ' μ' a' w' (by simpa using hsz) (fun i o' ho' hi p hp => ?_) ?_ ?_
      · rw [hset] at hi ⊢
        by_cases hpj' : p = j
        · rw [if_pos hpj']
        · rw [if_neg hpj']
          by_cases hij : i = j
          · subst hij
            rw [hol] at ho'; cases ho'
            exact hpj p hp
          · rw [if_neg hij] at hi
            exact hcl i o' ho' hi p hp
      · have hlt : ((List.range ops.size).filter fun i => !isIn (listed.setIfInBounds j true) i).length < ((List.range ops.size).filter fun i => !isIn listed i).length := by
          have e1 : ((List.range ops.size).filter fun i => !isIn (listed.setIfInBounds j true) i) = ((List.range ops.size).filter fun i => !isIn listed i).filter fun i => i != j := by
            rw [List.filter_filter]
            congr 1
            funext i
            rw [hset]
            by_cases h : i = j
            · subst h; simp
            · rw [if_neg h]; simp [h]
          rw [e1]
          refine List.length_filter_lt_length_iff_exists.2 ⟨j, List.mem_filter.2 ⟨List.mem_range.2 hjs, by rw [hjf]; rfl⟩, by simp⟩
        omega
      · have : part (isIn (listed.setIfInBounds j true)) 0 fs X = (part (isIn listed) 0 fs X).upd f.wr := by
          funext l
          refine part_set hf (by rw [Nat.zero_add]; exact hjf) (by rw [Nat.zero_add, hset, if_pos rfl]) (fun m hm => by rw [Nat.zero_add, hset, if_neg hm]) (fun m g hg hm hs p hp q hq => ?_)
          rw [Nat.zero_add] at hs
          exact (not_clash (hca m g hg hm hs)).2.1 p hp q hq
        rw [this]
        exact hR'
theorem seq_ok {E : Ent} (hn : E.nt = n) {Q : Exit → Act → World → Prop} : ∀ {fs : List Foot} {i : Nat} {X Y : LS} {Φ : Fix} {μ : Map} {a : Act} {w : World} {l : List Nat}, Row P τ ops n i X fs Y → SRel E τ X Φ μ a w →
    (∀ Φ μ a w, SRel E τ Y Φ μ a w → wpOps P ops Q l a w) → wpOps P ops Q (List.range' i fs.length ++ l) a w
  | [], i, X, Y, Φ, μ, a, w, l, hr, hR, hQ => by
    have : Y = X := hr
    subst this
    exact hQ Φ μ a w hR
  | f :: fs, i, X, Y, Φ, μ, a, w, l, hr, hR, hQ => by
    rw [List.length_cons, List.range'_succ, List.cons_append, wpOps_cons]
    exact hr.1 E X Φ μ a w Q _ hn (fun _ _ => rfl) hR fun Φ' μ' a' w' h => seq_ok hn hr.2 h hQ
def Does (P : Program) (B : Nat) (c : Code) (st : St) (σ : List AV) (e : Ex) (st' : St) (σ' : List AV) : Prop :=
  ∀ (E : Ent) (Φ : Fix) (μ : Map) (a : Act) (w : World) (Q : Exit → Act → World → Prop), (E.nt = st.tmps.length ∧ E.base = B) → SRel E σ (LS.of st) Φ μ a w →
    (∀ Φ' μ' a' w', SRel E σ' (LS.of st') Φ' μ' a' w' → Q (match e with | .normal => .normal | .exit i => .exit i | .ret => .ret) a' w') → c.wp P Q a w
def Pans (P : Program) (B : Nat) (c : Code) (st : St) (σ : List AV) (v : AV) : Prop :=
  ∀ (E : Ent) (Φ : Fix) (μ : Map) (a : Act) (w : World) (Q : Exit → Act → World → Prop), (E.nt = st.tmps.length ∧ E.base = B) → SRel E σ (LS.of st) Φ μ a w →
    (∀ Φ' a' w' x, Rep Φ' v x → Mem E Φ' w' → a'.defers = [] → Q (.panic [{ v := x, recovered := false }]) a' w') → c.wp P Q a w
theorem seRegion_path (hm : P.follows .mixedOrders = true) {id : Nat} {draw : Bool} {st : St} {k : St → T} (hv : VOk st.vs σ H) (hs : inScope st = true) (h : den P R H σ (seRegion P M draw ops.toList st k)) :
    (∃ st' σ', VOk st'.vs σ' H ∧ σ <+: σ' ∧ inScope st' = true ∧ st'.tmps.length = st.tmps.length ∧ Does P B (.region id ops draw) st σ .normal st' σ' ∧ den P R H σ' (k st')) ∨
    (∃ v, R (.pan v) ∧ Pans P B (.region id ops draw) st σ v) := by
  unfold seRegion at h
  rcases seOps_path ops.toList 0 [] st _ σ rfl hv h with ⟨st', fs', σ', g1, g2, g3, g4, g5, g6, g7⟩ | ⟨hd, fs', Y, σ', v, g1, g2, g3, g4, g5⟩
  · simp only [List.nil_append] at g7
    split at g7
    · simp [den] at g7
    · rename_i hc
      refine .inl ⟨st', σ', g1, g2, g3, g4, ?_, g7⟩
      intro E Φ μ a w Q hn hR hQ
      have hR' := hR.ext hs hv.len g2
      have hrow := g6 σ' List.prefix_rfl
      cases draw with
      | true =>
        have hord : orderOk ops.toList fs' = true := by simpa using hc
        refine wp_region_any hm ?_
        have hd : SRel E σ' (part (isIn (Array.replicate ops.size false)) 0 fs' (LS.of st)) Φ μ a w.drew := by
          rw [part_none (fun k hk => by
            unfold isIn
            rw [Array.getD_eq_getD_getElem?]
            simp only [Array.getElem?_replicate]
            split <;> rfl)]
          exact hR'.drew
        refine any_ok hord hrow hn.1 hQ ops.size _ Φ μ a w.drew (by simp) (fun j o ho hi => ?_) ?_ hd
        · exfalso
          unfold isIn at hi
          rw [Array.getD_eq_getD_getElem?] at hi
          simp only [Array.getElem?_replicate] at hi
          split at hi <;> simp at hi
        · exact Nat.le_trans (List.length_filter_le _ _) (by simp)
      | false =>
        refine wp_region ?_
        have hl : fs'.length = ops.size := by simpa using g5
        have := seq_ok hn.1 (l := []) (Q := Q) hrow hR' (fun Φ μ a w h => by simpa [wpOps] using hQ Φ μ a w h)
        rw [hl, List.append_nil, ← List.range_eq_range'] at this
        exact this
  · refine .inr ⟨v, g1, ?_⟩
    subst hd
    intro E Φ μ a w Q hn hR hQ
    have hR' := hR.ext hs hv.len g2
    refine wp_region ?_
    rw [Nat.zero_add] at g4
    have hlen : fs'.length < ops.size := by omega
    have hsplit : List.range ops.size = List.range' 0 fs'.length ++ fs'.length :: List.range' (fs'.length + 1) (ops.size - fs'.length - 1) := by
      rw [List.range_eq_range', ← List.range'_succ]
      rw [show ops.size - fs'.length - 1 + 1 = ops.size - fs'.length from by omega]
      have := @List.range'_append_1 0 fs'.length (ops.size - fs'.length)
      rw [Nat.zero_add] at this
      rw [this]
      congr 1; omega
    rw [hsplit]
    refine seq_ok hn.1 g3 hR' fun Φ1 μ1 a1 w1 h1 => ?_
    rw [wpOps_cons]
    exact g4 E Φ1 μ1 a1 w1 Q _ hn.1 h1 fun Φ' x hx hmem => hQ Φ' a1 w1 x hx hmem h1.dfr
end Go.SE
set_option autoImplicit false
namespace Go.SE
open Go Go.RowKit
variable {P : Program} {R : AEnd → Prop} {H : List (List AV → Prop)} {σ0 σ σn τ : List AV}
mutual
theorem AV.beq_eq : ∀ (a b : AV), AV.beq a b = true → a = b
  | .int k n, b, h => by
    cases b <;> simp only [AV.beq, Bool.and_eq_true, decide_eq_true_eq, reduceCtorEq] at h
    rw [h.1, h.2]
  | .bool x, b, h => by
    cases b <;> simp only [AV.beq, beq_iff_eq, reduceCtorEq] at h
    rw [h]
  | .str s, b, h => by
    cases b <;> simp only [AV.beq, decide_eq_true_eq, reduceCtorEq] at h
    rename_i s'
    obtain ⟨⟨d⟩⟩ := s
    obtain ⟨⟨d'⟩⟩ := s'
    simp only at h
    rw [h]
  | .agg l, b, h => by
    cases b <;> simp only [AV.beq, reduceCtorEq] at h
    rw [AV.beqL_eq l _ h]
  | .tup l, b, h => by
    cases b <;> simp only [AV.beq, reduceCtorEq] at h
    rw [AV.beqL_eq l _ h]
  | .rp l, b, h => by
    cases b <;> simp only [AV.beq, reduceCtorEq] at h
    rw [AV.beqL_eq l _ h]
  | .lst l, b, h => by
    cases b <;> simp only [AV.beq, reduceCtorEq] at h
    rw [AV.beqL_eq l _ h]
  | .sl n l, b, h => by
    cases b <;> simp only [AV.beq, Bool.and_eq_true, reduceCtorEq] at h
    rw [Nat.eq_of_beq_eq_true h.1, AV.beqL_eq l _ h.2]
  | .nils, b, h => by cases b <;> simp only [AV.beq, reduceCtorEq] at h; rfl
  | .c0, b, h => by cases b <;> simp only [AV.beq, reduceCtorEq] at h; rfl
  | .emp, b, h => by cases b <;> simp only [AV.beq, reduceCtorEq] at h; rfl
  | .nilp, b, h => by cases b <;> simp only [AV.beq, reduceCtorEq] at h; rfl
  | .nilf, b, h => by cases b <;> simp only [AV.beq, reduceCtorEq] at h; rfl
  | .nili, b, h => by cases b <;> simp only [AV.beq, reduceCtorEq] at h; rfl
  | .nilm, b, h => by cases b <;> simp only [AV.beq, reduceCtorEq] at h; rfl
  | .fn f l, b, h => by
    cases b <;> simp only [AV.beq, Bool.and_eq_true, decide_eq_true_eq, reduceCtorEq] at h
    rw [h.1, AV.beqL_eq l _ h.2]
  | .ifc t v, b, h => by
    cases b <;> simp only [AV.beq, Bool.and_eq_true, reduceCtorEq] at h
    rw [Nat.eq_of_beq_eq_true h.1, AV.beq_eq v _ h.2]
theorem AV.beqL_eq : ∀ (a b : List AV), AV.beqL a b = true → a = b
  | [], [], _ => rfl
  | a :: l, b :: l', h => by
    simp only [AV.beqL, Bool.and_eq_true] at h
    rw [AV.beq_eq a b h.1, AV.beqL_eq l l' h.2]
  | [], _ :: _, h => by simp [AV.beqL] at h
  | _ :: _, [], h => by simp [AV.beqL] at h
end
theorem atomEq_eq {a b : Atom} (h : atomEq a b = true) : a = b := by
  cases a <;> cases b <;> simp only [atomEq, Bool.false_eq_true] at h
  · rw [Nat.eq_of_beq_eq_true h]
  · rw [AV.beq_eq _ _ h]
def At (σn τ : List AV) (i : Nat) (as : List Atom) : Prop := ∀ (k : Nat) (a : Atom), as[k]? = some a → σn.getD (i + k) default = a.den τ
theorem At.left {i : Nat} {as bs : List Atom} (h : At σn τ i (as ++ bs)) : At σn τ i as := fun k a ha => by
  have hk := (List.getElem?_eq_some_iff.1 ha).1
  exact h k a (by rw [List.getElem?_append_left hk]; exact ha)
theorem At.right {i : Nat} {as bs : List Atom} (h : At σn τ i (as ++ bs)) : At σn τ (i + as.length) bs := fun k a ha => by
  have := h (as.length + k) a (by rw [List.getElem?_append_right (by omega)]; simpa using ha)
  rw [← Nat.add_assoc] at this
  exact this
theorem isV_eq {i : Nat} {x : Atom} (h : isV i x = true) : x = .v i := by
  cases x with
  | v j => simp only [isV] at h; rw [Nat.eq_of_beq_eq_true h]
  | c a => simp [isV] at h
theorem isC_den {a : Atom} (h : isC a = true) {σ σ' : List AV} : a.den σ = a.den σ' := by
  cases a with
  | c a => rfl
  | v i => simp [isC] at h
theorem matSV_rep {i : Nat} {h b : SV} {as : List Atom} {r : List (Nat × Nat)} (hm : matSV i h b = some (as, r)) (hat : At σn τ i as) {Φ : Fix} {μ μ' : Map} {v : Value}
    (hr : ∀ p ∈ r, μ' p.1 = μ p.2) (hv : SRep Φ μ τ b v) : SRep Φ μ' σn h v := by
  unfold matSV at hm
  split at hm
  · split at hm
    · rename_i hi
      have := isV_eq hi; subst this
      cases hm
      have h0 := hat 0 _ rfl
      simp only [SRep, Nat.add_zero] at *
      show Rep Φ (σn.getD i default) v
      rw [h0]; exact hv
    · cases hm
  · split at hm
    · rename_i hi
      have := isV_eq hi; subst this
      cases hm
      have h0 := hat 0 _ rfl
      have h1 := hr _ (List.mem_singleton.2 rfl)
      simp only [Nat.add_zero] at h0 h1
      simp only [SRep] at *
      obtain ⟨o, g1, g2⟩ := hv
      exact ⟨o, by show σn.getD i default = num o; rw [h0]; exact g1, by rw [h1]; exact g2⟩
    · split at hm
      · rename_i hc
        simp only [Bool.and_eq_true] at hc
        have := atomEq_eq hc.2; subst this
        cases hm
        have h1 := hr _ (List.mem_singleton.2 rfl)
        simp only at h1
        simp only [SRep] at *
        obtain ⟨o, g1, g2⟩ := hv
        exact ⟨o, by rw [isC_den hc.1]; exact g1, by rw [h1]; exact g2⟩
      · cases hm
  · split at hm
    · rename_i hi
      simp only [Bool.and_eq_true] at hi
      obtain ⟨⟨⟨h1, h2⟩, h3⟩, h4⟩ := hi
      have := isV_eq h2; subst this
      have := isV_eq h3; subst this
      have := isV_eq h4; subst this
      have := Nat.eq_of_beq_eq_true h1; subst this
      cases hm
      have k0 := hat 0 _ rfl
      have k1 := hat 1 _ rfl
      have k2 := hat 2 _ rfl
      have k3 := hr _ (List.mem_singleton.2 rfl)
      simp only [Nat.add_zero] at k0 k3
      simp only [SRep] at *
      obtain ⟨o, l, k, c, o', g1, g2, g3, g4, g5, g6, g7, g8⟩ := hv
      refine ⟨o, l, k, c, o', ?_, ?_, ?_, ?_, g5, g6, g7, ?_⟩
      · show σn.getD i default = num o; rw [k0]; exact g1
      · show σn.getD (i + 1) default = num l; rw [k1]; exact g2
      · show σn.getD (i + 2) default = num k; rw [k2]; exact g3
      · rw [k3]; exact g4
      · rw [k3]; exact g8
    · split at hm
      · rename_i hi
        simp only [Bool.and_eq_true] at hi
        obtain ⟨⟨⟨⟨h1, h2⟩, h5⟩, h3⟩, h4⟩ := hi
        have := atomEq_eq h5; subst this
        have := isV_eq h3; subst this
        have := isV_eq h4; subst this
        have := Nat.eq_of_beq_eq_true h1; subst this
        cases hm
        have k1 := hat 0 _ rfl
        have k2 := hat 1 _ rfl
        have k3 := hr _ (List.mem_singleton.2 rfl)
        simp only [Nat.add_zero] at k1 k3
        simp only [SRep] at *
        obtain ⟨o, l, k, c, o', g1, g2, g3, g4, g5, g6, g7, g8⟩ := hv
        refine ⟨o, l, k, c, o', ?_, ?_, ?_, ?_, g5, g6, g7, ?_⟩
        · rw [isC_den h2]; exact g1
        · show σn.getD i default = num l; rw [k1]; exact g2
        · show σn.getD (i + 1) default = num k; rw [k2]; exact g3
        · rw [k3]; exact g4
        · rw [k3]; exact g8
      · cases hm
  · cases hm
theorem matTmps_mem {h b : List SV} : ∀ {ts : List Nat} {i : Nat} {as : List Atom} {r : List (Nat × Nat)}, matTmps h b i ts = some (as, r) → At σn τ i as → ∀ t ∈ ts,
    ∃ i' as' r', matSV i' (h.getD t .undef) (b.getD t .undef) = some (as', r') ∧ At σn τ i' as' ∧ ∀ p ∈ r', p ∈ r
  | [], _, _, _, _, _, t, ht => by cases ht
  | t0 :: ts, i, as, r, hm, hat, t, ht => by
    simp only [matTmps] at hm
    split at hm
    · rename_i as1 r1 h1
      split at hm
      · rename_i as2 r2 h2
        cases hm
        rcases List.mem_cons.1 ht with rfl | ht
        · exact ⟨i, as1, r1, h1, hat.left, fun p hp => by simp [hp]⟩
        · obtain ⟨i', as', r', k1, k2, k3⟩ := matTmps_mem h2 hat.right t ht
          exact ⟨i', as', r', k1, k2, fun p hp => by simp [k3 p hp]⟩
      · cases hm
    · cases hm
theorem allV_rep {Φ : Fix} {μ : Map} : ∀ {l : List SV} {as : List Atom} {i : Nat} {vs : List Value}, allV i l = true → l.length = as.length → At σn τ i as → RepE Φ (as.map (Atom.den τ)) vs → SRepL Φ μ σn l vs
  | [], as, i, vs, _, hl, _, hv => by
    have : as = [] := List.length_eq_zero_iff.1 hl.symm
    subst this
    have : vs = [] := List.length_eq_zero_iff.1 hv.1
    subst this
    simp [SRepL]
  | s :: l, [], i, vs, _, hl, _, _ => by simp at hl
  | s :: l, a :: as, i, [], _, _, _, hv => by simp [RepE] at hv
  | s :: l, a :: as, i, v :: vs, hV, hl, hat, hv => by
    cases s <;> simp only [allV, Bool.and_eq_true, Bool.false_eq_true] at hV
    have := isV_eq hV.1; subst this
    simp only [List.map_cons, RepE, RepL, List.length_cons] at hv
    have h0 := hat 0 a rfl
    simp only [SRepL, SRep]
    refine ⟨?_, allV_rep hV.2 (by simpa using hl) (fun k b hb => ?_) ⟨by omega, hv.2.2⟩⟩
    · show Rep Φ (σn.getD i default) v
      simp only [Nat.add_zero] at h0
      rw [h0]; exact hv.2.1
    · have := hat (k + 1) b (by simpa using hb)
      rw [show i + 1 + k = i + (k + 1) from by omega]
      exact this
theorem allV_refs : ∀ {l : List SV} {i : Nat}, allV i l = true → SV.refsL l = []
  | [], _, _ => rfl
  | s :: l, i, h => by
    cases s <;> simp only [allV, Bool.and_eq_true, Bool.false_eq_true] at h
    simp [SV.refsL, SV.refs, allV_refs h.2]
theorem matCells_back {i : Nat} {h b : Cells} {as : List Atom} {e e' : Em} (hm : matCells i h b e = some (as, e')) (HH : Hold P σ τ e') :
    Hold P σ τ e ∧ h.refs = [] ∧ ∀ Φ μ μ' vs, At σn τ i as → CRep Φ μ τ b vs → CRep Φ μ' σn h vs := by
  unfold matCells at hm
  split at hm
  · simp only [EM.bind_eq, need_eq, EM.pure_eq] at hm
    obtain ⟨_, e1, ⟨hi, h1⟩, h2⟩ := hm
    cases h1; cases h2
    have := isV_eq hi; subst this
    refine ⟨HH, rfl, fun Φ μ μ' vs hat hv => ?_⟩
    have h0 := hat 0 _ rfl
    simp only [Nat.add_zero] at h0
    obtain ⟨cs, g1, g2⟩ := hv
    exact ⟨cs, by show σn.getD i default = _; rw [h0]; exact g1, g2⟩
  · simp only [EM.bind_eq, need_eq, EM.pure_eq] at hm
    obtain ⟨_, e1, ⟨hi, h1⟩, as1, e2, h2, y, e3, h3, h4⟩ := hm
    cases h1; cases h4
    have := isV_eq hi; subst this
    obtain ⟨H2, q, _⟩ := emit_back h3 HH
    obtain ⟨H1, q1, _⟩ := cellAtms_back h2 H2
    subst q1
    refine ⟨H1, rfl, fun Φ μ μ' vs hat hv => ?_⟩
    have h0 := hat 0 _ rfl
    simp only [Nat.add_zero] at h0
    obtain ⟨xs, ys, rfl, g2⟩ := hv
    rw [SRepL.atoms] at g2
    refine ⟨_, by show σn.getD i default = _; rw [h0]; exact (evalO_mklst q).1, RepL.more ys g2.2⟩
  · simp only [EM.bind_eq, need_eq] at hm
    obtain ⟨_, e1, ⟨hi, h1⟩, h2⟩ := hm
    cases h1
    simp only [Bool.and_eq_true] at hi
    obtain ⟨H1, q1, _⟩ := cellAtms_back h2 HH
    subst q1
    refine ⟨H1, by simp only [Cells.refs]; exact allV_refs hi.2, fun Φ μ μ' vs hat hv => ?_⟩
    obtain ⟨xs, ys, rfl, g2⟩ := hv
    rw [SRepL.atoms] at g2
    refine ⟨xs, ys, rfl, allV_rep hi.2 ?_ hat g2⟩
    have := Nat.eq_of_beq_eq_true hi.1
    simpa using this
  · rw [fail_eq] at hm; exact hm.elim
theorem matBlks_back {ren : List (Nat × Nat)} {h b : Heap} : ∀ {ids : List Nat} {i : Nat} {as : List Atom} {e e' : Em}, matBlks ren h b i ids e = some (as, e') → Hold P σ τ e' →
    Hold P σ τ e ∧ (At σn τ i as → ∀ id ∈ ids, ∃ x y, h.getD id none = some x ∧ b.getD (renOf ren id) none = some y ∧ x.ro = false ∧ y.ro = false ∧ x.cells.refs = [] ∧
      ∀ Φ μ μ' vs, CRep Φ μ τ y.cells vs → CRep Φ μ' σn x.cells vs)
  | [], i, as, e, e', hm, HH => by
    simp only [matBlks, EM.pure_eq] at hm
    cases hm
    exact ⟨HH, fun _ id hid => by cases hid⟩
  | id0 :: ids, i, as, e, e', hm, HH => by
    simp only [matBlks, EM.bind_eq, lift_eq, need_eq, EM.pure_eq] at hm
    obtain ⟨x, e1, ⟨_, hx, h1⟩, y, e2, ⟨_, hy, h2⟩, _, e3, ⟨hro, h3⟩, as1, e4, h4, as2, e5, h5, h6⟩ := hm
    cases h1; cases h2; cases h3; cases h6
    obtain ⟨H4, q4⟩ := matBlks_back h5 HH
    obtain ⟨H3, r3, q3⟩ := matCells_back (σn := σn) h4 H4
    simp only [Bool.and_eq_true, Bool.not_eq_true'] at hro
    refine ⟨H3, fun hat id hid => ?_⟩
    rcases List.mem_cons.1 hid with rfl | hid
    · exact ⟨x, y, hx, hy, hro.1, hro.2, r3, fun Φ μ μ' vs hv => q3 Φ μ μ' vs hat.left hv⟩
    · exact q4 hat.right id hid
theorem Keeps.matCells (i : Nat) (h b : Cells) : Keeps (SE.matCells i h b) := by
  unfold SE.matCells
  split
  · exact Keeps.bind (Keeps.need _) fun _ => Keeps.pure _
  · exact Keeps.bind (Keeps.need _) fun _ => Keeps.bind (Keeps.mapEM Keeps.cellAtm _) fun _ => Keeps.bind (Keeps.emit _ _) fun _ => Keeps.pure _
  · exact Keeps.bind (Keeps.need _) fun _ => Keeps.mapEM Keeps.cellAtm _
  · exact Keeps.fail
theorem Keeps.matBlks (ren : List (Nat × Nat)) (h b : Heap) : ∀ (ids : List Nat) (i : Nat), Keeps (SE.matBlks ren h b i ids)
  | [], i => Keeps.pure _
  | id :: ids, i => by
    unfold SE.matBlks
    exact Keeps.bind (Keeps.lift _) fun _ => Keeps.bind (Keeps.lift _) fun _ => Keeps.bind (Keeps.need _) fun _ => Keeps.bind (Keeps.matCells _ _ _) fun _ => Keeps.bind (Keeps.matBlks ren h b ids _) fun _ => Keeps.pure _
theorem den_old {n0 : Nat} {a : Atom} (h : a.lt n0 = true) (hn : σ0.length = n0) (h1 : σ0 <+: σn) (h2 : σ0 <+: τ) : a.den σn = a.den τ :=
  Atom.den_ext h fun i hi => by rw [← getD_of_pre h1 (by omega), ← getD_of_pre h2 (by omega)]
mutual
theorem eqR_rep {n0 : Nat} {ren : List (Nat × Nat)} {Φ : Fix} {μ : Map} (hn : σ0.length = n0) (h1 : σ0 <+: σn) (h2 : σ0 <+: τ) : ∀ (s s' : SV) (v : Value), eqR ren s s' = true → (atomsSV s).all (Atom.lt n0) = true →
    SRep Φ μ τ s' v → SRep Φ (fun id => μ (renOf ren id)) σn s v
  | .undef, s', v, _, _, _ => by simp [SRep]
  | .atm a, s', v, he, ha, hv => by
    cases s' <;> simp only [eqR, Bool.false_eq_true] at he
    have := atomEq_eq he; subst this
    simp only [SRep] at hv ⊢
    rw [den_old (by simpa [atomsSV] using ha) hn h1 h2]; exact hv
  | .ptr id o, s', v, he, ha, hv => by
    cases s' <;> simp only [eqR, Bool.false_eq_true, Bool.and_eq_true] at he
    have := atomEq_eq he.2; subst this
    have := Nat.eq_of_beq_eq_true he.1; subst this
    simp only [SRep] at hv ⊢
    rw [den_old (by simpa [atomsSV] using ha) hn h1 h2]; exact hv
  | .osl id sz a b c, s', v, he, ha, hv => by
    cases s' <;> simp only [eqR, Bool.false_eq_true, Bool.and_eq_true] at he
    obtain ⟨⟨⟨⟨e1, e2⟩, e3⟩, e4⟩, e5⟩ := he
    have := atomEq_eq e3; subst this
    have := atomEq_eq e4; subst this
    have := atomEq_eq e5; subst this
    have := Nat.eq_of_beq_eq_true e1; subst this
    have := Nat.eq_of_beq_eq_true e2; subst this
    simp only [atomsSV, List.all_cons, List.all_nil, Bool.and_true, Bool.and_eq_true] at ha
    simp only [SRep] at hv ⊢
    rw [den_old ha.1 hn h1 h2, den_old ha.2.1 hn h1 h2, den_old ha.2.2 hn h1 h2]; exact hv
  | .agg l, s', v, he, ha, hv => by
    cases s' <;> simp only [eqR, Bool.false_eq_true] at he
    simp only [SRep] at hv ⊢
    obtain ⟨vs, g1, g2⟩ := hv
    exact ⟨vs, g1, eqRL_rep hn h1 h2 l _ _ he (by simpa [atomsSV] using ha) g2⟩
  | .tup l, s', v, he, ha, hv => by
    cases s' <;> simp only [eqR, Bool.false_eq_true] at he
    simp only [SRep] at hv ⊢
    obtain ⟨vs, g1, g2⟩ := hv
    exact ⟨vs, g1, eqRL_rep hn h1 h2 l _ _ he (by simpa [atomsSV] using ha) g2⟩
  | .fn f l, s', v, he, ha, hv => by
    cases s' <;> simp only [eqR, Bool.false_eq_true, Bool.and_eq_true, decide_eq_true_eq] at he
    simp only [SRep] at hv ⊢
    obtain ⟨vs, g1, g2⟩ := hv
    rw [← he.1] at g1
    exact ⟨vs, g1, eqRL_rep hn h1 h2 l _ _ he.2 (by simpa [atomsSV] using ha) g2⟩
  | .ifc t s, s', v, he, ha, hv => by
    cases s' <;> simp only [eqR, Bool.false_eq_true, Bool.and_eq_true] at he
    have := Nat.eq_of_beq_eq_true he.1; subst this
    simp only [SRep] at hv ⊢
    obtain ⟨u, g1, g2⟩ := hv
    exact ⟨u, g1, eqR_rep hn h1 h2 s _ _ he.2 (by simpa [atomsSV] using ha) g2⟩
theorem eqRL_rep {n0 : Nat} {ren : List (Nat × Nat)} {Φ : Fix} {μ : Map} (hn : σ0.length = n0) (h1 : σ0 <+: σn) (h2 : σ0 <+: τ) : ∀ (l l' : List SV) (vs : List Value), eqRL ren l l' = true → (atomsSVL l).all (Atom.lt n0) = true →
    SRepL Φ μ τ l' vs → SRepL Φ (fun id => μ (renOf ren id)) σn l vs
  | [], [], vs, _, _, hv => by simpa [SRepL] using hv
  | s :: l, s' :: l', [], _, _, hv => by simp [SRepL] at hv
  | s :: l, s' :: l', v :: vs, he, ha, hv => by
    simp only [eqRL, Bool.and_eq_true] at he
    simp only [atomsSVL, List.all_append, Bool.and_eq_true] at ha
    simp only [SRepL] at hv ⊢
    exact ⟨eqR_rep hn h1 h2 s s' v he.1 ha.1 hv.1, eqRL_rep hn h1 h2 l l' vs he.2 ha.2 hv.2⟩
  | [], _ :: _, _, he, _, _ => by simp [eqRL] at he
  | _ :: _, [], _, he, _, _ => by simp [eqRL] at he
end
theorem eqRC_rep {n0 : Nat} {ren : List (Nat × Nat)} {Φ : Fix} {μ : Map} (hn : σ0.length = n0) (h1 : σ0 <+: σn) (h2 : σ0 <+: τ) {c c' : Cells} {vs : List Value} (he : eqRC ren c c' = true) (ha : (atomsCells c).all (Atom.lt n0) = true)
    (hv : CRep Φ μ τ c' vs) : CRep Φ (fun id => μ (renOf ren id)) σn c vs := by
  cases c <;> cases c' <;> simp only [eqRC, Bool.false_eq_true] at he
  · obtain ⟨xs, ys, g1, g2⟩ := hv
    exact ⟨xs, ys, g1, eqRL_rep hn h1 h2 _ _ _ he (by simpa [atomsCells] using ha) g2⟩
  · have := atomEq_eq he; subst this
    obtain ⟨cs, g1, g2⟩ := hv
    exact ⟨cs, by rw [den_old (by simpa [atomsCells] using ha) hn h1 h2]; exact g1, g2⟩
theorem kindsOk_rep {vs : VS} {H : List (List AV → Prop)} (hv : VOk vs τ H) : ∀ {as : List Atom} {ks : List Bool}, kindsOk vs ks as = true → kindsRep ks (as.map (Atom.den τ))
  | [], ks, h => by
    simp only [kindsOk, List.isEmpty_iff] at h
    subst h
    trivial
  | a :: as, [], h => by simp [kindsOk] at h
  | a :: as, k :: ks, h => by
    simp only [kindsOk, Bool.and_eq_true, Bool.or_eq_true, Bool.not_eq_true'] at h
    refine ⟨fun hk => ?_, kindsOk_rep hv h.2⟩
    rcases h.1.1 with h1 | h1
    · rw [hk] at h1; cases h1
    · cases a with
      | v i => exact kindsRep.getD hv.kinds h1
      | c x => exact h1
end Go.SE
set_option autoImplicit false
namespace Go.SE
open Go Go.RowKit
variable {P : Program} {R : AEnd → Prop} {H : List (List AV → Prop)} {σ0 σ τ : List AV}
theorem refsIn_tmp {h : St} (hr : refsIn h = true) (t : Nat) : ∀ id ∈ (h.tmps.getD t .undef).refs, id < h.heap.length := by
  simp only [refsIn, Bool.and_eq_true, List.all_eq_true] at hr
  rcases Nat.lt_or_ge t h.tmps.length with hlt | hge
  · rw [List.getD_eq_getElem?_getD, List.getElem?_eq_getElem hlt]
    exact refsOk_mem (hr.1 _ (List.getElem_mem hlt))
  · intro id hid
    rw [List.getD_eq_getElem?_getD, List.getElem?_eq_none hge] at hid
    simp [SV.refs] at hid
theorem refsIn_blk {h : St} (hr : refsIn h = true) {id : Nat} {sb : SB} (hb : h.heap.getD id none = some sb) : ∀ i ∈ sb.cells.refs, i < h.heap.length := by
  simp only [refsIn, Bool.and_eq_true, List.all_eq_true] at hr
  rw [List.getD_eq_getElem?_getD] at hb
  cases hx : h.heap[id]? with
  | none => rw [hx] at hb; cases hb
  | some b =>
    rw [hx] at hb
    simp only [Option.getD_some] at hb
    subst hb
    have := hr.2 _ (List.mem_of_getElem? hx)
    exact refsOk_mem (by simpa [refsB] using this)
theorem restFrom_at {n0 : Nat} {ren : List (Nat × Nat)} {car : List Nat} : ∀ {h b : List SV} {i : Nat}, restFrom n0 ren car i h b = true → ∀ t, t < h.length →
    ((eqR ren (h.getD t .undef) (b.getD t .undef) && (atomsSV (h.getD t .undef)).all (Atom.lt n0)) || car.contains (i + t)) = true
  | [], _, _, _, t, ht => by simp at ht
  | s :: l, b, i, hr, t, ht => by
    simp only [restFrom, Bool.and_eq_true] at hr
    cases t with
    | zero =>
      have e : b.headD .undef = b.getD 0 .undef := by cases b <;> rfl
      rw [← e]
      simpa using hr.1
    | succ t =>
      have e : b.tail.getD t .undef = b.getD (t + 1) .undef := by cases b <;> simp
      have := restFrom_at hr.2 t (by simpa using ht)
      rw [e, show i + 1 + t = i + (t + 1) from by omega] at this
      simpa using this
theorem match_ok {h b : St} {an : Ann} {ks : List Bool} {zs : List Atom} {em : Em} {B : Nat} (hm : matchT B h an ks b = some (zs, em)) (HH : Hold P σ τ em) (hv : VOk (b.vs.of em) τ H)
    (hr : refsIn h = true) (hbase : ∀ id, id < B → id < h.heap.length) (hn : h.vs.n = σ0.length + ks.length) (hp : σ0 <+: τ) :
    Hold P σ τ b.vs.em ∧ kindsRep ks (zs.map (Atom.den τ)) ∧ b.tmps.length = h.tmps.length ∧
      ∀ E Φ μ a w, E.base = B → SRel E τ (LS.of b) Φ μ a w → ∃ μ', SRel E (σ0 ++ zs.map (Atom.den τ)) (LS.of h) Φ μ' a w := by
  unfold matchT at hm
  split at hm
  · rename_i as ren hmt
    split at hm
    · rename_i as' em' hmb
      split at hm
      · rename_i hc
        cases hm
        simp only [Bool.and_eq_true] at hc
        obtain ⟨⟨⟨⟨⟨⟨c1, c2⟩, c3⟩, c4⟩, c5⟩, c6⟩, c7⟩ := hc
        have hks := kindsOk_rep hv c7
        have hlen : (as ++ as').length = ks.length := by have := hks.length; simpa using this
        have hn0 : h.vs.n - ks.length = σ0.length := by omega
        rw [hn0] at hmt hmb c1 c2
        have hat : At (σ0 ++ (as ++ as').map (Atom.den τ)) τ σ0.length (as ++ as') := fun k a ha => by
          rw [List.getD_eq_getElem?_getD, List.getElem?_append_right (by omega), show σ0.length + k - σ0.length = k from by omega, List.getElem?_map, ha]
          rfl
        have hp1 : σ0 <+: σ0 ++ (as ++ as').map (Atom.den τ) := List.prefix_append _ _
        obtain ⟨H1, q1⟩ := matBlks_back (σn := σ0 ++ (as ++ as').map (Atom.den τ)) hmb HH
        have q1 := q1 hat.right
        have c5 := Nat.eq_of_beq_eq_true c5
        refine ⟨H1, hks, c5, fun E Φ μ a w hEB hR => ⟨fun id => μ (renOf ren id), ?_⟩⟩
        have hlt : ∀ id, id < h.heap.length → renOf ren id < b.heap.length := fun id hid => by
          have := List.all_eq_true.1 c6 id (List.mem_range.2 hid)
          simpa [Nat.blt_eq] using this
        have hren : ∀ p ∈ ren, renOf ren p.1 = p.2 := fun p hpm => by
          have := List.all_eq_true.1 c4 p hpm
          simp only [Bool.and_eq_true] at this
          exact Nat.eq_of_beq_eq_true this.1
        have hold : ∀ id, id < B → renOf ren id = id := fun id hid => by
          have key : ∀ r : List (Nat × Nat), (∀ p ∈ r, p.2 = p.1 ∨ B ≤ p.1) → renOf r id = id := by
            intro r
            induction r with
            | nil => intro _; rfl
            | cons p r ih =>
              intro h
              obtain ⟨i, j⟩ := p
              simp only [renOf]
              split
              · rename_i hi
                have hi := Nat.eq_of_beq_eq_true hi
                subst hi
                rcases h (i, j) (by simp) with h | h
                · exact h
                · simp only at h; omega
              · exact ih fun p hp => h p (by simp [hp])
          refine key ren fun p hpm => ?_
          have := List.all_eq_true.1 c4 p hpm
          simp only [Bool.and_eq_true, Bool.or_eq_true, Nat.ble_eq] at this
          rcases this.2 with h | h
          · exact .inl (Nat.eq_of_beq_eq_true h)
          · exact .inr h
        -- the head's blocks
        have hblk : ∀ id sb, h.heap.getD id none = some sb → ∃ sb', b.heap.getD (renOf ren id) none = some sb' ∧ sb'.ro = sb.ro ∧
            ∀ vs, CRep Φ μ τ sb'.cells vs → CRep Φ (fun id => μ (renOf ren id)) (σ0 ++ (as ++ as').map (Atom.den τ)) sb.cells vs := fun id sb hb => by
          by_cases hcar : id ∈ an.blks
          · obtain ⟨x, y, g1, g2, g3, g4, g5, g6⟩ := q1 id hcar
            rw [hb] at g1; cases g1
            exact ⟨y, g2, by rw [g3, g4], fun vs hvs => g6 Φ μ _ vs hvs⟩
          · have hid : id < h.heap.length := by
              rcases Nat.lt_or_ge id h.heap.length with h' | h'
              · exact h'
              · rw [List.getD_eq_getElem?_getD, List.getElem?_eq_none h'] at hb; cases hb
            have := List.all_eq_true.1 c2 id (List.mem_range.2 hid)
            simp only [Bool.or_eq_true, List.contains_iff_mem, hcar, false_or] at this
            rw [hb] at this
            simp only at this
            split at this
            · rename_i y hy
              simp only [Bool.and_eq_true] at this
              exact ⟨y, hy, (eq_of_beq this.1.1).symm, fun vs hvs => eqRC_rep rfl hp1 hp this.1.2 this.2 hvs⟩
            · cases this
        refine ⟨hR.dfr, hR.nt, hR.mem, fun t => ?_, fun t id hid => ?_, fun id sb hb => ?_, fun id sb hb hro => ?_, fun id hid => ?_, fun i j sb sb' hi hj hro hro' hij => ?_, fun id hid => ?_⟩
        · rw [LS.tmp_of]
          have hbt := hR.tmps t
          rw [LS.tmp_of] at hbt
          by_cases hcar : t ∈ an.tmps
          · obtain ⟨i', as1, r1, g1, g2, g3⟩ := matTmps_mem hmt hat.left t hcar
            exact matSV_rep g1 g2 (fun p hpm => by rw [hren p (g3 p hpm)]) hbt
          · rcases Nat.lt_or_ge t h.tmps.length with htl | htl
            · have := restFrom_at c1 t htl
              simp only [Nat.zero_add, Bool.or_eq_true, List.contains_iff_mem, hcar, or_false, Bool.and_eq_true] at this
              exact eqR_rep rfl hp1 hp _ _ _ this.1 this.2 hbt
            · rw [List.getD_eq_getElem?_getD, List.getElem?_eq_none htl]
              simp [SRep]
        · rw [LS.tmp_of] at hid
          rw [LS.dfn_of]
          simpa using refsIn_tmp hr t id hid
        · rw [LS.blk_of] at hb
          obtain ⟨sb', g1, g2, g3⟩ := hblk id sb hb
          have hid : id < h.heap.length := by
            rcases Nat.lt_or_ge id h.heap.length with h' | h'
            · exact h'
            · rw [List.getD_eq_getElem?_getD, List.getElem?_eq_none h'] at hb; cases hb
          obtain ⟨_, ⟨C, ty, fr, k2, k3, k4, k5, k6⟩, _⟩ := hR.blks (renOf ren id) sb' (by rw [LS.blk_of]; exact g1)
          refine ⟨by rw [LS.dfn_of]; simpa using hid, ⟨C, ty, fr, k2, k3, k4, g3 _ k5, by rw [← g2]; exact k6⟩, fun i hi => ?_⟩
          rw [LS.dfn_of]
          simpa using refsIn_blk hr hb i hi
        · rw [LS.blk_of] at hb
          obtain ⟨sb', g1, g2, g3⟩ := hblk id sb hb
          exact hR.home (renOf ren id) sb' (by rw [LS.blk_of]; exact g1) (by rw [g2]; exact hro)
        · rw [LS.dfn_of] at hid
          have hid : id < h.heap.length := by simpa using hid
          exact hR.lt (renOf ren id) (by rw [LS.dfn_of]; simpa using hlt id hid)
        · rw [LS.blk_of] at hi hj
          obtain ⟨s1, g1, g2, _⟩ := hblk i sb hi
          obtain ⟨s2, k1, k2, _⟩ := hblk j sb' hj
          have hidlt : ∀ id sb, h.heap.getD id none = some sb → id < h.heap.length := fun id sb hb => by
            rcases Nat.lt_or_ge id h.heap.length with h' | h'
            · exact h'
            · rw [List.getD_eq_getElem?_getD, List.getElem?_eq_none h'] at hb; cases hb
          refine hR.inj (renOf ren i) (renOf ren j) s1 s2 (by rw [LS.blk_of]; exact g1) (by rw [LS.blk_of]; exact k1) (by rw [g2]; exact hro) (by rw [k2]; exact hro') ?_
          have hil := hidlt i sb hi
          have hjl := hidlt j sb' hj
          rcases Nat.lt_or_ge i j with hlt' | hge
          · have := List.all_eq_true.1 (List.all_eq_true.1 c3 j (List.mem_range.2 hjl)) i (List.mem_range.2 hlt')
            simp only [Bool.not_eq_true'] at this
            intro e
            rw [e, Nat.beq_refl] at this
            cases this
          · have hlt' : j < i := by omega
            have := List.all_eq_true.1 (List.all_eq_true.1 c3 i (List.mem_range.2 hil)) j (List.mem_range.2 hlt')
            simp only [Bool.not_eq_true'] at this
            intro e
            rw [← e, Nat.beq_refl] at this
            cases this
        · obtain ⟨k1, k2⟩ := hR.old id hid
          rw [hEB] at hid
          have hr1 := hold id hid
          refine ⟨?_, by show μ (renOf ren id) = _; rw [hr1]; exact k2⟩
          rw [LS.dfn_of]
          exact decide_eq_true (hbase id hid)
      · cases hm
    · cases hm
  · cases hm
theorem matchT_keeps {h b : St} {an : Ann} {ks : List Bool} {zs : List Atom} {em : Em} {B : Nat} (hm : matchT B h an ks b = some (zs, em)) : em.n0 = b.vs.n ∧ em.k0 = b.vs.kinds := by
  unfold matchT at hm
  split at hm
  · split at hm
    · rename_i as' em' hmb
      split at hm
      · cases hm
        exact Keeps.matBlks _ _ _ _ _ _ _ _ hmb
      · cases hm
    · cases hm
  · cases hm
end Go.SE
set_option autoImplicit false
namespace Go.SE
open Go Go.RowKit
variable {P : Program} {R : AEnd → Prop} {σ τ : List AV} {B : Nat}
def Ex.up : Ex → Exit
  | .normal => .normal
  | .exit i => .exit i
  | .ret => .ret
def Path (P : Program) (R : AEnd → Prop) (H : List (List AV → Prop)) (st : St) (σ : List AV) (D : Ex → St → List AV → Prop) (Pn : AV → Prop) (k : Ex → St → T) : Prop :=
  (∃ e st' σ' Hx, VOk st'.vs σ' (Hx ++ H) ∧ σ <+: σ' ∧ inScope st' = true ∧ st'.tmps.length = st.tmps.length ∧ D e st' σ' ∧ den P R (Hx ++ H) σ' (k e st')) ∨
  (∃ v, R (.pan v) ∧ Pn v)
def CodePath (P : Program) (B : Nat) (R : AEnd → Prop) (c : Code) (x : St → (Ex → St → T) → T) : Prop :=
  ∀ (H : List (List AV → Prop)) (st : St) (σ : List AV) (k : Ex → St → T), VOk st.vs σ H → inScope st = true → den P R H σ (x st k) →
    Path P R H st σ (Does P B c st σ) (Pans P B c st σ) k
theorem inScope_vs {st : St} {vs : VS} (h : inScope st = true) (hn : vs.n = st.vs.n) : inScope { st with vs := vs } = true := by
  unfold inScope at *
  simp only [hn]
  exact h
def RDoes (P : Program) (B : Nat) (c : Code) (h : St) (σ : List AV) (e : Ex) (st' : St) (σ' : List AV) : Prop :=
  e ≠ .normal ∧ ∃ n, ∀ (E : Ent) (Φ : Fix) (μ : Map) (a : Act) (w : World) (Q : Exit → Act → World → Prop), (E.nt = h.tmps.length ∧ E.base = B) → SRel E σ (LS.of h) Φ μ a w →
    (∀ Φ' μ' a' w', SRel E σ' (LS.of st') Φ' μ' a' w' → Q e.up a' w') → Code.rounds P c Q n a w
def RPans (P : Program) (B : Nat) (c : Code) (h : St) (σ : List AV) (v : AV) : Prop :=
  ∃ n, ∀ (E : Ent) (Φ : Fix) (μ : Map) (a : Act) (w : World) (Q : Exit → Act → World → Prop), (E.nt = h.tmps.length ∧ E.base = B) → SRel E σ (LS.of h) Φ μ a w →
    (∀ Φ' a' w' x, Rep Φ' v x → Mem E Φ' w' → a'.defers = [] → Q (.panic [{ v := x, recovered := false }]) a' w') → Code.rounds P c Q n a w
theorem unroll_path {c : Code} {x : St → (Ex → St → T) → T} (hx : CodePath P B R c x) : ∀ (n : Nat) (H : List (List AV → Prop)) (st : St) (σ : List AV) (k : Ex → St → T), VOk st.vs σ H → inScope st = true →
    den P R H σ (unroll x n st k) → Path P R H st σ (RDoes P B c st σ) (RPans P B c st σ) k
  | 0, H, st, σ, k, hv, hs, h => by simp [unroll, den] at h
  | n + 1, H, st, σ, k, hv, hs, h => by
    simp only [unroll] at h
    rcases hx H st σ _ hv hs h with ⟨e, st1, σ1, Hx, g1, g2, g3, g4, g5, g6⟩ | ⟨v, g1, g2⟩
    · cases e with
      | normal =>
        simp only at g6
        rcases unroll_path hx n _ st1 σ1 k g1 g3 g6 with ⟨e', st2, σ2, Hy, k1, k2, k3, k4, ⟨k5, m, k6⟩, k7⟩ | ⟨v, k1, m, k2⟩
        · refine .inl ⟨e', st2, σ2, Hy ++ Hx, by simpa using k1, List.IsPrefix.trans g2 k2, k3, by rw [k4, g4], ⟨k5, m + 1, fun E Φ μ a w Q hn hR hQ => ?_⟩, by simpa using k7⟩
          rw [rounds_succ]
          exact g5 E Φ μ a w _ hn hR fun Φ' μ' a' w' hR' => k6 E Φ' μ' a' w' Q (by rw [g4]; exact hn) hR' hQ
        · refine .inr ⟨v, k1, m + 1, fun E Φ μ a w Q hn hR hQ => ?_⟩
          rw [rounds_succ]
          exact g5 E Φ μ a w _ hn hR fun Φ' μ' a' w' hR' => k2 E Φ' μ' a' w' Q (by rw [g4]; exact hn) hR' hQ
      | exit i =>
        refine .inl ⟨.exit i, st1, σ1, Hx, g1, g2, g3, g4, ⟨by simp, 1, fun E Φ μ a w Q hn hR hQ => ?_⟩, g6⟩
        rw [rounds_succ]
        exact g5 E Φ μ a w _ hn hR fun Φ' μ' a' w' hR' => hQ Φ' μ' a' w' hR'
      | ret =>
        refine .inl ⟨.ret, st1, σ1, Hx, g1, g2, g3, g4, ⟨by simp, 1, fun E Φ μ a w Q hn hR hQ => ?_⟩, g6⟩
        rw [rounds_succ]
        exact g5 E Φ μ a w _ hn hR fun Φ' μ' a' w' hR' => hQ Φ' μ' a' w' hR'
    · refine .inr ⟨v, g1, 1, fun E Φ μ a w Q hn hR hQ => ?_⟩
      rw [rounds_succ]
      exact g2 E Φ μ a w _ hn hR fun Φ' a' w' x hx hm hd => hQ Φ' a' w' x hx hm hd
theorem RDoes.loop {c : Code} {st st' : St} {e : Ex} {σ' : List AV} (h : RDoes P B c st σ e st' σ') : Does P B (.loop c) st σ e st' σ' := by
  obtain ⟨_, n, h⟩ := h
  intro E Φ μ a w Q hn hR hQ
  exact wp_loop_rounds n (h E Φ μ a w Q hn hR fun Φ' μ' a' w' hR' => by
    have := hQ Φ' μ' a' w' hR'
    cases e <;> exact this)
theorem RPans.loop {c : Code} {st : St} {v : AV} (h : RPans P B c st σ v) : Pans P B (.loop c) st σ v := by
  obtain ⟨n, h⟩ := h
  intro E Φ μ a w Q hn hR hQ
  exact wp_loop_rounds n (h E Φ μ a w Q hn hR hQ)
theorem getD_append_mid {α : Type} (l : List α) (x : α) (r : List α) (d : α) : (l ++ x :: r).getD l.length d = x := by
  simp
theorem RunR.pre {l : List Node} {σ σ' : List AV} (h : RunR P σ l σ') : σ <+: σ' := h.start
theorem rounds_path {c : Code} {x : St → (Ex → St → T) → T} (hx : CodePath P B R c x) {H : List (List AV → Prop)} {vs0 : VS} {h : St} {an : Ann} {ks : List Bool} {σ0 : List AV} {k : Ex → St → T}
    (hv0 : VOk vs0 σ0 H) (hvs : h.vs = headVS vs0 ks) (hs : inScope h = true) (hr : refsIn h = true) (hbase : ∀ id, id < B → id < h.heap.length) {I : List AV → Prop} {m : List AV → Nat}
    (hbody : ∀ ys, kindsRep ks ys → I ys → den P R ((fun zs => I zs ∧ m zs < m ys) :: H) (σ0 ++ ys) (x h fun e b => match e with | .normal => backT B h an ks b | e => k e b)) :
    ∀ (N : Nat) (ys : List AV), m ys = N → kindsRep ks ys → I ys →
      (∃ e st' σ' Hx, VOk st'.vs σ' (Hx ++ H) ∧ σ0 <+: σ' ∧ inScope st' = true ∧ st'.tmps.length = h.tmps.length ∧ RDoes P B c h (σ0 ++ ys) e st' σ' ∧ den P R (Hx ++ H) σ' (k e st')) ∨
      (∃ v, R (.pan v) ∧ RPans P B c h (σ0 ++ ys) v) := by
  intro N
  induction N using Nat.strongRecOn with
  | _ N ih =>
    intro ys hN hk hI
    have hvh : VOk h.vs (σ0 ++ ys) ((fun zs => I zs ∧ m zs < m ys) :: H) := by
      rw [hvs]
      refine ⟨?_, kindsRep.append hv0.kinds hk, fun p hp => ?_, ?_⟩
      · simp only [headVS, List.length_append, hv0.len, hk.length]
      · obtain ⟨h1, h2⟩ := hv0.facts p hp
        refine ⟨?_, by simp only [headVS]; omega⟩
        rw [← h1]
        exact (getD_of_pre (List.prefix_append _ _) (by rw [hv0.len]; exact h2)).symm
      · simp only [headVS, List.length_cons, hv0.dep]
    rcases hx _ h (σ0 ++ ys) _ hvh hs (hbody ys hk hI) with ⟨e, b, σ1, Hx, g1, g2, g3, g4, g5, g6⟩ | ⟨v, g1, g2⟩
    · have out : ∀ (e' : Ex), e = e' → e' ≠ .normal → den P R (Hx ++ (fun zs => I zs ∧ m zs < m ys) :: H) σ1 (k e' b) →
          (∃ e st' σ' Hx, VOk st'.vs σ' (Hx ++ H) ∧ σ0 <+: σ' ∧ inScope st' = true ∧ st'.tmps.length = h.tmps.length ∧ RDoes P B c h (σ0 ++ ys) e st' σ' ∧ den P R (Hx ++ H) σ' (k e st')) ∨
          (∃ v, R (.pan v) ∧ RPans P B c h (σ0 ++ ys) v) := fun e' he hne hd => by
        subst he
        refine Or.inl ⟨e, b, σ1, Hx ++ [fun zs => I zs ∧ m zs < m ys], ?_, List.IsPrefix.trans (List.prefix_append _ _) g2, g3, g4, ⟨hne, 1, fun E Φ μ a w Q hn hR hQ => ?_⟩, ?_⟩
        · simpa using g1
        · rw [rounds_succ]
          refine g5 E Φ μ a w _ hn hR fun Φ' μ' a' w' hR' => ?_
          have := hQ Φ' μ' a' w' hR'
          cases e <;> first | exact absurd rfl hne | exact this
        · simpa using hd
      cases e with
      | exit i => exact out (.exit i) rfl (by simp) g6
      | ret => exact out .ret rfl (by simp) g6
      | normal =>
        simp only [backT] at g6
        split at g6
        · rename_i zs em hmt
          obtain ⟨σ2, r1, r2⟩ := nodesT_path g6
          obtain ⟨n1, n2⟩ := matchT_keeps hmt
          obtain ⟨v1, v2⟩ := g1.more n1 n2 r1
          have hpre : σ0 <+: σ2 := List.IsPrefix.trans (List.prefix_append _ _) (List.IsPrefix.trans g2 r1.start)
          obtain ⟨_, q1, q2, q3⟩ := match_ok hmt (v2 σ2 List.prefix_rfl) v1 hr hbase (σ0 := σ0) (by rw [hvs]; simp only [headVS, hv0.len]) hpre
          simp only [den] at r2
          have hd : b.vs.dep - h.vs.dep = Hx.length := by
            have e1 := g1.dep
            have e2 := hvh.dep
            simp only [List.length_append, List.length_cons] at e1 e2
            omega
          rw [hd, getD_append_mid] at r2
          obtain ⟨i1, i2⟩ := r2
          have step : ∀ (E : Ent) (Φ : Fix) (μ : Map) (a : Act) (w : World) (Q : Exit → Act → World → Prop) (n : Nat), (E.nt = h.tmps.length ∧ E.base = B) → SRel E (σ0 ++ ys) (LS.of h) Φ μ a w →
              (∀ Φ μ a w, SRel E (σ0 ++ zs.map (Atom.den σ2)) (LS.of h) Φ μ a w → Code.rounds P c Q n a w) → Code.rounds P c Q (n + 1) a w := fun E Φ μ a w Q n hn hR hQ => by
            rw [rounds_succ]
            refine g5 E Φ μ a w _ hn hR fun Φ' μ' a' w' hR' => ?_
            have hR2 := hR'.ext g3 g1.len r1.start
            obtain ⟨μ2, hR3⟩ := q3 E Φ' μ' a' w' hn.2 hR2
            exact hQ Φ' μ2 a' w' hR3
          rcases ih (m (zs.map (Atom.den σ2))) (by omega) (zs.map (Atom.den σ2)) rfl q1 i1 with ⟨e', st2, σ3, Hy, k1, k2, k3, k4, ⟨k5, n, k6⟩, k7⟩ | ⟨v, k1, n, k2⟩
          · exact .inl ⟨e', st2, σ3, Hy, k1, k2, k3, k4, ⟨k5, n + 1, fun E Φ μ a w Q hn hR hQ => step E Φ μ a w Q n hn hR fun Φ μ a w hR => k6 E Φ μ a w Q hn hR hQ⟩, k7⟩
          · exact .inr ⟨v, k1, n + 1, fun E Φ μ a w Q hn hR hQ => step E Φ μ a w Q n hn hR fun Φ μ a w hR => k2 E Φ μ a w Q hn hR hQ⟩
        · simp [den] at g6
    · refine .inr ⟨v, g1, 1, fun E Φ μ a w Q hn hR hQ => ?_⟩
      rw [rounds_succ]
      exact g2 E Φ μ a w _ hn hR fun Φ' a' w' x hx hm hd => hQ Φ' a' w' x hx hm hd
theorem seLoop_path {c : Code} {x : St → (Ex → St → T) → T} (hx : CodePath P B R c x) {H : List (List AV → Prop)} {an : Ann} {poison : List Nat} {st : St} {k : Ex → St → T} (hv : VOk st.vs σ H)
    (hs : inScope st = true) (h : den P R H σ (seLoop B an poison x st k)) : Path P R H st σ (Does P B (.loop c) st σ) (Pans P B (.loop c) st σ) k := by
  unfold seLoop at h
  split at h
  · rename_i h0 init0 ks hh
    simp only at h
    split at h
    · rename_i init em hmt
      split at h
      · rename_i hc
        simp only [Bool.and_eq_true] at hc
        obtain ⟨⟨⟨⟨c1, c2⟩, c3⟩, c5⟩, c4⟩ := hc
        have hbase : ∀ id, id < B → id < h0.heap.length := fun id hid => by
          have := Nat.le_of_ble_eq_true c5
          omega
        have hem : em.nodes = [] := by simpa using c1
        obtain ⟨n1, n2⟩ := matchT_keeps hmt
        have hrun : RunR P σ em.nodes σ := by rw [hem]; rfl
        obtain ⟨v1, v2⟩ := hv.more n1 n2 hrun
        obtain ⟨_, q1, q2, q3⟩ := match_ok hmt (v2 σ List.prefix_rfl) v1 c3 hbase (σ0 := σ) (by simp only [headVS, hv.len]) List.prefix_rfl
        have c4 := Nat.eq_of_beq_eq_true c4
        simp only at c4 q2
        simp only [den] at h
        obtain ⟨I, m, h1, h2⟩ := h
        have enter : ∀ (E : Ent) (Φ : Fix) (μ : Map) (a : Act) (w : World), E.base = B → SRel E σ (LS.of st) Φ μ a w → ∃ μ', SRel E (σ ++ init.map (Atom.den σ)) (LS.of { h0 with vs := headVS st.vs ks }) Φ μ' a w :=
          fun E Φ μ a w hB hR => q3 E Φ μ a w hB hR
        rcases rounds_path hx (vs0 := st.vs) (h := { h0 with vs := headVS st.vs ks }) (an := an) (ks := ks) (σ0 := σ) (k := k) hv rfl c2 c3 hbase h2 _ _ rfl q1 h1 with ⟨e, st', σ', Hx, g1, g2, g3, g4, g5, g6⟩ | ⟨v, g1, g2⟩
        · refine .inl ⟨e, st', σ', Hx, g1, g2, g3, by rw [g4]; exact c4, ?_, g6⟩
          intro E Φ μ a w Q hn hR hQ
          obtain ⟨μ', hR'⟩ := enter E Φ μ a w hn.2 hR
          exact g5.loop E Φ μ' a w Q ⟨by rw [hn.1]; exact c4.symm, hn.2⟩ hR' hQ
        · refine .inr ⟨v, g1, ?_⟩
          intro E Φ μ a w Q hn hR hQ
          obtain ⟨μ', hR'⟩ := enter E Φ μ a w hn.2 hR
          exact g2.loop E Φ μ' a w Q ⟨by rw [hn.1]; exact c4.symm, hn.2⟩ hR' hQ
      · simp [den] at h
    · simp [den] at h
  · simp [den] at h
theorem SRel.resv {E : Ent} {τ : List AV} {X : LS} {Φ : Fix} {μ : Map} {a : Act} {w : World} {s : SV} {d : Nat} (h : SRel E τ X Φ μ a w) (hs : SRep Φ μ τ s (a.tmps.getD d undef)) (hr : ∀ id ∈ s.refs, X.dfn id = true) :
    SRel E τ (X.set (lTmp d) (.sv s)) Φ μ a w where
  dfr := h.dfr
  nt := h.nt
  mem := h.mem
  tmps := fun t => by
    rw [LS.tmp_set_tmp]
    split
    · rename_i e; subst e; exact hs
    · exact h.tmps t
  refs := fun t id hid => by
    rw [LS.tmp_set_tmp] at hid
    rw [LS.dfn_set_tmp]
    split at hid
    · exact hr id hid
    · exact h.refs t id hid
  blks := fun id sb hb => by
    rw [LS.blk_set_tmp] at hb
    simp only [LS.dfn_set_tmp]
    exact h.blks id sb hb
  home := fun id sb hb => by
    rw [LS.blk_set_tmp] at hb
    exact h.home id sb hb
  lt := fun id hid => by
    rw [LS.dfn_set_tmp] at hid
    exact h.lt id hid
  inj := fun i j sb sb' hi hj => by
    rw [LS.blk_set_tmp] at hi hj
    exact h.inj i j sb sb' hi hj
  old := fun id hid => by
    rw [LS.dfn_set_tmp]
    exact h.old id hid
theorem dynT_path {H : List (List AV → Prop)} {id : Nat} {st : St} {σ : List AV} {k : St → T} (hv : VOk st.vs σ H) (hs : inScope st = true) (h : den P R H σ (dynT id st k)) :
    ∃ st' σ', VOk st'.vs σ' H ∧ σ <+: σ' ∧ inScope st' = true ∧ st'.tmps.length = st.tmps.length ∧
      (∀ (E : Ent) (Φ : Fix) (μ : Map) (a : Act) (w : World), SRel E σ (LS.of st) Φ μ a w → ∃ Φ', SRel E σ' (LS.of st') Φ' μ a w) ∧ den P R H σ' (k st') := by
  unfold dynT at h
  split at h
  · rename_i l hl
    split at h
    · rename_i a em hf
      dsimp only at h
      split at h
      · rename_i hc
        simp only [Bool.and_eq_true] at hc
        obtain ⟨hc1, hc2⟩ := hc
        have hlt : id < st.heap.length := by simpa [Nat.blt_eq] using hc2
        obtain ⟨σ1, r1, r2⟩ := nodesT_path h
        obtain ⟨n1, n2⟩ := Keeps.lstOf _ _ _ _ hf
        obtain ⟨v1, v2⟩ := hv.more n1 n2 r1
        obtain ⟨_, q1⟩ := lstOf_back hf (v2 σ1 List.prefix_rfl)
        refine ⟨_, σ1, v1, r1.start, hc1, rfl, fun E Φ μ a' w hR => ⟨Φ, ?_⟩, r2⟩
        have hR2 := hR.ext hs hv.len r1.start
        have := hR2.recell (id := id) (c := .fix l) (x := a) (by rw [LS.blk_of]; exact hl) (fun vs hvs => q1 Φ μ vs hvs)
        rwa [LS.set_blk_of hlt] at this
      · simp [den] at h
    · simp [den] at h
  · exact ⟨st, σ, hv, List.prefix_rfl, hs, rfl, fun _ Φ _ _ _ hR => ⟨Φ, hR⟩, h⟩
theorem frzT_path : ∀ (ts : List Nat) {H : List (List AV → Prop)} {st : St} {σ : List AV} {k : St → T}, VOk st.vs σ H → inScope st = true → den P R H σ (frzT ts st k) →
    ∃ st' σ', VOk st'.vs σ' H ∧ σ <+: σ' ∧ inScope st' = true ∧ st'.tmps.length = st.tmps.length ∧
      (∀ (E : Ent) (Φ : Fix) (μ : Map) (a : Act) (w : World), SRel E σ (LS.of st) Φ μ a w → ∃ Φ', SRel E σ' (LS.of st') Φ' μ a w) ∧ den P R H σ' (k st')
  | [], H, st, σ, k, hv, hs, h => ⟨st, σ, hv, List.prefix_rfl, hs, rfl, fun _ Φ _ _ _ hR => ⟨Φ, hR⟩, h⟩
  | t :: ts, H, st, σ, k, hv, hs, h => by
    simp only [frzT] at h
    split at h
    · obtain ⟨st1, σ1, d1, d2, d3, d4, d5, d6⟩ := dynT_path hv hs h
      obtain ⟨st2, σ2, g1, g2, g3, g4, g5, g6⟩ := frzT_path ts d1 d3 d6
      refine ⟨st2, σ2, g1, List.IsPrefix.trans d2 g2, g3, by rw [g4, d4], fun E Φ μ a' w hR => ?_, g6⟩
      obtain ⟨Φ1, hR1⟩ := d5 E Φ μ a' w hR
      exact g5 E Φ1 μ a' w hR1
    split at h
    · exact frzT_path ts hv hs h
    · split at h
      · rename_i a ids em hf
        split at h
        · rename_i hc
          simp only [Bool.and_eq_true] at hc
          obtain ⟨hc1, hc2⟩ := hc
          have hlt : t < st.tmps.length := by simpa [Nat.blt_eq] using hc2
          obtain ⟨σ1, r1, r2⟩ := nodesT_path h
          obtain ⟨n1, n2⟩ := Keeps.freeze st.heap 8 _ _ _ _ hf
          obtain ⟨v1, v2⟩ := hv.more n1 n2 r1
          obtain ⟨_, q1⟩ := freeze_back hf (v2 σ1 List.prefix_rfl)
          have hids := freeze_ids hf
          obtain ⟨st2, σ2, g1, g2, g3, g4, g5, g6⟩ := frzT_path ts v1 hc1 r2
          refine ⟨st2, σ2, g1, List.IsPrefix.trans r1.start g2, g3, by rw [g4]; simp, fun E Φ μ a' w hR => ?_, g6⟩
          have hR2 := hR.ext hs hv.len r1.start
          obtain ⟨Φ1, k1, k2, k3⟩ := SRel.freezeMany (heap := st.heap) (unfrozen st.heap ids) hR2 (fun id hi => by
            obtain ⟨m1, sb, m2, m3⟩ := unfrozen_mem.1 hi
            exact ⟨sb, m2, m3, .inl (by rw [LS.blk_of]; exact m2)⟩)
          have hst : Stays st.heap E σ1 ids Φ1 (LS.of st) Φ μ a' w := by
            refine ⟨hR2, k1, fun id hi => ⟨LS.blk_of st id, fun C t fr hh => ?_⟩⟩
            obtain ⟨sb, hsb⟩ := hids id hi
            cases hro : sb.ro with
            | false => exact k3 id (unfrozen_mem.2 ⟨hi, sb, hsb, hro⟩) C t fr hh
            | true =>
              obtain ⟨_, ⟨C', t', fr', x1, _, _, _, x6⟩, _⟩ := hR2.blks id sb (by rw [LS.blk_of]; exact hsb)
              rw [x1] at hh; cases hh
              rw [hro] at x6
              exact k1 _ _ (by simpa using x6)
          have hv1 : SRep Φ μ σ1 (st.tmps.getD t .undef) (a'.tmps.getD t undef) := by
            have := hR2.tmps t
            rwa [LS.tmp_of] at this
          have hrep := q1 E (LS.of st) Φ μ a' w Φ1 _ hst hv1
          rw [LS.upd_wr_of (frozen st.heap (unfrozen st.heap ids)) (st := st) (fun p hp => by
            simp only [frozen, List.mem_map] at hp
            obtain ⟨id, hid, rfl⟩ := hp
            obtain ⟨_, sb, m2, _⟩ := unfrozen_mem.1 hid
            rcases Nat.lt_or_ge id st.heap.length with hl | hl
            · exact hl
            · rw [List.getD_eq_getElem?_getD, List.getElem?_eq_none hl] at m2; cases m2)] at k2
          have k4 := k2.resv (d := t) (s := .atm a) (by simpa [SRep] using hrep) (fun id hid => by simp [SV.refs] at hid)
          rw [LS.set_tmp_of (by exact hlt)] at k4
          exact g5 E Φ1 μ a' w k4
        · simp [den] at h
      · simp [den] at h
theorem withVals_path {c : Code} {x : St → (Ex → St → T) → T} (hx : CodePath P B R c x) (vals : List Nat) : CodePath P B R c (withVals vals x) := by
  intro H st σ k hv hs h
  simp only [withVals] at h
  rcases hx H st σ _ hv hs h with ⟨e, st1, σ1, Hx, g1, g2, g3, g4, g5, g6⟩ | ⟨v, g1, g2⟩
  · cases e with
    | exit i => exact .inl ⟨.exit i, st1, σ1, Hx, g1, g2, g3, g4, g5, g6⟩
    | ret => exact .inl ⟨.ret, st1, σ1, Hx, g1, g2, g3, g4, g5, g6⟩
    | normal =>
      simp only at g6
      obtain ⟨st2, σ2, k1, k2, k3, k4, k5, k6⟩ := frzT_path vals g1 g3 g6
      refine .inl ⟨.normal, st2, σ2, Hx, k1, List.IsPrefix.trans g2 k2, k3, by rw [k4, g4], fun E Φ μ a w Q hn hR hQ => ?_, k6⟩
      refine g5 E Φ μ a w Q hn hR fun Φ' μ' a' w' hR' => ?_
      obtain ⟨Φ2, hR2⟩ := k5 E Φ' μ' a' w' hR'
      exact hQ Φ2 μ' a' w' hR2
  · exact .inr ⟨v, g1, g2⟩
theorem seLoopV_path {c : Code} {x : St → (Ex → St → T) → T} (hx : CodePath P B R c x) {H : List (List AV → Prop)} {an : Ann} {poison vals : List Nat} {st : St} {k : Ex → St → T} (hv : VOk st.vs σ H)
    (hs : inScope st = true) (h : den P R H σ (frzT vals st fun st1 => seLoop B an poison (withVals vals x) st1 k)) : Path P R H st σ (Does P B (.loop c) st σ) (Pans P B (.loop c) st σ) k := by
  obtain ⟨st1, σ1, g1, g2, g3, g4, g5, g6⟩ := frzT_path vals hv hs h
  rcases seLoop_path (withVals_path hx vals) g1 g3 g6 with ⟨e, st2, σ2, Hx, k1, k2, k3, k4, k5, k6⟩ | ⟨v, k1, k2⟩
  · refine .inl ⟨e, st2, σ2, Hx, k1, List.IsPrefix.trans g2 k2, k3, by rw [k4, g4], fun E Φ μ a w Q hn hR hQ => ?_, k6⟩
    obtain ⟨Φ', hR'⟩ := g5 E Φ μ a w hR
    exact k5 E Φ' μ a w Q (by rw [g4]; exact hn) hR' hQ
  · refine .inr ⟨v, k1, fun E Φ μ a w Q hn hR hQ => ?_⟩
    obtain ⟨Φ', hR'⟩ := g5 E Φ μ a w hR
    exact k2 E Φ' μ a w Q (by rw [g4]; exact hn) hR' hQ
theorem seRegionV_path (hm : P.follows .mixedOrders = true) {id : Nat} {draw : Bool} {M : Muts} {ops : Array Oper} {H : List (List AV → Prop)} {vals : List Nat} {st : St} {k : Ex → St → T} (hv : VOk st.vs σ H) (hs : inScope st = true)
    (h : den P R H σ (frzT vals st fun st1 => seRegion P M draw ops.toList st1 fun st' => k .normal st')) : Path P R H st σ (Does P B (.region id ops draw) st σ) (Pans P B (.region id ops draw) st σ) k := by
  obtain ⟨st1, σ1, g1, g2, g3, g4, g5, g6⟩ := frzT_path vals hv hs h
  rcases seRegion_path (B := B) hm (id := id) g1 g3 g6 with ⟨st2, σ2, k1, k2, k3, k4, k5, k6⟩ | ⟨v, k1, k2⟩
  · refine .inl ⟨.normal, st2, σ2, [], k1, List.IsPrefix.trans g2 k2, k3, by rw [k4, g4], fun E Φ μ a w Q hn hR hQ => ?_, k6⟩
    obtain ⟨Φ', hR'⟩ := g5 E Φ μ a w hR
    exact k5 E Φ' μ a w Q (by rw [g4]; exact hn) hR' hQ
  · refine .inr ⟨v, k1, fun E Φ μ a w Q hn hR hQ => ?_⟩
    obtain ⟨Φ', hR'⟩ := g5 E Φ μ a w hR
    exact k2 E Φ' μ a w Q (by rw [g4]; exact hn) hR' hQ
theorem seCode_path (hm : P.follows .mixedOrders = true) (cfg : Cfg) (f : FuncId) : ∀ (c : Code) (bid : Nat), CodePath P cfg.base R c (fun st k => seCode P cfg f c bid st k)
  | .skip, bid => fun H st σ k hv hs h => by
    simp only [seCode] at h
    exact .inl ⟨.normal, st, σ, [], hv, List.prefix_rfl, hs, rfl, fun E Φ μ a w Q hn hR hQ => wp_skip (hQ Φ μ a w hR), h⟩
  | .label l, bid => fun H st σ k hv hs h => by
    simp only [seCode] at h
    exact .inl ⟨.normal, st, σ, [], hv, List.prefix_rfl, hs, rfl, fun E Φ μ a w Q hn hR hQ => wp_label (hQ Φ μ a w hR), h⟩
  | .exit id, bid => fun H st σ k hv hs h => by
    simp only [seCode] at h
    exact .inl ⟨.exit id, st, σ, [], hv, List.prefix_rfl, hs, rfl, fun E Φ μ a w Q hn hR hQ => wp_exit (hQ Φ μ a w hR), h⟩
  | .ret, bid => fun H st σ k hv hs h => by
    simp only [seCode] at h
    exact .inl ⟨.ret, st, σ, [], hv, List.prefix_rfl, hs, rfl, fun E Φ μ a w Q hn hR hQ => wp_ret (hQ Φ μ a w hR), h⟩
  | .region id ops draw, bid => fun H st σ k hv hs h => by
    simp only [seCode] at h
    split at h
    · rcases seRegion_path hm (id := id) hv hs h with ⟨st', σ', g1, g2, g3, g4, g5, g6⟩ | ⟨v, g1, g2⟩
      · exact .inl ⟨.normal, st', σ', [], g1, g2, g3, g4, g5, g6⟩
      · exact .inr ⟨v, g1, g2⟩
    · exact seRegionV_path hm hv hs h
  | .seq x y, bid => fun H st σ k hv hs h => by
    simp only [seCode] at h
    rcases seCode_path hm cfg f x bid H st σ _ hv hs h with ⟨e, st1, σ1, Hx, g1, g2, g3, g4, g5, g6⟩ | ⟨v, g1, g2⟩
    · have out : ∀ (e' : Ex), e = e' → e' ≠ .normal → den P R (Hx ++ H) σ1 (k e' st1) → Path P R H st σ (Does P cfg.base (.seq x y) st σ) (Pans P cfg.base (.seq x y) st σ) k := fun e' he hne hd => by
        subst he
        refine .inl ⟨e, st1, σ1, Hx, g1, g2, g3, g4, fun E Φ μ a w Q hn hR hQ => wp_seq ?_, hd⟩
        refine g5 E Φ μ a w _ hn hR fun Φ' μ' a' w' hR' => ?_
        have := hQ Φ' μ' a' w' hR'
        cases e <;> first | exact absurd rfl hne | exact this
      cases e with
      | exit i => exact out (.exit i) rfl (by simp) g6
      | ret => exact out .ret rfl (by simp) g6
      | normal =>
        simp only at g6
        rcases seCode_path hm cfg f y bid _ st1 σ1 k g1 g3 g6 with ⟨e', st2, σ2, Hy, k1, k2, k3, k4, k5, k6⟩ | ⟨v, k1, k2⟩
        · refine .inl ⟨e', st2, σ2, Hy ++ Hx, by simpa using k1, List.IsPrefix.trans g2 k2, k3, by rw [k4, g4], fun E Φ μ a w Q hn hR hQ => wp_seq ?_, by simpa using k6⟩
          exact g5 E Φ μ a w _ hn hR fun Φ' μ' a' w' hR' => k5 E Φ' μ' a' w' Q (by rw [g4]; exact hn) hR' hQ
        · refine .inr ⟨v, k1, fun E Φ μ a w Q hn hR hQ => wp_seq ?_⟩
          exact g5 E Φ μ a w _ hn hR fun Φ' μ' a' w' hR' => k2 E Φ' μ' a' w' Q (by rw [g4]; exact hn) hR' hQ
    · refine .inr ⟨v, g1, fun E Φ μ a w Q hn hR hQ => wp_seq ?_⟩
      exact g2 E Φ μ a w _ hn hR fun Φ' a' w' x hx hm hd => hQ Φ' a' w' x hx hm hd
  | .cond c x y, bid => fun H st σ k hv hs h => by
    simp only [seCode] at h
    generalize hc : opv st.tmps c = oc at h
    split at h
    · rename_i a0
      obtain ⟨b, vs', h1, h2, h3, _, _, h4⟩ := withBool_path hv h
      have hcond : ∀ {E : Ent} {Φ : Fix} {μ : Map} {a : Act} {w : World}, SRel E σ (LS.of st) Φ μ a w → a.eval c = .bool b := fun hR => by
        have := opv_rep hc hR fun t _ => LS.tmp_of st t
        simp only [SRep, h1] at this
        exact this.bool_inv
      cases b with
      | true =>
        simp only [if_true] at h4
        rcases seCode_path hm cfg f x bid H { st with vs := vs' } σ k h2 (inScope_vs hs h3) h4 with ⟨e, st1, σ1, Hx, g1, g2, g3, g4, g5, g6⟩ | ⟨v, g1, g2⟩
        · exact .inl ⟨e, st1, σ1, Hx, g1, g2, g3, g4, fun E Φ μ a w Q hn hR hQ => wp_cond_true (hcond hR) (g5 E Φ μ a w Q hn hR hQ), g6⟩
        · exact .inr ⟨v, g1, fun E Φ μ a w Q hn hR hQ => wp_cond_true (hcond hR) (g2 E Φ μ a w Q hn hR hQ)⟩
      | false =>
        simp only [Bool.false_eq_true, if_false] at h4
        rcases seCode_path hm cfg f y bid H { st with vs := vs' } σ k h2 (inScope_vs hs h3) h4 with ⟨e, st1, σ1, Hx, g1, g2, g3, g4, g5, g6⟩ | ⟨v, g1, g2⟩
        · exact .inl ⟨e, st1, σ1, Hx, g1, g2, g3, g4, fun E Φ μ a w Q hn hR hQ => wp_cond_false (hcond hR) (g5 E Φ μ a w Q hn hR hQ), g6⟩
        · exact .inr ⟨v, g1, fun E Φ μ a w Q hn hR hQ => wp_cond_false (hcond hR) (g2 E Φ μ a w Q hn hR hQ)⟩
    · simp [den] at h
  | .block id body, bid => fun H st σ k hv hs h => by
    simp only [seCode] at h
    rcases seCode_path hm cfg f body id H st σ _ hv hs h with ⟨e, st1, σ1, Hx, g1, g2, g3, g4, g5, g6⟩ | ⟨v, g1, g2⟩
    · cases e with
      | normal =>
        refine .inl ⟨.normal, st1, σ1, Hx, g1, g2, g3, g4, fun E Φ μ a w Q hn hR hQ => wp_block ?_, g6⟩
        exact g5 E Φ μ a w _ hn hR fun Φ' μ' a' w' hR' => hQ Φ' μ' a' w' hR'
      | ret =>
        refine .inl ⟨.ret, st1, σ1, Hx, g1, g2, g3, g4, fun E Φ μ a w Q hn hR hQ => wp_block ?_, g6⟩
        exact g5 E Φ μ a w _ hn hR fun Φ' μ' a' w' hR' => hQ Φ' μ' a' w' hR'
      | exit i =>
        simp only at g6
        split at g6
        · rename_i hi
          have hi := Nat.eq_of_beq_eq_true hi
          subst hi
          refine .inl ⟨.normal, st1, σ1, Hx, g1, g2, g3, g4, fun E Φ μ a w Q hn hR hQ => wp_block ?_, g6⟩
          refine g5 E Φ μ a w _ hn hR fun Φ' μ' a' w' hR' => ?_
          simp only [Exit.inBlock, if_true]
          exact hQ Φ' μ' a' w' hR'
        · rename_i hi
          have hi : i ≠ id := fun e => by subst e; exact hi (Nat.beq_refl _)
          refine .inl ⟨.exit i, st1, σ1, Hx, g1, g2, g3, g4, fun E Φ μ a w Q hn hR hQ => wp_block ?_, g6⟩
          refine g5 E Φ μ a w _ hn hR fun Φ' μ' a' w' hR' => ?_
          simp only [Exit.inBlock, if_neg hi]
          exact hQ Φ' μ' a' w' hR'
    · refine .inr ⟨v, g1, fun E Φ μ a w Q hn hR hQ => wp_block ?_⟩
      exact g2 E Φ μ a w _ hn hR fun Φ' a' w' x hx hm hd => hQ Φ' a' w' x hx hm hd
  | .loop body, bid => fun H st σ k hv hs h => by
    simp only [seCode] at h
    generalize annOf f bid cfg.anns = oa at h
    split at h
    · split at h
      · exact seLoop_path (seCode_path hm cfg f body bid) hv hs h
      · exact seLoopV_path (seCode_path hm cfg f body bid) hv hs h
    · rcases unroll_path (seCode_path hm cfg f body bid) cfg.fuel H st σ k hv hs h with ⟨e, st1, σ1, Hx, g1, g2, g3, g4, g5, g6⟩ | ⟨v, g1, g2⟩
      · exact .inl ⟨e, st1, σ1, Hx, g1, g2, g3, g4, g5.loop, g6⟩
      · exact .inr ⟨v, g1, g2.loop⟩
  | .goto l, bid => fun H st σ k hv hs h => by simp [seCode, den] at h
  | .scope body, bid => fun H st σ k hv hs h => by simp [seCode, den] at h
  | .rangeFunc _ _ _ _, bid => fun H st σ k hv hs h => by simp [seCode, den] at h
  | .refuse _, bid => fun H st σ k hv hs h => by simp [seCode, den] at h
end Go.SE
set_option autoImplicit false
namespace Go.SE
open Go Go.RowKit
variable {P : Program} {R : AEnd → Prop} {σ τ : List AV}
def resultOne (a : Act) : ResultVar → Sem Value
  | .tmp t => pure (a.tmps.getD t undef)
  | .cell b t => do loadVar t (← asAddr (a.tmps.getD b undef))
theorem resultSV_back {st : St} {r : ResultVar} {s : SV} {e e' : Em} (h : resultSV P st r e = some (s, e')) (H : Hold P σ τ e') :
    Hold P σ τ e ∧ ∀ E Φ μ a w, SRel E τ (LS.of st) Φ μ a w → ∃ v, (resultOne a r).run P w = .ok v w ∧ SRep Φ μ τ s v := by
  cases r with
  | tmp t =>
    simp only [resultSV, lift_eq] at h
    obtain ⟨s', hs, h1⟩ := h
    cases h1
    refine ⟨H, fun E Φ μ a w hR => ⟨a.tmps.getD t undef, by simp [resultOne], ?_⟩⟩
    have := hR.tmps t
    rw [LS.tmp_of, List.getD_eq_getElem?_getD, hs] at this
    exact this
  | cell b t =>
    simp only [resultSV, EM.bind_eq, lift_eq] at h
    obtain ⟨ag, e1, ⟨_, hag, h1⟩, sz, e2, ⟨_, hsz, h2⟩, h⟩ := h
    cases h1; cases h2
    generalize hb : st.tmps.getD b .undef = sb at h
    split at h
    · rename_i id off
      simp only [EM.bind_eq, blk_eq] at h
      obtain ⟨sb, e3, ⟨_, hsb, h3⟩, h4⟩ := h
      cases h3
      obtain ⟨H1, _, q⟩ := loadFrom_back h4 H
      refine ⟨H1, fun E Φ μ a w hR => ?_⟩
      have hp := hR.tmps b
      rw [LS.tmp_of, hb] at hp
      simp only [SRep] at hp
      obtain ⟨o, g1, g2⟩ := hp
      obtain ⟨_, ⟨C, ty, fr, k2, k3, k4, k5, k6⟩, _⟩ := hR.blks id sb (by rw [LS.blk_of]; exact hsb)
      obtain ⟨m1, m2⟩ := q Φ μ C.toList o k5 g1
      obtain ⟨l1, l2⟩ := loadVar_run (P := P) (sz := sz) (o := o) k2 hag hsz
      have hrun : ∀ v, (loadVar t ⟨(μ id).1, o, none⟩).run P w = .ok v w → (resultOne a (.cell b t)).run P w = .ok v w := fun v hv => by
        simp [resultOne, g2, asAddr, hv]
      cases ag with
      | true =>
        obtain ⟨n1, n2⟩ := m1 rfl
        exact ⟨_, hrun _ (l1 rfl (by simpa using n1)), n2⟩
      | false =>
        obtain ⟨u, n1, n2⟩ := m2 rfl
        exact ⟨u, hrun _ (l2 rfl u (by simpa using n1)), n2⟩
    · rw [fail_eq] at h; exact h.elim
theorem resultsL_back {st : St} : ∀ {rs : List ResultVar} {l : List SV} {e e' : Em}, mapEM (resultSV P st) rs e = some (l, e') → Hold P σ τ e' →
    Hold P σ τ e ∧ ∀ E Φ μ a w, SRel E τ (LS.of st) Φ μ a w → ∃ vs, (rs.mapM (resultOne a)).run P w = .ok vs w ∧ SRepL Φ μ τ l vs
  | [], l, e, e', h, H => by
    simp only [mapEM, EM.pure_eq] at h
    cases h
    exact ⟨H, fun E Φ μ a w hR => ⟨[], by simp, by simp [SRepL]⟩⟩
  | r :: rs, l, e, e', h, H => by
    simp only [mapEM, EM.bind_eq, EM.pure_eq] at h
    obtain ⟨s, e1, h1, l1, e2, h2, h3⟩ := h
    cases h3
    obtain ⟨H1, q1⟩ := resultsL_back h2 H
    obtain ⟨H0, q0⟩ := resultSV_back h1 H1
    refine ⟨H0, fun E Φ μ a w hR => ?_⟩
    obtain ⟨v, g1, g2⟩ := q0 E Φ μ a w hR
    obtain ⟨vs, k1, k2⟩ := q1 E Φ μ a w hR
    refine ⟨v :: vs, ?_, ?_⟩
    · rw [List.mapM_cons]
      simp [g1, k1]
    · simp only [SRepL]; exact ⟨g2, k2⟩
theorem results_eq (fn : Func) (a : Act) : results fn a.tmps = (fn.results.toList.mapM (resultOne a) >>= fun vs =>
    Pure.pure (if h : vs.toArray.size = 1 then vs.toArray[0] else .tuple vs.toArray)) := by
  unfold results
  rw [Array.mapM_eq_mapM_toList]
  simp only [bind_map_left]
  rfl
theorem resultsSV_back {st : St} {fn : Func} {s : SV} {e e' : Em} (h : resultsSV P st fn.results.toList e = some (s, e')) (H : Hold P σ τ e') :
    Hold P σ τ e ∧ ∀ E Φ μ a w, SRel E τ (LS.of st) Φ μ a w → ∃ v, (results fn a.tmps).run P w = .ok v w ∧ SRep Φ μ τ s v := by
  unfold resultsSV at h
  generalize hr : fn.results.toList = rs at h
  split at h
  · rename_i r
    obtain ⟨H0, q⟩ := resultSV_back h H
    refine ⟨H0, fun E Φ μ a w hR => ?_⟩
    obtain ⟨v, g1, g2⟩ := q E Φ μ a w hR
    refine ⟨v, ?_, g2⟩
    rw [results_eq, hr]
    simp [g1]
  · rename_i hne
    subst hr
    simp only [EM.bind_eq, EM.pure_eq] at h
    obtain ⟨l, e1, h1, h2⟩ := h
    cases h2
    obtain ⟨H0, q⟩ := resultsL_back h1 H
    refine ⟨H0, fun E Φ μ a w hR => ?_⟩
    obtain ⟨vs, g1, g2⟩ := q E Φ μ a w hR
    refine ⟨.tuple vs.toArray, ?_, ?_⟩
    · rw [results_eq]
      have hlen : vs.length ≠ 1 := fun hl => by
        have hrl : fn.results.toList.length = vs.length := by
          have a1 := g2.length
          have a2 : ∀ {rs : List ResultVar} {l : List SV} {e e' : Em}, mapEM (resultSV P st) rs e = some (l, e') → l.length = rs.length := by
            intro rs
            induction rs with
            | nil => intro l e e' h; simp only [mapEM, EM.pure_eq] at h; cases h; rfl
            | cons r rs ih =>
              intro l e e' h
              simp only [mapEM, EM.bind_eq, EM.pure_eq] at h
              obtain ⟨s, e1, h1, l1, e2, h2, h3⟩ := h
              cases h3
              simp [ih h2]
          rw [a1, a2 h1]
        rw [hl] at hrl
        obtain ⟨r, hr⟩ := List.length_eq_one_iff.1 hrl
        exact hne r hr
      simp [g1, hlen]
    · simp only [SRep]
      exact ⟨vs.toArray, rfl, g2⟩
theorem Keeps.resultSV (st : St) (r : ResultVar) : Keeps (SE.resultSV P st r) := by
  unfold SE.resultSV
  split
  · exact Keeps.lift _
  · refine Keeps.bind (Keeps.lift _) fun _ => Keeps.bind (Keeps.lift _) fun _ => ?_
    split
    · exact Keeps.bind (Keeps.blk _ _) fun _ => Keeps.loadFrom _ _ _ _
    · exact Keeps.fail
theorem Keeps.resultsSV (st : St) (rs : List ResultVar) : Keeps (SE.resultsSV P st rs) := by
  unfold SE.resultsSV
  split
  · exact Keeps.resultSV _ _
  · exact Keeps.bind (Keeps.mapEM (Keeps.resultSV st) _) fun _ => Keeps.pure _
theorem below_of {E : Ent} {Φ : Fix} {w : World} (h : Mem E Φ w) (ho : ∀ b, ¬ E.own b) : Below E.w0.heap.size E.w0 w :=
  ⟨h.os, h.tape, h.output, h.size, fun k hk => h.frame k hk (ho k)⟩
theorem seTop_ct (hm : P.follows .mixedOrders = true) {cfg : Cfg} {f : FuncId} {args : List Atom} {kinds : List Bool} {σ : List AV} (hb0 : cfg.base = 0) (hk : kindsRep kinds σ)
    (h : den P R [] σ (seTop P cfg f args kinds)) : Ct P f (args.map (Atom.den σ)) R := by
  intro Φ w vs hw hv
  unfold seTop at h
  split at h
  · rename_i fn hfn
    split at h
    · rename_i c hc
      simp only at h
      split at h
      · rename_i hck
        simp only [Bool.and_eq_true, Nat.ble_eq] at hck
        obtain ⟨ck1, ck2⟩ := hck
        have hvl : vs.length = args.length := by have := hv.1; simpa using this
        have hV : VOk (⟨kinds.length, kinds, [], 0⟩ : VS) σ [] := ⟨hk.length, hk, fun p hp => (by cases hp), rfl⟩
        let E : Ent := ⟨w, Φ, fun _ => False, fn.ntmps, 0, fun _ => (0, 0)⟩
        let st : St := ⟨args.map .atm ++ List.replicate (fn.ntmps - args.length) .undef, [], ⟨kinds.length, kinds, [], 0⟩⟩
        have hstl : st.tmps.length = fn.ntmps := by simp [st]; omega
        have hR0 : SRel E σ (LS.of st) Φ (fun _ => (0, 0)) { tmps := vs.toArray ++ Array.replicate (fn.ntmps - vs.toArray.size) undef, defers := [] } w := by
          refine ⟨rfl, by simp [E]; omega, ⟨rfl, rfl, rfl, Nat.le_refl _, fun _ _ _ => rfl, hw, fun _ _ _ => rfl, Fix.le_refl _⟩, fun t => ?_, fun t id hid => ?_, fun id sb hb => ?_, fun id sb hb => ?_, fun id hid => ?_, fun i j sb sb' hi => ?_, fun id hid => absurd hid (Nat.not_lt_zero _)⟩
          · rw [LS.tmp_of]
            show SRep Φ _ σ ((args.map SV.atm ++ List.replicate (fn.ntmps - args.length) SV.undef).getD t .undef) _
            rw [List.getD_eq_getElem?_getD]
            by_cases ht : t < args.length
            · rw [List.getElem?_append_left (by simpa using ht), List.getElem?_map]
              have hg : args[t]? = some args[t] := List.getElem?_eq_getElem ht
              rw [hg]
              simp only [Option.map_some, Option.getD_some, SRep]
              obtain ⟨v, k1, k2⟩ := RepL.get (i := t) (c := args[t].den σ) hv.2 (by rw [List.getElem?_map, hg]; rfl)
              have htv : t < vs.length := by omega
              have : (vs.toArray ++ Array.replicate (fn.ntmps - vs.toArray.size) undef).getD t undef = v := by
                rw [Array.getD_eq_getD_getElem?, Array.getElem?_append_left (by simpa using htv)]
                simp [k1]
              rw [this]; exact k2
            · rw [List.getElem?_append_right (by simp; omega)]
              simp only [List.getElem?_replicate]
              split <;> simp [SRep]
          · rw [LS.tmp_of] at hid
            exfalso
            have : (st.tmps.getD t .undef).refs = [] := by
              show ((args.map SV.atm ++ List.replicate (fn.ntmps - args.length) SV.undef).getD t .undef).refs = []
              rw [List.getD_eq_getElem?_getD]
              by_cases ht : t < args.length
              · rw [List.getElem?_append_left (by simpa using ht), List.getElem?_map, List.getElem?_eq_getElem ht]; rfl
              · rw [List.getElem?_append_right (by simp; omega)]
                simp only [List.getElem?_replicate]
                split <;> rfl
            rw [this] at hid
            cases hid
          · rw [LS.blk_of] at hb; simp [st] at hb
          · rw [LS.blk_of] at hb; simp [st] at hb
          · rw [LS.dfn_of] at hid; simp [st] at hid
          · rw [LS.blk_of] at hi; simp [st] at hi
        -- how it ends
        have ending : ∀ (Φ' : Fix) (w' : World), Mem E Φ' w' → WR Φ' w' ∧ Φ.le Φ' ∧ (∀ b, b < w.heap.size → Φ' b = Φ b) ∧ Below w.heap.size w w' := fun Φ' w' hmem =>
          ⟨hmem.fix, hmem.phi0, fun b hb => hmem.phi b hb (fun h => h), below_of hmem (fun b h => h)⟩
        refine calls_of_wp hfn hc ?_
        rcases seCode_path hm cfg f c 0 [] st σ _ hV ck2 h with ⟨e, st1, σ1, Hx, g1, g2, g3, g4, g5, g6⟩ | ⟨v, g1, g2⟩
        · refine g5 E Φ _ _ w _ ⟨hstl.symm, hb0.symm⟩ hR0 fun Φ1 μ1 a1 w1 hR1 => ?_
          have body : ∀ {Q : Prop}, den P R (Hx ++ []) σ1 (match (SE.resultsSV P st1 fn.results.toList >>= freeze st1.heap 8) st1.vs.em with | some ((a, _), em) => nodesT em.nodes (.ret a) | none => .fail) →
              ((a1.defers = [] ∧ ∃ v, (results fn a1.tmps).run P w1 = .ok v w1 ∧ ∃ Φ' r, R r ∧ EndRep Φ' r (.returned v) ∧ WR Φ' w1 ∧ Φ.le Φ' ∧ (∀ b, b < w.heap.size → Φ' b = Φ b) ∧ Below w.heap.size w w1) → Q) → Q := fun hd hQ => by
            split at hd
            · rename_i a ids em hres
              obtain ⟨σ2, r1, r2⟩ := nodesT_path hd
              obtain ⟨s, e2, m1, m2⟩ := EM.bind_eq.1 hres
              obtain ⟨n1, n2⟩ := Keeps.resultsSV st1 _ _ _ _ m1
              obtain ⟨n3, n4⟩ := Keeps.freeze st1.heap 8 s _ _ _ m2
              obtain ⟨v1, v2⟩ := g1.more (n3.trans n1) (n4.trans n2) r1
              have hH := v2 σ2 List.prefix_rfl
              obtain ⟨H1, q1⟩ := freeze_back m2 hH
              obtain ⟨H0, q0⟩ := resultsSV_back m1 H1
              have hR2 := hR1.ext g3 g1.len r1.start
              obtain ⟨v, k1, k2⟩ := q0 E Φ1 μ1 a1 w1 hR2
              have hids := freeze_ids m2
              obtain ⟨Φ2, l1, l2, l3⟩ := SRel.freezeMany (heap := st1.heap) (unfrozen st1.heap ids) hR2 (fun id hi => by
                obtain ⟨x1, sb, x2, x3⟩ := unfrozen_mem.1 hi
                exact ⟨sb, x2, x3, .inl (by rw [LS.blk_of]; exact x2)⟩)
              have hst : Stays st1.heap E σ2 ids Φ2 (LS.of st1) Φ1 μ1 a1 w1 := by
                refine ⟨hR2, l1, fun id hi => ⟨LS.blk_of st1 id, fun C t fr hh => ?_⟩⟩
                obtain ⟨sb, hsb⟩ := hids id hi
                cases hro : sb.ro with
                | false => exact l3 id (unfrozen_mem.2 ⟨hi, sb, hsb, hro⟩) C t fr hh
                | true =>
                  obtain ⟨_, ⟨C', t', fr', x1, _, _, _, x6⟩, _⟩ := hR2.blks id sb (by rw [LS.blk_of]; exact hsb)
                  rw [x1] at hh; cases hh
                  rw [hro] at x6
                  exact l1 _ _ (by simpa using x6)
              have hrep := q1 E (LS.of st1) Φ1 μ1 a1 w1 Φ2 v hst k2
              simp only [den] at r2
              exact hQ ⟨hR1.dfr, v, k1, Φ2, .ret (a.den σ2), r2, ⟨v, rfl, hrep⟩, ending Φ2 w1 l2.mem⟩
            · simp [den] at hd
          cases e with
          | exit i => simp [den] at g6
          | normal => exact body g6 fun h => h
          | ret => exact body g6 fun h => h
        · refine g2 E Φ _ _ w _ ⟨hstl.symm, hb0.symm⟩ hR0 fun Φ' a' w' x hx hmem hd => ?_
          exact ⟨hd, Φ', .pan v, g1, ⟨x, rfl, hx⟩, ending Φ' w' hmem⟩
      · simp [den] at h
    · simp [den] at h
  · simp [den] at h
end Go.SE
set_option autoImplicit false
namespace Go.SE
open Go
mutual
theorem AV.beq_refl : ∀ (a : AV), AV.beq a a = true
  | .int _ _ => by simp [AV.beq]
  | .bool _ => by simp [AV.beq]
  | .str _ => by simp [AV.beq]
  | .agg l => by simp only [AV.beq]; exact AV.beqL_refl l
  | .tup l => by simp only [AV.beq]; exact AV.beqL_refl l
  | .rp l => by simp only [AV.beq]; exact AV.beqL_refl l
  | .lst l => by simp only [AV.beq]; exact AV.beqL_refl l
  | .sl n l => by simp only [AV.beq, Nat.beq_refl, Bool.true_and]; exact AV.beqL_refl l
  | .nils | .c0 | .emp | .nilp | .nilf | .nili | .nilm => by simp [AV.beq]
  | .fn f l => by simp only [AV.beq, decide_true, Bool.true_and]; exact AV.beqL_refl l
  | .ifc t v => by simp only [AV.beq, Nat.beq_refl, Bool.true_and]; exact AV.beq_refl v
theorem AV.beqL_refl : ∀ (l : List AV), AV.beqL l l = true
  | [] => rfl
  | a :: l => by simp only [AV.beqL, Bool.and_eq_true]; exact ⟨AV.beq_refl a, AV.beqL_refl l⟩
end
instance : DecidableEq AV := fun a b => match h : AV.beq a b with
  | true => isTrue (AV.beq_eq a b h)
  | false => isFalse fun e => by rw [e, AV.beq_refl] at h; cases h
deriving instance DecidableEq for O, Atom, HA, HS, Sh, SE.Node, T
end Go.SE
set_option autoImplicit false
namespace Go.SE
open Go
variable {P : Program} {R : AEnd → Prop} {H : List (List AV → Prop)} {σ : List AV}
theorem den_op {o : O} {as : List Atom} {v : AV} {t : T} (h : evalO o (as.map (Atom.den σ)) = some v) (k : den P R H (σ ++ [v]) t) : den P R H σ (.node (.op o as) t) := ⟨v, h, k⟩
theorem den_call {f : FuncId} {as : List Atom} {c : Bool} {v : AV} {t : T} (h : Ct P f (as.map (Atom.den σ)) (fun e => e = .ret v)) (hc : c = true → v.isCell = true) (k : den P R H (σ ++ [v]) t) :
    den P R H σ (.node (.call f as c) t) := ⟨v, ⟨h, hc⟩, k⟩
theorem den_br {a : Atom} {t e : T} (b : Bool) (h : a.den σ = .bool b) (ht : b = true → den P R H σ t) (he : b = false → den P R H σ e) : den P R H σ (.br a t e) := by
  refine ⟨b, h, ?_⟩
  cases b
  · exact he rfl
  · exact ht rfl
theorem den_loop {init : List Atom} {ks : List Bool} {t : T} (I : List AV → Prop) (m : List AV → Nat) (h : I (init.map (Atom.den σ)))
    (k : ∀ ys, kindsRep ks ys → I ys → den P R ((fun zs => I zs ∧ m zs < m ys) :: H) (σ ++ ys) t) : den P R H σ (.loop init ks t) := ⟨I, m, h, k⟩
def EndSub : AEnd → AEnd → Prop
  | .ret a, .ret b => Sub a b
  | .pan a, .pan b => Sub a b
  | _, _ => False
theorem EndRep.sub {Φ : Fix} {r r' : AEnd} {e : Ending} (h : EndSub r r') (hr : EndRep Φ r e) : EndRep Φ r' e := by
  cases r <;> cases r' <;> simp only [EndSub] at h
  · obtain ⟨x, h1, h2⟩ := hr; exact ⟨x, h1, h Φ x h2⟩
  · obtain ⟨x, h1, h2⟩ := hr; exact ⟨x, h1, h Φ x h2⟩
theorem Ct.weak {f : FuncId} {args : List AV} {R' : AEnd → Prop} (h : Ct P f args R) (hr : ∀ r, R r → ∃ r', R' r' ∧ EndSub r r') : Ct P f args R' :=
  fun Φ w vs hw hv => (h Φ w vs hw hv).mono fun _ _ ⟨Φ', r, h1, h2, h3⟩ => by
    obtain ⟨r', k1, k2⟩ := hr r h1
    exact ⟨Φ', r', k1, h2.sub k2, h3⟩
def Is (v : AV) : AEnd → Prop := fun r => ∃ u, r = .ret u ∧ Sub u v
theorem Ct.is {f : FuncId} {args : List AV} {v : AV} (h : Ct P f args (Is v)) : Ct P f args (fun e => e = .ret v) :=
  h.weak fun _ ⟨u, h1, h2⟩ => ⟨.ret v, rfl, by subst h1; exact h2⟩
theorem Ct.split {f : FuncId} {as bs : List AV} (h1 : Ct P f (as ++ .nils :: bs) R) (h2 : Ct P f (as ++ .emp :: bs) R) : Ct P f (as ++ .sl 0 [] :: bs) R := fun Φ w vs hw hv => by
  have key : ∀ (as : List AV) (vs : List Value), RepL Φ (as ++ .sl 0 [] :: bs) vs → RepL Φ (as ++ .nils :: bs) vs ∨ RepL Φ (as ++ .emp :: bs) vs := by
    intro as
    induction as with
    | nil =>
      intro vs h
      cases vs with
      | nil => simp [RepL] at h
      | cons v vs =>
        simp only [List.nil_append, RepL] at h ⊢
        rcases h.1.sl_zero with h0 | h0
        · exact .inl ⟨h0, h.2⟩
        · exact .inr ⟨h0, h.2⟩
    | cons a as ih =>
      intro vs h
      cases vs with
      | nil => simp [RepL] at h
      | cons v vs =>
        simp only [List.cons_append, RepL] at h ⊢
        rcases ih vs h.2 with h0 | h0
        · exact .inl ⟨h.1, h0⟩
        · exact .inr ⟨h.1, h0⟩
  have hl : vs.length = (as ++ .nils :: bs).length := by have := hv.1; simpa using this
  have hl' : vs.length = (as ++ .emp :: bs).length := by have := hv.1; simpa using this
  rcases key as vs hv.2 with h | h
  · exact h1 Φ w vs hw ⟨hl, h⟩
  · exact h2 Φ w vs hw ⟨hl', h⟩
end Go.SE
set_option autoImplicit false
namespace Go.SE
open Go Go.RowKit
def HA.sv : HA → SV
  | .val a => .atm a
  | .osl k sz off len cap => .osl k sz off len cap
  | .ptr k off => .ptr k off
def partE (heap : Heap) (ids : List Nat) (s : SV) : HS → EM (List Atom × List Nat)
  | .val c => do
    let p ← freeze heap 8 s
    let b ← cellAtom p.1
    need (!c || b)
    pure ([p.1], p.2)
  | .osl k sz z => match s with
    | .osl id sz' off len cap => do
      let i ← lift ids[k]?
      need (Nat.beq i id && Nat.beq sz' sz && (!z || atomEq off zeroAtom))
      pure ([off, len, cap], [])
    | _ => fail
  | .ptr k => match s with
    | .ptr id off => do
      let i ← lift ids[k]?
      need (Nat.beq i id)
      pure ([off], [])
    | _ => fail
def partsE (heap : Heap) (ids : List Nat) : List HS → List SV → EM (List Atom × List Nat)
  | [], [] => pure ([], [])
  | h :: hs, s :: ss => do
    let p ← partE heap ids s h
    let r ← partsE heap ids hs ss
    pure (p.1 ++ r.1, p.2 ++ r.2)
  | _, _ => fail
def compsH (tup : Bool) (s : SV) : EM (List SV) :=
  if tup then match s with
    | .tup l => pure l
    | _ => fail
  else pure [s]
def endH (P : Program) (nb : Nat) (outs : List Nat) (sh : Sh) (st : St) (rs : List ResultVar) : EM Atom := do
  let s ← resultsSV P st rs
  let l ← compsH sh.tup s
  let p ← partsE st.heap (List.range nb ++ outs) sh.l l
  need (p.2.all fun id => (List.range nb ++ outs).all fun j => !Nat.beq j id)
  need (distinct (List.range nb ++ outs) && Nat.beq (nb + outs.length) sh.nb)
  let zs ← mapEM (ownLst st.heap) (List.range nb ++ outs)
  emit .mktup (p.1 ++ zs)
def seTopH (P : Program) (cfg : Cfg) (f : FuncId) (args : List HA) (bs : List Atom) (outs : List Nat) (sh : Sh) (kinds : List Bool) : T :=
  match P.funcs[f]? with
  | some fn => match fn.body with
    | some c =>
      let st : St := ⟨args.map HA.sv ++ List.replicate (fn.ntmps - args.length) .undef, bs.map fun b => some ⟨.dyn b, false⟩, ⟨kinds.length, kinds, [], 0⟩⟩
      if Nat.ble args.length fn.ntmps && inScope st && Nat.beq cfg.base bs.length && args.all fun a => refsOk bs.length a.sv.refs then
        seCode P cfg f c 0 st fun e st =>
          match e with
          | .exit _ => .fail
          | _ => match endH P bs.length outs sh st fn.results.toList st.vs.em with
            | some (a, em) => nodesT em.nodes (.ret a)
            | none => .fail
      else .fail
    | none => .fail
  | none => .fail
variable {P : Program} {R : AEnd → Prop} {σ τ : List AV}
theorem HRepL.len {Φ : Fix} {μ : Nat → Nat × Nat} : ∀ {as : List HV} {vs : List Value}, HRepL Φ μ as vs → vs.length = as.length
  | [], vs, h => by simp only [HRepL] at h; simp [h]
  | a :: as, [], h => by simp [HRepL] at h
  | a :: as, v :: vs, h => by
    simp only [HRepL] at h
    simp [HRepL.len h.2]
theorem HRepL.get {Φ : Fix} {μ : Nat → Nat × Nat} : ∀ {as : List HV} {vs : List Value} {i : Nat} {a : HV}, HRepL Φ μ as vs → as[i]? = some a → ∃ v, vs[i]? = some v ∧ HRep Φ μ a v
  | [], vs, i, a, _, hi => by simp at hi
  | b :: as, [], i, a, h, _ => by simp [HRepL] at h
  | b :: as, v :: vs, 0, a, h, hi => by
    simp only [HRepL] at h
    have : b = a := by simpa using hi
    exact ⟨v, rfl, this ▸ h.1⟩
  | b :: as, v :: vs, i + 1, a, h, hi => by
    simp only [HRepL] at h
    obtain ⟨u, h1, h2⟩ := HRepL.get (i := i) h.2 (by simpa using hi)
    exact ⟨u, by simpa using h1, h2⟩
theorem HRep.sv {Φ : Fix} {μ : Nat → Nat × Nat} {a : HA} {v : Value} (h : HRep Φ μ (a.den σ) v) : SRep Φ μ σ a.sv v := by
  cases a with
  | val a => simpa [HA.den, HA.sv, HRep, SRep] using h
  | osl k sz off len cap => exact h
  | ptr k off => exact h
theorem Keeps.ownLst (heap : Heap) (id : Nat) : Keeps (SE.ownLst heap id) := by
  unfold SE.ownLst
  exact Keeps.bind (Keeps.blk _ _) fun _ => Keeps.bind (Keeps.need _) fun _ => Keeps.lstOf _
theorem Keeps.partE (heap : Heap) (ids : List Nat) (s : SV) (h : HS) : Keeps (SE.partE heap ids s h) := by
  unfold SE.partE
  split
  · exact Keeps.bind (Keeps.freeze _ _ _) fun _ => Keeps.bind (Keeps.cellAtom _) fun _ => Keeps.bind (Keeps.need _) fun _ => Keeps.pure _
  · split
    · exact Keeps.bind (Keeps.lift _) fun _ => Keeps.bind (Keeps.need _) fun _ => Keeps.pure _
    · exact Keeps.fail
  · split
    · exact Keeps.bind (Keeps.lift _) fun _ => Keeps.bind (Keeps.need _) fun _ => Keeps.pure _
    · exact Keeps.fail
theorem Keeps.partsE (heap : Heap) (ids : List Nat) : ∀ (hs : List HS) (ss : List SV), Keeps (SE.partsE heap ids hs ss)
  | [], [] => Keeps.pure _
  | h :: hs, s :: ss => by
    unfold SE.partsE
    exact Keeps.bind (Keeps.partE _ _ _ _) fun _ => Keeps.bind (Keeps.partsE heap ids hs ss) fun _ => Keeps.pure _
  | [], _ :: _ => Keeps.fail
  | _ :: _, [] => Keeps.fail
theorem Keeps.compsH (t : Bool) (s : SV) : Keeps (SE.compsH t s) := by
  unfold SE.compsH
  split
  · split
    · exact Keeps.pure _
    · exact Keeps.fail
  · exact Keeps.pure _
theorem Keeps.endH (nb : Nat) (outs : List Nat) (sh : Sh) (st : St) (rs : List ResultVar) : Keeps (SE.endH P nb outs sh st rs) := by
  unfold SE.endH
  refine Keeps.bind (Keeps.resultsSV _ _) fun _ => Keeps.bind (Keeps.compsH _ _) fun _ => Keeps.bind (Keeps.partsE _ _ _ _) fun _ => Keeps.bind (Keeps.need _) fun _ => Keeps.bind (Keeps.need _) fun _ => Keeps.bind (Keeps.mapEM (fun id => Keeps.ownLst _ id) _) fun _ => Keeps.emit _ _
variable {heap : Heap} {σ0 : List AV}
theorem partE_back {ids : List Nat} {s : SV} {h : HS} {as : List Atom} {fr : List Nat} {e e' : Em} (hh : partE heap ids s h e = some ((as, fr), e')) (H : Hold P σ0 τ e') :
    Hold P σ0 τ e ∧ (∀ id ∈ fr, ∃ sb, heap.getD id none = some sb) ∧ ∀ (E : Ent) (X : LS) (Φ : Fix) (μ : Map) (a : Act) (w : World) (Φ' : Fix) (u : Value), Stays heap E τ fr Φ' X Φ μ a w → SRep Φ μ τ s u →
      ∃ x : HV, h.fits x ∧ x.parts = as.map (Atom.den τ) ∧ ∀ ν : Nat → Nat × Nat, (∀ (k id : Nat), ids[k]? = some id → ν k = μ id) → HRep Φ' ν x u := by
  cases h with
  | val c =>
    simp only [partE, EM.bind_eq, need_eq, EM.pure_eq] at hh
    obtain ⟨p, e1, h1, b, e2, h2, _, e3, ⟨h3, h4⟩, h5⟩ := hh
    cases h4; cases h5
    obtain ⟨he2, q1⟩ := cellAtom_back (P := P) (σ0 := σ0) (τ := τ) h2
    subst he2
    have q1 := q1 H
    have H1 := H
    obtain ⟨H0, q0⟩ := freeze_back h1 H1
    refine ⟨H0, freeze_ids h1, fun E X Φ μ a w Φ' u hst hu => ⟨.val (p.1.den τ), fun hc => ?_, rfl, fun ν _ => q0 E X Φ μ a w Φ' u hst hu⟩⟩
    rw [hc] at h3
    exact q1 (by simpa using h3)
  | osl k sz z =>
    cases s with
    | osl id sz' off len cap =>
      simp only [partE, EM.bind_eq, need_eq, EM.pure_eq, lift_eq] at hh
      obtain ⟨i, e1, ⟨_, hi, h1⟩, _, e2, ⟨h2, h3⟩, h4⟩ := hh
      cases h1; cases h3; cases h4
      simp only [Bool.and_eq_true, Bool.or_eq_true, Bool.not_eq_true'] at h2
      have hi1 := Nat.eq_of_beq_eq_true h2.1.1
      have hi2 := Nat.eq_of_beq_eq_true h2.1.2
      subst hi1; subst hi2
      refine ⟨H, by simp, fun E X Φ μ a w Φ' u hst hu => ⟨.osl k sz' (off.den τ) (len.den τ) (cap.den τ), ⟨rfl, rfl, fun hz => ?_⟩, rfl, fun ν hν => ?_⟩⟩
      · rcases h2.2 with h0 | h0
        · rw [hz] at h0; cases h0
        · rw [atomEq_eq h0]; rfl
      simp only [HRep]
      rw [hν k i hi]
      simp only [SRep] at hu
      exact hu
    | _ => simp only [partE] at hh; rw [fail_eq] at hh; exact hh.elim
  | ptr k =>
    cases s with
    | ptr id off =>
      simp only [partE, EM.bind_eq, need_eq, EM.pure_eq, lift_eq] at hh
      obtain ⟨i, e1, ⟨_, hi, h1⟩, _, e2, ⟨h2, h3⟩, h4⟩ := hh
      cases h1; cases h3; cases h4
      have hi1 := Nat.eq_of_beq_eq_true h2
      subst hi1
      refine ⟨H, by simp, fun E X Φ μ a w Φ' u hst hu => ⟨.ptr k (off.den τ), rfl, rfl, fun ν hν => ?_⟩⟩
      simp only [HRep]
      rw [hν k i hi]
      simp only [SRep] at hu
      exact hu
    | _ => simp only [partE] at hh; rw [fail_eq] at hh; exact hh.elim
theorem partsE_back {ids : List Nat} : ∀ {hs : List HS} {ss : List SV} {as : List Atom} {fr : List Nat} {e e' : Em}, partsE heap ids hs ss e = some ((as, fr), e') → Hold P σ0 τ e' →
    Hold P σ0 τ e ∧ (∀ id ∈ fr, ∃ sb, heap.getD id none = some sb) ∧ ∀ (E : Ent) (X : LS) (Φ : Fix) (μ : Map) (a : Act) (w : World) (Φ' : Fix) (us : List Value), Stays heap E τ fr Φ' X Φ μ a w → SRepL Φ μ τ ss us →
      ∃ xs : List HV, HS.fitsL hs xs ∧ (xs.map HV.parts).flatten = as.map (Atom.den τ) ∧ ∀ ν : Nat → Nat × Nat, (∀ (k id : Nat), ids[k]? = some id → ν k = μ id) → HRepL Φ' ν xs us
  | [], [], as, fr, e, e', h, H => by
    simp only [partsE, EM.pure_eq] at h
    cases h
    refine ⟨H, by simp, fun E X Φ μ a w Φ' us _ hu => ⟨[], trivial, rfl, fun ν _ => ?_⟩⟩
    simpa [HRepL, SRepL] using hu
  | h :: hs, s :: ss, as, fr, e, e', hh, H => by
    simp only [partsE, EM.bind_eq, EM.pure_eq] at hh
    obtain ⟨⟨a1, f1⟩, e1, h1, ⟨a2, f2⟩, e2, h2, h3⟩ := hh
    cases h3
    obtain ⟨H1, q1, q2⟩ := partsE_back h2 H
    obtain ⟨H0, p1, p2⟩ := partE_back h1 H1
    refine ⟨H0, fun id hi => ?_, fun E X Φ μ a w Φ' us hst hu => ?_⟩
    · rcases List.mem_append.1 hi with hi | hi
      · exact p1 id hi
      · exact q1 id hi
    · cases us with
      | nil => simp [SRepL] at hu
      | cons u us =>
        simp only [SRepL] at hu
        obtain ⟨x, g1, g2, g3⟩ := p2 E X Φ μ a w Φ' u (hst.sub fun id hi => by simp [hi]) hu.1
        obtain ⟨xs, k1, k2, k3⟩ := q2 E X Φ μ a w Φ' us (hst.sub fun id hi => by simp [hi]) hu.2
        refine ⟨x :: xs, ⟨g1, k1⟩, by simp [g2, k2], fun ν hν => ?_⟩
        simp only [HRepL]
        exact ⟨g3 ν hν, k3 ν hν⟩
  | [], _ :: _, _, _, _, _, h, _ => by simp only [partsE] at h; rw [fail_eq] at h; exact h.elim
  | _ :: _, [], _, _, _, _, h, _ => by simp only [partsE] at h; rw [fail_eq] at h; exact h.elim
theorem compsH_back {t : Bool} {s : SV} {l : List SV} {e e' : Em} (h : compsH t s e = some (l, e')) : e = e' ∧ ∀ {Φ : Fix} {μ : Map} {x : Value}, SRep Φ μ τ s x →
    ∃ us : List Value, SRepL Φ μ τ l us ∧ ∀ (Φ' : Fix) (ν : Nat → Nat × Nat) (sh : Sh) (hs : List HV), sh.tup = t → HS.fitsL sh.l hs → HRepL Φ' ν hs us → HRet Φ' ν sh hs x := by
  unfold compsH at h
  split at h
  · rename_i ht
    split at h
    · simp only [EM.pure_eq] at h
      cases h
      refine ⟨rfl, fun {Φ μ x} hx => ?_⟩
      simp only [SRep] at hx
      obtain ⟨vs, h1, h2⟩ := hx
      refine ⟨vs.toList, h2, fun Φ' ν sh hs hsh _ hr => ?_⟩
      unfold HRet
      rw [hsh, if_pos ht]
      exact ⟨vs, h1, hr⟩
    · rw [fail_eq] at h; exact h.elim
  · rename_i ht
    simp only [EM.pure_eq] at h
    cases h
    refine ⟨rfl, fun {Φ μ x} hx => ⟨[x], by simp only [SRepL]; exact ⟨hx, trivial⟩, fun Φ' ν sh hs hsh _ hr => ?_⟩⟩
    unfold HRet
    rw [hsh, if_neg ht]
    cases hs with
    | nil => simp [HRepL] at hr
    | cons y hs =>
      cases hs with
      | nil =>
        simp only [HRepL] at hr
        exact ⟨y, rfl, hr.1⟩
      | cons _ _ => simp [HRepL] at hr
theorem seTopH_ct (hm : P.follows .mixedOrders = true) {cfg : Cfg} {f : FuncId} {args : List HA} {bs : List Atom} {outs : List Nat} {sh : Sh} {kinds : List Bool} {σ : List AV} (hk : kindsRep kinds σ)
    (hpan : ∀ v, ¬ R (.pan v)) (h : den P R [] σ (seTopH P cfg f args bs outs sh kinds)) : CtH P f (args.map (HA.den σ)) (bs.map (Atom.den σ)) sh R := by
  intro Φ w μ vs hw hblk hdist hv
  unfold seTopH at h
  split at h
  · rename_i fn hfn
    split at h
    · rename_i c hc
      simp only at h
      split at h
      · rename_i hck
        simp only [Bool.and_eq_true, Nat.ble_eq, List.all_eq_true] at hck
        obtain ⟨⟨⟨ck1, ck2⟩, ck3⟩, ck4⟩ := hck
        have hb0 : cfg.base = bs.length := Nat.eq_of_beq_eq_true ck3
        have hvl : vs.length = args.length := by have := hv.len; simpa using this
        have hV : VOk (⟨kinds.length, kinds, [], 0⟩ : VS) σ [] := ⟨hk.length, hk, fun p hp => (by cases hp), rfl⟩
        let E : Ent := ⟨w, Φ, fun b => ∃ k, k < bs.length ∧ b = (μ k).1, fn.ntmps, bs.length, μ⟩
        let st : St := ⟨args.map HA.sv ++ List.replicate (fn.ntmps - args.length) .undef, bs.map fun b => some ⟨.dyn b, false⟩, ⟨kinds.length, kinds, [], 0⟩⟩
        have hstl : st.tmps.length = fn.ntmps := by simp [st]; omega
        have hsth : st.heap.length = bs.length := by simp [st]
        have hget : ∀ id sb, st.heap.getD id none = some sb → ∃ b, bs[id]? = some b ∧ sb = ⟨.dyn b, false⟩ := fun id sb hh => by
          rw [List.getD_eq_getElem?_getD] at hh
          show ∃ b, bs[id]? = some b ∧ _
          cases hbi : bs[id]? with
          | none => simp [st, hbi] at hh
          | some b => simp [st, hbi] at hh; exact ⟨b, rfl, hh.symm⟩
        have hownb : ∀ (id : Nat) (b : Atom), bs[id]? = some b → HOwn Φ w (μ id) (b.den σ) := fun id b hb => hblk id _ (by rw [List.getElem?_map, hb]; rfl)
        have htmp : ∀ t, (st.tmps.getD t .undef = .undef) ∨ ∃ a, args[t]? = some a ∧ st.tmps.getD t .undef = a.sv := fun t => by
          show (((args.map HA.sv ++ List.replicate (fn.ntmps - args.length) SV.undef).getD t .undef) = _) ∨ ∃ a, _ ∧ ((args.map HA.sv ++ List.replicate (fn.ntmps - args.length) SV.undef).getD t .undef) = _
          rw [List.getD_eq_getElem?_getD]
          by_cases ht : t < args.length
          · rw [List.getElem?_append_left (by simpa using ht), List.getElem?_map, List.getElem?_eq_getElem ht]
            exact .inr ⟨_, rfl, rfl⟩
          · rw [List.getElem?_append_right (by simp; omega)]
            refine .inl ?_
            simp only [List.getElem?_replicate]
            split <;> rfl
        have hR0 : SRel E σ (LS.of st) Φ μ { tmps := vs.toArray ++ Array.replicate (fn.ntmps - vs.toArray.size) undef, defers := [] } w := by
          refine ⟨rfl, by simp [E]; omega, ⟨rfl, rfl, rfl, Nat.le_refl _, fun _ _ _ => rfl, hw, fun _ _ _ => rfl, Fix.le_refl _⟩, fun t => ?_, fun t id hid => ?_, fun id sb hb => ?_, fun id sb hb _ => ?_, fun id hid => ?_, fun i j sb sb' hi hj _ _ hij => ?_, fun id hid => ?_⟩
          · rw [LS.tmp_of]
            rcases htmp t with ht | ⟨a, ha, ht⟩
            · rw [ht]; simp [SRep]
            · rw [ht]
              obtain ⟨v, k1, k2⟩ := HRepL.get (i := t) (a := a.den σ) hv (by rw [List.getElem?_map, ha]; rfl)
              have htv : t < vs.length := (List.getElem?_eq_some_iff.1 k1).1
              have : (vs.toArray ++ Array.replicate (fn.ntmps - vs.toArray.size) undef).getD t undef = v := by
                rw [Array.getD_eq_getD_getElem?, Array.getElem?_append_left (by simpa using htv)]
                simp [k1]
              rw [this]; exact k2.sv
          · rw [LS.tmp_of] at hid
            rw [LS.dfn_of]
            rcases htmp t with ht | ⟨a, ha, ht⟩
            · rw [ht] at hid; simp [SV.refs] at hid
            · rw [ht] at hid
              have := refsOk_mem (ck4 a (List.mem_of_getElem? ha)) id hid
              simpa [hsth] using this
          · rw [LS.blk_of] at hb
            obtain ⟨b, h1, rfl⟩ := hget id sb hb
            obtain ⟨C, t, fr, g1, g2, g3, g4, g5⟩ := hownb id b h1
            rw [LS.dfn_of]
            refine ⟨?_, ⟨C, t, fr, g1, g2, g3, g4, by simpa using g5⟩, by simp [Cells.refs]⟩
            have := (List.getElem?_eq_some_iff.1 h1).1
            simpa [hsth] using this
          · rw [LS.blk_of] at hb
            obtain ⟨b, h1, rfl⟩ := hget id sb hb
            exact .inr ⟨id, (List.getElem?_eq_some_iff.1 h1).1, rfl⟩
          · rw [LS.dfn_of] at hid
            have hid : id < bs.length := by simpa [hsth] using hid
            obtain ⟨C, t, fr, g1, _⟩ := hownb id _ (List.getElem?_eq_getElem hid)
            exact (Array.getElem?_eq_some_iff.1 g1).1
          · rw [LS.blk_of] at hi hj
            obtain ⟨b, h1, _⟩ := hget i sb hi
            obtain ⟨b', h2, _⟩ := hget j sb' hj
            exact hdist i j (by simpa using (List.getElem?_eq_some_iff.1 h1).1) (by simpa using (List.getElem?_eq_some_iff.1 h2).1) hij
          · rw [LS.dfn_of]
            refine ⟨?_, rfl⟩
            have hid : id < bs.length := hid
            simpa [hsth] using hid
        refine calls_of_wp hfn hc ?_
        rcases seCode_path hm cfg f c 0 [] st σ _ hV ck2 h with ⟨e, st1, σ1, Hx, g1, g2, g3, g4, g5, g6⟩ | ⟨v, g1, g2⟩
        · refine g5 E Φ _ _ w _ ⟨hstl.symm, hb0.symm⟩ hR0 fun Φ1 μ1 a1 w1 hR1 => ?_
          have body : ∀ {Q : Prop}, den P R (Hx ++ []) σ1 (match SE.endH P bs.length outs sh st1 fn.results.toList st1.vs.em with | some (a, em) => nodesT em.nodes (.ret a) | none => .fail) →
              ((a1.defers = [] ∧ ∃ v, (results fn a1.tmps).run P w1 = .ok v w1 ∧ ∃ Φ' μ' hs bs' x, Ending.returned v = .returned x ∧ HS.fitsL sh.l hs ∧ R (.ret (.tup ((hs.map HV.parts).flatten ++ bs'))) ∧ HRet Φ' μ' sh hs x ∧
                bs'.length = sh.nb ∧ (bs.map (Atom.den σ)).length ≤ sh.nb ∧ (∀ k, k < (bs.map (Atom.den σ)).length → μ' k = μ k) ∧
                (∀ k, (bs.map (Atom.den σ)).length ≤ k → k < sh.nb → w.heap.size ≤ (μ' k).1) ∧ (∀ i j, i < sh.nb → j < sh.nb → i ≠ j → (μ' i).1 ≠ (μ' j).1) ∧
                (∀ k b, bs'[k]? = some b → HOwn Φ' w1 (μ' k) b) ∧ WR Φ' w1 ∧ Φ.le Φ' ∧ (∀ b, b < w.heap.size → (∀ k, k < (bs.map (Atom.den σ)).length → b ≠ (μ k).1) → Φ' b = Φ b) ∧
                w1.os = w.os ∧ w1.tape = w.tape ∧ w1.output = w.output ∧ w.heap.size ≤ w1.heap.size ∧
                ∀ b, b < w.heap.size → (∀ k, k < (bs.map (Atom.den σ)).length → b ≠ (μ k).1) → w1.heap[b]? = w.heap[b]?) → Q) → Q := fun hd hQ => by
            split at hd
            · rename_i a em hres
              obtain ⟨σ2, r1, r2⟩ := nodesT_path hd
              obtain ⟨n1, n2⟩ := Keeps.endH bs.length outs sh st1 _ _ _ _ hres
              obtain ⟨v1, v2⟩ := g1.more n1 n2 r1
              have hH := v2 σ2 List.prefix_rfl
              simp only [SE.endH, EM.bind_eq, need_eq] at hres
              obtain ⟨s, e2, m1, l, e2', m1', p, e3, m2, _, e4, ⟨hge, h4⟩, _, e4', ⟨hds, h4'⟩, zs, e5, m3, m4⟩ := hres
              cases h4; cases h4'
              simp only [Bool.and_eq_true] at hds
              obtain ⟨hds, hnb⟩ := hds
              have hnb : bs.length + outs.length = sh.nb := Nat.eq_of_beq_eq_true hnb
              obtain ⟨H3, q3, _⟩ := emit_back m4 hH
              obtain ⟨H2, q2⟩ := mapEM_back (Q := fun (id : Nat) (a : Atom) => ∃ sb, st1.heap.getD id none = some sb ∧ sb.ro = false ∧ ∀ Φ μ vs, CRep Φ μ σ2 sb.cells vs → ∃ cs, a.den σ2 = .lst cs ∧ RepL Φ cs vs) (fun id e a e' h H => ownLst_back h H) m3 H3
              obtain ⟨H1, hids, q1⟩ := partsE_back (as := p.1) (fr := p.2) m2 H2
              obtain ⟨he, qc⟩ := compsH_back (τ := σ2) m1'
              subst he
              obtain ⟨H0, q0⟩ := resultsSV_back m1 H1
              have hR2 := hR1.ext g3 g1.len r1.start
              obtain ⟨v, k1, k2⟩ := q0 E Φ1 μ1 a1 w1 hR2
              obtain ⟨Φ2, l1, l2, l3⟩ := SRel.freezeMany (heap := st1.heap) (unfrozen st1.heap p.2) hR2 (fun id hi => by
                obtain ⟨x1, sb, x2, x3⟩ := unfrozen_mem.1 hi
                exact ⟨sb, x2, x3, .inl (by rw [LS.blk_of]; exact x2)⟩)
              have hst : Stays st1.heap E σ2 p.2 Φ2 (LS.of st1) Φ1 μ1 a1 w1 := by
                refine ⟨hR2, l1, fun id hi => ⟨LS.blk_of st1 id, fun C t fr hh => ?_⟩⟩
                obtain ⟨sb, hsb⟩ := hids id hi
                cases hro : sb.ro with
                | false => exact l3 id (unfrozen_mem.2 ⟨hi, sb, hsb, hro⟩) C t fr hh
                | true =>
                  obtain ⟨_, ⟨C', t', fr', x1, _, _, _, x6⟩, _⟩ := hR2.blks id sb (by rw [LS.blk_of]; exact hsb)
                  rw [x1] at hh; cases hh
                  rw [hro] at x6
                  exact l1 _ _ (by simpa using x6)
              obtain ⟨us, qu, qr⟩ := qc k2
              obtain ⟨hs, p1, p2, p3⟩ := q1 E (LS.of st1) Φ1 μ1 a1 w1 Φ2 us hst qu
              have hkeep : ∀ (l : List Nat) (Y : LS) (id : Nat), id ∉ l → (Y.upd ((frozen st1.heap l).map fun p => (lBlk p.1, LV.bk p.2))).blk id = Y.blk id := by
                intro l
                induction l with
                | nil => intro Y id _; rfl
                | cons j l ih =>
                  intro Y id hn
                  have hstep : (Y.upd ((frozen st1.heap (j :: l)).map fun p => (lBlk p.1, LV.bk p.2))) = (Y.set (lBlk j) (.bk ((st1.heap.getD j none).map fun sb => { sb with ro := true }))).upd ((frozen st1.heap l).map fun p => (lBlk p.1, LV.bk p.2)) := rfl
                  rw [hstep, ih _ id (fun h => hn (by simp [h]))]
                  simp [show id ≠ j from fun e => hn (by simp [e])]
              have hil : (List.range bs.length ++ outs).length = sh.nb := by simp [hnb]
              have hzl : zs.length = sh.nb := by rw [q2.length, hil]
              have hval : a.den σ2 = .tup (p.1.map (Atom.den σ2) ++ zs.map (Atom.den σ2)) := by
                rw [List.map_append] at q3
                have : ∀ l : List AV, evalO .mktup l = some (.tup l) := fun l => by cases l <;> rfl
                rw [this] at q3
                injection q3 with q3; exact q3.symm
              simp only [den] at r2
              rw [hval, ← p2] at r2
              have hget : ∀ k, k < sh.nb → ∃ id, (List.range bs.length ++ outs)[k]? = some id ∧ (List.range bs.length ++ outs).getD k 0 = id := fun k hk => ⟨_, List.getElem?_eq_getElem (by omega), by rw [List.getD_eq_getElem?_getD, List.getElem?_eq_getElem (by omega)]; rfl⟩
              have hlow : ∀ k, k < bs.length → (List.range bs.length ++ outs).getD k 0 = k := fun k hk => by
                rw [List.getD_eq_getElem?_getD, List.getElem?_append_left (by simpa using hk), List.getElem?_range hk]; rfl
              -- every block of one's own, as it is then
              have hblk' : ∀ k, k < sh.nb → ∃ sb, (LS.of st1).blk ((List.range bs.length ++ outs).getD k 0) = some sb ∧ sb.ro = false ∧
                  ((LS.of st1).upd ((frozen st1.heap (unfrozen st1.heap p.2)).map fun p => (lBlk p.1, LV.bk p.2))).blk ((List.range bs.length ++ outs).getD k 0) = some sb ∧
                  ∃ z, zs[k]? = some z ∧ ∀ Φ μ vs, CRep Φ μ σ2 sb.cells vs → ∃ cs, z.den σ2 = .lst cs ∧ RepL Φ cs vs := fun k hk => by
                obtain ⟨id, hid, hid'⟩ := hget k hk
                have hzk : zs[k]? = some (zs[k]'(by omega)) := List.getElem?_eq_getElem (by omega)
                obtain ⟨sb, y1, y2, y3⟩ := q2.at hid hzk
                rw [hid']
                have hnot : id ∉ unfrozen st1.heap p.2 := fun hm => by
                  have h1 := (unfrozen_mem.1 hm).1
                  have h2 := (List.all_eq_true.1 ((List.all_eq_true.1 hge) id h1)) id (List.mem_of_getElem? hid)
                  rw [Nat.beq_refl] at h2
                  cases h2
                exact ⟨sb, by rw [LS.blk_of]; exact y1, y2, by rw [hkeep _ _ _ hnot, LS.blk_of]; exact y1, _, hzk, y3⟩
              have hμ : ∀ k, k < bs.length → μ1 k = μ k := fun k hk => (hR1.old k hk).2
              refine hQ ⟨hR1.dfr, v, k1, Φ2, fun k => μ1 ((List.range bs.length ++ outs).getD k 0), hs, zs.map (Atom.den σ2), v, rfl, p1, r2, qr Φ2 _ sh hs rfl p1 (p3 _ fun k id hid => ?_), by simp [hzl], by simp; omega, fun k hk => ?_, fun k hk hk2 => ?_,
                fun i j hi hj hij => ?_, fun k b hb => ?_, l2.mem.fix, l2.mem.phi0, fun b hb hne => l2.mem.phi b hb (fun ⟨k, h1, h2⟩ => hne k (by simpa using h1) h2),
                l2.mem.os, l2.mem.tape, l2.mem.output, l2.mem.size, fun b hb hne => l2.mem.frame b hb (fun ⟨k, h1, h2⟩ => hne k (by simpa using h1) h2)⟩
              · simp only [List.getD_eq_getElem?_getD, hid, Option.getD_some]
              · have hk : k < bs.length := by simpa using hk
                simp only [hlow k hk]
                exact hμ k hk
              · have hk : bs.length ≤ k := by simpa using hk
                obtain ⟨sb, y1, y2, _, _⟩ := hblk' k hk2
                rcases hR2.home _ sb y1 y2 with h5 | ⟨k', h5, h6⟩
                · exact h5
                · exfalso
                  obtain ⟨sb', z1, z2, _, _⟩ := hblk' k' (by omega)
                  obtain ⟨id, hid, hid'⟩ := hget k hk2
                  obtain ⟨id', hid2, hid2'⟩ := hget k' (by omega)
                  have hne : (List.range bs.length ++ outs).getD k 0 ≠ (List.range bs.length ++ outs).getD k' 0 := fun e => by
                    rw [hid', hid2'] at e
                    subst e
                    have := distinct_get hds k k' id hid hid2
                    omega
                  refine hR2.inj _ _ sb sb' y1 z1 y2 z2 hne ?_
                  rw [h6, hlow k' h5, hμ k' h5]
              · obtain ⟨sb, y1, y2, _, _⟩ := hblk' i hi
                obtain ⟨sb', z1, z2, _, _⟩ := hblk' j hj
                obtain ⟨id, hid, hid'⟩ := hget i hi
                obtain ⟨id', hid2, hid2'⟩ := hget j hj
                refine hR2.inj _ _ sb sb' y1 z1 y2 z2 fun e => ?_
                rw [hid', hid2'] at e
                subst e
                exact hij (distinct_get hds i j id hid hid2)
              · have hkl : k < zs.length := by have := (List.getElem?_eq_some_iff.1 hb).1; simpa using this
                obtain ⟨sb, _, y2, y3, z, y4, y5⟩ := hblk' k (by omega)
                have hbz : b = z.den σ2 := by
                  rw [List.getElem?_map, y4] at hb
                  simpa using hb.symm
                obtain ⟨_, ⟨C, t, fr, z1, z2, z3, z4, z5⟩, _⟩ := l2.blks _ sb y3
                rw [y2] at z5
                rw [hbz]
                exact ⟨C, t, fr, z1, z2, z3, y5 Φ2 μ1 _ z4, by simpa using z5⟩
            · simp [den] at hd
          cases e with
          | exit i => simp [den] at g6
          | normal => exact body g6 fun h => h
          | ret => exact body g6 fun h => h
        · exact (hpan v g1).elim
      · simp [den] at h
    · simp [den] at h
  · simp [den] at h
theorem den_callH {H : List (List AV → Prop)} {f : FuncId} {as : List HA} {bs : List Atom} {sh : Sh} {v : AV} {t : T} (h : CtH P f (as.map (HA.den σ)) (bs.map (Atom.den σ)) sh (fun e => e = .ret v)) (k : den P R H (σ ++ [v]) t) :
    den P R H σ (.node (.callH f as bs sh) t) := ⟨v, h, k⟩
def Known (P : Program) (K : Knowns) : Prop := ∀ k ∈ K, Ct P k.1 k.2.1 (fun e => e = .ret k.2.2)
def inK (f : FuncId) (as : List AV) (v : AV) : Knowns → Bool
  | [] => false
  | (g, bs, u) :: l => (Nat.beq g f && AV.beqL bs as && AV.beq u v) || inK f as v l
theorem inK_mem {f : FuncId} {as : List AV} {v : AV} : ∀ {K : Knowns}, inK f as v K = true → (f, as, v) ∈ K
  | [], h => by simp [inK] at h
  | (g, bs, u) :: l, h => by
    simp only [inK, Bool.or_eq_true, Bool.and_eq_true] at h
    rcases h with ⟨⟨h1, h2⟩, h3⟩ | h
    · rw [Nat.eq_of_beq_eq_true h1, AV.beqL_eq _ _ h2, AV.beq_eq _ _ h3]; simp
    · exact List.mem_cons_of_mem _ (inK_mem h)
def T.plain (K : Knowns) (v : AV) : T → Bool
  | .ret (.c u) => AV.beq u v
  | .node (.known f as u) t => inK f as u K && T.plain K v t
  | _ => false
theorem T.plain_den {K : Knowns} {v : AV} (hK : Known P K) : ∀ (t : T) (H : List (List AV → Prop)) (σ : List AV), T.plain K v t = true → den P (fun e => e = .ret v) H σ t
  | .ret (.c u), H, σ, h => by
    simp only [T.plain] at h
    simp only [den, Atom.den]
    rw [AV.beq_eq _ _ h]
  | .ret (.v i), H, σ, h => by simp [T.plain] at h
  | .node (.known f as u) t, H, σ, h => by
    simp only [T.plain, Bool.and_eq_true] at h
    exact ⟨u, ⟨hK _ (inK_mem h.1), rfl⟩, T.plain_den hK t H _ h.2⟩
  | .node (.op _ _) _, _, _, h => by simp [T.plain] at h
  | .node (.call _ _ _) _, _, _, h => by simp [T.plain] at h
  | .node (.callH _ _ _ _) _, _, _, h => by simp [T.plain] at h
  | .fail, _, _, h => by simp [T.plain] at h
  | .pan _, _, _, h => by simp [T.plain] at h
  | .br _ _ _, _, _, h => by simp [T.plain] at h
  | .loop _ _ _, _, _, h => by simp [T.plain] at h
  | .back _ _, _, _, h => by simp [T.plain] at h
theorem Known.nil : Known P [] := fun _ h => by cases h
theorem Known.add {K : Knowns} (hm : P.follows .mixedOrders = true) (hK : Known P K) (f : FuncId) (as : List AV) (v : AV) (fuel : Nat)
    (h : T.plain K v (seTop P { anns := [], fuel, muts := ⟨[], K⟩ } f (as.map .c) []) = true) : Known P ((f, as, v) :: K) := fun k hk => by
  rcases List.mem_cons.1 hk with rfl | hk
  · have := seTop_ct hm (σ := []) rfl (by trivial) (T.plain_den hK _ [] [] h)
    have e : (as.map Atom.c).map (Atom.den []) = as := by
      rw [List.map_map]
      exact List.map_id as
    rwa [e] at this
  · exact hK k hk
theorem Known.more {K : Knowns} (hK : Known P K) {f : FuncId} {as : List AV} {v : AV} (h : Ct P f as (fun e => e = .ret v)) : Known P ((f, as, v) :: K) := fun k hk => by
  rcases List.mem_cons.1 hk with rfl | hk
  · exact h
  · exact hK k hk
end Go.SE
set_option autoImplicit false
namespace Go.SE
open Go
def look : List AV → Nat → AV
  | [], _ => default
  | a :: _, 0 => a
  | _ :: l, n + 1 => look l n
def Atom.at (n : Nat) (ρ : List AV) : Atom → AV
  | .v i => bif Nat.blt i n then look ρ (n - 1 - i) else default
  | .c a => a
def HA.at (n : Nat) (ρ : List AV) : HA → HV
  | .val a => .val (a.at n ρ)
  | .osl k sz off len cap => .osl k sz (off.at n ρ) (len.at n ρ) (cap.at n ρ)
  | .ptr k off => .ptr k (off.at n ρ)
def atL (n : Nat) (ρ : List AV) : List Atom → List AV
  | [] => []
  | a :: l => a.at n ρ :: atL n ρ l
def hatL (n : Nat) (ρ : List AV) : List HA → List HV
  | [] => []
  | a :: l => a.at n ρ :: hatL n ρ l
def pushL : List AV → List AV → List AV
  | [], ρ => ρ
  | a :: l, ρ => pushL l (a :: ρ)
theorem look_getD (ρ : List AV) : ∀ i, i < ρ.length → look ρ (ρ.length - 1 - i) = ρ.reverse.getD i default := fun i hi => by
  have h1 : ∀ (l : List AV) k, look l k = l.getD k default := by
    intro l
    induction l with
    | nil => intro k; rfl
    | cons a l ih => intro k; cases k with
      | zero => rfl
      | succ k => simp [look, ih]
  rw [h1, List.getD_eq_getElem?_getD, List.getD_eq_getElem?_getD, List.getElem?_reverse hi]
theorem Atom.at_den {n : Nat} {ρ : List AV} (hn : ρ.length = n) (a : Atom) : a.at n ρ = a.den ρ.reverse := by
  subst hn
  cases a with
  | c a => rfl
  | v i =>
    simp only [Atom.at, Atom.den]
    cases h : Nat.blt i ρ.length with
    | true =>
      have : i < ρ.length := by simpa [Nat.blt_eq] using h
      exact look_getD ρ i this
    | false =>
      have : ρ.length ≤ i := by
        rcases Nat.lt_or_ge i ρ.length with h' | h'
        · have : Nat.blt i ρ.length = true := by simpa [Nat.blt_eq] using h'
          rw [this] at h; cases h
        · exact h'
      rw [List.getD_eq_getElem?_getD, List.getElem?_eq_none (by simpa using this)]; rfl
theorem HA.at_den {n : Nat} {ρ : List AV} (hn : ρ.length = n) (a : HA) : a.at n ρ = a.den ρ.reverse := by
  cases a <;> simp [HA.at, HA.den, Atom.at_den hn]
theorem atL_den {n : Nat} {ρ : List AV} (hn : ρ.length = n) : ∀ l : List Atom, atL n ρ l = l.map (Atom.den ρ.reverse)
  | [] => rfl
  | a :: l => by simp [atL, Atom.at_den hn, atL_den hn l]
theorem hatL_den {n : Nat} {ρ : List AV} (hn : ρ.length = n) : ∀ l : List HA, hatL n ρ l = l.map (HA.den ρ.reverse)
  | [] => rfl
  | a :: l => by simp [hatL, HA.at_den hn, hatL_den hn l]
theorem pushL_eq : ∀ (l ρ : List AV), pushL l ρ = l.reverse ++ ρ
  | [], ρ => rfl
  | a :: l, ρ => by simp [pushL, pushL_eq l]
def D (P : Program) (R : AEnd → Prop) (H : List (List AV → Prop)) (n : Nat) (ρ : List AV) (t : T) : Prop := ρ.length = n → den P R H ρ.reverse t
variable {P : Program} {R : AEnd → Prop} {H : List (List AV → Prop)} {n : Nat} {ρ : List AV}
theorem d_op {o : O} {as : List Atom} {v : AV} {t : T} (h : evalO o (atL n ρ as) = some v) (k : D P R H (n + 1) (v :: ρ) t) : D P R H n ρ (.node (.op o as) t) := fun hn => by
  rw [atL_den hn] at h
  have := k (by simp [hn])
  rw [List.reverse_cons] at this
  exact den_op h this
theorem d_call {f : FuncId} {as : List Atom} {c : Bool} {v : AV} {t : T} (h : Ct P f (atL n ρ as) (fun e => e = .ret v)) (hc : c = true → v.isCell = true) (k : D P R H (n + 1) (v :: ρ) t) :
    D P R H n ρ (.node (.call f as c) t) := fun hn => by
  rw [atL_den hn] at h
  have := k (by simp [hn])
  rw [List.reverse_cons] at this
  exact den_call h hc this
theorem d_callH {f : FuncId} {as : List HA} {bs : List Atom} {sh : Sh} {v : AV} {t : T} (h : CtH P f (hatL n ρ as) (atL n ρ bs) sh (fun e => e = .ret v)) (k : D P R H (n + 1) (v :: ρ) t) :
    D P R H n ρ (.node (.callH f as bs sh) t) := fun hn => by
  rw [atL_den hn, hatL_den hn] at h
  have := k (by simp [hn])
  rw [List.reverse_cons] at this
  exact den_callH h this
theorem d_br {a : Atom} {t e : T} (b : Bool) (h : a.at n ρ = .bool b) (ht : b = true → D P R H n ρ t) (he : b = false → D P R H n ρ e) : D P R H n ρ (.br a t e) := fun hn => by
  rw [Atom.at_den hn] at h
  exact den_br b h (fun hb => ht hb hn) (fun hb => he hb hn)
theorem d_if {a : Atom} {t e : T} {p : Prop} [Decidable p] (h : a.at n ρ = .bool (decide p)) (ht : p → D P R H n ρ t) (he : ¬ p → D P R H n ρ e) : D P R H n ρ (.br a t e) :=
  d_br _ h (fun hb => ht (of_decide_eq_true hb)) (fun hb => he (of_decide_eq_false hb))
theorem d_loop {init : List Atom} {ks : List Bool} {t : T} (I : List AV → Prop) (m : List AV → Nat) (h : I (atL n ρ init))
    (k : ∀ ys, ys.length = ks.length → kindsRep ks ys → I ys → D P R ((fun zs => I zs ∧ m zs < m ys) :: H) (n + ks.length) (pushL ys ρ) t) : D P R H n ρ (.loop init ks t) := fun hn => by
  rw [atL_den hn] at h
  refine den_loop I m h fun ys hk hI => ?_
  have hl : ys.length = ks.length := by
    have : ∀ (ks : List Bool) (ys : List AV), kindsRep ks ys → ys.length = ks.length := by
      intro ks
      induction ks with
      | nil => intro ys h; cases ys with
        | nil => rfl
        | cons _ _ => exact h.elim
      | cons k ks ih => intro ys h; cases ys with
        | nil => exact h.elim
        | cons y ys => simp [ih ys h.2]
    exact this ks ys hk
  have := k ys hl hk hI (by rw [pushL_eq]; simp [hn, hl, Nat.add_comm])
  rw [pushL_eq, List.reverse_append, List.reverse_reverse] at this
  exact this
theorem d_back {d : Nat} {zs : List Atom} {J : List AV → Prop} (hJ : H[d]? = some J) (h : J (atL n ρ zs)) : D P R H n ρ (.back d zs) := fun hn => by
  rw [atL_den hn] at h
  show (H.getD d fun _ => False) _
  rw [List.getD_eq_getElem?_getD, hJ]; exact h
theorem d_ret {a : Atom} (h : R (.ret (a.at n ρ))) : D P R H n ρ (.ret a) := fun hn => by
  rw [Atom.at_den hn] at h; exact h
theorem least {p : Nat → Prop} (h : ∃ n, p n) : ∃ n, p n ∧ ∀ k, p k → n ≤ k := by
  obtain ⟨n, hn⟩ := h
  induction n using Nat.strongRecOn with
  | ind n ih =>
    by_cases hk : ∃ k, k < n ∧ p k
    · obtain ⟨k, h1, h2⟩ := hk
      exact ih k h1 h2
    · refine ⟨n, hn, fun k hp => ?_⟩
      rcases Nat.lt_or_ge k n with h | h
      · exact absurd ⟨k, h, hp⟩ hk
      · exact h
theorem d_while {α : Type} {init : List Atom} {ks : List Bool} {t : T} (f : α → List AV) (I : α → Prop) (m : α → Nat) (x : α) (hx : I x) (h : atL n ρ init = f x)
    (k : ∀ x, I x → D P R ((fun zs => ∃ y, zs = f y ∧ I y ∧ m y < m x) :: H) (n + ks.length) (pushL (f x) ρ) t) : D P R H n ρ (.loop init ks t) := by
  have hm : ∀ zs : List AV, ∃ c : Nat, (∀ x, zs = f x → I x → c ≤ m x) ∧ ((∃ x, zs = f x ∧ I x) → ∃ x, zs = f x ∧ I x ∧ m x = c) := fun zs => by
    by_cases hz : ∃ x, zs = f x ∧ I x
    · obtain ⟨x, h1, h2⟩ := hz
      obtain ⟨c, ⟨y, g1, g2, g3⟩, g4⟩ := least (p := fun c => ∃ y, zs = f y ∧ I y ∧ m y = c) ⟨m x, x, h1, h2, rfl⟩
      exact ⟨c, fun y hy hI => g4 _ ⟨y, hy, hI, rfl⟩, fun _ => ⟨y, g1, g2, g3⟩⟩
    · exact ⟨0, fun _ _ _ => Nat.zero_le _, fun h => absurd h hz⟩
  refine d_loop (fun ys => ∃ x, ys = f x ∧ I x) (fun zs => Classical.choose (hm zs)) ⟨x, h, hx⟩ fun ys _ _ hI => ?_
  obtain ⟨x, h1, h2, h3⟩ := (Classical.choose_spec (hm ys)).2 hI
  have hk := k x h2
  rw [← h1] at hk
  have weak : ∀ {J J' : List AV → Prop} {n : Nat} {ρ : List AV} {t : T}, (∀ zs, J zs → J' zs) → D P R (J :: H) n ρ t → D P R (J' :: H) n ρ t := by
    have key : ∀ (t : T) (H1 H2 : List (List AV → Prop)) (σ : List AV), H1.length = H2.length → (∀ (d : Nat) zs, H1.getD d (fun _ => False) zs → H2.getD d (fun _ => False) zs) → den P R H1 σ t → den P R H2 σ t := by
      intro t
      induction t with
      | fail => intro H1 H2 σ _ _ h; exact h
      | ret a => intro H1 H2 σ _ _ h; exact h
      | pan a => intro H1 H2 σ _ _ h; exact h
      | node nd rest ih =>
        intro H1 H2 σ hl hh h
        obtain ⟨v, h1, h2⟩ := h
        exact ⟨v, h1, ih H1 H2 _ hl hh h2⟩
      | br a t e iht ihe =>
        intro H1 H2 σ hl hh h
        obtain ⟨b, h1, h2⟩ := h
        refine ⟨b, h1, ?_⟩
        cases b
        · exact ihe H1 H2 σ hl hh h2
        · exact iht H1 H2 σ hl hh h2
      | loop init ks body ih =>
        intro H1 H2 σ hl hh h
        obtain ⟨I, m, h1, h2⟩ := h
        refine ⟨I, m, h1, fun ys hk hI => ih _ _ _ (by simp [hl]) (fun d zs hz => ?_) (h2 ys hk hI)⟩
        cases d with
        | zero => exact hz
        | succ d => simpa using hh d zs (by simpa using hz)
      | back d zs =>
        intro H1 H2 σ hl hh h
        exact hh d _ h
    intro J J' n ρ t hJ hD hn
    refine key t (J :: H) (J' :: H) _ rfl (fun d zs hz => ?_) (hD hn)
    cases d with
    | zero => exact hJ zs hz
    | succ d => exact hz
  refine weak (fun zs hz => ?_) hk
  obtain ⟨y, g1, g2, g3⟩ := hz
  refine ⟨⟨y, g1, g2⟩, ?_⟩
  have := (Classical.choose_spec (hm zs)).1 y g1 g2
  omega
theorem ct_of (hm : P.follows .mixedOrders = true) {cfg : Cfg} {f : FuncId} {args : List Atom} {kinds : List Bool} {t : T} (hb : cfg.base = 0) (ht : seTop P cfg f args kinds = t) (ρ : List AV) (n : Nat) (hn : ρ.length = n)
    (hk : kindsRep kinds ρ.reverse) {as : List AV} (ha : atL n ρ args = as) (h : D P R [] n ρ t) : Ct P f as R := by
  subst ht; subst ha
  rw [atL_den hn]
  exact seTop_ct hm hb hk (h hn)
theorem ctH_of (hm : P.follows .mixedOrders = true) {cfg : Cfg} {f : FuncId} {args : List HA} {bs : List Atom} {outs : List Nat} {sh : Sh} {kinds : List Bool} {t : T} (ht : seTopH P cfg f args bs outs sh kinds = t) (ρ : List AV) (n : Nat) (hn : ρ.length = n)
    (hk : kindsRep kinds ρ.reverse) {as : List HV} {bv : List AV} (ha : hatL n ρ args = as) (hb : atL n ρ bs = bv) (hp : ∀ v, ¬ R (.pan v)) (h : D P R [] n ρ t) : CtH P f as bv sh R := by
  subst ht; subst ha; subst hb
  rw [atL_den hn, hatL_den hn]
  exact seTopH_ct hm hk hp (h hn)
end Go.SE
