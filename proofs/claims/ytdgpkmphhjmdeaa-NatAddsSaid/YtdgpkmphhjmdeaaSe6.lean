/- Nothing of the statement is proved here: this text lays the symbolic executor and its soundness, part 6; no conditions. -/
import Derived.Test.YtdgpkmphhjmdeaaSe5
import Derived.ProofKit
import Derived.SizedLaws
import Derived.Carry
import Derived.DataShut

set_option linter.all false
set_option autoImplicit false
namespace Go.SE
open Go Go.RowKit Go.ChangeShapes Go.WideShapes

/-! ### From the rows -/

/-- memory as it stands, all of it to be read alone -/
def memOf (W : World) : Fix := fun b => match W.heap[b]? with
  | some (.cells C _ _) => some C
  | _ => none

theorem WR_memOf (W : World) : WR (memOf W) W := fun b C h => by
  unfold memOf at h
  split at h
  · rename_i C' t fr hb
    cases h
    exact ⟨t, fr, hb⟩
  · cases h

theorem memOf_cell {W : World} {a : Addr} {v : Value} (h : W.cell? a = some v) : a.spot = none ∧ ∃ C, memOf W a.block = some C ∧ C[a.off]? = some v := by
  unfold World.cell? at h
  unfold memOf
  split at h
  · rename_i C t fr hb
    rw [hb]
    split at h
    · cases h
    · rename_i hs
      exact ⟨by simpa using hs, C, rfl, h⟩
  · cases h

theorem getElem?_of_drop {α : Type} {l : List α} {o i : Nat} {v : α} (h : l[o + i]? = some v) : (l.drop o)[i]? = some v := by
  rw [List.getElem?_drop]; exact h

theorem RepL_of_get {Φ : Fix} : ∀ {cs : List AV} {vs : List Value}, (∀ (i : Nat) (c : AV), cs[i]? = some c → ∃ v, vs[i]? = some v ∧ Rep Φ c v) → RepL Φ cs vs
  | [], _, _ => by simp [RepL]
  | c :: cs, vs, h => by
    obtain ⟨v, h1, h2⟩ := h 0 c rfl
    cases vs with
    | nil => simp at h1
    | cons u vs =>
      simp only [RepL]
      have : u = v := by simpa using h1
      exact ⟨this ▸ h2, RepL_of_get fun i d hd => by simpa using h (i + 1) d (by simpa using hd)⟩

theorem wf_unsigned {k : IntKind} {n : Int} (hs : k.signed = false) (h : (Lit.int k n).wf = true) : 0 ≤ n ∧ n.toNat < 2 ^ k.bits := by
  have h := (Go.Lit.wf_int_iff k n).1 h
  unfold IntKind.min IntKind.max at h
  rw [hs] at h
  simp only [Bool.false_eq_true, if_false] at h
  have e : ((2 : Int) ^ k.bits) = ((2 ^ k.bits : Nat) : Int) := by simp
  rw [e] at h
  omega

theorem add_block (a : Addr) (i : Nat) : (a.add i).block = a.block := by unfold Addr.add; split <;> rfl
theorem add_off (a : Addr) (i : Nat) : (a.add i).off = a.off + i := by
  unfold Addr.add
  split
  · rename_i h; simp [h]
  · rfl

variable {H : Type} {enc : TypeId × Value → H} {P : Program} {W : World} {t e : TypeId} {k : IntKind} {v : Value} {d : DataW H} {ps : List MemPlace} {base : Nat}

/-- a slice of unsigned numbers, as it came in -/
theorem rep_nums (ht : P.underlying t = some (.slice e)) (he : P.underlying e = some (.int k)) (hc : P.cellsOf e = 1) (hs : k.signed = false)
    (hok : Value.okWide P W .any base t v) (h : DataW.Trod enc P W 0 (fun _ => true) true t v d ps) :
    ∃ L : List Nat, Rep (memOf W) (SN k L) v ∧ LtAll (2 ^ k.bits) L ∧ ∀ {ts : List TypeId} {ds : List (DataW H)} {j : Nat}, (DataW.weightsEach P ts ds).all (· ≤ reachBytes) = true → ts[j]? = some t → ds[j]? = some d → L.length * P.bytesOf e ≤ reachBytes := by
  obtain ⟨a0, len0, cap0, rfl⟩ := okWide_slice ht hok
  obtain ⟨fuel, hf⟩ := h
  rcases open_ints ht he hc hf with ⟨hcs, hx⟩ | ⟨a, len, cap, zs, hcs, _, hl, hm, hz, hx, hcell, hwz⟩
  · simp [Value.cells] at hcs
    obtain ⟨rfl, rfl, rfl⟩ := hcs
    refine ⟨[], ?_, LtAll.nil, fun {ts ds j} _ _ _ => by simp⟩
    exact Sub.nils_sl _ _ (by simp [Rep])
  · simp [Value.cells] at hcs
    obtain ⟨rfl, rfl, rfl⟩ := hcs
    simp only [if_true] at hz
    simp only [Prod.mk.injEq] at hx
    obtain ⟨rfl, rfl⟩ := hx
    have hspot : a.spot = none := by
      unfold Value.okWide at hok
      rw [ht] at hok
      simp only at hok
      unfold Cell.okWide at hok
      rw [ht] at hok
      simp only at hok
      unfold Cell.ok at hok
      rw [ht] at hok
      exact hok.2.2.2.1
    have hLl : ((zs.take len0).map Int.toNat).length = len0 := by simp; omega
    have hget : ∀ i, i < len0 → ((zs.take len0).map Int.toNat)[i]? = some (zs.getD i 0).toNat := fun i hi => by
      rw [List.getElem?_map, List.getElem?_take_of_lt hi, List.getD_eq_getElem?_getD, List.getElem?_eq_getElem (by omega)]; rfl
    have hpos : ∀ i, i < zs.length → 0 ≤ zs.getD i 0 ∧ (zs.getD i 0).toNat < 2 ^ k.bits := fun i hi => by
      refine wf_unsigned hs (hwz _ ?_)
      rw [List.getD_eq_getElem?_getD, List.getElem?_eq_getElem hi]
      exact List.getElem_mem hi
    refine ⟨(zs.take len0).map Int.toNat, ?_, fun x hx => ?_, fun {ts ds j} hsz hj1 hj2 => ?_⟩
    · simp only [SN, Rep, hLl]
      refine ⟨some a, cap0, rfl, hl, (fun h => by cases h), fun ad had => ?_⟩
      cases had
      refine ⟨hspot, ?_⟩
      rcases Nat.eq_zero_or_pos len0 with h0 | h0
      · left
        apply List.eq_nil_of_length_eq_zero
        simp; omega
      · right
        obtain ⟨_, C, hC, _⟩ := memOf_cell (hcell 0 (by omega))
        refine ⟨C, by rw [add_block] at hC; exact hC, RepL_of_get fun i c hi => ?_⟩
        have hil : i < len0 := by
          have := (List.getElem?_eq_some_iff.1 hi).1
          simp at this; omega
        obtain ⟨_, C', hC', hv⟩ := memOf_cell (hcell i (by omega))
        have : C' = C := by
          have h1 : memOf W a.block = some C := by rw [add_block] at hC; exact hC
          have h2 : memOf W a.block = some C' := by rw [add_block] at hC'; exact hC'
          rw [h1] at h2; cases h2; rfl
        subst this
        refine ⟨.int k (zs.getD i 0), ?_, ?_⟩
        · rw [List.getElem?_drop]
          rw [add_off] at hv
          simpa using hv
        · simp only [CN, List.getElem?_map, hget i hil, Option.map_some, Option.some.injEq] at hi
          subst hi
          simp only [Rep]
          have := (hpos i (by omega)).1
          congr 1; omega
    · obtain ⟨i, hi⟩ := List.mem_iff_getElem?.1 hx
      have hil : i < len0 := by
        have := (List.getElem?_eq_some_iff.1 hi).1
        simp at this; omega
      rw [hget i hil] at hi
      cases hi
      exact (hpos i (by omega)).2
    · have := sized_slice hsz hj1 hj2 ht
      simp only [lits, List.length_map, List.length_take, List.length_drop] at this ⊢
      refine Nat.le_trans (Nat.mul_le_mul_right _ ?_) this
      omega

/-- a whole number, as it came in -/
theorem rep_int (ht : P.underlying t = some (.int k)) (hok : Value.okWide P W .any base t v) (h : DataW.Trod enc P W 0 (fun _ => true) true t v d ps) :
    ∃ n : Int, Rep (memOf W) (.int k n) v ∧ (Lit.int k n).wf = true := by
  obtain ⟨n, rfl, rfl, rfl, hw⟩ := open_int ht hok h
  exact ⟨n, by simp [Rep], hw⟩

theorem TrodAll_below (hl : laidOutB P = true) {W' : World} (hb : Below W.heap.size W W') : ∀ {ts : List TypeId} {vs : List Value} {ds : List (DataW H)} {qs : List MemPlace},
    (∀ t ∈ ts, P.readableRec t = true ∧ t < P.types.size) → DataW.TrodAll enc P W 0 (fun _ => true) true ts vs ds qs → (∀ x ∈ qs, x.block < W.heap.size) →
      DataW.TrodAll enc P W' 0 (fun b => decide (b < W.heap.size)) true ts vs ds qs
  | [], [], [], _, _, h, _ => h
  | t :: ts, v :: vs, d :: ds, qs, hr, h, hlt => by
    obtain ⟨p, q, h1, h2, rfl⟩ := h
    have a := hr t (by simp)
    exact ⟨p, q, Below.trod hl a.1 a.2 h1 hb (fun x hx => hlt x (by simp [hx])), TrodAll_below hl hb (fun u hu => hr u (by simp [hu])) h2 (fun x hx => hlt x (by simp [hx])), rfl⟩
  | [], [], _ :: _, _, _, h, _ => h.elim
  | [], _ :: _, _, _, _, h, _ => h.elim
  | _ :: _, [], _, _, _, h, _ => h.elim
  | _ :: _, _ :: _, [], _, _, h, _ => h.elim

/-- the law's own answer, from the contract -/
theorem law_calls {fn : Func} {s : ChangeSpec} {f : FuncId} {args : Array Value} {ds gs : List (DataW H)} {before : List MemPlace} {avs : List AV} {tb : TypeId}
    (hl : laidOutB P = true) (hr : ∀ t ∈ fn.params.toList, P.readableRec t = true ∧ t < P.types.size) (hv : s.vars = []) (hres : fn.resultTypes = #[tb]) (hb : P.underlying tb = some .bool)
    (hspec : (s.fn H (ds ++ gs)).results = [.lit (.bool true)] ∧ (s.fn H (ds ++ gs)).args = ds ∧ (s.fn H (ds ++ gs)).vars = [])
    (hW : DataW.Whole enc P fn.params.toList s.vars false W args.toList ds gs before) (hrep : RepE (memOf W) avs args.toList) (hct : Ct P f avs (fun e => e = .ret (.bool true))) :
    Calls P f args W fun e W' => ∃ v, e = .returned v ∧ s.post enc P fn false true false false W args v W' := by
  have hW0 := hW
  obtain ⟨p, q, hA, hV, rfl, hfz, hnd⟩ := hW
  rw [hv] at hV
  have hq : gs = [] ∧ q = [] := by
    cases gs with
    | nil => exact ⟨rfl, hV⟩
    | cons _ _ => exact hV.elim
  obtain ⟨rfl, rfl⟩ := hq
  have hlt : ∀ x ∈ p, x.block < W.heap.size := fun x hx => hW0.lt x (by simp [hx])
  have hc := hct (memOf W) W args.toList (WR_memOf W) hrep
  simp only [Array.toArray_toList] at hc
  refine hc.mono fun en W' hh => ?_
  obtain ⟨Φ', r, rfl, ⟨x, rfl, hx⟩, _, _, _, bel⟩ := hh
  simp only [Rep] at hx
  subst hx
  refine ⟨.bool true, rfl, ds, [], p ++ [], [], p, [], hW0, ?_, ?_, ?_, bel.frame _, fun h => by cases h⟩
  · rw [hspec.1, hres]
    exact trodAll_mk1 (shut_bool hb true)
  · rw [hspec.2.1]
    exact TrodAll_below hl bel hr hA hlt
  · rw [hv, hspec.2.2]
    exact rfl

end Go.SE
