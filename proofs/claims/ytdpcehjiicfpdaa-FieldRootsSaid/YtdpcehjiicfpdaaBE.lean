/- Nothing of the statement is proved here: this text lays generic laws: BE; no conditions. -/
import Derived.Test.YtdpcehjiicfpdaaSe6

set_option linter.all false
set_option autoImplicit false
namespace Go.SE
open Go Go.RowKit Go.ChangeShapes Go.WideShapes

/-! ### structs, as they come in -/

variable {H : Type} {enc : TypeId × Value → H} {P : Program} {W : World} {t e : TypeId} {k : IntKind} {v : Value} {d : DataW H} {ps : List MemPlace} {base : Nat}

theorem sized_struct {ts : List TypeId} {ds parts : List (DataW H)} {fs : Array Field} {j : Nat} (h : (DataW.weightsEach P ts ds).all (· ≤ reachBytes) = true) (ht : ts[j]? = some t) (hd : ds[j]? = some (.agg parts)) (hu : P.underlying t = some (.struct fs)) :
    (DataW.weightsEach P (fs.toList.map (·.type)) parts).all (· ≤ reachBytes) = true :=
  List.all_eq_true.2 fun n hn => List.all_eq_true.1 h n (DataW.weights_mem_each ht hd n (by simp only [DataW.weights, hu]; exact hn))

/-- a struct's parts -/
structure Parts (enc : TypeId × Value → H) (P : Program) (W : World) (base : Nat) (fs : Array Field) (ts : List TypeId) (cs : Array Value) (parts : List (DataW H)) : Prop where
  fields : ∀ (i : Nat) (f : Field), fs[i]? = some f → ∃ n di pi, parts[i]? = some di ∧ DataW.trod enc P W 0 (fun _ => true) true n f.type ((cs.toList.drop f.offset).take (P.cellsOf f.type)) = some (di, pi)
  cells : ∀ (i : Nat) (c : Value), cs[i]? = some c → ∃ u, ts[i % ts.length]? = some u ∧ Cell.okWide P W .any base u c

theorem rep_struct {fs : Array Field} {ts : List TypeId} (ht : P.underlying t = some (.struct fs)) (hts : P.cellTypes P.depth t = some ts)
    (hok : Value.okWide P W .any base t v) (h : DataW.Trod enc P W 0 (fun _ => true) true t v d ps) :
    ∃ (cs : Array Value) (parts : List (DataW H)), v = .agg cs ∧ d = .agg parts ∧ cs.size = P.cellsOf t ∧ Parts enc P W base fs ts cs parts := by
  simp only [Value.okWide, ht] at hok
  obtain ⟨cs, rfl, hsz, ts', h1, _, h2⟩ := hok
  rw [hts] at h1
  cases h1
  obtain ⟨fuel, hf⟩ := h
  obtain ⟨xs, n, _, hx, hl, hlen, hg⟩ := DataW.trod_struct ht hf
  cases hx
  refine ⟨cs, _, rfl, rfl, hsz, ⟨fun i f hi => ?_, h2⟩⟩
  have hix : i < xs.length := by
    have := (Array.getElem?_eq_some_iff.1 hi).1
    omega
  have := hg i f hi
  exact ⟨n, xs[i].1, xs[i].2, by simp [List.getElem?_eq_getElem hix], by simpa [List.getElem?_eq_getElem hix, Value.cells] using this⟩

/-- a part that is one cell -/
theorem Parts.one {fs : Array Field} {ts : List TypeId} {cs : Array Value} {parts : List (DataW H)} (h : Parts enc P W base fs ts cs parts) {i : Nat} {f : Field} {c : Value} (hi : fs[i]? = some f) (hc : P.cellsOf f.type = 1)
    (hv : cs[f.offset]? = some c) (hcc : c.cells = #[c]) (hu : ts[f.offset % ts.length]? = some f.type)
    (hs : ∀ x, Cell.okWide P W .any base f.type x → Value.okWide P W .any base f.type x) :
    ∃ di pi, parts[i]? = some di ∧ Value.okWide P W .any base f.type c ∧ DataW.Trod enc P W 0 (fun _ => true) true f.type c di pi := by
  obtain ⟨n, di, pi, h1, h2⟩ := h.fields i f hi
  obtain ⟨u, h3, h4⟩ := h.cells _ _ hv
  rw [hu] at h3
  cases h3
  refine ⟨di, pi, h1, hs _ h4, n, ?_⟩
  rw [hc] at h2
  have hd : (cs.toList.drop f.offset).take 1 = [c] := by
    have : (cs.toList.drop f.offset)[0]? = some c := by rw [List.getElem?_drop]; simpa using hv
    cases hl : cs.toList.drop f.offset with
    | nil => rw [hl] at this; simp at this
    | cons x l => rw [hl] at this; simp at this; subst this; rfl
  rw [hd] at h2
  rw [hcc]
  exact h2

theorem okWide_slice_cell {x : Value} (ht : P.underlying t = some (.slice e)) (h : Cell.okWide P W .any base t x) : Value.okWide P W .any base t x := by
  simp only [Value.okWide, ht]; exact h
theorem slice_cell {x : Value} (ht : P.underlying t = some (.slice e)) (h : Cell.okWide P W .any base t x) : x.cells = #[x] := by
  obtain ⟨a, l, c, rfl⟩ := okWide_slice ht (okWide_slice_cell ht h)
  rfl

/-- a part that is a slice of unsigned numbers -/
theorem Parts.nums {fs : Array Field} {ts : List TypeId} {cs : Array Value} {parts : List (DataW H)} (h : Parts enc P W base fs ts cs parts) {i : Nat} {f : Field} (hi : fs[i]? = some f)
    (ht : P.underlying f.type = some (.slice e)) (he : P.underlying e = some (.int k)) (hc : P.cellsOf e = 1) (hs : k.signed = false) (hcf : P.cellsOf f.type = 1) (ho : f.offset < cs.size) (hu : ts[f.offset % ts.length]? = some f.type)
    (hsz : (DataW.weightsEach P (fs.toList.map (·.type)) parts).all (· ≤ reachBytes) = true) :
    ∃ L : List Nat, (∃ c, cs[f.offset]? = some c ∧ Rep (memOf W) (SN k L) c) ∧ LtAll (2 ^ k.bits) L ∧ L.length * P.bytesOf e ≤ reachBytes := by
  have hv : cs[f.offset]? = some cs[f.offset] := Array.getElem?_eq_getElem ho
  obtain ⟨u, h3, h4⟩ := h.cells _ _ hv
  rw [hu] at h3
  cases h3
  obtain ⟨di, pi, h1, h2, h5⟩ := h.one hi hcf hv (slice_cell ht h4) hu (fun x hx => okWide_slice_cell ht hx)
  obtain ⟨L, r, l, b⟩ := rep_nums ht he hc hs h2 h5
  exact ⟨L, ⟨_, hv, r⟩, l, b hsz (j := i) (by simp [hi]) h1⟩

/-- an array (or struct) of numbers of 64 bits, as it came in -/
theorem rep_u64s {Φ : Fix} {n : Nat} {ts : List TypeId} (hts : P.cellTypes P.depth t = some ts) (hagg : P.underlying t = some (.array n e)) (hall : ∀ u ∈ ts, P.underlying u = some (.int .u64))
    (hok : Value.okWide P W .any base t v) : ∃ L : List Nat, L.length = P.cellsOf t ∧ LtAll 18446744073709551616 L ∧ Rep Φ (.agg (CN .u64 L)) v := by
  simp only [Value.okWide, hagg] at hok
  obtain ⟨cs, rfl, hsz, ts', h1, _, h2⟩ := hok
  rw [hts] at h1
  cases h1
  have hcell : ∀ (i : Nat) (c : Value), cs[i]? = some c → ∃ x : Nat, c = .int .u64 (x : Int) ∧ x < 18446744073709551616 := fun i c hi => by
    obtain ⟨u, g1, g2⟩ := h2 i c hi
    have hu := hall u (List.mem_of_getElem? g1)
    have hok' : Value.okWide P W .any base u c := by simp only [Value.okWide, hu]; exact g2
    obtain ⟨z, rfl⟩ := okWide_int hu hok'
    simp only [Cell.okWide, hu, Cell.ok, IntKind.has] at g2
    have h3 : IntKind.u64.min = 0 := rfl
    have h4 : IntKind.u64.max = 18446744073709551615 := rfl
    rw [h3, h4] at g2
    simp at g2
    exact ⟨z.toNat, by congr 1; omega, by omega⟩
  refine ⟨cs.toList.map fun c => match c with | .int _ z => z.toNat | _ => 0, by simp [hsz], fun x hx => ?_, ?_⟩
  · simp only [List.mem_map] at hx
    obtain ⟨c, hc, rfl⟩ := hx
    obtain ⟨i, hi⟩ := List.mem_iff_getElem?.1 hc
    obtain ⟨x, rfl, hx⟩ := hcell i c (by simpa using hi)
    simpa using hx
  · simp only [Rep]
    refine ⟨cs, rfl, by simp, RepL_of_get fun i c hi => ?_⟩
    simp only [CN, List.getElem?_map, Option.map_eq_some_iff] at hi
    obtain ⟨x, ⟨d, hd, rfl⟩, rfl⟩ := hi
    obtain ⟨y, rfl, hy⟩ := hcell i d (by simpa using hd)
    exact ⟨_, hd, by simp [Rep]⟩

theorem rep_agg {Φ : Fix} {cs : List AV} {vs : Array Value} (hs : vs.size = cs.length) (h : ∀ (i : Nat) (c : AV), cs[i]? = some c → ∃ v, vs[i]? = some v ∧ Rep Φ c v) : Rep Φ (.agg cs) (.agg vs) := by
  simp only [Rep]
  exact ⟨vs, rfl, hs, RepL_of_get fun i c hi => by obtain ⟨v, h1, h2⟩ := h i c hi; exact ⟨v, by simpa using h1, h2⟩⟩

/-- a slice of numbers is as long as what is told of it -/
theorem nums_len {Φ : Fix} {L : List Nat} (ht : P.underlying t = some (.slice e)) (he : P.underlying e = some (.int k)) (hc : P.cellsOf e = 1) (h : DataW.Trod enc P W 0 (fun _ => true) true t v d ps) (hr : Rep Φ (SN k L) v) :
    L = [] ∨ ∃ l r, d = .slice l r ∧ L.length ≤ l.length := by
  obtain ⟨fuel, hf⟩ := h
  simp only [SN, Rep] at hr
  obtain ⟨a, cap, rfl, _⟩ := hr
  rcases open_ints ht he hc hf with ⟨hcs, hx⟩ | ⟨a', len, cap', zs, hcs, _, hl, hm, hz, hx, hcell, hwz⟩
  · simp [Value.cells] at hcs
    exact .inl hcs.2.1
  · simp [Value.cells] at hcs
    obtain ⟨_, hlen, _⟩ := hcs
    simp only [if_true] at hz
    simp only [Prod.mk.injEq] at hx
    refine .inr ⟨_, _, hx.1, ?_⟩
    simp only [lits, List.length_map, List.length_take]
    omega

end Go.SE
