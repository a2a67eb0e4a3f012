/- Nothing of the statement is proved here: this text lays generic laws: BE; no conditions. -/
import Derived.Test.YtomjfjncfodmhaaSe6
set_option linter.all false
set_option autoImplicit false
namespace Go.SE
open Go Go.RowKit Go.ChangeShapes Go.WideShapes
variable {H : Type} {enc : TypeId × Value → H} {P : Program} {W : World} {t e : TypeId} {k : IntKind} {v : Value} {d : DataW H} {ps : List MemPlace} {base : Nat}
structure Parts (enc : TypeId × Value → H) (P : Program) (W : World) (base : Nat) (fs : Array Field) (ts : List TypeId) (cs : Array Value) (parts : List (DataW H)) : Prop where
  fields : ∀ (i : Nat) (f : Field), fs[i]? = some f → ∃ n di pi, parts[i]? = some di ∧ DataW.trod enc P W 0 (fun _ => true) true n f.type ((cs.toList.drop f.offset).take (P.cellsOf f.type)) = some (di, pi)
  cells : ∀ (i : Nat) (c : Value), cs[i]? = some c → ∃ u, ts[i % ts.length]? = some u ∧ Cell.okWide P W .any base u c
theorem Parts.one {fs : Array Field} {ts : List TypeId} {cs : Array Value} {parts : List (DataW H)} (h : Parts enc P W base fs ts cs parts) {i : Nat} {f : Field} {c : Value} (hi : fs[i]? = some f) (hc : P.cellsOf f.type = 1)
    (hv : cs[f.offset]? = some c) (hcc : c.cells = #[c]) (hu : ts[f.offset % ts.length]? = some f.type)
    (hs : ∀ x, Cell.okWide P W .any base f.type x → Value.okWide P W .any base f.type x) :
    ∃ di pi, parts[i]? = some di ∧ Value.okWide P W .any base f.type c ∧ DataW.Trod enc P W 0 (fun _ => true) true f.type c di pi := by
  obtain ⟨n, di, pi, h1, h2⟩ := h.fields i f hi
  obtain ⟨u, h3, h4⟩ := h.cells _ _ hv
  rw [hu] at h3
  cases h3
  refine ⟨di, pi, h1, hs _ h4, n, ?_⟩
  rw [hc] at h2
  have hd : (cs.toList.drop f.offset).take 1 = [c] := by
    have : (cs.toList.drop f.offset)[0]? = some c := by rw [List.getElem?_drop]; simpa using hv
    cases hl : cs.toList.drop f.offset with
    | nil => rw [hl] at this; simp at this
    | cons x l => rw [hl] at this; simp at this; subst this; rfl
  rw [hd] at h2
  rw [hcc]
  exact h2
theorem rep_u64s {Φ : Fix} {n : Nat} {ts : List TypeId} (hts : P.cellTypes P.depth t = some ts) (hagg : P.underlying t = some (.array n e)) (hall : ∀ u ∈ ts, P.underlying u = some (.int .u64))
    (hok : Value.okWide P W .any base t v) : ∃ L : List Nat, L.length = P.cellsOf t ∧ LtAll 18446744073709551616 L ∧ Rep Φ (.agg (CN .u64 L)) v := by
  simp only [Value.okWide, hagg] at hok
  obtain ⟨cs, rfl, hsz, ts', h1, _, h2⟩ := hok
  rw [hts] at h1
  cases h1
  have hcell : ∀ (i : Nat) (c : Value), cs[i]? = some c → ∃ x : Nat, c = .int .u64 (x : Int) ∧ x < 18446744073709551616 := fun i c hi => by
    obtain ⟨u, g1, g2⟩ := h2 i c hi
    have hu := hall u (List.mem_of_getElem? g1)
    have hok' : Value.okWide P W .any base u c := by simp only [Value.okWide, hu]; exact g2
    obtain ⟨z, rfl⟩ := okWide_int hu hok'
    simp only [Cell.okWide, hu, Cell.ok, IntKind.has] at g2
    have h3 : IntKind.u64.min = 0 := rfl
    have h4 : IntKind.u64.max = 18446744073709551615 := rfl
    rw [h3, h4] at g2
    simp at g2
    exact ⟨z.toNat, by congr 1; omega, by omega⟩
  refine ⟨cs.toList.map fun c => match c with | .int _ z => z.toNat | _ => 0, by simp [hsz], fun x hx => ?_, ?_⟩
  · simp only [List.mem_map] at hx
    obtain ⟨c, hc, rfl⟩ := hx
    obtain ⟨i, hi⟩ := List.mem_iff_getElem?.1 hc
    obtain ⟨x, rfl, hx⟩ := hcell i c (by simpa using hi)
    simpa using hx
  · simp only [Rep]
    refine ⟨cs, rfl, by simp, RepL_of_get fun i c hi => ?_⟩
    simp only [CN, List.getElem?_map, Option.map_eq_some_iff] at hi
    obtain ⟨x, ⟨d, hd, rfl⟩, rfl⟩ := hi
    obtain ⟨y, rfl, hy⟩ := hcell i d (by simpa using hd)
    exact ⟨_, hd, by simp [Rep]⟩
end Go.SE
