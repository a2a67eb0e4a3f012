/- Nothing of the statement is proved here: this text lays the symbolic executor and its soundness, part 2; no conditions. -/
import Derived.Test.YtomjfjncfodmhaaSe1
set_option linter.all false
set_option autoImplicit false
namespace Go.SE
open Go
variable {P : Program} {σ0 τ : List AV}
theorem RepL.len {Φ : Fix} : ∀ {cs : List AV} {vs : List Value}, RepL Φ cs vs → cs.length ≤ vs.length
  | [], _, _ => Nat.zero_le _
  | _ :: _, [], h => by simp [RepL] at h
  | _ :: cs, _ :: vs, h => by simp only [RepL] at h; have := RepL.len h.2; simp; omega
theorem RepL.get {Φ : Fix} : ∀ {cs : List AV} {vs : List Value} {i : Nat} {c : AV}, RepL Φ cs vs → cs[i]? = some c → ∃ v, vs[i]? = some v ∧ Rep Φ c v
  | [], _, _, _, _, h => by simp at h
  | _ :: _, [], _, _, h, _ => by simp [RepL] at h
  | _ :: _, v :: _, 0, c, h, hc => by simp only [RepL] at h; simp at hc; subst hc; exact ⟨v, rfl, h.1⟩
  | _ :: cs, _ :: vs, i + 1, c, h, hc => by simp only [RepL] at h; simpa using RepL.get (i := i) h.2 (by simpa using hc)
theorem RepL.drop {Φ : Fix} : ∀ {cs : List AV} {vs : List Value} (n : Nat), RepL Φ cs vs → RepL Φ (cs.drop n) (vs.drop n)
  | _, _, 0, h => h
  | [], _, n + 1, _ => by simp [RepL]
  | _ :: _, [], _ + 1, h => by simp [RepL] at h
  | _ :: cs, _ :: vs, n + 1, h => by simp only [RepL] at h; simpa using RepL.drop n h.2
theorem RepL.take {Φ : Fix} : ∀ {cs : List AV} {vs : List Value} (n : Nat), RepL Φ cs vs → RepL Φ (cs.take n) vs
  | _, _, 0, _ => by simp [RepL]
  | [], _, n + 1, _ => by simp [RepL]
  | _ :: _, [], _ + 1, h => by simp [RepL] at h
  | _ :: cs, _ :: vs, n + 1, h => by simp only [RepL] at h; simp only [List.take_succ_cons, RepL]; exact ⟨h.1, RepL.take n h.2⟩
theorem RepL.append {Φ : Fix} : ∀ {cs ds : List AV} {vs ws : List Value}, vs.length = cs.length → RepL Φ cs vs → RepL Φ ds ws → RepL Φ (cs ++ ds) (vs ++ ws)
  | [], _, vs, _, hl, _, h => by
    have : vs = [] := by simpa using hl
    subst this; exact h
  | _ :: _, _, [], _, hl, _, _ => by simp at hl
  | _ :: cs, _, v :: vs, _, hl, h, h' => by
    simp only [RepL] at h
    simp only [List.cons_append, RepL]
    exact ⟨h.1, RepL.append (by simpa using hl) h.2 h'⟩
theorem RepL.more {Φ : Fix} : ∀ {cs : List AV} {vs : List Value} (ws : List Value), RepL Φ cs vs → RepL Φ cs (vs ++ ws)
  | [], _, _, _ => by simp [RepL]
  | _ :: _, [], _, h => by simp [RepL] at h
  | _ :: _, _ :: _, ws, h => by simp only [RepL] at h; simp only [List.cons_append, RepL]; exact ⟨h.1, RepL.more ws h.2⟩
theorem RepL.less {Φ : Fix} : ∀ {cs : List AV} {vs : List Value} (n : Nat), cs.length ≤ n → RepL Φ cs vs → RepL Φ cs (vs.take n)
  | [], _, _, _, _ => by simp [RepL]
  | _ :: _, [], _, _, h => by simp [RepL] at h
  | _ :: _, _ :: _, 0, hl, _ => by simp at hl
  | _ :: _, _ :: _, n + 1, hl, h => by
    simp only [RepL] at h
    simp only [List.take_succ_cons, RepL]
    exact ⟨h.1, RepL.less n (by simpa using hl) h.2⟩
theorem SRepL.append {Φ : Fix} {μ : Map} : ∀ {l m : List SV} {vs ws : List Value}, SRepL Φ μ τ l vs → SRepL Φ μ τ m ws → SRepL Φ μ τ (l ++ m) (vs ++ ws)
  | [], _, vs, _, h, h' => by simp only [SRepL] at h; subst h; exact h'
  | _ :: _, _, [], _, h, _ => by simp [SRepL] at h
  | _ :: l, _, _ :: _, _, h, h' => by
    simp only [SRepL] at h
    simp only [List.cons_append, SRepL]
    exact ⟨h.1, SRepL.append h.2 h'⟩
theorem SRepL.take {Φ : Fix} {μ : Map} : ∀ {l : List SV} {vs : List Value} (n : Nat), SRepL Φ μ τ l vs → SRepL Φ μ τ (l.take n) (vs.take n)
  | _, _, 0, _ => by simp [SRepL]
  | [], vs, n + 1, h => by simp only [SRepL] at h; subst h; simp [SRepL]
  | _ :: _, [], _ + 1, h => by simp [SRepL] at h
  | _ :: _, _ :: _, n + 1, h => by
    simp only [SRepL] at h
    simp only [List.take_succ_cons, SRepL]
    exact ⟨h.1, SRepL.take n h.2⟩
theorem SRepL.drop {Φ : Fix} {μ : Map} : ∀ {l : List SV} {vs : List Value} (n : Nat), SRepL Φ μ τ l vs → SRepL Φ μ τ (l.drop n) (vs.drop n)
  | _, _, 0, h => h
  | [], vs, n + 1, h => by simp only [SRepL] at h; subst h; simp [SRepL]
  | _ :: _, [], _ + 1, h => by simp [SRepL] at h
  | _ :: _, _ :: _, n + 1, h => by
    simp only [SRepL] at h
    simpa using SRepL.drop n h.2
theorem SRepL.get {Φ : Fix} {μ : Map} : ∀ {l : List SV} {vs : List Value} {i : Nat} {s : SV}, SRepL Φ μ τ l vs → l[i]? = some s → ∃ v, vs[i]? = some v ∧ SRep Φ μ τ s v
  | [], _, _, _, _, h => by simp at h
  | _ :: _, [], _, _, h, _ => by simp [SRepL] at h
  | _ :: _, v :: _, 0, c, h, hc => by simp only [SRepL] at h; simp at hc; subst hc; exact ⟨v, rfl, h.1⟩
  | _ :: cs, _ :: vs, i + 1, c, h, hc => by simp only [SRepL] at h; simpa using SRepL.get (i := i) h.2 (by simpa using hc)
theorem SRepL.atoms {Φ : Fix} {μ : Map} : ∀ {as : List Atom} {vs : List Value}, SRepL Φ μ τ (as.map .atm) vs ↔ RepE Φ (as.map (Atom.den τ)) vs
  | [], vs => by simp only [List.map_nil, SRepL, RepE, RepL, List.length_nil, and_true]; exact List.length_eq_zero_iff.symm
  | _ :: _, [] => by simp [SRepL, RepE]
  | a :: as, v :: vs => by
    simp only [List.map_cons, SRepL, SRep, RepE, RepL, List.length_cons]
    rw [SRepL.atoms, RepE]
    simp only [List.length_map]
    constructor
    · rintro ⟨h1, h2, h3⟩; exact ⟨by omega, h1, h3⟩
    · rintro ⟨h1, h2, h3⟩; exact ⟨h2, by omega, h3⟩
theorem refsL_mem {id : Nat} : ∀ {l : List SV}, id ∈ SV.refsL l ↔ ∃ s ∈ l, id ∈ s.refs
  | [] => by simp [SV.refsL]
  | s :: l => by simp [SV.refsL, refsL_mem]
theorem refsL_append (l m : List SV) : SV.refsL (l ++ m) = SV.refsL l ++ SV.refsL m := by
  induction l with
  | nil => simp [SV.refsL]
  | cons s l ih => simp [SV.refsL, ih]
theorem refsL_take {id : Nat} {l : List SV} {n : Nat} (h : id ∈ SV.refsL (l.take n)) : id ∈ SV.refsL l := by
  rw [refsL_mem] at h ⊢
  obtain ⟨s, hs, hi⟩ := h
  exact ⟨s, List.mem_of_mem_take hs, hi⟩
theorem refsL_drop {id : Nat} {l : List SV} {n : Nat} (h : id ∈ SV.refsL (l.drop n)) : id ∈ SV.refsL l := by
  rw [refsL_mem] at h ⊢
  obtain ⟨s, hs, hi⟩ := h
  exact ⟨s, List.mem_of_mem_drop hs, hi⟩
theorem refsL_atoms (as : List Atom) : SV.refsL (as.map .atm) = [] := by
  induction as with
  | nil => rfl
  | cons a as ih => simp [SV.refsL, SV.refs, ih]
theorem refsL_consts (as : List AV) : SV.refsL (as.map fun c => .atm (.c c)) = [] := by
  induction as with
  | nil => rfl
  | cons a as ih => simp [SV.refsL, SV.refs, ih]
theorem consts_atoms (as : List AV) : (as.map fun c => SV.atm (.c c)) = (as.map Atom.c).map .atm := by simp
theorem den_consts (as : List AV) : (as.map Atom.c).map (Atom.den τ) = as := by
  induction as with
  | nil => rfl
  | cons a as ih => simp only [List.map_cons, ih]; rfl
theorem evalO_cell {n i : Nat} {a v : AV} (h : evalO (.cell n i) [a] = some v) : ∃ cs, a = .agg cs ∧ cs.length = n ∧ cs[i]? = some v ∧ v.isCell = true := by
  cases a with
  | agg cs =>
    simp only [evalO] at h
    split at h
    · rename_i hl
      split at h
      · rename_i c hc
        split at h
        · rename_i hi; cases h; exact ⟨cs, rfl, hl, hc, hi⟩
        · cases h
      · cases h
    · cases h
  | _ => simp [evalO] at h
theorem evalO_mkagg {as : List AV} {v : AV} (h : evalO .mkagg as = some v) : v = .agg as ∧ as.all AV.isCell = true := by
  simp only [evalO] at h
  split at h
  · rename_i hc; cases h; exact ⟨rfl, hc⟩
  · cases h
theorem evalO_mklst {as : List AV} {v : AV} (h : evalO .mklst as = some v) : v = .lst as ∧ as.all AV.isCell = true := by
  simp only [evalO] at h
  split at h
  · rename_i hc; cases h; exact ⟨rfl, hc⟩
  · cases h
theorem evalO_mktup {as : List AV} {v : AV} (h : evalO .mktup as = some v) : v = .tup as := by
  simp only [evalO] at h; cases h; rfl
theorem nat?_num {a : AV} {n : Nat} (h : a.nat? = some n) : a = num n := by
  cases a with
  | int k m =>
    cases k <;> simp only [AV.nat?] at h
    case i64 =>
      split at h
      · rename_i h0
        cases h
        show AV.int .i64 m = AV.int .i64 (m.toNat : Int)
        rw [Int.toNat_of_nonneg h0]
      · cases h
    all_goals cases h
  | _ => simp [AV.nat?] at h
theorem num_inj {a b : Nat} (h : num a = num b) : a = b := by
  unfold num at h
  injection h with _ h
  exact Int.ofNat_inj.1 h
theorem evalO_lget {ag : Bool} {sz : Nat} {a b v : AV} (h : evalO (.lget ag sz) [a, b] = some v) :
    ∃ cs o, a = .lst cs ∧ b = num o ∧ rdCells ag sz (cs.drop o) = some v := by
  cases a with
  | lst cs =>
    simp only [evalO] at h
    split at h
    · rename_i o ho; exact ⟨cs, o, rfl, nat?_num ho, h⟩
    · cases h
  | _ => simp [evalO] at h
theorem evalO_lset {as : List AV} {a b v : AV} (h : evalO .lset (a :: b :: as) = some v) :
    ∃ cs o, a = .lst cs ∧ b = num o ∧ o + as.length ≤ cs.length ∧ as.all AV.isCell = true ∧ v = .lst (putCells cs o as) := by
  cases a with
  | lst cs =>
    simp only [evalO] at h
    split at h
    · rename_i o ho
      split at h
      · rename_i hc; cases h; exact ⟨cs, o, rfl, nat?_num ho, hc.1, hc.2, rfl⟩
      · cases h
    · cases h
  | _ => simp [evalO] at h
theorem evalO_mksl {sz : Nat} {a b c v : AV} (h : evalO (.mksl sz) [a, b, c] = some v) :
    ∃ cs o n, a = .lst cs ∧ b = num o ∧ c = num n ∧ o + n * sz ≤ cs.length ∧ v = .sl n ((cs.drop o).take (n * sz)) := by
  cases a with
  | lst cs =>
    simp only [evalO] at h
    split at h
    · rename_i o n ho hn
      split at h
      · rename_i hc; cases h; exact ⟨cs, o, n, rfl, nat?_num ho, nat?_num hn, hc, rfl⟩
      · cases h
    · cases h
  | _ => simp [evalO] at h
theorem evalO_mkrp {a b v : AV} (h : evalO .mkrp [a, b] = some v) : ∃ cs o, a = .lst cs ∧ b = num o ∧ v = .rp (cs.drop o) := by
  cases a with
  | lst cs =>
    simp only [evalO] at h
    split at h
    · rename_i o ho; cases h; exact ⟨cs, o, rfl, nat?_num ho, rfl⟩
    · cases h
  | _ => simp [evalO] at h
theorem asCell_back {s s' : SV} {e e' : Em} (h : asCell s e = some (s', e')) (H : Hold P σ0 τ e') :
    Hold P σ0 τ e ∧ s' = s ∧ ∀ Φ μ v, SRep Φ μ τ s v → v.oneCell' = true := by
  unfold asCell at h
  split at h
  · simp only [EM.bind_eq, EM.pure_eq, need_eq] at h
    obtain ⟨b, e1, h1, _, e2, ⟨hb, h2⟩, h3⟩ := h
    cases h2; cases h3
    obtain ⟨rfl, hc⟩ := cellAtom_back (P := P) (σ0 := σ0) (τ := τ) h1
    exact ⟨H, rfl, fun Φ μ v hv => isCell_value (by simpa [SRep] using hv) (hc H hb)⟩
  · rw [EM.pure_eq] at h; cases h
    exact ⟨H, rfl, fun Φ μ v hv => by simp only [SRep] at hv; obtain ⟨_, _, rfl⟩ := hv; rfl⟩
  · rw [EM.pure_eq] at h; cases h
    exact ⟨H, rfl, fun Φ μ v hv => by simp only [SRep] at hv; obtain ⟨_, _, _, _, _, _, _, _, rfl, _⟩ := hv; rfl⟩
  · rw [EM.pure_eq] at h; cases h
    exact ⟨H, rfl, fun Φ μ v hv => by simp only [SRep] at hv; obtain ⟨_, rfl, _⟩ := hv; rfl⟩
  · rw [EM.pure_eq] at h; cases h
    exact ⟨H, rfl, fun Φ μ v hv => by simp only [SRep] at hv; obtain ⟨_, rfl, _⟩ := hv; rfl⟩
  · rw [fail_eq] at h; exact h.elim
theorem cellAtm_back {s : SV} {a : Atom} {e e' : Em} (h : cellAtm s e = some (a, e')) (H : Hold P σ0 τ e') :
    Hold P σ0 τ e ∧ s = .atm a ∧ (a.den τ).isCell = true := by
  unfold cellAtm at h
  split at h
  · simp only [EM.bind_eq, EM.pure_eq, need_eq] at h
    obtain ⟨b, e1, h1, _, e2, ⟨hb, h2⟩, h3⟩ := h
    cases h2; cases h3
    obtain ⟨rfl, hc⟩ := cellAtom_back (P := P) (σ0 := σ0) (τ := τ) h1
    exact ⟨H, rfl, hc H hb⟩
  · rw [fail_eq] at h; exact h.elim
theorem All2.eq_atoms : ∀ {l : List SV} {as : List Atom}, All2 (fun s (a : Atom) => s = .atm a ∧ (a.den τ).isCell = true) l as → l = as.map .atm ∧ (as.map (Atom.den τ)).all AV.isCell = true
  | [], [], _ => ⟨rfl, rfl⟩
  | _ :: _, _ :: _, h => by
    obtain ⟨h1, h2⟩ := All2.eq_atoms h.2
    exact ⟨by rw [List.map_cons, ← h1, h.1.1], by simp [h.1.2]; simpa using h2⟩
  | [], _ :: _, h => h.elim
  | _ :: _, [], h => h.elim
theorem cellAtms_back {l : List SV} {as : List Atom} {e e' : Em} (h : mapEM cellAtm l e = some (as, e')) (H : Hold P σ0 τ e') :
    Hold P σ0 τ e ∧ l = as.map .atm ∧ (as.map (Atom.den τ)).all AV.isCell = true := by
  obtain ⟨h1, h2⟩ := mapEM_back (Q := fun s (a : Atom) => s = .atm a ∧ (a.den τ).isCell = true) (fun s e a e' h H => cellAtm_back h H) h H
  obtain ⟨h3, h4⟩ := All2.eq_atoms h2
  exact ⟨h1, h3, h4⟩
theorem All2.eq_self {Q : SV → Prop} : ∀ {l r : List SV}, All2 (fun s s' => s' = s ∧ Q s) l r → r = l ∧ ∀ s ∈ l, Q s
  | [], [], _ => ⟨rfl, by simp⟩
  | a :: l, b :: r, h => by
    obtain ⟨h1, h2⟩ := All2.eq_self h.2
    refine ⟨by rw [h1, h.1.1], ?_⟩
    intro s hs
    rcases List.mem_cons.1 hs with rfl | hs
    · exact h.1.2
    · exact h2 s hs
  | [], _ :: _, h => h.elim
  | _ :: _, [], h => h.elim
theorem SRepL.oneCell {Φ : Fix} {μ : Map} : ∀ {l : List SV} {vs : List Value}, (∀ s ∈ l, ∀ Φ μ v, SRep Φ μ τ s v → v.oneCell' = true) → SRepL Φ μ τ l vs → ∀ u ∈ vs, u.oneCell' = true
  | [], vs, _, h, u, hu => by simp only [SRepL] at h; subst h; simp at hu
  | _ :: _, [], _, h, _, _ => by simp [SRepL] at h
  | s :: l, v :: vs, hc, h, u, hu => by
    simp only [SRepL] at h
    rcases List.mem_cons.1 hu with rfl | hu
    · exact hc s (by simp) Φ μ _ h.1
    · exact SRepL.oneCell (fun s hs => hc s (by simp [hs])) h.2 u hu
theorem RepL.oneCell {Φ : Fix} : ∀ {cs : List AV} {vs : List Value}, vs.length = cs.length → cs.all AV.isCell = true → RepL Φ cs vs → ∀ u ∈ vs, u.oneCell' = true
  | [], vs, hl, _, _, u, hu => by
    have : vs = [] := by simpa using hl
    subst this; simp at hu
  | _ :: _, [], _, _, h, _, _ => by simp [RepL] at h
  | c :: cs, v :: vs, hl, hc, h, u, hu => by
    simp only [RepL] at h
    simp only [List.all_cons, Bool.and_eq_true] at hc
    rcases List.mem_cons.1 hu with rfl | hu
    · exact isCell_value h.1 hc.1
    · exact RepL.oneCell (by simpa using hl) hc.2 h.2 u hu
theorem cells_back {n : Nat} {a : Atom} : ∀ {is : List Nat} {e e' : Em} {r : List SV},
    mapEM (fun i => do let x ← emit (.cell n i) [a]; pure (SV.atm x)) is e = some (r, e') → Hold P σ0 τ e' →
    Hold P σ0 τ e ∧ ∃ as : List Atom, r = as.map .atm ∧ All2 (fun i (x : Atom) => ∃ cs, a.den τ = .agg cs ∧ cs.length = n ∧ cs[i]? = some (x.den τ) ∧ (x.den τ).isCell = true) is as
  | [], e, e', r, h, H => by
    simp only [mapEM, EM.pure_eq] at h
    cases h; exact ⟨H, [], rfl, trivial⟩
  | i :: is, e, e', r, h, H => by
    simp only [mapEM, EM.bind_eq, EM.pure_eq] at h
    obtain ⟨b, e1, ⟨x, e2, h1, hb⟩, bs, e3, h2, h3⟩ := h
    cases h3; cases hb
    obtain ⟨H1, as, rfl, q⟩ := cells_back h2 H
    obtain ⟨H0, q0, q1⟩ := emit_back h1 H1
    refine ⟨H0, x :: as, rfl, ?_, q⟩
    exact evalO_cell (by simpa using q0)
end Go.SE
set_option autoImplicit false
namespace Go.SE
open Go
variable {P : Program} {σ0 τ : List AV}
theorem All2.range_get {Q : Nat → Atom → Prop} : ∀ {is : List Nat} {as : List Atom}, All2 Q is as → ∀ (j i : Nat), is[j]? = some i → ∃ x, as[j]? = some x ∧ Q i x
  | [], [], _, j, i, h => by simp at h
  | _ :: _, x :: _, h, 0, i, hj => by simp at hj; subst hj; exact ⟨x, rfl, h.1⟩
  | _ :: is, _ :: as, h, j + 1, i, hj => by simpa using All2.range_get h.2 j i (by simpa using hj)
  | [], _ :: _, h, _, _, _ => h.elim
  | _ :: _, [], h, _, _, _ => h.elim
theorem Value.cells_one {v : Value} (h : v.oneCell' = true) : v.cells = #[v] := by
  cases v <;> first | rfl | (simp [Value.oneCell'] at h)
theorem explode_back {ag : Bool} {n : Nat} {s : SV} {cs : List SV} {e e' : Em} (h : explode ag n s e = some (cs, e')) (H : Hold P σ0 τ e') :
    Hold P σ0 τ e ∧ cs.length = n ∧ (∀ id ∈ SV.refsL cs, id ∈ s.refs) ∧ ∀ Φ μ v, SRep Φ μ τ s v →
      (ag = true → ∃ vs, v = .agg vs) ∧ (ag = false → v.oneCell' = true) ∧ SRepL Φ μ τ cs v.cells.toList ∧ ∀ u ∈ v.cells.toList, u.oneCell' = true := by
  unfold explode at h
  split at h
  · rename_i hag
    subst hag
    split at h
    · rename_i l
      simp only [EM.bind_eq, need_eq] at h
      obtain ⟨_, e1, ⟨hl, h1⟩, h2⟩ := h
      cases h1
      obtain ⟨H0, q⟩ := mapEM_back (Q := fun s s' => s' = s ∧ ∀ Φ μ v, SRep Φ μ τ s v → v.oneCell' = true) (fun s e s' e' h H => asCell_back h H) h2 H
      obtain ⟨rfl, hc⟩ := All2.eq_self (Q := fun s => ∀ Φ μ v, SRep Φ μ τ s v → v.oneCell' = true) q
      refine ⟨H0, by simpa using hl, fun id hi => by simpa [SV.refs] using hi, fun Φ μ v hv => ?_⟩
      simp only [SRep] at hv
      obtain ⟨vs, rfl, h3⟩ := hv
      exact ⟨fun _ => ⟨vs, rfl⟩, fun h => by simp at h, h3, SRepL.oneCell hc h3⟩
    · rename_i cs'
      simp only [EM.bind_eq, need_eq, EM.pure_eq, Bool.and_eq_true, beq_iff_eq] at h
      obtain ⟨_, e1, ⟨⟨hl, hc⟩, h1⟩, h2⟩ := h
      cases h1; cases h2
      refine ⟨H, by simpa using hl, fun id hi => by rw [refsL_consts] at hi; simp at hi, fun Φ μ v hv => ?_⟩
      simp only [SRep, Atom.den, Rep] at hv
      obtain ⟨vs, rfl, h3, h4⟩ := hv
      refine ⟨fun _ => ⟨vs, rfl⟩, fun h => by simp at h, ?_, RepL.oneCell (vs := vs.toList) (by simpa using h3) hc h4⟩
      show SRepL Φ μ τ _ vs.toList
      rw [consts_atoms, SRepL.atoms, den_consts]
      exact ⟨by simpa using h3, h4⟩
    · rename_i a _
      simp only [EM.bind_eq, need_eq] at h
      obtain ⟨_, e1, ⟨hn, h1⟩, h2⟩ := h
      cases h1
      obtain ⟨H0, as, rfl, q⟩ := cells_back h2 H
      have hlen := q.length
      simp only [List.length_range] at hlen
      have hn : 0 < n := by simpa [Nat.blt_eq] using hn
      obtain ⟨x0, _, cs0, hcs, hcl, _⟩ := All2.range_get q 0 0 (by simp [hn])
      have heq : as.map (Atom.den τ) = cs0 := by
        apply List.ext_getElem?
        intro i
        by_cases hi : i < n
        · obtain ⟨x, hx, cs1, hcs1, hcl1, hget, _⟩ := All2.range_get q i i (by simp [hi])
          rw [hcs] at hcs1; cases hcs1
          simp [hx, hget]
        · rw [List.getElem?_eq_none (by simp; omega), List.getElem?_eq_none (by omega)]
      have hcells : (as.map (Atom.den τ)).all AV.isCell = true := by
        rw [List.all_eq_true]
        intro y hy
        obtain ⟨i, hi⟩ := List.getElem?_of_mem hy
        have hin : i < n := by
          have := (List.getElem?_eq_some_iff.1 hi).1
          simpa [hlen] using this
        obtain ⟨x, hx, _, _, _, _, hc⟩ := All2.range_get q i i (by simp [hin])
        simp [hx] at hi
        rw [← hi]; exact hc
      refine ⟨H0, by simp [hlen], fun id hi => by rw [refsL_atoms] at hi; simp at hi, fun Φ μ v hv => ?_⟩
      simp only [SRep, hcs, Rep] at hv
      obtain ⟨vs, rfl, h3, h4⟩ := hv
      refine ⟨fun _ => ⟨vs, rfl⟩, fun h => by simp at h, ?_, RepL.oneCell (vs := vs.toList) (by simpa using h3) (heq ▸ hcells) h4⟩
      show SRepL Φ μ τ _ vs.toList
      rw [SRepL.atoms, heq]
      exact ⟨by simpa using h3, h4⟩
    · rw [fail_eq] at h; exact h.elim
  · rename_i hag
    simp only [EM.bind_eq, need_eq, EM.pure_eq] at h
    obtain ⟨_, e1, ⟨hn, h1⟩, s', e2, h2, h3⟩ := h
    cases h1; cases h3
    obtain ⟨H0, rfl, hc⟩ := asCell_back h2 H
    have hn : n = 1 := by simpa using hn
    subst hn
    refine ⟨H0, rfl, fun id hi => by simpa [SV.refsL] using hi, fun Φ μ v hv => ?_⟩
    have h1 := hc Φ μ v hv
    rw [Value.cells_one h1]
    exact ⟨fun h => absurd h hag, fun _ => h1, by simpa [SRepL] using hv, by simpa using h1⟩
theorem atomOf_back {s : SV} {a : Atom} {e e' : Em} (h : atomOf s e = some (a, e')) (H : Hold P σ0 τ e') :
    Hold P σ0 τ e ∧ ∀ Φ μ v, SRep Φ μ τ s v → Rep Φ (a.den τ) v := by
  unfold atomOf at h
  split at h
  · rw [EM.pure_eq] at h; cases h
    exact ⟨H, fun Φ μ v hv => by simpa [SRep] using hv⟩
  · simp only [EM.bind_eq] at h
    obtain ⟨as, e1, h1, h2⟩ := h
    obtain ⟨H1, q0, _⟩ := emit_back h2 H
    obtain ⟨H0, rfl, _⟩ := cellAtms_back h1 H1
    refine ⟨H0, fun Φ μ v hv => ?_⟩
    rw [(evalO_mkagg q0).1]
    simp only [SRep] at hv
    obtain ⟨vs, rfl, h3⟩ := hv
    rw [SRepL.atoms] at h3
    simp only [Rep]
    exact ⟨vs, rfl, by simpa using h3.1, h3.2⟩
  · rw [fail_eq] at h; exact h.elim
theorem lstOf_back {sb : SB} {a : Atom} {e e' : Em} (h : lstOf sb e = some (a, e')) (H : Hold P σ0 τ e') :
    Hold P σ0 τ e ∧ ∀ Φ μ vs, CRep Φ μ τ sb.cells vs → ∃ cs, a.den τ = .lst cs ∧ RepL Φ cs vs := by
  unfold lstOf at h
  cases hx : sb.cells with
  | dyn x =>
    simp only [hx] at h
    rw [EM.pure_eq] at h; cases h
    refine ⟨H, fun Φ μ vs hv => ?_⟩
    exact hv
  | fix l =>
    simp only [hx, EM.bind_eq] at h
    obtain ⟨as, e1, h1, h2⟩ := h
    obtain ⟨H1, q0, _⟩ := emit_back h2 H
    obtain ⟨H0, rfl, _⟩ := cellAtms_back h1 H1
    refine ⟨H0, fun Φ μ vs hv => ?_⟩
    obtain ⟨xs, ys, rfl, h3⟩ := hv
    rw [SRepL.atoms] at h3
    exact ⟨_, (evalO_mklst q0).1, RepL.more ys h3.2⟩
theorem natLit_den {a : Atom} {n : Nat} (h : natLit a = some n) : a.den τ = num n := by
  cases a with
  | v i => simp [natLit] at h
  | c a => exact nat?_num h
theorem rdCells_back {Φ : Fix} {ag : Bool} {sz : Nat} {cs : List AV} {vs : List Value} {v : AV} (h : rdCells ag sz cs = some v) (hr : RepL Φ cs vs) :
    (ag = true → sz ≤ vs.length ∧ Rep Φ v (.agg (vs.take sz).toArray)) ∧ (ag = false → ∃ u, vs[0]? = some u ∧ Rep Φ v u) := by
  unfold rdCells at h
  split at h
  · rename_i hag
    refine ⟨fun _ => ?_, fun h' => by simp [hag] at h'⟩
    split at h
    · rename_i hs
      cases h
      have := hr.len
      refine ⟨by omega, ?_⟩
      simp only [Rep]
      refine ⟨_, rfl, by simp; omega, ?_⟩
      exact RepL.less sz (by simp; omega) (RepL.take sz hr)
    · cases h
  · rename_i hag
    refine ⟨fun h' => absurd h' hag, fun _ => ?_⟩
    split at h
    · rename_i c cs'
      split at h
      · cases h; exact RepL.get (i := 0) hr rfl
      · cases h
    · cases h
theorem loadFrom_back {sb : SB} {ag : Bool} {sz : Nat} {off : Atom} {r : SV} {e e' : Em} (h : loadFrom sb ag sz off e = some (r, e')) (H : Hold P σ0 τ e') :
    Hold P σ0 τ e ∧ (∀ id ∈ r.refs, id ∈ sb.cells.refs) ∧ ∀ Φ μ (vs : List Value) o, CRep Φ μ τ sb.cells vs → off.den τ = num o →
      (ag = true → o + sz ≤ vs.length ∧ SRep Φ μ τ r (.agg ((vs.drop o).take sz).toArray)) ∧ (ag = false → ∃ u, vs[o]? = some u ∧ SRep Φ μ τ r u) := by
  unfold loadFrom at h
  simp only [EM.bind_eq, need_eq] at h
  obtain ⟨_, e0, ⟨hsz, h0⟩, h⟩ := h
  cases h0
  have hsz : 0 < sz := by simpa [Nat.blt_eq] using hsz
  have dyn : (do let a ← lstOf sb; let x ← emit (.lget ag sz) [a, off]; pure (SV.atm x) : EM SV) e = some (r, e') →
      Hold P σ0 τ e ∧ (∀ id ∈ r.refs, id ∈ sb.cells.refs) ∧ ∀ Φ μ (vs : List Value) o, CRep Φ μ τ sb.cells vs → off.den τ = num o →
      (ag = true → o + sz ≤ vs.length ∧ SRep Φ μ τ r (.agg ((vs.drop o).take sz).toArray)) ∧ (ag = false → ∃ u, vs[o]? = some u ∧ SRep Φ μ τ r u) := by
    intro h
    simp only [EM.bind_eq, EM.pure_eq] at h
    obtain ⟨a, e1, h1, x, e2, h2, h3⟩ := h
    cases h3
    obtain ⟨H1, q0, _⟩ := emit_back h2 H
    obtain ⟨H0, q1⟩ := lstOf_back h1 H1
    refine ⟨H0, fun id hi => by simp [SV.refs] at hi, fun Φ μ vs o hc ho => ?_⟩
    obtain ⟨cs, o', k1, k2, k3⟩ := evalO_lget q0
    rw [ho] at k2
    have := num_inj k2
    subst this
    obtain ⟨cs', k4, k5⟩ := q1 Φ μ vs hc
    rw [k1] at k4
    cases k4
    obtain ⟨g1, g2⟩ := rdCells_back k3 (RepL.drop o k5)
    refine ⟨fun hag => ?_, fun hag => ?_⟩
    · obtain ⟨g3, g4⟩ := g1 hag
      simp only [SRep]
      refine ⟨?_, g4⟩
      simp at g3; omega
    · obtain ⟨u, hu, hr⟩ := g2 hag
      simp only [SRep]
      exact ⟨u, by simpa using hu, hr⟩
  cases hl : sb.cells with
  | dyn a => simp only [hl] at h; rw [← hl]; exact dyn h
  | fix l =>
    cases ho : natLit off with
    | none => simp only [hl, ho] at h; rw [← hl]; exact dyn h
    | some o =>
      simp only [hl, ho] at h
      have hod := natLit_den (τ := τ) ho
      split at h
      · rename_i hag
        simp only [EM.bind_eq, need_eq, EM.pure_eq] at h
        obtain ⟨_, e1, ⟨hn, h1⟩, h2⟩ := h
        cases h1; cases h2
        have hn : o + sz ≤ l.length := by simpa [Nat.ble_eq] using hn
        refine ⟨H, fun id hi => ?_, fun Φ μ vs o' hc ho' => ?_⟩
        · simp only [SV.refs] at hi
          exact refsL_drop (refsL_take hi)
        · rw [hod] at ho'
          have := num_inj ho'
          subst this
          obtain ⟨xs, ys, rfl, h3⟩ := hc
          have hxl := h3.length
          refine ⟨fun _ => ⟨by simp; omega, ?_⟩, fun h' => by simp [hag] at h'⟩
          simp only [SRep]
          refine ⟨_, rfl, ?_⟩
          have e1 : ((xs ++ ys).drop o).take sz = (xs.drop o).take sz := by
            rw [List.drop_append_of_le_length (by omega), List.take_append_of_le_length (by simp; omega)]
          rw [e1]
          exact SRepL.take sz (SRepL.drop o h3)
      · rename_i hag
        rw [lift_eq] at h
        obtain ⟨s, hs, h2⟩ := h
        cases h2
        refine ⟨H, fun id hi => ?_, fun Φ μ vs o' hc ho' => ?_⟩
        · exact refsL_mem.2 ⟨r, List.mem_of_getElem? hs, hi⟩
        · rw [hod] at ho'
          have := num_inj ho'
          subst this
          obtain ⟨xs, ys, rfl, h3⟩ := hc
          refine ⟨fun h' => absurd h' hag, fun _ => ?_⟩
          obtain ⟨u, hu, hr⟩ := SRepL.get h3 hs
          refine ⟨u, ?_, hr⟩
          rw [List.getElem?_append_left (List.getElem?_eq_some_iff.1 hu).1]
          exact hu
theorem RepL.put {Φ : Fix} {cs xs : List AV} {vs us : List Value} {o : Nat} (hc : RepL Φ cs vs) (hx : RepE Φ xs us) (hl : o + xs.length ≤ cs.length) :
    RepL Φ (putCells cs o xs) (splat vs o us) := by
  have h1 := hc.len
  have h2 := hx.1
  unfold putCells splat
  rw [List.append_assoc, List.append_assoc]
  refine RepL.append (by simp; omega) (RepL.less o (by simp; omega) (RepL.take o hc)) ?_
  refine RepL.append h2 hx.2 ?_
  rw [h2]
  exact RepL.drop _ hc
theorem storeTo_back {sb : SB} {off : Atom} {xs : List SV} {c' : Cells} {e e' : Em} (h : storeTo sb off xs e = some (c', e')) (H : Hold P σ0 τ e') :
    Hold P σ0 τ e ∧ (∀ id ∈ c'.refs, id ∈ sb.cells.refs ∨ id ∈ SV.refsL xs) ∧ ∃ o, off.den τ = num o ∧ ∀ Φ μ (vs us : List Value), CRep Φ μ τ sb.cells vs → SRepL Φ μ τ xs us →
      o + us.length ≤ vs.length ∧ CRep Φ μ τ c' (splat vs o us) := by
  unfold storeTo at h
  have dyn : (do let a ← lstOf sb; let as ← mapEM cellAtm xs; let x ← emit .lset (a :: off :: as); pure (Cells.dyn x) : EM Cells) e = some (c', e') →
      Hold P σ0 τ e ∧ (∀ id ∈ c'.refs, id ∈ sb.cells.refs ∨ id ∈ SV.refsL xs) ∧ ∃ o, off.den τ = num o ∧ ∀ Φ μ (vs us : List Value), CRep Φ μ τ sb.cells vs → SRepL Φ μ τ xs us →
      o + us.length ≤ vs.length ∧ CRep Φ μ τ c' (splat vs o us) := by
    intro h
    simp only [EM.bind_eq, EM.pure_eq] at h
    obtain ⟨a, e1, h1, as, e2, h2, x, e3, h3, h4⟩ := h
    cases h4
    obtain ⟨H2, q0, _⟩ := emit_back h3 H
    obtain ⟨H1, rfl, hcell⟩ := cellAtms_back h2 H2
    obtain ⟨H0, q1⟩ := lstOf_back h1 H1
    obtain ⟨cs, o, k1, k2, k3, k4, k5⟩ := evalO_lset (by simpa using q0)
    refine ⟨H0, fun id hi => by simp [Cells.refs] at hi, o, k2, fun Φ μ vs us hc hx => ?_⟩
    obtain ⟨cs', g1, g2⟩ := q1 Φ μ vs hc
    rw [k1] at g1
    cases g1
    rw [SRepL.atoms] at hx
    have hx1 := hx.1
    have := g2.len
    simp at k3 hx1
    refine ⟨by omega, _, k5, RepL.put g2 ?_ (by simpa using k3)⟩
    simpa using hx
  cases hl : sb.cells with
  | dyn a => simp only [hl] at h; rw [← hl]; exact dyn h
  | fix l =>
    cases ho : natLit off with
    | none => simp only [hl, ho] at h; rw [← hl]; exact dyn h
    | some o =>
      simp only [hl, ho, EM.bind_eq, need_eq, EM.pure_eq] at h
      obtain ⟨_, e1, ⟨hn, h1⟩, h2⟩ := h
      cases h1; cases h2
      have hn : o + xs.length ≤ l.length := by simpa [Nat.ble_eq] using hn
      refine ⟨H, fun id hi => ?_, o, natLit_den ho, fun Φ μ vs us hc hx => ?_⟩
      · simp only [Cells.refs, refsL_append, List.mem_append] at hi
        rcases hi with (hi | hi) | hi
        · exact .inl (refsL_take hi)
        · exact .inr hi
        · exact .inl (refsL_drop hi)
      · obtain ⟨ws, ys, rfl, h3⟩ := hc
        have e1 := hx.length
        have e2 := h3.length
        refine ⟨by simp; omega, splat ws o us, ys, ?_, ?_⟩
        · unfold splat
          rw [List.take_append_of_le_length (by omega), List.drop_append_of_le_length (by omega)]
          simp
        · unfold splat
          rw [e1]
          exact SRepL.append (SRepL.append (SRepL.take o h3) hx) (SRepL.drop _ h3)
end Go.SE
set_option autoImplicit false
namespace Go.SE
open Go
variable {P : Program} {σ0 τ : List AV}
def Stays (heap : Heap) (E : Ent) (τ : List AV) (ids : List Nat) (Φ' : Fix) : LS → Fix → Map → Act → World → Prop := fun X Φ μ a w =>
  SRel E τ X Φ μ a w ∧ Φ.le Φ' ∧ ∀ id ∈ ids, X.blk id = heap.getD id none ∧ ∀ C t fr, w.heap[(μ id).1]? = some (.cells C t fr) → Φ' (μ id).1 = some C
theorem Stays.sub {heap : Heap} {E : Ent} {ids ids' : List Nat} {Φ' Φ : Fix} {X : LS} {μ : Map} {a : Act} {w : World}
    (h : Stays heap E τ ids Φ' X Φ μ a w) (hs : ∀ id ∈ ids', id ∈ ids) : Stays heap E τ ids' Φ' X Φ μ a w :=
  ⟨h.1, h.2.1, fun id hi => h.2.2 id (hs id hi)⟩
def FrzOk (heap : Heap) (τ : List AV) (s : SV) (p : Atom × List Nat) : Prop :=
  ∀ E X Φ μ a w Φ' v, Stays heap E τ p.2 Φ' X Φ μ a w → SRep Φ μ τ s v → Rep Φ' (p.1.den τ) v
theorem frzL {heap : Heap} {E : Ent} {Φ' Φ : Fix} {X : LS} {μ : Map} {a : Act} {w : World} : ∀ {l : List SV} {ps : List (Atom × List Nat)} {vs : List Value},
    All2 (FrzOk heap τ) l ps → Stays heap E τ (ps.map (·.2)).flatten Φ' X Φ μ a w → SRepL Φ μ τ l vs → RepE Φ' ((ps.map (·.1)).map (Atom.den τ)) vs
  | [], [], vs, _, _, h => by simp only [SRepL] at h; subst h; exact ⟨rfl, by simp [RepL]⟩
  | s :: l, p :: ps, [], _, _, h => by simp [SRepL] at h
  | s :: l, p :: ps, v :: vs, hq, hs, h => by
    simp only [SRepL] at h
    have h1 := hq.1 E X Φ μ a w Φ' v (hs.sub fun id hi => by simp [hi]) h.1
    have h2 := frzL hq.2 (hs.sub fun id hi => by simp only [List.map_cons, List.flatten_cons, List.mem_append]; exact .inr hi) h.2
    refine ⟨by simpa using h2.1, ?_⟩
    simp only [List.map_cons, RepL]
    exact ⟨h1, h2.2⟩
  | [], _ :: _, _, h, _, _ => h.elim
  | _ :: _, [], _, h, _, _ => h.elim
theorem blk_eq {heap : Heap} {id : Nat} {e : Em} {r : SB × Em} : Go.SE.blk heap id e = some r ↔ ∃ sb, heap.getD id none = some sb ∧ r = (sb, e) := by
  unfold Go.SE.blk; rw [lift_eq]
theorem slice_rep {Φ' : Fix} {cs : List AV} {b o o' l c sz : Nat} {C : Array Value} (hlc : l ≤ c) (ho : o' = o ∨ c = 0) (hC : Φ' b = some C) (hr : RepL Φ' cs C.toList) :
    Rep Φ' (.sl l ((cs.drop o).take (l * sz))) (.slice (some ⟨b, o', none⟩) l c) := by
  simp only [Rep]
  refine ⟨_, c, rfl, hlc, (fun h => by cases h), fun ad had => ?_⟩
  cases had
  refine ⟨rfl, ?_⟩
  rcases ho with rfl | rfl
  · exact .inr ⟨C, hC, RepL.take _ (RepL.drop _ hr)⟩
  · have : l = 0 := by omega
    subst this
    exact .inl (by simp)
theorem freeze_back {heap : Heap} : ∀ {n : Nat} {s : SV} {p : Atom × List Nat} {e e' : Em}, freeze heap n s e = some (p, e') → Hold P σ0 τ e' → Hold P σ0 τ e ∧ FrzOk heap τ s p
  | 0, _, _, _, _, h, _ => by simp only [freeze] at h; rw [fail_eq] at h; exact h.elim
  | n + 1, s, p, e, e', h, H => by
    have many : ∀ {l : List SV} {ps : List (Atom × List Nat)} {e e' : Em}, mapEM (freeze heap n) l e = some (ps, e') → Hold P σ0 τ e' → Hold P σ0 τ e ∧ All2 (FrzOk heap τ) l ps :=
      fun h1 H1 => mapEM_back (f := freeze heap n) (Q := FrzOk heap τ) (fun s e p e' h2 H2 => freeze_back (n := n) h2 H2) h1 H1
    cases s with
    | undef => simp only [freeze] at h; rw [fail_eq] at h; exact h.elim
    | fn f l => simp only [freeze] at h; rw [fail_eq] at h; exact h.elim
    | atm a =>
      simp only [freeze, EM.pure_eq] at h
      cases h
      exact ⟨H, fun E X Φ μ a w Φ' v hs hv => Rep.mono hs.2.1 _ _ (by simpa [SRep] using hv)⟩
    | agg l =>
      simp only [freeze, EM.bind_eq, EM.pure_eq] at h
      obtain ⟨ps, e1, h1, a, e2, h2, h3⟩ := h
      cases h3
      obtain ⟨H1, q, _⟩ := emit_back h2 H
      obtain ⟨H0, q1⟩ := many h1 H1
      refine ⟨H0, fun E X Φ μ a w Φ' v hs hv => ?_⟩
      simp only [SRep] at hv
      obtain ⟨vs, rfl, hv⟩ := hv
      have := frzL q1 hs hv
      rw [(evalO_mkagg q).1]
      simp only [Rep]
      exact ⟨vs, rfl, by simpa using this.1, this.2⟩
    | tup l =>
      simp only [freeze, EM.bind_eq, EM.pure_eq] at h
      obtain ⟨ps, e1, h1, a, e2, h2, h3⟩ := h
      cases h3
      obtain ⟨H1, q, _⟩ := emit_back h2 H
      obtain ⟨H0, q1⟩ := many h1 H1
      refine ⟨H0, fun E X Φ μ a w Φ' v hs hv => ?_⟩
      simp only [SRep] at hv
      obtain ⟨vs, rfl, hv⟩ := hv
      have := frzL q1 hs hv
      rw [evalO_mktup q]
      simp only [Rep]
      exact ⟨vs, rfl, by simpa using this.1, this.2⟩
    | ifc t s =>
      simp only [freeze, EM.bind_eq, EM.pure_eq] at h
      obtain ⟨p1, e1, h1, a, e2, h2, h3⟩ := h
      cases h3
      obtain ⟨H1, q, _⟩ := emit_back h2 H
      obtain ⟨H0, q1⟩ := freeze_back h1 H1
      refine ⟨H0, fun E X Φ μ a w Φ' v hs hv => ?_⟩
      simp only [SRep] at hv
      obtain ⟨u, rfl, hv⟩ := hv
      simp only [List.map_cons, List.map_nil, evalO, Option.some.injEq] at q
      rw [← q]
      simp only [Rep]
      exact ⟨u, rfl, q1 E X Φ μ a w Φ' u hs hv⟩
    | ptr id off =>
      simp only [freeze, EM.bind_eq, EM.pure_eq, blk_eq] at h
      obtain ⟨sb, e1, ⟨sb', hsb, h1⟩, h⟩ := h
      cases h1
      cases hc : sb.cells with
      | dyn a =>
        simp only [hc, EM.bind_eq, EM.pure_eq] at h
        obtain ⟨x, e2, h2, h3⟩ := h
        cases h3
        obtain ⟨H0, q, _⟩ := emit_back h2 H
        refine ⟨H0, fun E X Φ μ ac w Φ' v hs hv => ?_⟩
        obtain ⟨g1, g2⟩ := hs.2.2 id (by simp)
        obtain ⟨k1, ⟨C, t, fr, k2, k3, k4, k5, k6⟩, k7⟩ := hs.1.blks id sb (by rw [g1]; exact hsb)
        rw [hc] at k5
        obtain ⟨cs, m1, m2⟩ := k5
        obtain ⟨cs', o, n1, n2, n3⟩ := evalO_mkrp (by simpa using q)
        rw [m1] at n1; cases n1
        simp only [SRep] at hv
        obtain ⟨o', r1, rfl⟩ := hv
        rw [n2] at r1
        have := num_inj r1
        subst this
        show Rep Φ' (x.den τ) _
        rw [n3]
        simp only [Rep]
        exact ⟨_, rfl, rfl, C, g2 C t fr k2, RepL.drop o (RepL.mono hs.2.1 _ _ m2)⟩
      | fix l =>
        simp only [hc, EM.bind_eq, EM.pure_eq] at h
        obtain ⟨ps, e2, h2, a, e3, h3, x, e4, h4, h5⟩ := h
        cases h5
        obtain ⟨H3, q, _⟩ := emit_back h4 H
        obtain ⟨H2, q1, _⟩ := emit_back h3 H3
        obtain ⟨H0, q2⟩ := many h2 H2
        refine ⟨H0, fun E X Φ μ ac w Φ' v hs hv => ?_⟩
        obtain ⟨g1, g2⟩ := hs.2.2 id (by simp)
        obtain ⟨k1, ⟨C, t, fr, k2, k3, k4, k5, k6⟩, k7⟩ := hs.1.blks id sb (by rw [g1]; exact hsb)
        rw [hc] at k5
        obtain ⟨xs, ys, m1, m2⟩ := k5
        have m3 := frzL q2 (hs.sub fun i hi => by simp [hi]) m2
        obtain ⟨cs', o, n1, n2, n3⟩ := evalO_mkrp (by simpa using q)
        rw [(evalO_mklst q1).1] at n1; cases n1
        simp only [SRep] at hv
        obtain ⟨o', r1, rfl⟩ := hv
        rw [n2] at r1
        have := num_inj r1
        subst this
        show Rep Φ' (x.den τ) _
        rw [n3]
        simp only [Rep]
        refine ⟨_, rfl, rfl, C, g2 C t fr k2, RepL.drop o ?_⟩
        rw [m1]
        exact RepL.more ys m3.2
    | osl id sz off len cap =>
      simp only [freeze, EM.bind_eq, EM.pure_eq, blk_eq] at h
      obtain ⟨sb, e1, ⟨sb', hsb, h1⟩, h⟩ := h
      cases h1
      cases hc : sb.cells with
      | dyn a =>
        simp only [hc, EM.bind_eq, EM.pure_eq] at h
        obtain ⟨x, e2, h2, h3⟩ := h
        cases h3
        obtain ⟨H0, q, _⟩ := emit_back h2 H
        refine ⟨H0, fun E X Φ μ ac w Φ' v hs hv => ?_⟩
        obtain ⟨g1, g2⟩ := hs.2.2 id (by simp)
        obtain ⟨k1, ⟨C, t, fr, k2, k3, k4, k5, k6⟩, k7⟩ := hs.1.blks id sb (by rw [g1]; exact hsb)
        rw [hc] at k5
        obtain ⟨cs, m1, m2⟩ := k5
        obtain ⟨cs', o, n, n1, n2, n3, n4, n5⟩ := evalO_mksl (by simpa using q)
        rw [m1] at n1; cases n1
        simp only [SRep] at hv
        obtain ⟨o1, l, k, c, o', r1, r2, r3, rfl, r4, r5, r6, r7⟩ := hv
        rw [n2] at r1
        have := num_inj r1
        subst this
        rw [n3] at r2
        have := num_inj r2
        subst this
        show Rep Φ' (x.den τ) _
        rw [n5]
        exact slice_rep (by omega) r6 (g2 C t fr k2) (RepL.mono hs.2.1 _ _ m2)
      | fix ls =>
        simp only [hc, EM.bind_eq, EM.pure_eq] at h
        obtain ⟨ps, e2, h2, a, e3, h3, x, e4, h4, h5⟩ := h
        cases h5
        obtain ⟨H3, q, _⟩ := emit_back h4 H
        obtain ⟨H2, q1, _⟩ := emit_back h3 H3
        obtain ⟨H0, q2⟩ := many h2 H2
        refine ⟨H0, fun E X Φ μ ac w Φ' v hs hv => ?_⟩
        obtain ⟨g1, g2⟩ := hs.2.2 id (by simp)
        obtain ⟨k1, ⟨C, t, fr, k2, k3, k4, k5, k6⟩, k7⟩ := hs.1.blks id sb (by rw [g1]; exact hsb)
        rw [hc] at k5
        obtain ⟨xs, ys, m1, m2⟩ := k5
        have m3 := frzL q2 (hs.sub fun i hi => by simp [hi]) m2
        obtain ⟨cs', o, n, n1, n2, n3, n4, n5⟩ := evalO_mksl (by simpa using q)
        rw [(evalO_mklst q1).1] at n1; cases n1
        simp only [SRep] at hv
        obtain ⟨o1, l, k, c, o', r1, r2, r3, rfl, r4, r5, r6, r7⟩ := hv
        rw [n2] at r1
        have := num_inj r1
        subst this
        rw [n3] at r2
        have := num_inj r2
        subst this
        show Rep Φ' (x.den τ) _
        rw [n5]
        refine slice_rep (by omega) r6 (g2 C t fr k2) ?_
        rw [m1]
        exact RepL.more ys m3.2
end Go.SE
set_option autoImplicit false
namespace Go.SE
open Go
variable {P : Program} {σ0 τ : List AV}
structure Agree (X : LS) (heap : Heap) (tmps : List SV) (o : Oper) (e : Eff) : Prop where
  tmp : ∀ t ∈ opTmps o, X.tmp t = tmps.getD t .undef
  blk : ∀ id ∈ e.rd ++ e.wr.map (·.1), X.blk id = heap.getD id none ∧ X.dfn id = true
  ref : ∀ id ∈ effRefs e, id < heap.length → X.dfn id = true
  new : ∀ id ∈ newIds heap.length e, X.dfn id = false
def EffOk (P : Program) (E : Ent) (τ : List AV) (heap : Heap) (tmps : List SV) (o : Oper) (e : Eff) : Prop :=
  ∀ (X : LS) (Φ : Fix) (μ : Map) (a : Act) (w : World) (Q : Exit → Act → World → Prop) (K : Act → World → Prop),
    Agree X heap tmps o e → SRel E τ X Φ μ a w →
    (∀ Φ' μ' w' v, SRel E τ (X.upd (memW heap.length e)) Φ' μ' a w' → SRep Φ' μ' τ e.res v → K (a.put o.dst v) w') →
    o.wp P a w K Q
theorem wp_of_value {o : Oper} {a : Act} {w w' : World} {v : Value} {K : Act → World → Prop} {Q : Exit → Act → World → Prop}
    (h : (execOp a.eval o).run P w = .ok (.value v) w') (k : K (a.put o.dst v) w') : o.wp P a w K Q := by
  unfold Oper.wp; rw [h]; exact k
theorem wp_of_skip {o : Oper} {a : Act} {w w' : World} {K : Act → World → Prop} {Q : Exit → Act → World → Prop}
    (h : (execOp a.eval o).run P w = .ok .skip w') (k : K (a.put o.dst undef) w') : o.wp P a w K Q := by
  unfold Oper.wp; rw [h]; exact k
variable {E : Ent} {heap : Heap} {tmps : List SV} {o : Oper}
theorem EffOk.pure {e : Eff} (hw : e.wr = []) (hn : e.new = [])
    (h : ∀ X Φ μ a w, Agree X heap tmps o e → SRel E τ X Φ μ a w → ∃ v, (execOp a.eval o).run P w = .ok (.value v) w ∧ SRep Φ μ τ e.res v) :
    EffOk P E τ heap tmps o e := fun X Φ μ a w Q K hA hR hK => by
  obtain ⟨v, h1, h2⟩ := h X Φ μ a w hA hR
  have : X.upd (memW heap.length e) = X := by simp [memW, newIds, hw, hn, LS.upd]
  rw [this] at hK
  exact wp_of_value h1 (hK Φ μ w v hR h2)
theorem ofVal1_rep {Φ : Fix} {v : Value} {a : AV} (h : ofVal1 v = some a) : Rep Φ a v ∧ a.isCell = true ∧ v.oneCell' = true := by
  unfold ofVal1 at h
  split at h <;> cases h <;> simp [Rep, AV.isCell, Value.oneCell']
theorem ofVals_rep {Φ : Fix} : ∀ {vs : List Value} {as : List AV}, ofVals vs = some as → RepE Φ as vs ∧ as.all AV.isCell = true ∧ ∀ v ∈ vs, v.oneCell' = true
  | [], as, h => by simp [ofVals] at h; subst h; simp [RepE, RepL]
  | v :: vs, as, h => by
    unfold ofVals at h
    split at h
    · rename_i a as' h1 h2
      cases h
      obtain ⟨k1, k2, k3⟩ := ofVal1_rep (Φ := Φ) h1
      obtain ⟨⟨k4, k5⟩, k6, k7⟩ := ofVals_rep (Φ := Φ) h2
      refine ⟨⟨by simp [k4], by simp only [RepL]; exact ⟨k1, k5⟩⟩, by simp only [List.all_cons, k2, k6, Bool.and_self], fun u hu => ?_⟩
      rcases List.mem_cons.1 hu with rfl | hu
      · exact k3
      · exact k7 u hu
    · cases h
theorem ofVal_rep {Φ : Fix} {v : Value} {a : AV} (h : ofVal v = some a) : Rep Φ a v := by
  cases v with
  | agg vs =>
    simp only [ofVal, Option.map_eq_some_iff] at h
    obtain ⟨as, h1, rfl⟩ := h
    obtain ⟨⟨k1, k2⟩, _⟩ := ofVals_rep (Φ := Φ) h1
    simp only [Rep]
    exact ⟨vs, rfl, by simpa using k1, k2⟩
  | _ => exact (ofVal1_rep (by simpa [ofVal] using h)).1
theorem opv_rep {x : Operand} {s : SV} {X : LS} {Φ : Fix} {μ : Map} {a : Act} {w : World} (h : opv tmps x = some s) (hR : SRel E τ X Φ μ a w)
    (ht : ∀ t, x = .tmp t → X.tmp t = tmps.getD t .undef) : SRep Φ μ τ s (a.eval x) := by
  cases x with
  | tmp t =>
    simp only [opv, Option.some.injEq] at h
    subst h
    rw [← ht t rfl]
    exact hR.tmps t
  | const v =>
    simp only [opv, Option.map_eq_some_iff] at h
    obtain ⟨av, h1, rfl⟩ := h
    simp only [SRep, Atom.den]
    exact ofVal_rep h1
  | func f =>
    simp only [opv, Option.some.injEq] at h
    subst h
    simp only [SRep, Atom.den, Rep]
    exact ⟨#[], rfl, rfl, by simp [RepL]⟩
  | global g => simp [opv] at h
theorem mem_opTmps {x : Operand} {t : Nat} (hx : x ∈ o.op.operands) (e : x = .tmp t) : t ∈ opTmps o := by
  unfold opTmps
  exact List.mem_filterMap.2 ⟨x, by simpa using hx, by rw [e]⟩
theorem Agree.rep {X : LS} {Φ : Fix} {μ : Map} {a : Act} {w : World} {e : Eff} {x : Operand} {s : SV} (hA : Agree X heap tmps o e) (hR : SRel E τ X Φ μ a w)
    (hx : x ∈ o.op.operands) (h : opv tmps x = some s) : SRep Φ μ τ s (a.eval x) :=
  opv_rep h hR fun t e => hA.tmp t (mem_opTmps hx e)
theorem move_ok {x : Operand} {s : SV} (ho : o.op = .move x ∨ o.op = .assign x) (h : opv tmps x = some s) : EffOk P E τ heap tmps o { res := s } := by
  refine EffOk.pure rfl rfl fun X Φ μ a w hA hR => ⟨a.eval x, ?_, ?_⟩
  · rcases ho with ho | ho <;> simp [execOp, ho]
  · exact hA.rep hR (by rcases ho with ho | ho <;> simp [ho, Op.operands]) h
theorem Rep.int_inv {Φ : Fix} {k : IntKind} {n : Int} {v : Value} (h : Rep Φ (.int k n) v) : v = .int k n := by simpa [Rep] using h
theorem Rep.bool_inv {Φ : Fix} {b : Bool} {v : Value} (h : Rep Φ (.bool b) v) : v = .bool b := by simpa [Rep] using h
theorem Rep.str_inv {Φ : Fix} {s : ByteArray} {v : Value} (h : Rep Φ (.str s) v) : v = .string s := by simpa [Rep] using h
theorem eqGuard_int {op : BinOp} {t : TypeId} {x y : Operand} {k k' : IntKind} {a b : Int} (w : World) : (eqGuard op t x y (.int k a) (.int k' b)).run P w = .ok () w := by
  unfold eqGuard; split <;> simp
theorem eqGuard_str {op : BinOp} {t : TypeId} {x y : Operand} {a b : ByteArray} (w : World) : (eqGuard op t x y (.string a) (.string b)).run P w = .ok () w := by
  unfold eqGuard; split <;> simp
theorem eqGuard_bool {op : BinOp} {t : TypeId} {x y : Operand} {a b : Bool} (w : World) : (eqGuard op t x y (.bool a) (.bool b)).run P w = .ok () w := by
  unfold eqGuard; split <;> simp
theorem ibin_run {op : BinOp} {t : TypeId} {k : IntKind} {a b : Int} {r : AV} (hs : isShift op = false) (h : ibin op k a b = some r) (w : World) :
    ∃ v, (binOp op t (.int k a) (.int k b)).run P w = .ok v w ∧ ∀ Φ, Rep Φ r v := by
  cases op <;> simp only [isShift] at hs <;> simp only [ibin] at h <;> first
    | (cases h; exact ⟨_, by simp [binOp, Op.intArith, Op.intBits, Op.intCmp]; rfl, fun Φ => by simp [Rep]⟩)
    | (split at h
       · cases h
       · rename_i hb; cases h; exact ⟨_, by simp [binOp, Op.intDiv, hb]; rfl, fun Φ => by simp [Rep]⟩)
    | cases hs
theorem ishift_run {op : BinOp} {t : TypeId} {k k' : IntKind} {a b : Int} {r : AV} (h : ishift op k a b = some r) (w : World) :
    ∃ v, (binOp op t (.int k a) (.int k' b)).run P w = .ok v w ∧ ∀ Φ, Rep Φ r v := by
  unfold ishift at h
  split at h
  · cases h
  · rename_i hb
    cases op <;> simp only at h <;> first
      | cases h; done
      | (cases h; exact ⟨_, by simp [binOp, Op.shift, hb]; rfl, fun Φ => by simp [Rep]⟩)
theorem sbin_run {op : BinOp} {t : TypeId} {a b : ByteArray} {r : AV} (h : sbin op a b = some r) (w : World) :
    ∃ v, (binOp op t (.string a) (.string b)).run P w = .ok v w ∧ ∀ Φ, Rep Φ r v := by
  cases op <;> simp only [sbin] at h <;> first
    | cases h; done
    | (cases h; exact ⟨_, by simp [binOp, Op.stringOp]; rfl, fun Φ => by simp [Rep]⟩)
    | (split at h
       · cases h
       · rename_i hb; cases h; exact ⟨_, by simp only [binOp, Op.stringOp, if_neg hb]; rfl, fun Φ => by simp [Rep]⟩)
theorem bin_ok {op : BinOp} {t t' : TypeId} {x y : Operand} {s s' : SV} {a b r : Atom} (ho : o.op = .binOp op t x y t') (hx : opv tmps x = some s) (hy : opv tmps y = some s')
    (ha : ∀ Φ μ v, SRep Φ μ τ s v → Rep Φ (a.den τ) v) (hb : ∀ Φ μ v, SRep Φ μ τ s' v → Rep Φ (b.den τ) v)
    (h : evalO (.bin op) [a.den τ, b.den τ] = some (r.den τ)) : EffOk P E τ heap tmps o { res := .atm r } := by
  refine EffOk.pure rfl rfl fun X Φ μ ac w hA hR => ?_
  have h1 := ha Φ μ _ (hA.rep hR (by simp [ho, Op.operands]) hx)
  have h2 := hb Φ μ _ (hA.rep hR (by simp [ho, Op.operands]) hy)
  simp only [evalO] at h
  have hex : execOp ac.eval o = (do let v ← (do eqGuard op t x y (ac.eval x) (ac.eval y); binOp op t (ac.eval x) (ac.eval y)); pure (.value v)) := by simp [execOp, ho]
  have fin : (∃ v, (eqGuard op t x y (ac.eval x) (ac.eval y)).run P w = .ok () w ∧ (binOp op t (ac.eval x) (ac.eval y)).run P w = .ok v w ∧ ∀ Φ, Rep Φ (r.den τ) v) →
      ∃ v, (execOp ac.eval o).run P w = .ok (.value v) w ∧ SRep Φ μ τ (.atm r) v := by
    rintro ⟨v, g1, g2, g3⟩
    refine ⟨v, ?_, by simpa [SRep] using g3 Φ⟩
    rw [hex]; simp [g1, g2]
  apply fin
  unfold aBin at h
  split at h
  · rename_i k i k' j e1 e2
    rw [e1] at h1; rw [e2] at h2
    rw [h1.int_inv, h2.int_inv]
    split at h
    · obtain ⟨v, g1, g2⟩ := ishift_run (P := P) (t := t) (k' := k') h w
      exact ⟨v, eqGuard_int w, g1, g2⟩
    · rename_i hs
      split at h
      · rename_i hk
        subst hk
        obtain ⟨v, g1, g2⟩ := ibin_run (P := P) (t := t) (by simpa using hs) h w
        exact ⟨v, eqGuard_int w, g1, g2⟩
      · cases h
  · rename_i i j e1 e2
    rw [e1] at h1; rw [e2] at h2
    rw [h1.str_inv, h2.str_inv]
    obtain ⟨v, g1, g2⟩ := sbin_run (P := P) (t := t) h w
    exact ⟨v, eqGuard_str w, g1, g2⟩
  · cases h
end Go.SE
set_option autoImplicit false
namespace Go.SE
open Go
variable {P : Program} {σ0 τ : List AV} {E : Ent} {heap : Heap} {tmps : List SV} {o : Oper}
theorem run_underlying_some {t : TypeId} {d : TypeDesc} (h : P.underlying t = some d) (w : World) : (underlying t).run P w = .ok d w := run_underlying h w
theorem run_typeInfo_some {t : TypeId} {i : TypeInfo} (h : P.info? t = some i) (w : World) : (typeInfo t).run P w = .ok i w := by
  simp [typeInfo, h]
theorem run_sizeOf {t : TypeId} {n : Nat} (h : sizeT P t = some n) (w : World) : (sizeOf t).run P w = .ok n w := by
  unfold sizeT at h
  simp only [Option.map_eq_some_iff] at h
  obtain ⟨i, h1, h2⟩ := h
  simp [sizeOf, run_typeInfo_some h1, h2]
theorem run_isAgg {t : TypeId} {b : Bool} (h : aggT P t = some b) (w : World) : (isAgg t).run P w = .ok b w := by
  unfold aggT at h
  split at h
  · rename_i fs h1; cases h; simp [isAgg, run_underlying_some h1]
  · rename_i n e h1; cases h; simp [isAgg, run_underlying_some h1]
  · rename_i d _ _ h1
    cases h
    simp only [isAgg, Sem.run_bind, run_underlying_some h1, Result.andThen_ok]
    first | rfl | (split <;> simp_all)
  · cases h
theorem run_equalIn_bool (d : Nat) {t : TypeId} (h : P.underlying t = some .bool) (a b : Bool) (w : World) : (Op.equalIn (d + 1) t (.bool a) (.bool b)).run P w = .ok (a == b) w := by
  simp only [Op.equalIn, Sem.run_bind, run_underlying_some h, Result.andThen_ok, Sem.run_pure]
theorem run_equal_bool {t : TypeId} (h : P.underlying t = some .bool) (a b : Bool) (w : World) : (Op.equal t (.bool a) (.bool b)).run P w = .ok (a == b) w := by
  exact run_equalIn_bool 9999 h a b w
theorem evalO_bb {neg : Bool} {a b v : AV} (h : evalO (.bb neg) [a, b] = some v) : ∃ i j, a = .bool i ∧ b = .bool j ∧ v = .bool (if neg then !(i == j) else i == j) := by
  cases a <;> cases b <;> simp [evalO] at h
  exact ⟨_, _, rfl, rfl, h.symm⟩
theorem bb_ok {op : BinOp} {t t' : TypeId} {x y : Operand} {s s' : SV} {a b r : Atom} (ho : o.op = .binOp op t x y t') (hop : isEqOp op = true) (ht : P.underlying t = some .bool)
    (hx : opv tmps x = some s) (hy : opv tmps y = some s')
    (ha : ∀ Φ μ v, SRep Φ μ τ s v → Rep Φ (a.den τ) v) (hb : ∀ Φ μ v, SRep Φ μ τ s' v → Rep Φ (b.den τ) v)
    (h : evalO (.bb (isNeq op)) [a.den τ, b.den τ] = some (r.den τ)) : EffOk P E τ heap tmps o { res := .atm r } := by
  refine EffOk.pure rfl rfl fun X Φ μ ac w hA hR => ?_
  have h1 := ha Φ μ _ (hA.rep hR (by simp [ho, Op.operands]) hx)
  have h2 := hb Φ μ _ (hA.rep hR (by simp [ho, Op.operands]) hy)
  obtain ⟨i, j, e1, e2, e3⟩ := evalO_bb h
  rw [e1] at h1
  rw [e2] at h2
  have hex : execOp ac.eval o = (do let v ← (do eqGuard op t x y (.bool i) (.bool j); binOp op t (.bool i) (.bool j)); pure (.value v)) := by
    simp [execOp, ho, h1.bool_inv, h2.bool_inv]
  rw [hex]
  cases op <;> simp [isEqOp] at hop
  · exact ⟨_, by simp [eqGuard_bool, binOp, run_equal_bool ht]; rfl, by simp [SRep, Rep, e3, isNeq]⟩
  · exact ⟨_, by simp [eqGuard_bool, binOp, run_equal_bool ht]; rfl, by simp [SRep, Rep, e3, isNeq]⟩
theorem un_ok {op : UnOp} {t : TypeId} {x : Operand} {s : SV} {a r : Atom} (ho : o.op = .unOp op t x) (hx : opv tmps x = some s)
    (ha : ∀ Φ μ v, SRep Φ μ τ s v → Rep Φ (a.den τ) v) (h : evalO (.un op) [a.den τ] = some (r.den τ)) : EffOk P E τ heap tmps o { res := .atm r } := by
  refine EffOk.pure rfl rfl fun X Φ μ ac w hA hR => ?_
  have h1 := ha Φ μ _ (hA.rep hR (by simp [ho, Op.operands]) hx)
  simp only [evalO] at h
  unfold aUn at h
  have hex : execOp ac.eval o = (do let v ← Op.unary op (ac.eval x); pure (.value v)) := by simp [execOp, ho]
  rw [hex]
  split at h
  · rename_i k n e1
    rw [e1] at h1; rw [h1.int_inv]
    split at h
    · simp only [ibin, Option.some.injEq] at h
      exact ⟨_, by simp [Op.unary, Op.intArith]; rfl, by simp [SRep, ← h, Rep]⟩
    · simp only [ibin, Option.some.injEq] at h
      exact ⟨_, by simp [Op.unary, Op.intBits]; rfl, by simp [SRep, ← h, Rep]⟩
    · cases h
  · rename_i b e1
    rw [e1] at h1; rw [h1.bool_inv]
    split at h
    · simp only [Option.some.injEq] at h
      exact ⟨_, by simp [Op.unary]; rfl, by simp [SRep, ← h, Rep]⟩
    · cases h
  · cases h
theorem evalO_cvt {k : IntKind} {a v : AV} (h : evalO (.cvt k) [a] = some v) : ∃ j n, a = .int j n ∧ v = .int k (k.wrap n) := by
  cases a with
  | int j n => simp only [evalO, Option.some.injEq] at h; exact ⟨j, n, rfl, h.symm⟩
  | _ => simp [evalO] at h
theorem cvt_ok {src dst : TypeId} {d : TypeDesc} {k : IntKind} {x : Operand} {s : SV} {a r : Atom} (ho : o.op = .convert src dst x) (hx : opv tmps x = some s)
    (hs : P.underlying src = some d) (hd : P.underlying dst = some (.int k))
    (ha : ∀ Φ μ v, SRep Φ μ τ s v → Rep Φ (a.den τ) v) (h : evalO (.cvt k) [a.den τ] = some (r.den τ)) : EffOk P E τ heap tmps o { res := .atm r } := by
  refine EffOk.pure rfl rfl fun X Φ μ ac w hA hR => ?_
  have h1 := ha Φ μ _ (hA.rep hR (by simp [ho, Op.operands]) hx)
  obtain ⟨j, n, e1, e2⟩ := evalO_cvt h
  rw [e1] at h1
  refine ⟨.int k (k.wrap n), ?_, by simp [SRep, e2, Rep]⟩
  simp [execOp, ho, h1.int_inv, convert, run_underlying_some hs, run_underlying_some hd, Conv.intToInt]
theorem evalO_ext {i : Nat} {c : Bool} {a v : AV} (h : evalO (.ext i c) [a] = some v) : ∃ vs, a = .tup vs ∧ vs[i]? = some v := by
  cases a with
  | tup vs =>
    simp only [evalO] at h
    split at h
    · rename_i u hu
      split at h
      · cases h
      · cases h; exact ⟨vs, rfl, hu⟩
    · cases h
  | _ => simp [evalO] at h
theorem run_extract {i : Nat} {vs : Array Value} {v : Value} (h : vs[i]? = some v) (w : World) : (Instr.extract (.tuple vs) i).run P w = .ok v w := by
  simp [Instr.extract, h]
theorem ext_ok {i : Nat} {c : Bool} {x : Operand} {a r : Atom} (ho : o.op = .extract x i) (hx : opv tmps x = some (.atm a))
    (h : evalO (.ext i c) [a.den τ] = some (r.den τ)) : EffOk P E τ heap tmps o { res := .atm r } := by
  refine EffOk.pure rfl rfl fun X Φ μ ac w hA hR => ?_
  have h1 := hA.rep hR (by simp [ho, Op.operands]) hx
  obtain ⟨vs, e1, e2⟩ := evalO_ext h
  simp only [SRep, e1, Rep] at h1
  obtain ⟨us, h2, _, h3⟩ := h1
  obtain ⟨u, hu, hr⟩ := RepL.get h3 e2
  refine ⟨u, ?_, by simpa [SRep] using hr⟩
  simp [execOp, ho, h2, run_extract (i := i) (vs := us) (by simpa using hu)]
theorem ext_tup_ok {i : Nat} {x : Operand} {l : List SV} {r : SV} (ho : o.op = .extract x i) (hx : opv tmps x = some (.tup l))
    (h : l[i]? = some r) : EffOk P E τ heap tmps o { res := r } := by
  refine EffOk.pure rfl rfl fun X Φ μ ac w hA hR => ?_
  have h1 := hA.rep hR (by simp [ho, Op.operands]) hx
  simp only [SRep] at h1
  obtain ⟨us, h2, h3⟩ := h1
  obtain ⟨u, hu, hr⟩ := SRepL.get h3 h
  refine ⟨u, ?_, hr⟩
  simp [execOp, ho, h2, run_extract (i := i) (vs := us) (by simpa using hu)]
theorem evalO_nilchk {a v : AV} (h : evalO .nilchk [a] = some v) : v = a ∧ ((∃ cs, a = .rp cs) ∨ (∃ f cs, a = .fn f cs) ∨ ∃ t u, a = .ifc t u) := by
  cases a <;> simp [evalO] at h <;> subst h <;> simp
theorem nilCheck_ptr_ok {x : Operand} {id : Nat} {off : Atom} (ho : o.op = .nilCheck x) (hx : opv tmps x = some (.ptr id off)) : EffOk P E τ heap tmps o { res := .ptr id off } := by
  refine EffOk.pure rfl rfl fun X Φ μ ac w hA hR => ?_
  have h1 := hA.rep hR (by simp [ho, Op.operands]) hx
  have h1' := h1
  simp only [SRep] at h1
  obtain ⟨k, _, h2⟩ := h1
  exact ⟨_, by simp [execOp, ho, h2]; rfl, by rw [h2] at h1'; exact h1'⟩
theorem loadCells_run {b o n : Nat} {C : Array Value} {t : TypeId} {fr : Nat × Nat} {w : World} (h : w.heap[b]? = some (.cells C t fr)) (hl : o + n ≤ C.size) :
    (loadCells ⟨b, o, none⟩ n).run P w = .ok ((C.toList.drop o).take n).toArray w := by
  have := run_loadCells_list (P := P) (w := w) ⟨b, o, none⟩ ((C.toList.drop o).take n) (fun j v hj => by
    rw [add_addr, cell_of_block h]
    have hjn : j < n := by
      have := (List.getElem?_eq_some_iff.1 hj).1
      simp at this; omega
    rw [List.getElem?_take_of_lt hjn, List.getElem?_drop] at hj
    simpa using hj)
  have hlen : ((C.toList.drop o).take n).length = n := by simp; omega
  rw [hlen] at this
  exact this
theorem loadVar_run {b o sz : Nat} {ag : Bool} {C : Array Value} {t ty : TypeId} {fr : Nat × Nat} {w : World} (h : w.heap[b]? = some (.cells C t fr))
    (hag : aggT P ty = some ag) (hsz : sizeT P ty = some sz) :
    (ag = true → o + sz ≤ C.size → (loadVar ty ⟨b, o, none⟩).run P w = .ok (.agg ((C.toList.drop o).take sz).toArray) w) ∧
    (ag = false → ∀ v, C[o]? = some v → (loadVar ty ⟨b, o, none⟩).run P w = .ok v w) := by
  constructor
  · rintro rfl hl
    simp only [loadVar, Sem.run_bind, run_isAgg hag, Result.andThen_ok, if_true, run_sizeOf hsz, loadCells_run h hl, Sem.run_pure]
  · rintro rfl v hv
    simp only [loadVar, Sem.run_bind, run_isAgg hag, Result.andThen_ok, Bool.false_eq_true, if_false, run_load, cell_of_block h, hv]
theorem evalO_rld {ag : Bool} {sz : Nat} {a v : AV} (h : evalO (.rld ag sz) [a] = some v) : ∃ cs, a = .rp cs ∧ rdCells ag sz cs = some v := by
  cases a with
  | rp cs => simp only [evalO] at h; exact ⟨cs, rfl, h⟩
  | _ => simp [evalO] at h
theorem load_rp_ok {t : TypeId} {x : Operand} {a r : Atom} {ag : Bool} {sz : Nat} (ho : o.op = .load t x) (hx : opv tmps x = some (.atm a)) (hag : aggT P t = some ag) (hsz : sizeT P t = some sz)
    (hz : 0 < sz) (h : evalO (.rld ag sz) [a.den τ] = some (r.den τ)) : EffOk P E τ heap tmps o { res := .atm r } := by
  refine EffOk.pure rfl rfl fun X Φ μ ac w hA hR => ?_
  have h1 := hA.rep hR (by simp [ho, Op.operands]) hx
  obtain ⟨cs, e1, e2⟩ := evalO_rld h
  simp only [SRep, e1, Rep] at h1
  obtain ⟨⟨b, of, sp⟩, h2, h3, C, h4, h5⟩ := h1
  simp only at h3 h4 h5
  subst h3
  obtain ⟨ty, fr, h6⟩ := hR.mem.fix _ _ h4
  obtain ⟨g1, g2⟩ := rdCells_back e2 h5
  have hex : ∀ v, (loadVar t ⟨b, of, none⟩).run P w = .ok v w → (execOp ac.eval o).run P w = .ok (.value v) w := fun v hv => by
    simp [execOp, ho, h2, Instr.loadAt, Instr.sureAddr, hv]
  cases ag with
  | true =>
    obtain ⟨k1, k2⟩ := g1 rfl
    have hl : of + sz ≤ C.size := by simp at k1; omega
    exact ⟨_, hex _ ((loadVar_run h6 hag hsz).1 rfl hl), by simpa [SRep] using k2⟩
  | false =>
    obtain ⟨u, k1, k2⟩ := g2 rfl
    exact ⟨u, hex _ ((loadVar_run h6 hag hsz).2 rfl u (by simpa using k1)), by simpa [SRep] using k2⟩
theorem load_own_ok {t : TypeId} {x : Operand} {id : Nat} {off : Atom} {sb : SB} {r : SV} {ag : Bool} {sz : Nat} (ho : o.op = .load t x) (hx : opv tmps x = some (.ptr id off))
    (hag : aggT P t = some ag) (hsz : sizeT P t = some sz) (hsb : heap.getD id none = some sb)
    (h : ∀ Φ μ (vs : List Value) k, CRep Φ μ τ sb.cells vs → off.den τ = num k →
      (ag = true → k + sz ≤ vs.length ∧ SRep Φ μ τ r (.agg ((vs.drop k).take sz).toArray)) ∧ (ag = false → ∃ u, vs[k]? = some u ∧ SRep Φ μ τ r u)) :
    EffOk P E τ heap tmps o { res := r, rd := [id] } := by
  refine EffOk.pure rfl rfl fun X Φ μ ac w hA hR => ?_
  have h1 := hA.rep hR (by simp [ho, Op.operands]) hx
  simp only [SRep] at h1
  obtain ⟨k, hk, h2⟩ := h1
  obtain ⟨g1, g2⟩ := hA.blk id (by simp)
  obtain ⟨_, ⟨C, ty, fr, k2, k3, k4, k5, k6⟩, _⟩ := hR.blks id sb (by rw [g1]; exact hsb)
  obtain ⟨m1, m2⟩ := h Φ μ C.toList k k5 hk
  have hex : ∀ v, (loadVar t ⟨(μ id).1, k, none⟩).run P w = .ok v w → (execOp ac.eval o).run P w = .ok (.value v) w := fun v hv => by
    simp [execOp, ho, h2, Instr.loadAt, Instr.sureAddr, hv]
  cases ag with
  | true =>
    obtain ⟨n1, n2⟩ := m1 rfl
    exact ⟨_, hex _ ((loadVar_run k2 hag hsz).1 rfl (by simpa using n1)), n2⟩
  | false =>
    obtain ⟨u, n1, n2⟩ := m2 rfl
    exact ⟨u, hex _ ((loadVar_run k2 hag hsz).2 rfl u (by simpa using n1)), n2⟩
end Go.SE
set_option autoImplicit false
namespace Go.SE
open Go
variable {P : Program} {σ0 τ : List AV} {E : Ent} {heap : Heap} {tmps : List SV} {o : Oper}
theorem upd_new {X : LS} {e : Eff} {sb : SB} (hw : e.wr = []) (hn : e.new = [some sb]) :
    X.upd (memW heap.length e) = (X.set (lDfn heap.length) (.df true)).set (lBlk heap.length) (.bk (some sb)) := by
  simp [memW, newIds, hw, hn, LS.upd, List.range'_succ]
theorem upd_wr {X : LS} {e : Eff} {id : Nat} {b : Option SB} (hw : e.wr = [(id, b)]) (hn : e.new = []) :
    X.upd (memW heap.length e) = X.set (lBlk id) (.bk b) := by
  simp [memW, newIds, hw, hn, LS.upd]
theorem upd_wr_new {X : LS} {e : Eff} {id : Nat} {b : Option SB} {sb : SB} (hw : e.wr = [(id, b)]) (hn : e.new = [some sb]) :
    X.upd (memW heap.length e) = ((X.set (lBlk id) (.bk b)).set (lDfn heap.length) (.df true)).set (lBlk heap.length) (.bk (some sb)) := by
  simp [memW, newIds, hw, hn, LS.upd, List.range'_succ]
theorem Agree.new1 {X : LS} {e : Eff} {b : Option SB} (h : Agree X heap tmps o e) (hn : e.new = [b]) : X.dfn heap.length = false :=
  h.new heap.length (by simp [newIds, hn, List.range'_succ])
theorem Agree.newRefs {X : LS} {e : Eff} {sb : SB} (h : Agree X heap tmps o e) (hn : e.new = [some sb]) (hl : ∀ id ∈ sb.cells.refs, id < heap.length) :
    ∀ id ∈ sb.cells.refs, X.dfn id = true := fun id hi =>
  h.ref id (by simp only [effRefs, List.mem_append, hn]; right; simpa [refsB] using hi) (hl id hi)
theorem EffOk.alloc {e : Eff} {c : Cells} (hw : e.wr = []) (hn : e.new = [some ⟨c, false⟩]) (hl : ∀ id ∈ c.refs, id < heap.length)
    (h : ∀ X Φ μ a w, Agree X heap tmps o e → SRel E τ X Φ μ a w → ∃ v C t fr w2, (execOp a.eval o).run P w = .ok (.value v) (w2.alloc (.cells C t fr)) ∧ SRel E τ X Φ μ a w2 ∧
      CRep Φ μ τ c C.toList ∧ (∀ o, o < C.size → ¬ (fr.1 ≤ o ∧ o < fr.2)) ∧ SRep Φ (fun i => if i = heap.length then (w2.heap.size, C.size) else μ i) τ e.res v) :
    EffOk P E τ heap tmps o e := fun X Φ μ a w Q K hA hR hK => by
  obtain ⟨v, C, t, fr, w2, h1, h2, h3, h4, h5⟩ := h X Φ μ a w hA hR
  rw [upd_new hw hn] at hK
  exact wp_of_value h1 (hK Φ _ _ v (h2.alloc (hA.new1 hn) h3 (hA.newRefs hn hl) h4) h5)
theorem den_zero {τ : List AV} : zeroAtom.den τ = num 0 := rfl
theorem zeroT_rep {t : TypeId} {z : List AV} (h : zeroT P t = some z) : ∃ i zv, P.info? t = some i ∧ i.zero = some zv ∧ (∀ Φ, RepE Φ z zv.cells.toList) ∧ z.all AV.isCell = true ∧ ∀ v ∈ zv.cells.toList, v.oneCell' = true := by
  unfold zeroT at h
  split at h
  · rename_i i hi
    split at h
    · rename_i zv hz
      exact ⟨i, zv, hi, hz, fun Φ => (ofVals_rep h).1, (ofVals_rep (Φ := fun _ => none) h).2.1, (ofVals_rep (Φ := fun _ => none) h).2.2⟩
    · cases h
  · cases h
theorem run_zeroValue {t : TypeId} {i : TypeInfo} {z : Value} (hi : P.info? t = some i) (hz : i.zero = some z) (w : World) : (zeroValue t).run P w = .ok z w := by
  simp [zeroValue, run_typeInfo_some hi, hz]
theorem crep_consts {Φ : Fix} {μ : Map} {z : List AV} {vs : List Value} (h : RepE Φ z vs) : CRep Φ μ τ (.fix (z.map fun a => .atm (.c a))) vs := by
  refine ⟨vs, [], by simp, ?_⟩
  rw [consts_atoms, SRepL.atoms, den_consts]
  exact h
theorem alloc_ok {t : TypeId} {z : List AV} (ho : o.op = .alloc t) (hz : zeroT P t = some z) :
    EffOk P E τ heap tmps o { res := .ptr heap.length zeroAtom, new := [some ⟨.fix (z.map fun a => .atm (.c a)), false⟩] } := by
  refine EffOk.alloc (c := .fix (z.map fun a => .atm (.c a))) rfl rfl (fun id hi => by simp [Cells.refs, refsL_consts] at hi) fun X Φ μ a w hA hR => ?_
  obtain ⟨i, zv, h1, h2, h3, h4, h5⟩ := zeroT_rep hz
  refine ⟨.pointer (some ⟨w.heap.size, 0, none⟩), zv.cells, t, (0, 0), w, ?_, hR, crep_consts (h3 Φ), fun _ _ => by simp, ?_⟩
  · simp [execOp, ho, Instr.alloc, run_zeroValue h1 h2, newVar, newRow]
  · simp only [SRep, den_zero]
    exact ⟨0, rfl, by simp⟩
theorem box_ok {t : TypeId} {x : Operand} {s : SV} {ag : Bool} {n : Nat} {cs : List SV} (ho : o.op = .box t x) (hx : opv tmps x = some s) (hrefs : ∀ id ∈ SV.refsL cs, id < heap.length)
    (hc : ∀ Φ μ v, SRep Φ μ τ s v → (ag = true → ∃ vs, v = .agg vs) ∧ (ag = false → v.oneCell' = true) ∧ SRepL Φ μ τ cs v.cells.toList ∧ ∀ u ∈ v.cells.toList, u.oneCell' = true) :
    EffOk P E τ heap tmps o { res := .ptr heap.length zeroAtom, new := [some ⟨.fix cs, false⟩] } := by
  have _ := n
  refine EffOk.alloc (c := .fix cs) rfl rfl (by simpa [Cells.refs] using hrefs) fun X Φ μ a w hA hR => ?_
  obtain ⟨_, _, h1, _⟩ := hc Φ μ _ (hA.rep hR (by simp [ho, Op.operands]) hx)
  refine ⟨.pointer (some ⟨w.heap.size, 0, none⟩), (a.eval x).cells, t, (0, 0), w, ?_, hR, ⟨_, [], by simp, h1⟩, fun _ _ => by simp, ?_⟩
  · simp [execOp, ho, Instr.box, newVar, newRow]
  · simp only [SRep, den_zero]
    exact ⟨0, rfl, by simp⟩
theorem splat_size {C : Array Value} {k : Nat} {us : List Value} (h : k + us.length ≤ C.size) : (splat C.toList k us).toArray.size = C.size := by
  simpa using splat_length (C := C.toList) (by simpa using h)
theorem store_ok {t : TypeId} {x y : Operand} {id : Nat} {off : Atom} {sb : SB} {s : SV} {ag : Bool} {sz : Nat} {cs : List SV} {c' : Cells}
    (ho : o.op = .store t x y) (hx : opv tmps x = some (.ptr id off)) (hy : opv tmps y = some s) (hsz : sizeT P t = some sz) (hsb : heap.getD id none = some sb) (hro : sb.ro = false)
    (hrefs : ∀ id ∈ c'.refs, id < heap.length) (hlen : cs.length = sz)
    (hc : ∀ Φ μ v, SRep Φ μ τ s v → (ag = true → ∃ vs, v = .agg vs) ∧ (ag = false → v.oneCell' = true) ∧ SRepL Φ μ τ cs v.cells.toList ∧ ∀ u ∈ v.cells.toList, u.oneCell' = true)
    (hst : ∃ k, off.den τ = num k ∧ ∀ Φ μ (vs us : List Value), CRep Φ μ τ sb.cells vs → SRepL Φ μ τ cs us → k + us.length ≤ vs.length ∧ CRep Φ μ τ c' (splat vs k us)) :
    EffOk P E τ heap tmps o { res := .undef, wr := [(id, some ⟨c', false⟩)] } := by
  intro X Φ μ a w Q K hA hR hK
  obtain ⟨k, hk, hst⟩ := hst
  have h1 := hA.rep hR (by simp [ho, Op.operands]) hx
  have h2 := hA.rep hR (by simp [ho, Op.operands]) hy
  simp only [SRep] at h1
  obtain ⟨k', hk', h1⟩ := h1
  rw [hk] at hk'
  have := num_inj hk'
  subst this
  obtain ⟨_, _, h3, h4⟩ := hc Φ μ _ h2
  obtain ⟨g1, _⟩ := hA.blk id (by simp)
  have hXb : X.blk id = some ⟨sb.cells, false⟩ := by rw [g1, hsb]; cases sb; simp_all
  obtain ⟨_, ⟨C, ty, fr, k2, k3, k4, k5, k6⟩, _⟩ := hR.blks id _ hXb
  obtain ⟨m1, m2⟩ := hst Φ μ C.toList _ k5 h3
  have hcl := h3.length
  have hrun : (storeVar t ⟨(μ id).1, k, none⟩ (a.eval y)).run P w = .ok () (w.setRow (μ id).1 (splat C.toList k (a.eval y).cells.toList).toArray) := by
    have e1 : (a.eval y).cells.size = sz := by rw [← hlen, ← hcl]; simp
    simp only [storeVar, Sem.run_bind, run_sizeOf hsz, Result.andThen_ok, e1, ne_eq, not_true_eq_false, if_false, Sem.run_pure]
    have := run_storeCells (P := P) (μ id).1 k ty fr (a.eval y).cells.toList 0 C w k2 k4 (by simpa using m1) h4
    simpa using this
  rw [upd_wr rfl rfl] at hK
  refine wp_of_skip (w' := w.setRow (μ id).1 (splat C.toList k (a.eval y).cells.toList).toArray) ?_ (hK Φ μ _ undef (hR.modify hXb ?_ ?_ ?_) trivial)
  · simp [execOp, ho, h1, Instr.storeAt, Instr.sureAddr, hrun]
  · rw [splat_size (by simpa using m1), k3]
  · simpa using m2
  · intro i hi
    exact hA.ref i (by simp [effRefs, refsB, hi]) (hrefs i hi)
theorem evalO_ofs {sz : Nat} {a b v : AV} (h : evalO (.ofs sz) [a, b] = some v) : ∃ k j i, a = num k ∧ b = .int j i ∧ 0 ≤ i ∧ v = num (k + i.toNat * sz) := by
  cases b with
  | int j i =>
    simp only [evalO] at h
    split at h
    · rename_i k hk
      split at h
      · rename_i h0; cases h; exact ⟨k, j, i, nat?_num hk, rfl, h0, rfl⟩
      · cases h
    · cases h
  | _ => simp [evalO] at h
theorem evalO_chki {a b v : AV} (h : evalO .chki [a, b] = some v) : ∃ k i n, a = .int k i ∧ b = num n ∧ 0 ≤ i ∧ i < n := by
  cases a with
  | int k i =>
    simp only [evalO] at h
    split at h
    · rename_i n hn
      split at h
      · rename_i h0; exact ⟨k, i, n, rfl, nat?_num hn, h0.1, h0.2⟩
      · cases h
    · cases h
  | _ => simp [evalO] at h
theorem fieldOf_some {t : TypeId} {f : Nat} {fd : Field} (h : fieldOf P t f = some fd) : ∃ fs, P.underlying t = some (.struct fs) ∧ fs[f]? = some fd := by
  unfold fieldOf at h
  split at h
  · rename_i fs hfs; exact ⟨fs, hfs, h⟩
  · cases h
theorem run_fieldPlace {b k : Nat} {fd : Field} {sz : Nat} (hs : sizeT P fd.type = some sz) (hz : 0 < sz) (w : World) :
    (fieldPlace ⟨b, k, none⟩ fd).run P w = .ok ⟨b, k + fd.offset, none⟩ w := by
  have : sz ≠ 0 := by omega
  simp [fieldPlace, run_sizeOf hs, this, add_addr]
theorem fieldAddr_ptr_ok {t : TypeId} {x : Operand} {f : Nat} {fd : Field} {sz id : Nat} {off r : Atom} (ho : o.op = .fieldAddr t x f) (hx : opv tmps x = some (.ptr id off))
    (hf : fieldOf P t f = some fd) (hs : sizeT P fd.type = some sz) (hz : 0 < sz) (h : evalO (.ofs 1) [off.den τ, num fd.offset] = some (r.den τ)) :
    EffOk P E τ heap tmps o { res := .ptr id r } := by
  refine EffOk.pure rfl rfl fun X Φ μ ac w hA hR => ?_
  have h1 := hA.rep hR (by simp [ho, Op.operands]) hx
  obtain ⟨fs, g1, g2⟩ := fieldOf_some hf
  simp only [SRep] at h1
  obtain ⟨k, hk, h1⟩ := h1
  obtain ⟨k', j, i, e1, e2, e3, e4⟩ := evalO_ofs h
  rw [hk] at e1
  have := num_inj e1
  subst this
  have e5 : i = fd.offset := by unfold num at e2; injection e2 with _ e2; exact e2.symm
  refine ⟨.pointer (some ⟨(μ id).1, k + fd.offset, none⟩), ?_, ?_⟩
  · simp [execOp, ho, h1, Instr.fieldAt, run_underlying_some g1, g2, Instr.sureAddr, run_fieldPlace hs hz]
  · simp only [SRep]
    exact ⟨k + fd.offset, by rw [e4, e5]; simp, rfl⟩
theorem evalO_roff {k : Nat} {a v : AV} (h : evalO (.roff k) [a] = some v) : ∃ cs, a = .rp cs ∧ v = .rp (cs.drop k) := by
  cases a with
  | rp cs =>
    simp only [evalO] at h
    split at h
    · cases h; exact ⟨cs, rfl, rfl⟩
    · cases h
  | _ => simp [evalO] at h
theorem fieldAddr_rp_ok {t : TypeId} {x : Operand} {f : Nat} {fd : Field} {sz : Nat} {a r : Atom} (ho : o.op = .fieldAddr t x f) (hx : opv tmps x = some (.atm a))
    (hf : fieldOf P t f = some fd) (hs : sizeT P fd.type = some sz) (hz : 0 < sz) (h : evalO (.roff fd.offset) [a.den τ] = some (r.den τ)) :
    EffOk P E τ heap tmps o { res := .atm r } := by
  refine EffOk.pure rfl rfl fun X Φ μ ac w hA hR => ?_
  have h1 := hA.rep hR (by simp [ho, Op.operands]) hx
  obtain ⟨fs, g1, g2⟩ := fieldOf_some hf
  obtain ⟨cs, e1, e2⟩ := evalO_roff h
  simp only [SRep, e1, Rep] at h1
  obtain ⟨⟨b, k, sp⟩, h2, h3, C, h4, h5⟩ := h1
  simp only at h3 h4 h5
  subst h3
  refine ⟨.pointer (some ⟨b, k + fd.offset, none⟩), ?_, ?_⟩
  · simp [execOp, ho, h2, Instr.fieldAt, run_underlying_some g1, g2, Instr.sureAddr, run_fieldPlace hs hz]
  · simp only [SRep, e2, Rep]
    refine ⟨_, rfl, rfl, C, h4, ?_⟩
    have := RepL.drop fd.offset h5
    rwa [List.drop_drop] at this
end Go.SE
set_option autoImplicit false
namespace Go.SE
open Go
variable {P : Program} {σ0 τ : List AV} {E : Ent} {heap : Heap} {tmps : List SV} {o : Oper}
theorem run_indexAt_array {t e : TypeId} {n sz b k : Nat} {ki : IntKind} {i : Int} (ht : P.underlying t = some (.array n e)) (hs : sizeT P e = some sz) (h0 : 0 ≤ i) (h1 : i < n) (w : World) :
    (Instr.indexAt t (.pointer (some ⟨b, k, none⟩)) (.int ki i)).run P w = .ok (.pointer (some ⟨b, k + i.toNat * sz, none⟩)) w := by
  simp [Instr.indexAt, asIntOf, run_underlying_some ht, Instr.sureAddr, h0, h1, run_sizeOf hs, add_addr]
theorem run_indexAt_slice {t e : TypeId} {l c sz b k : Nat} {ki : IntKind} {i : Int} (ht : P.underlying t = some (.slice e)) (hs : sizeT P e = some sz) (h0 : 0 ≤ i) (h1 : i < l) (w : World) :
    (Instr.indexAt t (.slice (some ⟨b, k, none⟩) l c) (.int ki i)).run P w = .ok (.pointer (some ⟨b, k + i.toNat * sz, none⟩)) w := by
  simp [Instr.indexAt, asIntOf, run_underlying_some ht, h0, h1, run_sizeOf hs, add_addr]
theorem indexAddr_ptr_ok {t e : TypeId} {n sz id : Nat} {x y : Operand} {off i u r : Atom} {s' : SV} (ho : o.op = .indexAddr t x y) (hx : opv tmps x = some (.ptr id off)) (hy : opv tmps y = some s')
    (ht : P.underlying t = some (.array n e)) (hs : sizeT P e = some sz) (hi : ∀ Φ μ v, SRep Φ μ τ s' v → Rep Φ (i.den τ) v)
    (h1 : evalO .chki [i.den τ, num n] = some (u.den τ)) (h2 : evalO (.ofs sz) [off.den τ, i.den τ] = some (r.den τ)) : EffOk P E τ heap tmps o { res := .ptr id r } := by
  refine EffOk.pure rfl rfl fun X Φ μ ac w hA hR => ?_
  have g1 := hA.rep hR (by simp [ho, Op.operands]) hx
  have g2 := hi Φ μ _ (hA.rep hR (by simp [ho, Op.operands]) hy)
  obtain ⟨k1, j, m, e1, e2, e3, e4⟩ := evalO_chki h1
  have := num_inj e2
  subst this
  obtain ⟨k, k2, j', f1, f2, f3, f4⟩ := evalO_ofs h2
  rw [e1] at f2 g2
  injection f2 with _ f2
  subst f2
  simp only [SRep] at g1
  obtain ⟨k', hk', g1⟩ := g1
  rw [f1] at hk'
  have := num_inj hk'
  subst this
  refine ⟨.pointer (some ⟨(μ id).1, k + j.toNat * sz, none⟩), ?_, ?_⟩
  · simp [execOp, ho, g1, g2.int_inv, run_indexAt_array ht hs e3 e4]
  · simp only [SRep]; exact ⟨_, f4, rfl⟩
theorem indexAddr_osl_ok {t e : TypeId} {sz id : Nat} {x y : Operand} {off len cap i u r : Atom} {s' : SV} (ho : o.op = .indexAddr t x y) (hx : opv tmps x = some (.osl id sz off len cap)) (hy : opv tmps y = some s')
    (ht : P.underlying t = some (.slice e)) (hs : sizeT P e = some sz) (hi : ∀ Φ μ v, SRep Φ μ τ s' v → Rep Φ (i.den τ) v)
    (h1 : evalO .chki [i.den τ, len.den τ] = some (u.den τ)) (h2 : evalO (.ofs sz) [off.den τ, i.den τ] = some (r.den τ)) : EffOk P E τ heap tmps o { res := .ptr id r } := by
  refine EffOk.pure rfl rfl fun X Φ μ ac w hA hR => ?_
  have g1 := hA.rep hR (by simp [ho, Op.operands]) hx
  have g2 := hi Φ μ _ (hA.rep hR (by simp [ho, Op.operands]) hy)
  obtain ⟨k1, j, m, e1, e2, e3, e4⟩ := evalO_chki h1
  obtain ⟨k, k2, j', f1, f2, f3, f4⟩ := evalO_ofs h2
  rw [e1] at f2 g2
  injection f2 with _ f2
  subst f2
  simp only [SRep] at g1
  obtain ⟨o1, l, kc, c, o', r1, r2, r3, g1, r4, r5, r6, r7⟩ := g1
  rw [f1] at r1
  have := num_inj r1
  subst this
  rw [e2] at r2
  have := num_inj r2
  subst this
  have ho' : o' = k := by
    rcases r6 with h | h
    · exact h
    · omega
  subst ho'
  refine ⟨.pointer (some ⟨(μ id).1, o' + j.toNat * sz, none⟩), ?_, ?_⟩
  · simp [execOp, ho, g1, g2.int_inv, run_indexAt_slice ht hs e3 e4]
  · simp only [SRep]; exact ⟨_, f4, rfl⟩
theorem asSlice_rep {Φ : Fix} {x : AV} {n : Nat} {cs : List AV} {v : Value} (h : asSlice x = some (n, cs)) (hr : Rep Φ x v) : Rep Φ (.sl n cs) v := by
  cases x <;> simp [asSlice] at h
  · obtain ⟨rfl, rfl⟩ := h; exact hr
  · obtain ⟨rfl, rfl⟩ := h; exact Sub.nils_sl _ _ hr
  · obtain ⟨rfl, rfl⟩ := h; exact Sub.c0_sl _ _ hr
  · obtain ⟨rfl, rfl⟩ := h; exact Sub.emp_sl _ _ hr
theorem evalO_eaddr {sz : Nat} {a b v : AV} (h : evalO (.eaddr sz) [a, b] = some v) :
    ∃ n cs k i, asSlice a = some (n, cs) ∧ b = .int k i ∧ 0 ≤ i ∧ i < n ∧ (i.toNat + 1) * sz ≤ cs.length ∧ v = .rp (cs.drop (i.toNat * sz)) := by
  cases b with
  | int k i =>
    simp only [evalO] at h
    split at h
    · rename_i n cs ha
      split at h
      · rename_i hc; cases h; exact ⟨n, cs, k, i, ha, rfl, hc.1, hc.2.1, hc.2.2, rfl⟩
      · cases h
    · cases h
  | _ => simp [evalO] at h
theorem evalO_ridx {n sz : Nat} {a b v : AV} (h : evalO (.ridx n sz) [a, b] = some v) :
    ∃ cs k i, a = .rp cs ∧ b = .int k i ∧ 0 ≤ i ∧ i < n ∧ v = .rp (cs.drop (i.toNat * sz)) := by
  cases a with
  | rp cs =>
    cases b with
    | int k i =>
      simp only [evalO] at h
      split at h
      · rename_i hc; cases h; exact ⟨cs, k, i, rfl, rfl, hc.1, hc.2, rfl⟩
      · cases h
    | _ => simp [evalO] at h
  | _ => cases b <;> simp [evalO] at h
theorem Rep.sl_addr {Φ : Fix} {n : Nat} {cs : List AV} {v : Value} (h : Rep Φ (.sl n cs) v) (hc : cs ≠ []) :
    ∃ b k c C, v = .slice (some ⟨b, k, none⟩) n c ∧ n ≤ c ∧ Φ b = some C ∧ RepL Φ cs (C.toList.drop k) := by
  simp only [Rep] at h
  obtain ⟨a, c, h1, h2, h3, h4⟩ := h
  cases a with
  | none => exact absurd (h3 rfl).2 hc
  | some ad =>
    obtain ⟨b, k, sp⟩ := ad
    obtain ⟨g1, g2⟩ := h4 _ rfl
    simp only at g1 g2
    subst g1
    rcases g2 with g2 | ⟨C, g3, g4⟩
    · exact absurd g2 hc
    · exact ⟨b, k, c, C, h1, h2, g3, g4⟩
theorem indexAddr_sl_ok {t e : TypeId} {sz : Nat} {x y : Operand} {a i r : Atom} {s' : SV} (ho : o.op = .indexAddr t x y) (hx : opv tmps x = some (.atm a)) (hy : opv tmps y = some s')
    (ht : P.underlying t = some (.slice e)) (hs : sizeT P e = some sz) (hz : 0 < sz) (hi : ∀ Φ μ v, SRep Φ μ τ s' v → Rep Φ (i.den τ) v)
    (h : evalO (.eaddr sz) [a.den τ, i.den τ] = some (r.den τ)) : EffOk P E τ heap tmps o { res := .atm r } := by
  refine EffOk.pure rfl rfl fun X Φ μ ac w hA hR => ?_
  have g1 := hA.rep hR (by simp [ho, Op.operands]) hx
  have g2 := hi Φ μ _ (hA.rep hR (by simp [ho, Op.operands]) hy)
  obtain ⟨n, cs, k, j, e1, e2, e3, e4, e5, e6⟩ := evalO_eaddr h
  rw [e2] at g2
  simp only [SRep] at g1
  have hne : cs ≠ [] := by
    intro hc
    have : 0 < (j.toNat + 1) * sz := Nat.mul_pos (by omega) hz
    rw [hc] at e5
    simp only [List.length_nil] at e5
    omega
  obtain ⟨b, k', c, C, f1, f2, f3, f4⟩ := (asSlice_rep e1 g1).sl_addr hne
  refine ⟨.pointer (some ⟨b, k' + j.toNat * sz, none⟩), ?_, ?_⟩
  · simp [execOp, ho, f1, g2.int_inv, run_indexAt_slice ht hs e3 e4]
  · simp only [SRep, e6, Rep]
    refine ⟨_, rfl, rfl, C, f3, ?_⟩
    have := RepL.drop (j.toNat * sz) f4
    rwa [List.drop_drop] at this
theorem indexAddr_rp_ok {t e : TypeId} {n sz : Nat} {x y : Operand} {a i r : Atom} {s' : SV} (ho : o.op = .indexAddr t x y) (hx : opv tmps x = some (.atm a)) (hy : opv tmps y = some s')
    (ht : P.underlying t = some (.array n e)) (hs : sizeT P e = some sz) (hi : ∀ Φ μ v, SRep Φ μ τ s' v → Rep Φ (i.den τ) v)
    (h : evalO (.ridx n sz) [a.den τ, i.den τ] = some (r.den τ)) : EffOk P E τ heap tmps o { res := .atm r } := by
  refine EffOk.pure rfl rfl fun X Φ μ ac w hA hR => ?_
  have g1 := hA.rep hR (by simp [ho, Op.operands]) hx
  have g2 := hi Φ μ _ (hA.rep hR (by simp [ho, Op.operands]) hy)
  obtain ⟨cs, k, j, e1, e2, e3, e4, e5⟩ := evalO_ridx h
  rw [e2] at g2
  simp only [SRep, e1, Rep] at g1
  obtain ⟨⟨b, k', sp⟩, f1, f2, C, f3, f4⟩ := g1
  simp only at f2 f3 f4
  subst f2
  refine ⟨.pointer (some ⟨b, k' + j.toNat * sz, none⟩), ?_, ?_⟩
  · simp [execOp, ho, f1, g2.int_inv, run_indexAt_array ht hs e3 e4]
  · simp only [SRep, e5, Rep]
    refine ⟨_, rfl, rfl, C, f3, ?_⟩
    have := RepL.drop (j.toNat * sz) f4
    rwa [List.drop_drop] at this
theorem run_part_agg {t : TypeId} {sz off : Nat} {cs : Array Value} (ha : aggT P t = some true) (hs : sizeT P t = some sz) (w : World) :
    (part t cs off).run P w = .ok (.agg (cs.extract off (off + sz))) w := by
  simp [part, run_isAgg ha, run_sizeOf hs]
theorem run_part_cell {t : TypeId} {off : Nat} {cs : Array Value} {v : Value} (ha : aggT P t = some false) (hv : cs[off]? = some v) (w : World) :
    (part t cs off).run P w = .ok v w := by
  simp [part, run_isAgg ha, hv]
theorem extract_list (cs : Array Value) (off sz : Nat) : cs.extract off (off + sz) = ((cs.toList.drop off).take sz).toArray := by
  apply Array.ext'
  simp [List.extract_eq_take_drop]
theorem part_sv {l : List SV} {off sz : Nat} {ag : Bool} {r : SV} {t : TypeId} (ha : aggT P t = some ag) (hs : sizeT P t = some sz)
    (h : if ag then off + sz ≤ l.length ∧ r = .agg ((l.drop off).take sz) else l[off]? = some r) {Φ : Fix} {μ : Map} {vs : Array Value} (hv : SRepL Φ μ τ l vs.toList) (w : World) :
    ∃ v, (part t vs off).run P w = .ok v w ∧ SRep Φ μ τ r v := by
  cases ag with
  | true =>
    simp only [if_true] at h
    refine ⟨_, run_part_agg ha hs w, ?_⟩
    rw [h.2]
    simp only [SRep]
    refine ⟨_, rfl, ?_⟩
    rw [extract_list]
    simpa using SRepL.take sz (SRepL.drop off hv)
  | false =>
    simp only [Bool.false_eq_true, if_false] at h
    obtain ⟨u, hu, hr⟩ := SRepL.get hv h
    exact ⟨u, run_part_cell ha (by simpa using hu) w, hr⟩
theorem part_av {cs : List AV} {off sz : Nat} {ag : Bool} {r : AV} {t : TypeId} (ha : aggT P t = some ag) (hs : sizeT P t = some sz)
    (h : if ag then off + sz ≤ cs.length ∧ r = .agg ((cs.drop off).take sz) else cs[off]? = some r) {Φ : Fix} {vs : Array Value} (hl : vs.size = cs.length) (hv : RepL Φ cs vs.toList) (w : World) :
    ∃ v, (part t vs off).run P w = .ok v w ∧ Rep Φ r v := by
  cases ag with
  | true =>
    simp only [if_true] at h
    refine ⟨_, run_part_agg ha hs w, ?_⟩
    rw [h.2]
    simp only [Rep]
    refine ⟨_, rfl, ?_, ?_⟩
    · rw [extract_list]; simp; omega
    · rw [extract_list]
      simpa using RepL.less sz (by simp; omega) (RepL.take sz (RepL.drop off hv))
  | false =>
    simp only [Bool.false_eq_true, if_false] at h
    obtain ⟨u, hu, hr⟩ := RepL.get hv h
    exact ⟨u, run_part_cell ha (by simpa using hu) w, hr⟩
theorem field_sv_ok {t : TypeId} {x : Operand} {f : Nat} {fd : Field} {l : List SV} {sz : Nat} {ag : Bool} {r : SV} (ho : o.op = .field t x f) (hx : opv tmps x = some (.agg l))
    (hf : fieldOf P t f = some fd) (ha : aggT P fd.type = some ag) (hs : sizeT P fd.type = some sz)
    (h : if ag then fd.offset + sz ≤ l.length ∧ r = .agg ((l.drop fd.offset).take sz) else l[fd.offset]? = some r) : EffOk P E τ heap tmps o { res := r } := by
  refine EffOk.pure rfl rfl fun X Φ μ ac w hA hR => ?_
  have h1 := hA.rep hR (by simp [ho, Op.operands]) hx
  obtain ⟨fs, g1, g2⟩ := fieldOf_some hf
  simp only [SRep] at h1
  obtain ⟨vs, h1, h2⟩ := h1
  obtain ⟨v, k1, k2⟩ := part_sv ha hs h h2 w
  refine ⟨v, ?_, k2⟩
  simp [execOp, ho, h1, Instr.field, run_underlying_some g1, g2, asAgg, k1]
theorem field_av_ok {t : TypeId} {x : Operand} {f : Nat} {fd : Field} {a r : Atom} {cs : List AV} {sz : Nat} {ag : Bool} (ho : o.op = .field t x f) (hx : opv tmps x = some (.atm a))
    (hf : fieldOf P t f = some fd) (ha : aggT P fd.type = some ag) (hs : sizeT P fd.type = some sz) (hd : a.den τ = .agg cs)
    (h : if ag then fd.offset + sz ≤ cs.length ∧ r.den τ = .agg ((cs.drop fd.offset).take sz) else cs[fd.offset]? = some (r.den τ)) : EffOk P E τ heap tmps o { res := .atm r } := by
  refine EffOk.pure rfl rfl fun X Φ μ ac w hA hR => ?_
  have h1 := hA.rep hR (by simp [ho, Op.operands]) hx
  obtain ⟨fs, g1, g2⟩ := fieldOf_some hf
  simp only [SRep, hd, Rep] at h1
  obtain ⟨vs, h1, h2, h3⟩ := h1
  obtain ⟨v, k1, k2⟩ := part_av ha hs h h2 h3 w
  refine ⟨v, ?_, by simpa [SRep] using k2⟩
  simp [execOp, ho, h1, Instr.field, run_underlying_some g1, g2, asAgg, k1]
theorem index_sv_ok {t e : TypeId} {x y : Operand} {n k sz : Nat} {i : Atom} {s' : SV} {l : List SV} {ag : Bool} {r : SV} (ho : o.op = .index t x y) (hx : opv tmps x = some (.agg l)) (hy : opv tmps y = some s')
    (ht : P.underlying t = some (.array n e)) (ha : aggT P e = some ag) (hs : sizeT P e = some sz) (hi : ∀ Φ μ v, SRep Φ μ τ s' v → Rep Φ (i.den τ) v) (hk : natLit i = some k) (hkn : k < n)
    (h : if ag then k * sz + sz ≤ l.length ∧ r = .agg ((l.drop (k * sz)).take sz) else l[k * sz]? = some r) : EffOk P E τ heap tmps o { res := r } := by
  refine EffOk.pure rfl rfl fun X Φ μ ac w hA hR => ?_
  have h1 := hA.rep hR (by simp [ho, Op.operands]) hx
  have h2 := hi Φ μ _ (hA.rep hR (by simp [ho, Op.operands]) hy)
  rw [natLit_den hk] at h2
  simp only [SRep] at h1
  obtain ⟨vs, h1, h3⟩ := h1
  obtain ⟨v, k1, k2⟩ := part_sv ha hs h h3 w
  refine ⟨v, ?_, k2⟩
  simp [execOp, ho, h1, h2.int_inv, Instr.index, asIntOf, run_underlying_some ht, run_sizeOf hs, k1]
  intro h'
  omega
theorem evalO_aidx {n sz : Nat} {ag : Bool} {a b v : AV} (h : evalO (.aidx n sz ag) [a, b] = some v) :
    ∃ cs k i, a = .agg cs ∧ b = .int k i ∧ 0 ≤ i ∧ i < n ∧ rdCells ag sz (cs.drop (i.toNat * sz)) = some v := by
  cases a with
  | agg cs =>
    simp only [evalO] at h
    split at h
    · rename_i k i
      split at h
      · rename_i hc; exact ⟨cs, k, i, rfl, rfl, hc.1, hc.2, h⟩
      · cases h
    · cases h
  | _ => simp [evalO] at h
theorem rdCells_part {ag : Bool} {sz off : Nat} {cs : List AV} {r : AV} (h : rdCells ag sz (cs.drop off) = some r) (hz : 0 < sz) :
    if ag then off + sz ≤ cs.length ∧ r = .agg ((cs.drop off).take sz) else cs[off]? = some r := by
  unfold rdCells at h
  split at h
  · rename_i hag
    split at h
    · rename_i hl; cases h; rw [if_pos hag]; simp at hl; exact ⟨by omega, rfl⟩
    · cases h
  · rename_i hag
    rw [if_neg hag]
    split at h
    · rename_i c cs' hc
      split at h
      · cases h
        have := congrArg (fun l => l[0]?) hc
        simpa using this
      · cases h
    · cases h
theorem index_av_ok {t e : TypeId} {x y : Operand} {n sz : Nat} {a i r : Atom} {s s' : SV} {ag : Bool} (ho : o.op = .index t x y) (hx : opv tmps x = some s) (hy : opv tmps y = some s')
    (ht : P.underlying t = some (.array n e)) (ha : aggT P e = some ag) (hs : sizeT P e = some sz) (hz : 0 < sz)
    (hsx : ∀ Φ μ v, SRep Φ μ τ s v → Rep Φ (a.den τ) v) (hi : ∀ Φ μ v, SRep Φ μ τ s' v → Rep Φ (i.den τ) v)
    (h : evalO (.aidx n sz ag) [a.den τ, i.den τ] = some (r.den τ)) : EffOk P E τ heap tmps o { res := .atm r } := by
  refine EffOk.pure rfl rfl fun X Φ μ ac w hA hR => ?_
  have h1 := hsx Φ μ _ (hA.rep hR (by simp [ho, Op.operands]) hx)
  have h2 := hi Φ μ _ (hA.rep hR (by simp [ho, Op.operands]) hy)
  obtain ⟨cs, k, j, e1, e2, e3, e4, e5⟩ := evalO_aidx h
  rw [e1] at h1
  rw [e2] at h2
  simp only [Rep] at h1
  obtain ⟨vs, h1, h3, h4⟩ := h1
  obtain ⟨v, k1, k2⟩ := part_av ha hs (rdCells_part e5 hz) h3 h4 w
  refine ⟨v, ?_, by simpa [SRep] using k2⟩
  simp [execOp, ho, h1, h2.int_inv, Instr.index, asIntOf, run_underlying_some ht, e3, e4, run_sizeOf hs, k1]
theorem evalO_sidx {a b v : AV} (h : evalO .sidx [a, b] = some v) : ∃ s k i x, a = .str s ∧ b = .int k i ∧ 0 ≤ i ∧ s[i.toNat]? = some x ∧ v = .int .u8 x.toNat := by
  cases a with
  | str s =>
    cases b with
    | int k i =>
      simp only [evalO] at h
      split at h
      · rename_i h0
        simp only [Option.map_eq_some_iff] at h
        obtain ⟨x, h1, h2⟩ := h
        exact ⟨s, k, i, x, rfl, rfl, h0, h1, h2.symm⟩
      · cases h
    | _ => simp [evalO] at h
  | _ => cases b <;> simp [evalO] at h
theorem index_str_ok {t : TypeId} {x y : Operand} {a i r : Atom} {s s' : SV} (ho : o.op = .index t x y) (hx : opv tmps x = some s) (hy : opv tmps y = some s')
    (ht : P.underlying t = some .string) (hsx : ∀ Φ μ v, SRep Φ μ τ s v → Rep Φ (a.den τ) v) (hi : ∀ Φ μ v, SRep Φ μ τ s' v → Rep Φ (i.den τ) v)
    (h : evalO .sidx [a.den τ, i.den τ] = some (r.den τ)) : EffOk P E τ heap tmps o { res := .atm r } := by
  refine EffOk.pure rfl rfl fun X Φ μ ac w hA hR => ?_
  have h1 := hsx Φ μ _ (hA.rep hR (by simp [ho, Op.operands]) hx)
  have h2 := hi Φ μ _ (hA.rep hR (by simp [ho, Op.operands]) hy)
  obtain ⟨st, k, j, b, e1, e2, e3, e4, e5⟩ := evalO_sidx h
  rw [e1] at h1
  rw [e2] at h2
  refine ⟨.int .u8 b.toNat, ?_, by simp [SRep, e5, Rep]⟩
  simp [execOp, ho, h1.str_inv, h2.int_inv, Instr.index, asIntOf, run_underlying_some ht, e3, e4]
theorem mkifc_ok {t : TypeId} {d : TypeDesc} {x : Operand} {a r : Atom} (ho : o.op = .makeInterface t x) (hx : opv tmps x = some (.atm a)) (ht : P.underlying t = some d) (hd : ∀ ms, d ≠ .interface ms)
    (h : evalO (.mkifc t) [a.den τ] = some (r.den τ)) : EffOk P E τ heap tmps o { res := .atm r } := by
  refine EffOk.pure rfl rfl fun X Φ μ ac w hA hR => ?_
  have h1 := hA.rep hR (by simp [ho, Op.operands]) hx
  simp only [evalO, Option.some.injEq] at h
  simp only [SRep] at h1
  refine ⟨.iface t (ac.eval x), ?_, by simp only [SRep, ← h, Rep]; exact ⟨_, rfl, h1⟩⟩
  cases d <;> first | exact absurd rfl (hd _) | simp [execOp, ho, Instr.makeInterface, run_underlying_some ht]
theorem mkifc_sv_ok {t : TypeId} {d : TypeDesc} {x : Operand} {s : SV} (ho : o.op = .makeInterface t x) (hx : opv tmps x = some s) (ht : P.underlying t = some d) (hd : ∀ ms, d ≠ .interface ms) :
    EffOk P E τ heap tmps o { res := .ifc t s } := by
  refine EffOk.pure rfl rfl fun X Φ μ ac w hA hR => ?_
  have h1 := hA.rep hR (by simp [ho, Op.operands]) hx
  refine ⟨.iface t (ac.eval x), ?_, by simp only [SRep]; exact ⟨_, rfl, h1⟩⟩
  cases d <;> first | exact absurd rfl (hd _) | simp [execOp, ho, Instr.makeInterface, run_underlying_some ht]
theorem opvs_rep {X : LS} {Φ : Fix} {μ : Map} {a : Act} {w : World} {e : Eff} (hA : Agree X heap tmps o e) (hR : SRel E τ X Φ μ a w) :
    ∀ {xs : List Operand} {ss : List SV}, (∀ x ∈ xs, x ∈ o.op.operands) → xs.mapM (opv tmps) = some ss → SRepL Φ μ τ ss (xs.map a.eval)
  | [], ss, _, h => by simp at h; subst h; simp [SRepL]
  | x :: xs, ss, hm, h => by
    rw [List.mapM_cons] at h
    cases h1 : opv tmps x with
    | none => rw [h1] at h; cases h
    | some s =>
      cases h2 : xs.mapM (opv tmps) with
      | none => rw [h1, h2] at h; cases h
      | some ss' =>
        rw [h1, h2] at h
        cases h
        simp only [List.map_cons, SRepL]
        exact ⟨hA.rep hR (hm x (by simp)) h1, opvs_rep hA hR (fun y hy => hm y (by simp [hy])) h2⟩
theorem mkfunc_ok {fn : Go.Fn} {first cap : Array Operand} {ss : List SV} (ho : o.op = .makeFunc fn first cap) (hf : first.isEmpty = true) (h : cap.toList.mapM (opv tmps) = some ss) :
    EffOk P E τ heap tmps o { res := .fn fn ss } := by
  refine EffOk.pure rfl rfl fun X Φ μ ac w hA hR => ?_
  have h1 := opvs_rep hA hR (fun x hx => by simp [ho, Op.operands]; right; simpa using hx) h
  have : first = #[] := by simpa using hf
  subst this
  refine ⟨.func fn #[] (cap.map ac.eval), ?_, ?_⟩
  · simp [execOp, ho, Instr.makeFunc]
  · simp only [SRep]
    exact ⟨_, rfl, by simpa using h1⟩
theorem nilCheck_fn_ok {x : Operand} {f : FuncId} {l : List SV} (ho : o.op = .nilCheck x) (hx : opv tmps x = some (.fn (.func f) l)) : EffOk P E τ heap tmps o { res := .fn (.func f) l } := by
  refine EffOk.pure rfl rfl fun X Φ μ ac w hA hR => ?_
  have h1 := hA.rep hR (by simp [ho, Op.operands]) hx
  have h1' := h1
  simp only [SRep] at h1
  obtain ⟨vs, h2, _⟩ := h1
  exact ⟨ac.eval x, by simp [execOp, ho, h2], h1'⟩
end Go.SE
set_option autoImplicit false
namespace Go.SE
open Go
variable {P : Program} {σ0 τ : List AV} {E : Ent} {heap : Heap} {tmps : List SV} {o : Oper}
theorem run_bounds {isSlice : Bool} {len cap l h m : Nat} {lo hi mx : Option Value}
    (hlo : (lo = none ∧ l = 0) ∨ ∃ k, lo = some (.int k l)) (hhi : (hi = none ∧ mx = none ∧ h = len) ∨ ∃ k, hi = some (.int k h))
    (hmx : (mx = none ∧ m = cap) ∨ ∃ k, mx = some (.int k m)) (h1 : l ≤ h) (h2 : h ≤ m) (h3 : m ≤ cap) (w : World) :
    (Instr.sliceBounds isSlice len cap lo hi mx).run P w = .ok (l, h, m) w := by
  have sb : ∀ (k : IntKind) (i y : Nat) (code : BoundsCode), i ≤ y → (Instr.sliceBound (.int k (i : Int)) y code).run P w = .ok i w := fun k i y code hy => by
    have := run_sliceBound (P := P) (w := w) k (i : Int) y code (by omega) (by omega)
    simpa using this
  rcases hlo with ⟨rfl, rfl⟩ | ⟨kl, rfl⟩ <;> rcases hmx with ⟨rfl, rfl⟩ | ⟨km, rfl⟩ <;> rcases hhi with ⟨rfl, hm, rfl⟩ | ⟨kh, rfl⟩ <;>
    first
      | (cases hm; done)
      | simp [Instr.sliceBounds, sb _ _ _ _ h1, sb _ _ _ _ h2, sb _ _ _ _ h3]
      | simp [Instr.sliceBounds, sb _ _ _ _ h1]
      | simp [Instr.sliceBounds]
theorem optAtom_back {x : Option Operand} {as : List Atom} {e e' : Em} (h : optAtom tmps x e = some (as, e')) (H : Hold P σ0 τ e') :
    Hold P σ0 τ e ∧ as.length = x.toList.length ∧ ∀ X Φ μ a w (ef : Eff), Agree X heap tmps o ef → SRel E τ X Φ μ a w → (∀ y, x = some y → y ∈ o.op.operands) →
      (x = none ∧ as = []) ∨ ∃ y b, x = some y ∧ as = [b] ∧ Rep Φ (b.den τ) (a.eval y) := by
  cases x with
  | none =>
    simp only [optAtom, EM.pure_eq] at h
    cases h
    exact ⟨H, rfl, fun _ _ _ _ _ _ _ _ _ => .inl ⟨rfl, rfl⟩⟩
  | some y =>
    simp only [optAtom, EM.bind_eq, EM.pure_eq, lift_eq] at h
    obtain ⟨s, e1, ⟨s', hs, h1⟩, b, e2, h2, h3⟩ := h
    cases h1; cases h3
    obtain ⟨H0, q⟩ := atomOf_back h2 H
    refine ⟨H0, rfl, fun X Φ μ a w ef hA hR hm => .inr ⟨y, b, rfl, rfl, q Φ μ _ (hA.rep hR (hm y rfl) hs)⟩⟩
theorem evalO_chkle {a b v : AV} (h : evalO .chkle [a, b] = some v) : ∃ k i k' j, a = .int k i ∧ b = .int k' j ∧ 0 ≤ i ∧ i ≤ j := by
  cases a with
  | int k i =>
    cases b with
    | int k' j =>
      simp only [evalO] at h
      split at h
      · rename_i hc; exact ⟨k, i, k', j, rfl, rfl, hc.1, hc.2⟩
      · cases h
    | _ => simp [evalO] at h
  | _ => cases b <;> simp [evalO] at h
theorem evalO_nsub {a b v : AV} (h : evalO .nsub [a, b] = some v) : ∃ k i k' j, a = .int k i ∧ b = .int k' j ∧ 0 ≤ j ∧ j ≤ i ∧ v = num (i.toNat - j.toNat) := by
  cases a with
  | int k i =>
    cases b with
    | int k' j =>
      simp only [evalO] at h
      split at h
      · rename_i hc; cases h; exact ⟨k, i, k', j, rfl, rfl, hc.1, hc.2, rfl⟩
      · cases h
    | _ => simp [evalO] at h
  | _ => cases b <;> simp [evalO] at h
theorem bounds_back {lo hi mx : List Atom} {len cap l h m : Atom} {e e' : Em} (hb : bounds lo hi mx len cap e = some ((l, h, m), e')) (H : Hold P σ0 τ e') :
    Hold P σ0 τ e ∧ l = lo.headD zeroAtom ∧ h = hi.headD len ∧ m = mx.headD cap ∧
      ∃ (kl kh km kc : IntKind) (i j k c : Nat), l.den τ = .int kl i ∧ h.den τ = .int kh j ∧ m.den τ = .int km k ∧ cap.den τ = .int kc c ∧ i ≤ j ∧ j ≤ k ∧ k ≤ c := by
  simp only [bounds, EM.bind_eq, EM.pure_eq] at hb
  obtain ⟨u1, e1, h1, u2, e2, h2, u3, e3, h3, u4, e4, h4, h5⟩ := hb
  cases h5
  obtain ⟨H3, q4, _⟩ := emit_back h4 H
  obtain ⟨H2, q3, _⟩ := emit_back h3 H3
  obtain ⟨H1, q2, _⟩ := emit_back h2 H2
  obtain ⟨H0, q1, _⟩ := emit_back h1 H1
  refine ⟨H0, rfl, rfl, rfl, ?_⟩
  simp only [List.map_cons, List.map_nil] at q1 q2 q3 q4
  obtain ⟨k1, i1, k1', j1, a1, b1, c1, d1⟩ := evalO_chkle q1
  obtain ⟨k2, i2, k2', j2, a2, b2, c2, d2⟩ := evalO_chkle q2
  obtain ⟨k3, i3, k3', j3, a3, b3, c3, d3⟩ := evalO_chkle q3
  obtain ⟨k4, i4, k4', j4, a4, b4, c4, d4⟩ := evalO_chkle q4
  rw [b1] at a2; injection a2 with _ a2; subst a2
  rw [b2] at a3; injection a3 with _ a3; subst a3
  rw [b3] at a4; injection a4 with _ a4; subst a4
  refine ⟨k1', k2', k3', k4', j1.toNat, j2.toNat, j3.toNat, j4.toNat, ?_, ?_, ?_, ?_, by omega, by omega, by omega⟩
  · rw [b1, Int.toNat_of_nonneg (by omega)]
  · rw [b2, Int.toNat_of_nonneg (by omega)]
  · rw [b3, Int.toNat_of_nonneg (by omega)]
  · rw [b4, Int.toNat_of_nonneg (by omega)]
theorem sliceOwn_back {id sz : Nat} {off l h m : Atom} {r : SV} {e e' : Em} (hb : sliceOwn id sz off l h m e = some (r, e')) (H : Hold P σ0 τ e') :
    Hold P σ0 τ e ∧ ∃ o' n k, r = .osl id sz o' n k ∧ ∀ (kl kh km : IntKind) (oo i j p : Nat), off.den τ = num oo → l.den τ = .int kl i → h.den τ = .int kh j → m.den τ = .int km p →
      o'.den τ = num (oo + i * sz) ∧ n.den τ = num (j - i) ∧ k.den τ = num (p - i) := by
  simp only [sliceOwn, EM.bind_eq, EM.pure_eq] at hb
  obtain ⟨o', e1, h1, n, e2, h2, k, e3, h3, h4⟩ := hb
  cases h4
  obtain ⟨H2, q3, _⟩ := emit_back h3 H
  obtain ⟨H1, q2, _⟩ := emit_back h2 H2
  obtain ⟨H0, q1, _⟩ := emit_back h1 H1
  refine ⟨H0, o', n, k, rfl, fun kl kh km oo i j p d1 d2 d3 d4 => ?_⟩
  simp only [List.map_cons, List.map_nil] at q1 q2 q3
  obtain ⟨a1, a2, a3, a4, a5, a6, a7⟩ := evalO_ofs q1
  rw [d1] at a4; have := num_inj a4; subst this
  rw [d2] at a5; injection a5 with _ a5; subst a5
  obtain ⟨b1, b2, b3, b4, b5, b6, b7, b8, b9⟩ := evalO_nsub q2
  rw [d3] at b5; injection b5 with _ b5; subst b5
  rw [d2] at b6; injection b6 with _ b6; subst b6
  obtain ⟨c1, c2, c3, c4, c5, c6, c7, c8, c9⟩ := evalO_nsub q3
  rw [d4] at c5; injection c5 with _ c5; subst c5
  rw [d2] at c6; injection c6 with _ c6; subst c6
  exact ⟨by simpa using a7, by simpa using b9, by simpa using c9⟩
theorem headD_val {as : List Atom} {x : Option Operand} {Φ : Fix} {a : Act} {d : Atom} {k : IntKind} {n : Nat}
    (h : (x = none ∧ as = []) ∨ ∃ y b, x = some y ∧ as = [b] ∧ Rep Φ (b.den τ) (a.eval y)) (hd : (as.headD d).den τ = .int k n) :
    (x.map a.eval = none ∧ as = [] ∧ d.den τ = .int k n) ∨ x.map a.eval = some (.int k n) := by
  rcases h with ⟨rfl, rfl⟩ | ⟨y, b, rfl, rfl, hr⟩
  · exact .inl ⟨rfl, rfl, hd⟩
  · right
    simp only [List.headD_cons] at hd
    rw [hd] at hr
    simp [hr.int_inv]
theorem run_sliceAt_slice' {t e : TypeId} {sz b k n c l h m : Nat} {lo hi mx : Option Value} (ht : P.underlying t = some (.slice e)) (hs : sizeT P e = some sz) (w : World)
    (hb : (Instr.sliceBounds true n c lo hi mx).run P w = .ok (l, h, m) w) :
    (Instr.sliceAt t (.slice (some ⟨b, k, none⟩) n c) lo hi mx).run P w = .ok (.slice (some (if m = l then ⟨b, k, none⟩ else ⟨b, k + l * sz, none⟩)) (h - l) (m - l)) w := by
  simp only [Instr.sliceAt, Sem.run_bind, run_underlying_some ht, Result.andThen_ok, Instr.slice, hb, run_sizeOf hs, Sem.run_pure, Option.map_some, add_addr]
  by_cases hm : m = l <;> simp [hm]
theorem run_sliceAt_array' {t e : TypeId} {n sz b k l h m : Nat} {lo hi mx : Option Value} (ht : P.underlying t = some (.array n e)) (hs : sizeT P e = some sz) (w : World)
    (hb : (Instr.sliceBounds false n n lo hi mx).run P w = .ok (l, h, m) w) :
    (Instr.sliceAt t (.pointer (some ⟨b, k, none⟩)) lo hi mx).run P w = .ok (.slice (some (if m = l then ⟨b, k, none⟩ else ⟨b, k + l * sz, none⟩)) (h - l) (m - l)) w := by
  simp [Instr.sliceAt, run_underlying_some ht, Instr.sureAddr, hb, run_sizeOf hs, add_addr]
theorem run_sliceAt_str' {t : TypeId} {s : ByteArray} {l h m : Nat} {lo hi : Option Value} (ht : P.underlying t = some .string) (w : World)
    (hb : (Instr.sliceBounds false s.size s.size lo hi none).run P w = .ok (l, h, m) w) :
    (Instr.sliceAt t (.string s) lo hi none).run P w = .ok (.string (s.extract l h)) w := by
  simp [Instr.sliceAt, run_underlying_some ht, Instr.slice, hb]
theorem slice_osl_ok {t e : TypeId} {sz id : Nat} {x : Operand} {lo hi mx : Option Operand} {off len cap l h m : Atom} {lo' hi' mx' : List Atom} {r : SV}
    (ho : o.op = .slice t x lo hi mx) (hx : opv tmps x = some (.osl id sz off len cap)) (ht : P.underlying t = some (.slice e)) (hs : sizeT P e = some sz) (hmh : mx.isSome = true → hi.isSome = true)
    (hlo : ∀ X Φ μ a w (ef : Eff), Agree X heap tmps o ef → SRel E τ X Φ μ a w → (lo = none ∧ lo' = []) ∨ ∃ y b, lo = some y ∧ lo' = [b] ∧ Rep Φ (b.den τ) (a.eval y))
    (hhi : ∀ X Φ μ a w (ef : Eff), Agree X heap tmps o ef → SRel E τ X Φ μ a w → (hi = none ∧ hi' = []) ∨ ∃ y b, hi = some y ∧ hi' = [b] ∧ Rep Φ (b.den τ) (a.eval y))
    (hmx : ∀ X Φ μ a w (ef : Eff), Agree X heap tmps o ef → SRel E τ X Φ μ a w → (mx = none ∧ mx' = []) ∨ ∃ y b, mx = some y ∧ mx' = [b] ∧ Rep Φ (b.den τ) (a.eval y))
    (hl : l = lo'.headD zeroAtom) (hh : h = hi'.headD len) (hm : m = mx'.headD cap)
    (hbd : ∃ (kl kh km kc : IntKind) (i j k c : Nat), l.den τ = .int kl i ∧ h.den τ = .int kh j ∧ m.den τ = .int km k ∧ cap.den τ = .int kc c ∧ i ≤ j ∧ j ≤ k ∧ k ≤ c)
    (hr : ∃ o' n k, r = .osl id sz o' n k ∧ ∀ (kl kh km : IntKind) (oo i j p : Nat), off.den τ = num oo → l.den τ = .int kl i → h.den τ = .int kh j → m.den τ = .int km p →
      o'.den τ = num (oo + i * sz) ∧ n.den τ = num (j - i) ∧ k.den τ = num (p - i)) :
    EffOk P E τ heap tmps o { res := r } := by
  refine EffOk.pure rfl rfl fun X Φ μ a w hA hR => ?_
  have g1 := hA.rep hR (by simp [ho, Op.operands]) hx
  have gl := hlo X Φ μ a w _ hA hR
  have gh := hhi X Φ μ a w _ hA hR
  have gm := hmx X Φ μ a w _ hA hR
  obtain ⟨kl, kh, km, kc, i, j, p, c0, d1, d2, d3, d4, d5, d6, d7⟩ := hbd
  simp only [SRep] at g1
  obtain ⟨oo, L, k0, c, o', r1, r2, r3, g1, r4, r5, r6, r7⟩ := g1
  obtain ⟨ao, an, ak, rfl, hr⟩ := hr
  obtain ⟨f1, f2, f3⟩ := hr kl kh km oo i j p r1 d1 d2 d3
  have hk0 : k0 = c0 := by rw [r3] at d4; unfold num at d4; injection d4 with _ d4; omega
  subst hk0
  -- the machine's bounds
  obtain ⟨p', hp', hcase⟩ : ∃ p', p ≤ p' ∧ p' ≤ c ∧ ((mx.map a.eval = none ∧ p' = c) ∨ ∃ k, mx.map a.eval = some (.int k p')) := by
    rcases headD_val gm (hm ▸ d3) with ⟨e1, _, e2⟩ | e1
    · exact ⟨c, by omega, Nat.le_refl _, .inl ⟨e1, rfl⟩⟩
    · exact ⟨p, Nat.le_refl _, by omega, .inr ⟨km, e1⟩⟩
  obtain ⟨hpc, hcase⟩ := hcase
  have hbound := run_bounds (P := P) (isSlice := true) (len := L) (cap := c) (l := i) (h := j) (m := p') (lo := lo.map a.eval) (hi := hi.map a.eval) (mx := mx.map a.eval)
    (by
      rcases headD_val gl (hl ▸ d1) with ⟨e1, _, e2⟩ | e1
      · left; refine ⟨e1, ?_⟩
        rw [den_zero] at e2; unfold num at e2; injection e2 with _ e2; omega
      · exact .inr ⟨kl, e1⟩)
    (by
      rcases headD_val gh (hh ▸ d2) with ⟨e1, e3, e2⟩ | e1
      · left
        refine ⟨e1, ?_, ?_⟩
        · cases hmx : mx with
          | none => rfl
          | some y =>
            have := hmh (by simp [hmx])
            rcases gh with ⟨g, _⟩ | ⟨y', b', g, _⟩
            · rw [g] at this; cases this
            · rw [g] at e1; simp at e1
        · rw [r2] at e2; unfold num at e2; injection e2 with _ e2; omega
      · exact .inr ⟨kh, e1⟩)
    hcase (by omega) (by omega) hpc w
  refine ⟨.slice (some (if p' = i then ⟨(μ id).1, o', none⟩ else ⟨(μ id).1, o' + i * sz, none⟩)) (j - i) (p' - i), ?_, ?_⟩
  · simp only [execOp, ho, g1, Sem.run_bind, run_sliceAt_slice' ht hs w hbound, Result.andThen_ok, Sem.run_pure]
  · simp only [SRep]
    have hlt : ∀ (z : Nat), p' - i = z → z ≤ c - i := fun z hz => by omega
    refine ⟨oo + i * sz, j - i, p - i, p' - i, if p' = i then o' else o' + i * sz, f1, f2, f3, ?_, by omega, by omega, ?_, ?_⟩
    · by_cases hpi : p' = i <;> simp [hpi]
    · by_cases hpi : p' = i
      · right; omega
      · left
        rw [if_neg hpi]
        rcases r6 with rfl | r6
        · rfl
        · omega
    · by_cases hpi : p' = i
      · subst hpi
        have : o' ≤ (μ id).2 := Nat.le_trans (Nat.le_add_right _ _) r7
        simpa using this
      · rw [if_neg hpi]
        have h1 : i * sz + (p' - i) * sz = p' * sz := by rw [← Nat.add_mul]; congr 1; omega
        have h2 : p' * sz ≤ c * sz := Nat.mul_le_mul_right _ hpc
        omega
end Go.SE
set_option autoImplicit false
namespace Go.SE
open Go
variable {P : Program} {σ0 τ : List AV} {E : Ent} {heap : Heap} {tmps : List SV} {o : Oper}
theorem den_c (τ : List AV) (a : AV) : (Atom.c a).den τ = a := rfl
theorem evalO_lsl {sz : Nat} {a b c v : AV} (h : evalO (.lsl sz) [a, b, c] = some v) :
    ∃ cs o n, a = .lst cs ∧ b = num o ∧ c = num n ∧ o + n * sz ≤ cs.length ∧ v = .lst ((cs.drop o).take (n * sz)) := by
  cases a with
  | lst cs =>
    simp only [evalO] at h
    split at h
    · rename_i o n ho hn
      split at h
      · rename_i hc; cases h; exact ⟨cs, o, n, rfl, nat?_num ho, nat?_num hn, hc, rfl⟩
      · cases h
    · cases h
  | _ => simp [evalO] at h
theorem spans_back {sb : SB} {sz n : Nat} {off : Atom} {e e' : Em} {u : Unit} (h : spans sb sz off n e = some (u, e')) (H : Hold P σ0 τ e') :
    Hold P σ0 τ e ∧ ∃ k, off.den τ = num k ∧ ∀ Φ μ (vs : List Value), CRep Φ μ τ sb.cells vs → k + n * sz ≤ vs.length := by
  unfold spans at h
  have dyn : (do let a ← lstOf sb; let _ ← emit (.lsl sz) [a, off, .c (num n)]; pure () : EM Unit) e = some (u, e') →
      Hold P σ0 τ e ∧ ∃ k, off.den τ = num k ∧ ∀ Φ μ (vs : List Value), CRep Φ μ τ sb.cells vs → k + n * sz ≤ vs.length := by
    intro h
    simp only [EM.bind_eq, EM.pure_eq] at h
    obtain ⟨a, e1, h1, x, e2, h2, h3⟩ := h
    cases h3
    obtain ⟨H1, q, _⟩ := emit_back h2 H
    obtain ⟨H0, q1⟩ := lstOf_back h1 H1
    simp only [List.map_cons, List.map_nil, den_c] at q
    obtain ⟨cs, k, n', ha, hk, hn, hle, _⟩ := evalO_lsl q
    have := num_inj hn
    subst this
    refine ⟨H0, k, hk, fun Φ μ vs hc => ?_⟩
    obtain ⟨cs', g1, g2⟩ := q1 Φ μ vs hc
    rw [ha] at g1; cases g1
    have := g2.len
    omega
  cases hl : sb.cells with
  | dyn a => simp only [hl] at h; rw [← hl]; exact dyn h
  | fix l =>
    cases ho : natLit off with
    | none => simp only [hl, ho] at h; rw [← hl]; exact dyn h
    | some k =>
      simp only [hl, ho, need_eq] at h
      obtain ⟨hn, h1⟩ := h
      cases h1
      have hn : k + n * sz ≤ l.length := by simpa [Nat.ble_eq] using hn
      refine ⟨H, k, natLit_den ho, fun Φ μ vs hc => ?_⟩
      obtain ⟨xs, ys, rfl, h3⟩ := hc
      have := h3.length
      simp; omega
theorem slice_ptr_ok {t e : TypeId} {n sz id : Nat} {sb : SB} {x : Operand} {lo hi mx : Option Operand} {off l h m : Atom} {lo' hi' mx' : List Atom} {r : SV}
    (ho : o.op = .slice t x lo hi mx) (hx : opv tmps x = some (.ptr id off)) (ht : P.underlying t = some (.array n e)) (hs : sizeT P e = some sz) (hsb : heap.getD id none = some sb) (hmh : mx.isSome = true → hi.isSome = true)
    (hlo : ∀ X Φ μ a w (ef : Eff), Agree X heap tmps o ef → SRel E τ X Φ μ a w → (lo = none ∧ lo' = []) ∨ ∃ y b, lo = some y ∧ lo' = [b] ∧ Rep Φ (b.den τ) (a.eval y))
    (hhi : ∀ X Φ μ a w (ef : Eff), Agree X heap tmps o ef → SRel E τ X Φ μ a w → (hi = none ∧ hi' = []) ∨ ∃ y b, hi = some y ∧ hi' = [b] ∧ Rep Φ (b.den τ) (a.eval y))
    (hmx : ∀ X Φ μ a w (ef : Eff), Agree X heap tmps o ef → SRel E τ X Φ μ a w → (mx = none ∧ mx' = []) ∨ ∃ y b, mx = some y ∧ mx' = [b] ∧ Rep Φ (b.den τ) (a.eval y))
    (hl : l = lo'.headD zeroAtom) (hh : h = hi'.headD (.c (num n))) (hm : m = mx'.headD (.c (num n)))
    (hbd : ∃ (kl kh km kc : IntKind) (i j k c : Nat), l.den τ = .int kl i ∧ h.den τ = .int kh j ∧ m.den τ = .int km k ∧ (Atom.c (num n)).den τ = .int kc c ∧ i ≤ j ∧ j ≤ k ∧ k ≤ c)
    (hsp : ∃ k, off.den τ = num k ∧ ∀ Φ μ (vs : List Value), CRep Φ μ τ sb.cells vs → k + n * sz ≤ vs.length)
    (hr : ∃ o' n k, r = .osl id sz o' n k ∧ ∀ (kl kh km : IntKind) (oo i j p : Nat), off.den τ = num oo → l.den τ = .int kl i → h.den τ = .int kh j → m.den τ = .int km p →
      o'.den τ = num (oo + i * sz) ∧ n.den τ = num (j - i) ∧ k.den τ = num (p - i)) :
    EffOk P E τ heap tmps o { res := r, rd := [id] } := by
  refine EffOk.pure rfl rfl fun X Φ μ a w hA hR => ?_
  have g1 := hA.rep hR (by simp [ho, Op.operands]) hx
  have gl := hlo X Φ μ a w _ hA hR
  have gh := hhi X Φ μ a w _ hA hR
  have gm := hmx X Φ μ a w _ hA hR
  obtain ⟨kl, kh, km, kc, i, j, p, c0, d1, d2, d3, d4, d5, d6, d7⟩ := hbd
  have hn : c0 = n := by simp only [Atom.den, num] at d4; injection d4 with _ d4; omega
  subst hn
  simp only [SRep] at g1
  obtain ⟨k, hk, g1⟩ := g1
  obtain ⟨k', hk', hsp⟩ := hsp
  rw [hk] at hk'; have := num_inj hk'; subst this
  obtain ⟨f1, _⟩ := hA.blk id (by simp)
  obtain ⟨_, ⟨C, ty, fr, k2, k3, k4, k5, k6⟩, _⟩ := hR.blks id sb (by rw [f1]; exact hsb)
  have hsz : k + c0 * sz ≤ (μ id).2 := by have := hsp Φ μ _ k5; simp at this; omega
  obtain ⟨ao, an, ak, rfl, hr⟩ := hr
  obtain ⟨f1, f2, f3⟩ := hr kl kh km k i j p hk d1 d2 d3
  have hbound := run_bounds (P := P) (isSlice := false) (len := c0) (cap := c0) (l := i) (h := j) (m := p) (lo := lo.map a.eval) (hi := hi.map a.eval) (mx := mx.map a.eval)
    (by
      rcases headD_val gl (hl ▸ d1) with ⟨e1, _, e2⟩ | e1
      · left; refine ⟨e1, ?_⟩
        rw [den_zero] at e2; unfold num at e2; injection e2 with _ e2; omega
      · exact .inr ⟨kl, e1⟩)
    (by
      rcases headD_val gh (hh ▸ d2) with ⟨e1, e3, e2⟩ | e1
      · left
        refine ⟨e1, ?_, ?_⟩
        · cases hmx : mx with
          | none => rfl
          | some y =>
            have := hmh (by simp [hmx])
            rcases gh with ⟨g, _⟩ | ⟨y', b', g, _⟩
            · rw [g] at this; cases this
            · rw [g] at e1; simp at e1
        · simp only [Atom.den, num] at e2; injection e2 with _ e2; omega
      · exact .inr ⟨kh, e1⟩)
    (by
      rcases headD_val gm (hm ▸ d3) with ⟨e1, _, e2⟩ | e1
      · left; refine ⟨e1, ?_⟩
        simp only [Atom.den, num] at e2; injection e2 with _ e2; omega
      · exact .inr ⟨km, e1⟩) d5 d6 d7 w
  refine ⟨.slice (some (if p = i then ⟨(μ id).1, k, none⟩ else ⟨(μ id).1, k + i * sz, none⟩)) (j - i) (p - i), ?_, ?_⟩
  · simp only [execOp, ho, g1, Sem.run_bind, run_sliceAt_array' ht hs w hbound, Result.andThen_ok, Sem.run_pure]
  · simp only [SRep]
    refine ⟨k + i * sz, j - i, p - i, p - i, if p = i then k else k + i * sz, f1, f2, f3, ?_, by omega, Nat.le_refl _, ?_, ?_⟩
    · by_cases hpi : p = i <;> simp [hpi]
    · by_cases hpi : p = i
      · right; omega
      · left; rw [if_neg hpi]
    · by_cases hpi : p = i
      · subst hpi
        have : k ≤ (μ id).2 := Nat.le_trans (Nat.le_add_right _ _) hsz
        simpa using this
      · rw [if_neg hpi]
        have h1 : i * sz + (p - i) * sz = p * sz := by rw [← Nat.add_mul]; congr 1; omega
        have h2 : p * sz ≤ c0 * sz := Nat.mul_le_mul_right _ d7
        omega
theorem sliceAV_rep {sz n l h m : Nat} {full : Bool} {x r : AV} {cs : List AV} (hx : asSlice x = some (n, cs)) (h1 : sliceAV sz x l h m full = some r) :
    l ≤ h ∧ h ≤ m ∧ m ≤ n ∧ r = (if full && m == l then .c0 else .sl (h - l) (sliceCells cs sz l h)) := by
  unfold sliceAV at h1
  rw [hx] at h1
  simp only at h1
  split at h1
  · rename_i hc; cases h1; exact ⟨hc.1, hc.2.1, hc.2.2, rfl⟩
  · cases h1
theorem slc_rep {Φ : Fix} {sz n l h m p c : Nat} {full : Bool} {cs : List AV} {r : AV} {v : Value} (hv : Rep Φ (.sl n cs) v) (h1 : l ≤ h) (h2 : h ≤ m) (h3 : m ≤ n)
    (hr : r = (if full && m == l then .c0 else .sl (h - l) (sliceCells cs sz l h))) (hp : if full then p = m else p = c) :
    ∀ a, v = .slice a n c → Rep Φ r (.slice (if p = l then a else a.map (·.add (l * sz))) (h - l) (p - l)) := by
  intro a hva
  simp only [Rep] at hv
  obtain ⟨a', c', e1, e2, e3, e4⟩ := hv
  rw [e1] at hva
  injection hva with f1 _ f3
  subst f1; subst f3
  by_cases hc0 : (full && m == l) = true
  · rw [if_pos hc0] at hr
    subst hr
    simp only [Bool.and_eq_true, beq_iff_eq] at hc0
    rw [if_pos hc0.1] at hp
    have : p = l := by omega
    subst this
    rw [if_pos rfl]
    simp only [Rep]
    refine ⟨a', by have : h = p := by omega
                   simp [this], fun ad had => (e4 ad had).1⟩
  · rw [if_neg hc0] at hr
    subst hr
    have hpc : p ≤ c' ∧ h ≤ p := by
      cases full
      · simp only [Bool.false_eq_true, if_false] at hp; omega
      · simp only [if_true] at hp; omega
    simp only [Rep]
    refine ⟨_, p - l, rfl, by omega, ?_, ?_⟩
    · intro ha
      cases a' with
      | some ad => split at ha <;> simp at ha
      | none =>
        obtain ⟨g1, g2⟩ := e3 rfl
        refine ⟨by omega, ?_⟩
        simp [sliceCells, g2]
    · intro ad had
      cases a' with
      | none => split at had <;> simp at had
      | some ad' =>
        obtain ⟨b, k, sp⟩ := ad'
        obtain ⟨g1, g2⟩ := e4 _ rfl
        simp only at g1 g2
        subst g1
        by_cases hpl : p = l
        · rw [if_pos hpl] at had
          cases had
          refine ⟨rfl, .inl ?_⟩
          have : h = l := by omega
          simp [sliceCells, this]
        · rw [if_neg hpl] at had
          simp only [Option.map_some, add_addr, Option.some.injEq] at had
          subst had
          refine ⟨rfl, ?_⟩
          rcases g2 with g2 | ⟨C, g3, g4⟩
          · left; simp [sliceCells, g2]
          · right
            refine ⟨C, g3, ?_⟩
            unfold sliceCells
            apply RepL.take
            have := RepL.drop (l * sz) g4
            rwa [List.drop_drop] at this
theorem evalO_slc {sz : Nat} {lo hi mx : Bool} {x v : AV} {bs : List AV} (h : evalO (.slc sz lo hi mx) (x :: bs) = some v) :
    ∃ (n : Nat) (cs : List AV) (l j m : Nat), asSlice x = some (n, cs) ∧ l ≤ j ∧ j ≤ m ∧ m ≤ n ∧ v = (if mx && m == l then .c0 else .sl (j - l) (sliceCells cs sz l j)) ∧
      ((lo = false ∧ hi = false ∧ mx = false ∧ bs = [] ∧ l = 0 ∧ j = n) ∨
       (lo = true ∧ hi = false ∧ mx = false ∧ (∃ k, bs = [.int k l]) ∧ j = n) ∨
       (lo = false ∧ hi = true ∧ mx = false ∧ (∃ k, bs = [.int k j]) ∧ l = 0) ∨
       (lo = true ∧ hi = true ∧ mx = false ∧ (∃ k k', bs = [.int k l, .int k' j])) ∨
       (lo = false ∧ hi = true ∧ mx = true ∧ (∃ k k', bs = [.int k j, .int k' m]) ∧ l = 0) ∨
       (lo = true ∧ hi = true ∧ mx = true ∧ (∃ k k' k'', bs = [.int k l, .int k' j, .int k'' m]))) := by
  simp only [evalO] at h
  split at h
  · cases h
  · rename_i n cs hx
    split at h
    · obtain ⟨h1, h2, h3, h4⟩ := sliceAV_rep hx h
      exact ⟨n, cs, 0, n, n, hx, h1, h2, h3, by simpa using h4, .inl ⟨rfl, rfl, rfl, rfl, rfl, rfl⟩⟩
    · split at h
      · rename_i k l
        split at h
        · rename_i h0
          obtain ⟨h1, h2, h3, h4⟩ := sliceAV_rep hx h
          exact ⟨n, cs, l.toNat, n, n, hx, h1, h2, h3, by simpa using h4, .inr (.inl ⟨rfl, rfl, rfl, ⟨k, by rw [Int.toNat_of_nonneg h0]⟩, rfl⟩)⟩
        · cases h
      · cases h
    · split at h
      · rename_i k j
        split at h
        · rename_i h0
          obtain ⟨h1, h2, h3, h4⟩ := sliceAV_rep hx h
          exact ⟨n, cs, 0, j.toNat, j.toNat, hx, h1, h2, h3, by simpa using h4, .inr (.inr (.inl ⟨rfl, rfl, rfl, ⟨k, by rw [Int.toNat_of_nonneg h0]⟩, rfl⟩))⟩
        · cases h
      · cases h
    · split at h
      · rename_i k l k' j
        split at h
        · rename_i h0
          obtain ⟨h1, h2, h3, h4⟩ := sliceAV_rep hx h
          exact ⟨n, cs, l.toNat, j.toNat, j.toNat, hx, h1, h2, h3, by simpa using h4, .inr (.inr (.inr (.inl ⟨rfl, rfl, rfl, k, k', by rw [Int.toNat_of_nonneg h0.1, Int.toNat_of_nonneg h0.2]⟩)))⟩
        · cases h
      · cases h
    · split at h
      · rename_i k j k' m
        split at h
        · rename_i h0
          obtain ⟨h1, h2, h3, h4⟩ := sliceAV_rep hx h
          exact ⟨n, cs, 0, j.toNat, m.toNat, hx, h1, h2, h3, by simpa using h4, .inr (.inr (.inr (.inr (.inl ⟨rfl, rfl, rfl, ⟨k, k', by rw [Int.toNat_of_nonneg h0.1, Int.toNat_of_nonneg h0.2]⟩, rfl⟩))))⟩
        · cases h
      · cases h
    · split at h
      · rename_i k l k' j k'' m
        split at h
        · rename_i h0
          obtain ⟨h1, h2, h3, h4⟩ := sliceAV_rep hx h
          exact ⟨n, cs, l.toNat, j.toNat, m.toNat, hx, h1, h2, h3, by simpa using h4, .inr (.inr (.inr (.inr (.inr ⟨rfl, rfl, rfl, k, k', k'', by rw [Int.toNat_of_nonneg h0.1, Int.toNat_of_nonneg h0.2.1, Int.toNat_of_nonneg h0.2.2]⟩))))⟩
        · cases h
      · cases h
    · cases h
theorem run_sliceAt_sl {t e : TypeId} {sz n c l h m : Nat} {a : Option Addr} {lo hi mx : Option Value} (ht : P.underlying t = some (.slice e)) (hs : sizeT P e = some sz) (w : World)
    (hb : (Instr.sliceBounds true n c lo hi mx).run P w = .ok (l, h, m) w) :
    (Instr.sliceAt t (.slice a n c) lo hi mx).run P w = .ok (.slice (if m = l then a else a.map (·.add (l * sz))) (h - l) (m - l)) w := by
  simp only [Instr.sliceAt, Sem.run_bind, run_underlying_some ht, Result.andThen_ok, Instr.slice, hb, run_sizeOf hs, Sem.run_pure]
theorem optVal {Φ : Fix} {x : Option Operand} {as : List Atom} {a : Act} (h : (x = none ∧ as = []) ∨ ∃ y b, x = some y ∧ as = [b] ∧ Rep Φ (b.den τ) (a.eval y)) :
    (x.isSome = false → as.map (Atom.den τ) = [] ∧ x.map a.eval = none) ∧ (x.isSome = true → ∃ c, as.map (Atom.den τ) = [c] ∧ ∃ v, x.map a.eval = some v ∧ Rep Φ c v) := by
  rcases h with ⟨rfl, rfl⟩ | ⟨y, b, rfl, rfl, hr⟩
  · exact ⟨(fun _ => ⟨rfl, rfl⟩), (fun h => by cases h)⟩
  · exact ⟨(fun h => by cases h), (fun _ => ⟨_, rfl, _, rfl, hr⟩)⟩
theorem slc_ok {t e : TypeId} {sz : Nat} {x : Operand} {lo hi mx : Option Operand} {a r : Atom} {lo' hi' mx' : List Atom}
    (ho : o.op = .slice t x lo hi mx) (hx : opv tmps x = some (.atm a)) (ht : P.underlying t = some (.slice e)) (hs : sizeT P e = some sz)
    (hlo : ∀ X Φ μ a w (ef : Eff), Agree X heap tmps o ef → SRel E τ X Φ μ a w → (lo = none ∧ lo' = []) ∨ ∃ y b, lo = some y ∧ lo' = [b] ∧ Rep Φ (b.den τ) (a.eval y))
    (hhi : ∀ X Φ μ a w (ef : Eff), Agree X heap tmps o ef → SRel E τ X Φ μ a w → (hi = none ∧ hi' = []) ∨ ∃ y b, hi = some y ∧ hi' = [b] ∧ Rep Φ (b.den τ) (a.eval y))
    (hmx : ∀ X Φ μ a w (ef : Eff), Agree X heap tmps o ef → SRel E τ X Φ μ a w → (mx = none ∧ mx' = []) ∨ ∃ y b, mx = some y ∧ mx' = [b] ∧ Rep Φ (b.den τ) (a.eval y))
    (h : evalO (.slc sz lo.isSome hi.isSome mx.isSome) ((a :: lo' ++ hi' ++ mx').map (Atom.den τ)) = some (r.den τ)) :
    EffOk P E τ heap tmps o { res := .atm r } := by
  refine EffOk.pure rfl rfl fun X Φ μ ac w hA hR => ?_
  have g1 := hA.rep hR (by simp [ho, Op.operands]) hx
  have gl := optVal (hlo X Φ μ ac w _ hA hR)
  have gh := optVal (hhi X Φ μ ac w _ hA hR)
  have gm := optVal (hmx X Φ μ ac w _ hA hR)
  simp only [List.cons_append, List.map_cons, List.map_append] at h
  obtain ⟨n, cs, l, j, m, e1, e2, e3, e4, e5, hc⟩ := evalO_slc h
  simp only [SRep] at g1
  have g1 := asSlice_rep e1 g1
  have g1' := g1
  simp only [Rep] at g1'
  obtain ⟨base, c, f1, f2, _, _⟩ := g1'
  -- the machine's bounds
  obtain ⟨p, hbnd, hp⟩ : ∃ p, (Instr.sliceBounds true n c (lo.map ac.eval) (hi.map ac.eval) (mx.map ac.eval)).run P w = .ok (l, j, p) w ∧ (if mx.isSome then p = m else p = c) := by
    rcases hc with ⟨c1, c2, c3, c4, rfl, rfl⟩ | ⟨c1, c2, c3, ⟨k, c4⟩, rfl⟩ | ⟨c1, c2, c3, ⟨k, c4⟩, rfl⟩ | ⟨c1, c2, c3, k, k', c4⟩ | ⟨c1, c2, c3, ⟨k, k', c4⟩, rfl⟩ | ⟨c1, c2, c3, k, k', k'', c4⟩
    · refine ⟨c, run_bounds (.inl ⟨(gl.1 c1).2, rfl⟩) (.inl ⟨(gh.1 c2).2, (gm.1 c3).2, rfl⟩) (.inl ⟨(gm.1 c3).2, rfl⟩) e2 (by omega) (Nat.le_refl _) w, by simp [c3]⟩
    · obtain ⟨x1, g2, v1, g3, g4⟩ := gl.2 c1
      rw [g2, (gh.1 c2).1, (gm.1 c3).1] at c4
      simp only [List.append_nil, List.cons.injEq, and_true] at c4
      rw [c4] at g4
      refine ⟨c, run_bounds (.inr ⟨k, by rw [g3, g4.int_inv]⟩) (.inl ⟨(gh.1 c2).2, (gm.1 c3).2, rfl⟩) (.inl ⟨(gm.1 c3).2, rfl⟩) e2 (by omega) (Nat.le_refl _) w, by simp [c3]⟩
    · obtain ⟨x1, g2, v1, g3, g4⟩ := gh.2 c2
      rw [g2, (gl.1 c1).1, (gm.1 c3).1] at c4
      simp only [List.append_nil, List.nil_append, List.cons.injEq, and_true] at c4
      rw [c4] at g4
      refine ⟨c, run_bounds (.inl ⟨(gl.1 c1).2, rfl⟩) (.inr ⟨k, by rw [g3, g4.int_inv]⟩) (.inl ⟨(gm.1 c3).2, rfl⟩) e2 (by omega) (Nat.le_refl _) w, by simp [c3]⟩
    · obtain ⟨x1, g2, v1, g3, g4⟩ := gl.2 c1
      obtain ⟨x2, g5, v2, g6, g7⟩ := gh.2 c2
      rw [g2, g5, (gm.1 c3).1] at c4
      simp only [List.append_nil, List.cons_append, List.nil_append, List.cons.injEq, and_true] at c4
      rw [c4.1] at g4
      rw [c4.2] at g7
      refine ⟨c, run_bounds (.inr ⟨k, by rw [g3, g4.int_inv]⟩) (.inr ⟨k', by rw [g6, g7.int_inv]⟩) (.inl ⟨(gm.1 c3).2, rfl⟩) e2 (by omega) (Nat.le_refl _) w, by simp [c3]⟩
    · obtain ⟨x1, g2, v1, g3, g4⟩ := gm.2 c3
      obtain ⟨x2, g5, v2, g6, g7⟩ := gh.2 c2
      rw [g2, g5, (gl.1 c1).1] at c4
      simp only [List.cons_append, List.nil_append, List.cons.injEq, and_true] at c4
      rw [c4.2] at g4
      rw [c4.1] at g7
      refine ⟨m, run_bounds (.inl ⟨(gl.1 c1).2, rfl⟩) (.inr ⟨k, by rw [g6, g7.int_inv]⟩) (.inr ⟨k', by rw [g3, g4.int_inv]⟩) e2 e3 (by omega) w, by simp [c3]⟩
    · obtain ⟨x1, g2, v1, g3, g4⟩ := gm.2 c3
      obtain ⟨x2, g5, v2, g6, g7⟩ := gh.2 c2
      obtain ⟨x3, g8, v3, g9, g10⟩ := gl.2 c1
      rw [g2, g5, g8] at c4
      simp only [List.cons_append, List.nil_append, List.cons.injEq, and_true] at c4
      rw [c4.2.2] at g4
      rw [c4.2.1] at g7
      rw [c4.1] at g10
      refine ⟨m, run_bounds (.inr ⟨k, by rw [g9, g10.int_inv]⟩) (.inr ⟨k', by rw [g6, g7.int_inv]⟩) (.inr ⟨k'', by rw [g3, g4.int_inv]⟩) e2 e3 (by omega) w, by simp [c3]⟩
  refine ⟨.slice (if p = l then base else base.map (·.add (l * sz))) (j - l) (p - l), ?_, ?_⟩
  rotate_left
  · simp only [SRep]
    exact slc_rep (p := p) g1 e2 e3 e4 e5 hp base f1
  · simp only [execOp, ho, f1, Sem.run_bind, run_sliceAt_sl ht hs w hbnd, Result.andThen_ok, Sem.run_pure]
end Go.SE
set_option autoImplicit false
namespace Go.SE
open Go
variable {P : Program} {σ0 τ : List AV} {E : Ent} {heap : Heap} {tmps : List SV} {o : Oper}
theorem evalO_sls {lo hi : Bool} {x v : AV} {bs : List AV} (h : evalO (.sls lo hi) (x :: bs) = some v) :
    ∃ (s : ByteArray) (l j : Nat), x = .str s ∧ l ≤ j ∧ j ≤ s.size ∧ v = .str (s.extract l j) ∧
      ((lo = false ∧ hi = false ∧ bs = [] ∧ l = 0 ∧ j = s.size) ∨ (lo = true ∧ hi = false ∧ (∃ k, bs = [.int k l]) ∧ j = s.size) ∨
       (lo = false ∧ hi = true ∧ (∃ k, bs = [.int k j]) ∧ l = 0) ∨ (lo = true ∧ hi = true ∧ ∃ k k', bs = [.int k l, .int k' j])) := by
  cases x with
  | str s =>
    simp only [evalO] at h
    split at h
    · cases h; exact ⟨s, 0, s.size, rfl, by omega, by omega, rfl, .inl ⟨rfl, rfl, rfl, rfl, rfl⟩⟩
    · rename_i k l
      split at h
      · rename_i hc; cases h
        exact ⟨s, l.toNat, s.size, rfl, by omega, by omega, rfl, .inr (.inl ⟨rfl, rfl, ⟨k, by rw [Int.toNat_of_nonneg hc.1]⟩, rfl⟩)⟩
      · cases h
    · rename_i k l
      split at h
      · rename_i hc; cases h
        exact ⟨s, 0, l.toNat, rfl, by omega, by omega, rfl, .inr (.inr (.inl ⟨rfl, rfl, ⟨k, by rw [Int.toNat_of_nonneg hc.1]⟩, rfl⟩))⟩
      · cases h
    · rename_i k l k' j
      split at h
      · rename_i hc; cases h
        exact ⟨s, l.toNat, j.toNat, rfl, by omega, by omega, rfl, .inr (.inr (.inr ⟨rfl, rfl, k, k', by rw [Int.toNat_of_nonneg hc.1, Int.toNat_of_nonneg (by omega)]⟩))⟩
      · cases h
    · cases h
  | _ => simp [evalO] at h
theorem sls_ok {t : TypeId} {x : Operand} {lo hi : Option Operand} {a r : Atom} {lo' hi' : List Atom}
    (ho : o.op = .slice t x lo hi none) (hx : opv tmps x = some (.atm a)) (ht : P.underlying t = some .string)
    (hlo : ∀ X Φ μ a w (ef : Eff), Agree X heap tmps o ef → SRel E τ X Φ μ a w → (lo = none ∧ lo' = []) ∨ ∃ y b, lo = some y ∧ lo' = [b] ∧ Rep Φ (b.den τ) (a.eval y))
    (hhi : ∀ X Φ μ a w (ef : Eff), Agree X heap tmps o ef → SRel E τ X Φ μ a w → (hi = none ∧ hi' = []) ∨ ∃ y b, hi = some y ∧ hi' = [b] ∧ Rep Φ (b.den τ) (a.eval y))
    (h : evalO (.sls lo.isSome hi.isSome) ((a :: lo' ++ hi').map (Atom.den τ)) = some (r.den τ)) :
    EffOk P E τ heap tmps o { res := .atm r } := by
  refine EffOk.pure rfl rfl fun X Φ μ ac w hA hR => ?_
  have g1 := hA.rep hR (by simp [ho, Op.operands]) hx
  have gl := optVal (hlo X Φ μ ac w _ hA hR)
  have gh := optVal (hhi X Φ μ ac w _ hA hR)
  simp only [List.cons_append, List.map_cons, List.map_append] at h
  obtain ⟨s, l, j, e1, e2, e3, e5, hc⟩ := evalO_sls h
  simp only [SRep, e1] at g1
  have hbnd : (Instr.sliceBounds false s.size s.size (lo.map ac.eval) (hi.map ac.eval) none).run P w = .ok (l, j, s.size) w := by
    rcases hc with ⟨c1, c2, c4, rfl, rfl⟩ | ⟨c1, c2, ⟨k, c4⟩, rfl⟩ | ⟨c1, c2, ⟨k, c4⟩, rfl⟩ | ⟨c1, c2, k, k', c4⟩
    · exact run_bounds (.inl ⟨(gl.1 c1).2, rfl⟩) (.inl ⟨(gh.1 c2).2, rfl, rfl⟩) (.inl ⟨rfl, rfl⟩) e2 (by omega) (Nat.le_refl _) w
    · obtain ⟨x1, g2, v1, g3, g4⟩ := gl.2 c1
      rw [g2, (gh.1 c2).1] at c4
      simp only [List.append_nil, List.cons.injEq, and_true] at c4
      rw [c4] at g4
      exact run_bounds (.inr ⟨k, by rw [g3, g4.int_inv]⟩) (.inl ⟨(gh.1 c2).2, rfl, rfl⟩) (.inl ⟨rfl, rfl⟩) e2 (by omega) (Nat.le_refl _) w
    · obtain ⟨x1, g2, v1, g3, g4⟩ := gh.2 c2
      rw [g2, (gl.1 c1).1] at c4
      simp only [List.nil_append, List.cons.injEq, and_true] at c4
      rw [c4] at g4
      exact run_bounds (.inl ⟨(gl.1 c1).2, rfl⟩) (.inr ⟨k, by rw [g3, g4.int_inv]⟩) (.inl ⟨rfl, rfl⟩) e2 e3 (Nat.le_refl _) w
    · obtain ⟨x1, g2, v1, g3, g4⟩ := gl.2 c1
      obtain ⟨x2, g5, v2, g6, g7⟩ := gh.2 c2
      rw [g2, g5] at c4
      simp only [List.cons_append, List.nil_append, List.cons.injEq, and_true] at c4
      rw [c4.1] at g4
      rw [c4.2] at g7
      exact run_bounds (.inr ⟨k, by rw [g3, g4.int_inv]⟩) (.inr ⟨k', by rw [g6, g7.int_inv]⟩) (.inl ⟨rfl, rfl⟩) e2 e3 (Nat.le_refl _) w
  refine ⟨.string (s.extract l j), ?_, by simp [SRep, e5, Rep]⟩
  simp only [execOp, ho, g1.str_inv, Option.map_none, Sem.run_bind, run_sliceAt_str' ht w hbnd, Result.andThen_ok, Sem.run_pure]
theorem arrayT_some {t e : TypeId} {n : Nat} (h : arrayT P t = some (n, e)) : P.underlying t = some (.array n e) := by
  unfold arrayT at h
  split at h
  · rename_i n' e' h1; cases h; exact h1
  · cases h
theorem osl_arr_ok {t e : TypeId} {n id sz : Nat} {x : Operand} {off len cap u : Atom} (ho : o.op = .sliceToArrayPointer t x) (hx : opv tmps x = some (.osl id sz off len cap))
    (ht : P.underlying t = some (.array n e)) (hn : 0 < n) (h : evalO .chkle [num n, len.den τ] = some (u.den τ)) : EffOk P E τ heap tmps o { res := .ptr id off } := by
  refine EffOk.pure rfl rfl fun X Φ μ ac w hA hR => ?_
  have g1 := hA.rep hR (by simp [ho, Op.operands]) hx
  simp only [SRep] at g1
  obtain ⟨oo, L, k0, c, o', r1, r2, r3, g1, r4, r5, r6, r7⟩ := g1
  obtain ⟨k, i, k', j, e1, e2, e3, e4⟩ := evalO_chkle h
  have h1 : i = n := by unfold num at e1; injection e1 with _ e1; exact e1.symm
  have h2 : j = L := by rw [r2] at e2; unfold num at e2; injection e2 with _ e2; exact e2.symm
  have hle : n ≤ L := by omega
  have ho' : o' = oo := by rcases r6 with h | h; exact h; omega
  subst ho'
  refine ⟨.pointer (some ⟨(μ id).1, o', none⟩), ?_, ?_⟩
  · simp [execOp, ho, g1, Instr.arrayAt, run_underlying_some ht, show ¬ L < n by omega]
  · simp only [SRep]; exact ⟨o', r1, rfl⟩
theorem evalO_sl2rp {n sz : Nat} {a v : AV} (h : evalO (.sl2rp n sz) [a] = some v) : ∃ m cs, asSlice a = some (m, cs) ∧ 0 < n ∧ n ≤ m ∧ n * sz ≤ cs.length ∧ v = .rp cs := by
  simp only [evalO] at h
  split at h
  · rename_i m cs ha
    split at h
    · rename_i hc; cases h; exact ⟨m, cs, ha, hc.1, hc.2.1, hc.2.2, rfl⟩
    · cases h
  · cases h
theorem sl_arr_ok {t e : TypeId} {n sz : Nat} {x : Operand} {a r : Atom} (ho : o.op = .sliceToArrayPointer t x) (hx : opv tmps x = some (.atm a))
    (ht : P.underlying t = some (.array n e)) (hz : 0 < sz) (h : evalO (.sl2rp n sz) [a.den τ] = some (r.den τ)) : EffOk P E τ heap tmps o { res := .atm r } := by
  refine EffOk.pure rfl rfl fun X Φ μ ac w hA hR => ?_
  have g1 := hA.rep hR (by simp [ho, Op.operands]) hx
  obtain ⟨m, cs, e1, e2, e3, e4, e5⟩ := evalO_sl2rp h
  simp only [SRep] at g1
  have hne : cs ≠ [] := by
    intro hc
    have : 0 < n * sz := Nat.mul_pos e2 hz
    rw [hc] at e4; simp only [List.length_nil] at e4; omega
  obtain ⟨b, k, c, C, f1, f2, f3, f4⟩ := (asSlice_rep e1 g1).sl_addr hne
  refine ⟨.pointer (some ⟨b, k, none⟩), ?_, ?_⟩
  · simp [execOp, ho, f1, Instr.arrayAt, run_underlying_some ht, show ¬ m < n by omega]
  · simp only [SRep, e5, Rep]
    exact ⟨_, rfl, rfl, C, f3, f4⟩
theorem run_builtin {b : Builtin} {c : Call} {w w' : World} {a : Act} {v : Value} (ho : o.op = .call c) (hb : c.callee = .builtin b)
    (h : (builtin b c.argTypes o.type (c.args.map fun | .const _ => true | _ => false) (c.args.map a.eval)).run P w = .ok (.value v) w') :
    (execOp a.eval o).run P w = .ok (.value v) w' := by
  simp only [execOp, ho, resolve, hb, Sem.run_bind, Sem.run_pure, Result.andThen_ok, invoke]
  exact h
theorem len_arr_ok {c : Call} {t e : TypeId} {ts : List TypeId} {x : Operand} {n : Nat} (ho : o.op = .call c) (hb : c.callee = .builtin .len) (hat : c.argTypes.toList = t :: ts) (hxs : c.args.toList = [x])
    (ht : P.underlying t = some (.array n e)) : EffOk P E τ heap tmps o { res := .atm (.c (num n)) } := by
  refine EffOk.pure rfl rfl fun X Φ μ ac w hA hR => ⟨.int .i64 n, run_builtin ho hb ?_, by simp [SRep, Atom.den, num, Rep]⟩
  have h1 : c.argTypes[0]? = some t := by rw [← Array.getElem?_toList, hat]; rfl
  have h2 : (c.args.map ac.eval)[0]? = some (ac.eval x) := by rw [← Array.getElem?_toList]; simp [hxs]
  simp [builtin, Builtin.len_, h1, h2, run_underlying_some ht, goInt]
theorem len_osl_ok {c : Call} {t e : TypeId} {ts : List TypeId} {x : Operand} {id sz : Nat} {off len cap : Atom} (ho : o.op = .call c) (hb : c.callee = .builtin .len) (hat : c.argTypes.toList = t :: ts) (hxs : c.args.toList = [x])
    (hx : opv tmps x = some (.osl id sz off len cap)) (ht : P.underlying t = some (.slice e)) : EffOk P E τ heap tmps o { res := .atm len } := by
  refine EffOk.pure rfl rfl fun X Φ μ ac w hA hR => ?_
  have hm : x ∈ o.op.operands := by
    have : x ∈ c.args.toList := by rw [hxs]; simp
    simp [ho, Op.operands, Call.operands]; right; simpa using this
  have g1 := hA.rep hR hm hx
  simp only [SRep] at g1
  obtain ⟨oo, L, k0, cc, o', r1, r2, r3, g1, r4, r5, r6, r7⟩ := g1
  have h1 : c.argTypes[0]? = some t := by rw [← Array.getElem?_toList, hat]; rfl
  have h2 : (c.args.map ac.eval)[0]? = some (ac.eval x) := by rw [← Array.getElem?_toList]; simp [hxs]
  refine ⟨.int .i64 L, run_builtin ho hb ?_, by simp [SRep, r2, num, Rep]⟩
  simp [builtin, Builtin.len_, h1, h2, run_underlying_some ht, goInt, g1]
theorem evalO_len {a v : AV} (h : evalO .len [a] = some v) : ∃ n cs, asSlice a = some (n, cs) ∧ v = num n := by
  simp only [evalO, Option.map_eq_some_iff] at h
  obtain ⟨⟨n, cs⟩, h1, h2⟩ := h
  exact ⟨n, cs, h1, h2.symm⟩
theorem evalO_slen {a v : AV} (h : evalO .slen [a] = some v) : ∃ s, a = .str s ∧ v = num s.size := by
  cases a with
  | str s => simp only [evalO, Option.some.injEq] at h; exact ⟨s, rfl, h.symm⟩
  | _ => simp [evalO] at h
theorem operand_mem {c : Call} {x : Operand} (ho : o.op = .call c) (h : x ∈ c.args.toList) : x ∈ o.op.operands := by
  simp [ho, Op.operands, Call.operands]; right; simpa using h
theorem len_sl_ok {c : Call} {t e : TypeId} {ts : List TypeId} {x : Operand} {a r : Atom} (ho : o.op = .call c) (hb : c.callee = .builtin .len) (hat : c.argTypes.toList = t :: ts) (hxs : c.args.toList = [x])
    (hx : opv tmps x = some (.atm a)) (ht : P.underlying t = some (.slice e)) (h : evalO .len [a.den τ] = some (r.den τ)) : EffOk P E τ heap tmps o { res := .atm r } := by
  refine EffOk.pure rfl rfl fun X Φ μ ac w hA hR => ?_
  have g1 := hA.rep hR (operand_mem ho (by simp [hxs])) hx
  obtain ⟨n, cs, e1, e2⟩ := evalO_len h
  simp only [SRep] at g1
  have g2 := asSlice_rep e1 g1
  simp only [Rep] at g2
  obtain ⟨base, cc, f1, _⟩ := g2
  have h1 : c.argTypes[0]? = some t := by rw [← Array.getElem?_toList, hat]; rfl
  have h2 : (c.args.map ac.eval)[0]? = some (ac.eval x) := by rw [← Array.getElem?_toList]; simp [hxs]
  refine ⟨.int .i64 n, run_builtin ho hb ?_, by simp [SRep, e2, num, Rep]⟩
  simp [builtin, Builtin.len_, h1, h2, run_underlying_some ht, goInt, f1]
theorem len_str_ok {c : Call} {t : TypeId} {ts : List TypeId} {x : Operand} {s : SV} {a r : Atom} (ho : o.op = .call c) (hb : c.callee = .builtin .len) (hat : c.argTypes.toList = t :: ts) (hxs : c.args.toList = [x])
    (hx : opv tmps x = some s) (ha : ∀ Φ μ v, SRep Φ μ τ s v → Rep Φ (a.den τ) v) (ht : P.underlying t = some .string) (h : evalO .slen [a.den τ] = some (r.den τ)) : EffOk P E τ heap tmps o { res := .atm r } := by
  refine EffOk.pure rfl rfl fun X Φ μ ac w hA hR => ?_
  have g1 := ha Φ μ _ (hA.rep hR (operand_mem ho (by simp [hxs])) hx)
  obtain ⟨st, e1, e2⟩ := evalO_slen h
  rw [e1] at g1
  have h1 : c.argTypes[0]? = some t := by rw [← Array.getElem?_toList, hat]; rfl
  have h2 : (c.args.map ac.eval)[0]? = some (ac.eval x) := by rw [← Array.getElem?_toList]; simp [hxs]
  refine ⟨.int .i64 st.size, run_builtin ho hb ?_, by simp [SRep, e2, num, Rep]⟩
  simp [builtin, Builtin.len_, h1, h2, run_underlying_some ht, goInt, g1.str_inv]
theorem evalO_mx2 {a b v : AV} (h : evalO .mx2 [a, b] = some v) : ∃ k x y, a = .int k x ∧ b = .int k y ∧ v = .int k (if y > x then y else x) := by
  cases a <;> cases b <;> simp [evalO] at h
  obtain ⟨rfl, h⟩ := h
  exact ⟨_, _, _, rfl, rfl, by rw [← h]⟩
theorem evalO_mn2 {a b v : AV} (h : evalO .mn2 [a, b] = some v) : ∃ k x y, a = .int k x ∧ b = .int k y ∧ v = .int k (if y < x then y else x) := by
  cases a <;> cases b <;> simp [evalO] at h
  obtain ⟨rfl, h⟩ := h
  exact ⟨_, _, _, rfl, rfl, by rw [← h]⟩
theorem maxmin_ok {c : Call} {b : Builtin} {x y : Operand} {s s' : SV} {a a' r : Atom} (ho : o.op = .call c) (hb : c.callee = .builtin b) (hxs : c.args.toList = [x, y])
    (hx : opv tmps x = some s) (hy : opv tmps y = some s') (ha : ∀ Φ μ v, SRep Φ μ τ s v → Rep Φ (a.den τ) v) (ha' : ∀ Φ μ v, SRep Φ μ τ s' v → Rep Φ (a'.den τ) v)
    (h : (b = .max ∧ evalO .mx2 [a.den τ, a'.den τ] = some (r.den τ)) ∨ (b = .min ∧ evalO .mn2 [a.den τ, a'.den τ] = some (r.den τ))) : EffOk P E τ heap tmps o { res := .atm r } := by
  refine EffOk.pure rfl rfl fun X Φ μ ac w hA hR => ?_
  have g1 := ha Φ μ _ (hA.rep hR (operand_mem ho (by simp [hxs])) hx)
  have g2 := ha' Φ μ _ (hA.rep hR (operand_mem ho (by simp [hxs])) hy)
  have hl : (c.args.map ac.eval).toList = [ac.eval x, ac.eval y] := by simp [hxs]
  rcases h with ⟨rfl, h⟩ | ⟨rfl, h⟩
  · obtain ⟨k, i, j, e1, e2, e3⟩ := evalO_mx2 h
    rw [e1] at g1; rw [e2] at g2
    refine ⟨.int k (if j > i then j else i), run_builtin ho hb ?_, by simp [SRep, e3, Rep]⟩
    simp only [builtin, Builtin.max_, hl, Sem.run_bind, g1.int_inv, g2.int_inv]
    simp [Builtin.max2]
  · obtain ⟨k, i, j, e1, e2, e3⟩ := evalO_mn2 h
    rw [e1] at g1; rw [e2] at g2
    refine ⟨.int k (if j < i then j else i), run_builtin ho hb ?_, by simp [SRep, e3, Rep]⟩
    simp only [builtin, Builtin.min_, hl, Sem.run_bind, g1.int_inv, g2.int_inv]
    simp [Builtin.min2]
end Go.SE
