/- Nothing of the statement is proved here: this text lays the symbolic executor and its soundness, part 1; no conditions. -/
import Derived.WalkKit
import Derived.Orders
set_option linter.all false
set_option autoImplicit false
namespace Go.SE
open Go
inductive AV where
  | int (k : IntKind) (n : Int)
  | bool (b : Bool)
  | str (s : ByteArray)
  | agg (cs : List AV)
  | tup (vs : List AV)
  | sl (n : Nat) (cs : List AV)
  | nils
  | c0
  | emp
  | rp (cs : List AV)
  | nilp
  | nilf
  | nili
  | nilm
  | fn (f : Fn) (cs : List AV)
  | ifc (t : TypeId) (v : AV)
  | lst (cs : List AV)
  deriving Inhabited
def AV.isCell : AV → Bool
  | .agg _ | .tup _ | .lst _ => false
  | _ => true
abbrev Fix := Nat → Option (Array Value)
mutual
def Rep (Φ : Fix) : AV → Value → Prop
  | .int k n, v => v = .int k n
  | .bool b, v => v = .bool b
  | .str s, v => v = .string s
  | .agg cs, v => ∃ vs : Array Value, v = .agg vs ∧ vs.size = cs.length ∧ RepL Φ cs vs.toList
  | .tup cs, v => ∃ vs : Array Value, v = .tuple vs ∧ vs.size = cs.length ∧ RepL Φ cs vs.toList
  | .sl n cs, v => ∃ (a : Option Addr) (c : Nat), v = .slice a n c ∧ n ≤ c ∧ (a = none → c = 0 ∧ cs = []) ∧
      (∀ ad, a = some ad → ad.spot = none ∧ (cs = [] ∨ ∃ C, Φ ad.block = some C ∧ RepL Φ cs (C.toList.drop ad.off)))
  | .nils, v => v = .slice none 0 0
  | .c0, v => ∃ a : Option Addr, v = .slice a 0 0 ∧ (∀ ad, a = some ad → ad.spot = none)
  | .emp, v => ∃ (a : Addr) (c : Nat), v = .slice (some a) 0 c ∧ a.spot = none
  | .rp cs, v => ∃ ad : Addr, v = .pointer (some ad) ∧ ad.spot = none ∧ ∃ C, Φ ad.block = some C ∧ RepL Φ cs (C.toList.drop ad.off)
  | .nilp, v => v = .pointer none
  | .nilf, v => v = .nilFunc
  | .nili, v => v = .nilIface
  | .nilm, v => v = .map none
  | .fn f cs, v => ∃ vs : Array Value, v = .func f #[] vs ∧ vs.size = cs.length ∧ RepL Φ cs vs.toList
  | .ifc t x, v => ∃ u, v = .iface t u ∧ Rep Φ x u
  | .lst _, _ => False
def RepL (Φ : Fix) : List AV → List Value → Prop
  | [], _ => True
  | c :: cs, vs => match vs with
    | [] => False
    | v :: vs' => Rep Φ c v ∧ RepL Φ cs vs'
end
def Fix.le (Φ Φ' : Fix) : Prop := ∀ b C, Φ b = some C → Φ' b = some C
theorem Fix.le_refl (Φ : Fix) : Φ.le Φ := fun _ _ h => h
theorem Fix.le_trans {a b c : Fix} (h : a.le b) (k : b.le c) : a.le c := fun x C hx => k x C (h x C hx)
mutual
theorem Rep.mono {Φ Φ' : Fix} (h : Φ.le Φ') : ∀ (a : AV) (v : Value), Rep Φ a v → Rep Φ' a v
  | .int _ _, _, k => by simpa [Rep] using k
  | .bool _, _, k => by simpa [Rep] using k
  | .str _, _, k => by simpa [Rep] using k
  | .agg cs, _, k => by
    simp only [Rep] at k ⊢
    obtain ⟨vs, h1, h2, h3⟩ := k
    exact ⟨vs, h1, h2, RepL.mono h cs _ h3⟩
  | .tup cs, _, k => by
    simp only [Rep] at k ⊢
    obtain ⟨vs, h1, h2, h3⟩ := k
    exact ⟨vs, h1, h2, RepL.mono h cs _ h3⟩
  | .sl n cs, _, k => by
    simp only [Rep] at k ⊢
    obtain ⟨a, c, h1, h2, h3, h4⟩ := k
    refine ⟨a, c, h1, h2, h3, fun ad had => ?_⟩
    obtain ⟨s, h5⟩ := h4 ad had
    refine ⟨s, h5.imp id ?_⟩
    rintro ⟨C, hC, hr⟩
    exact ⟨C, h _ _ hC, RepL.mono h cs _ hr⟩
  | .nils, _, k => by simpa [Rep] using k
  | .c0, _, k => by simpa [Rep] using k
  | .emp, _, k => by simpa [Rep] using k
  | .rp cs, _, k => by
    simp only [Rep] at k ⊢
    obtain ⟨ad, h1, h2, C, hC, hr⟩ := k
    exact ⟨ad, h1, h2, C, h _ _ hC, RepL.mono h cs _ hr⟩
  | .nilp, _, k => by simpa [Rep] using k
  | .nilf, _, k => by simpa [Rep] using k
  | .nili, _, k => by simpa [Rep] using k
  | .nilm, _, k => by simpa [Rep] using k
  | .fn f cs, _, k => by
    simp only [Rep] at k ⊢
    obtain ⟨vs, h1, h2, h3⟩ := k
    exact ⟨vs, h1, h2, RepL.mono h cs _ h3⟩
  | .ifc t x, _, k => by
    simp only [Rep] at k ⊢
    obtain ⟨u, h1, h2⟩ := k
    exact ⟨u, h1, Rep.mono h x u h2⟩
  | .lst _, _, k => by simp [Rep] at k
theorem RepL.mono {Φ Φ' : Fix} (h : Φ.le Φ') : ∀ (cs : List AV) (vs : List Value), RepL Φ cs vs → RepL Φ' cs vs
  | [], _, _ => by simp [RepL]
  | _ :: _, [], k => by simp [RepL] at k
  | c :: cs, v :: vs, k => by
    simp only [RepL] at k ⊢
    exact ⟨Rep.mono h c v k.1, RepL.mono h cs vs k.2⟩
end
def WR (Φ : Fix) (w : World) : Prop := ∀ b C, Φ b = some C → ∃ t fr, w.heap[b]? = some (.cells C t fr)
inductive AEnd where
  | ret (v : AV)
  | pan (v : AV)
def EndRep (Φ : Fix) : AEnd → Ending → Prop
  | .ret v, e => ∃ x, e = .returned x ∧ Rep Φ v x
  | .pan v, e => ∃ x, e = .panicked [{ v := x, recovered := false }] ∧ Rep Φ v x
def RepE (Φ : Fix) (as : List AV) (vs : List Value) : Prop := vs.length = as.length ∧ RepL Φ as vs
open Go.RowKit in
def Ct (P : Program) (f : FuncId) (args : List AV) (R : AEnd → Prop) : Prop :=
  ∀ (Φ : Fix) (w : World) (vs : List Value), WR Φ w → RepE Φ args vs →
    Calls P f vs.toArray w fun e w' => ∃ (Φ' : Fix) (r : AEnd), R r ∧ EndRep Φ' r e ∧ WR Φ' w' ∧ Φ.le Φ' ∧
      (∀ b, b < w.heap.size → Φ' b = Φ b) ∧ Below w.heap.size w w'
theorem Ct.mono {P : Program} {f : FuncId} {args : List AV} {R R' : AEnd → Prop} (h : Ct P f args R) (hr : ∀ r, R r → R' r) : Ct P f args R' :=
  fun Φ w vs hw hv => (h Φ w vs hw hv).mono fun _ _ ⟨Φ', r, h1, h2⟩ => ⟨Φ', r, hr r h1, h2⟩
inductive HV where
  | val (a : AV)
  | osl (k sz : Nat) (off len cap : AV)
  | ptr (k : Nat) (off : AV)
def cnt (n : Nat) : AV := .int .i64 n
def HRep (Φ : Fix) (μ : Nat → Nat × Nat) : HV → Value → Prop
  | .val a, v => Rep Φ a v
  | .osl k sz off len cap, v => ∃ o l kk c o' : Nat, off = cnt o ∧ len = cnt l ∧ cap = cnt kk ∧
      v = .slice (some ⟨(μ k).1, o', none⟩) l c ∧ l ≤ kk ∧ kk ≤ c ∧ (o' = o ∨ c = 0) ∧ o' + c * sz ≤ (μ k).2
  | .ptr k off, v => ∃ o : Nat, off = cnt o ∧ v = .pointer (some ⟨(μ k).1, o, none⟩)
def HRepL (Φ : Fix) (μ : Nat → Nat × Nat) : List HV → List Value → Prop
  | [], vs => vs = []
  | a :: as, vs => match vs with
    | [] => False
    | v :: vs' => HRep Φ μ a v ∧ HRepL Φ μ as vs'
def HOwn (Φ : Fix) (w : World) (p : Nat × Nat) (b : AV) : Prop :=
  ∃ C t fr, w.heap[p.1]? = some (.cells C t fr) ∧ C.size = p.2 ∧ (∀ o, o < C.size → ¬ (fr.1 ≤ o ∧ o < fr.2)) ∧ (∃ cs, b = .lst cs ∧ RepL Φ cs C.toList) ∧ Φ p.1 = none
inductive HS where
  | val (cell : Bool)
  | osl (k sz : Nat) (zero : Bool)
  | ptr (k : Nat)
structure Sh where
  tup : Bool
  l : List HS
  nb : Nat
def HV.parts : HV → List AV
  | .val a => [a]
  | .osl _ _ off len cap => [off, len, cap]
  | .ptr _ off => [off]
def HS.fits : HS → HV → Prop
  | .val c, .val a => c = true → a.isCell = true
  | .osl k sz z, .osl k' sz' off _ _ => k = k' ∧ sz = sz' ∧ (z = true → off = cnt 0)
  | .ptr k, .ptr k' _ => k = k'
  | _, _ => False
def HS.fitsL : List HS → List HV → Prop
  | [], [] => True
  | s :: ss, h :: hs => s.fits h ∧ HS.fitsL ss hs
  | _, _ => False
def HRet (Φ : Fix) (μ : Nat → Nat × Nat) (sh : Sh) (hs : List HV) (x : Value) : Prop :=
  if sh.tup then ∃ vs : Array Value, x = .tuple vs ∧ HRepL Φ μ hs vs.toList else ∃ h, hs = [h] ∧ HRep Φ μ h x
def CtH (P : Program) (f : FuncId) (as : List HV) (bs : List AV) (sh : Sh) (R : AEnd → Prop) : Prop :=
  ∀ (Φ : Fix) (w : World) (μ : Nat → Nat × Nat) (vs : List Value), WR Φ w → (∀ k b, bs[k]? = some b → HOwn Φ w (μ k) b) →
    (∀ i j, i < bs.length → j < bs.length → i ≠ j → (μ i).1 ≠ (μ j).1) → HRepL Φ μ as vs →
    Calls P f vs.toArray w fun e w' => ∃ (Φ' : Fix) (μ' : Nat → Nat × Nat) (hs : List HV) (bs' : List AV) (x : Value), e = .returned x ∧ HS.fitsL sh.l hs ∧
      R (.ret (.tup ((hs.map HV.parts).flatten ++ bs'))) ∧ HRet Φ' μ' sh hs x ∧ bs'.length = sh.nb ∧ bs.length ≤ sh.nb ∧ (∀ k, k < bs.length → μ' k = μ k) ∧
      (∀ k, bs.length ≤ k → k < sh.nb → w.heap.size ≤ (μ' k).1) ∧ (∀ i j, i < sh.nb → j < sh.nb → i ≠ j → (μ' i).1 ≠ (μ' j).1) ∧
      (∀ k b, bs'[k]? = some b → HOwn Φ' w' (μ' k) b) ∧ WR Φ' w' ∧ Φ.le Φ' ∧ (∀ b, b < w.heap.size → (∀ k, k < bs.length → b ≠ (μ k).1) → Φ' b = Φ b) ∧
      w'.os = w.os ∧ w'.tape = w.tape ∧ w'.output = w.output ∧ w.heap.size ≤ w'.heap.size ∧
      ∀ b, b < w.heap.size → (∀ k, k < bs.length → b ≠ (μ k).1) → w'.heap[b]? = w.heap[b]?
def Sub (a b : AV) : Prop := ∀ Φ v, Rep Φ a v → Rep Φ b v
theorem Sub.nils_sl : Sub .nils (.sl 0 []) := fun Φ v h => by
  simp only [Rep] at h ⊢
  exact ⟨none, 0, h, Nat.le_refl _, fun _ => by simp, fun _ h => by cases h⟩
theorem Sub.c0_sl : Sub .c0 (.sl 0 []) := fun Φ v h => by
  simp only [Rep] at h ⊢
  obtain ⟨a, h1, h2⟩ := h
  exact ⟨a, 0, h1, Nat.le_refl _, fun _ => by simp_all, fun ad ha => ⟨h2 ad ha, .inl (by simp)⟩⟩
theorem Sub.emp_sl : Sub .emp (.sl 0 []) := fun Φ v h => by
  simp only [Rep] at h ⊢
  obtain ⟨a, c, h1, h2⟩ := h
  exact ⟨some a, c, h1, Nat.zero_le _, (fun h => by cases h), (fun ad ha => by cases ha; exact ⟨h2, .inl (by simp)⟩)⟩
theorem Rep.sl_zero {Φ : Fix} {v : Value} (h : Rep Φ (.sl 0 []) v) : Rep Φ .nils v ∨ Rep Φ .emp v := by
  simp only [Rep] at h ⊢
  obtain ⟨a, c, h1, _, h3, h4⟩ := h
  cases a with
  | none => exact .inl (by rw [h1, (h3 rfl).1])
  | some ad => exact .inr ⟨ad, c, h1, (h4 ad rfl).1⟩
def SubL : List AV → List AV → Prop
  | [], [] => True
  | a :: as, b :: bs => Sub a b ∧ SubL as bs
  | _, _ => False
theorem SubL.length : ∀ {as bs : List AV}, SubL as bs → as.length = bs.length
  | [], [], _ => rfl
  | _ :: _, _ :: _, h => congrArg (· + 1) (SubL.length h.2)
  | [], _ :: _, h => h.elim
  | _ :: _, [], h => h.elim
theorem RepL.sub {Φ : Fix} : ∀ {as bs : List AV}, SubL as bs → ∀ vs, RepL Φ as vs → RepL Φ bs vs
  | [], [], _, _, _ => by simp [RepL]
  | a :: as, b :: bs, h, vs, k => by
    cases vs with
    | nil => simp [RepL] at k
    | cons v vs =>
      simp only [RepL] at k ⊢
      exact ⟨h.1 Φ v k.1, RepL.sub h.2 vs k.2⟩
  | [], _ :: _, h, _, _ => h.elim
  | _ :: _, [], h, _, _ => h.elim
theorem Ct.sub {P : Program} {f : FuncId} {as bs : List AV} {R : AEnd → Prop} (h : Ct P f bs R) (hs : SubL as bs) : Ct P f as R :=
  fun Φ w vs hw hv => h Φ w vs hw ⟨by rw [hv.1, hs.length], RepL.sub hs vs hv.2⟩
end Go.SE
set_option autoImplicit false
namespace Go.SE
open Go
inductive CK where
  | int (k : IntKind)
  | bool
  | str
  deriving DecidableEq
inductive NK where
  | sl | pt | fn | mp | ifc
  deriving DecidableEq
inductive O where
  | bin (op : BinOp)
  | bb (neg : Bool)
  | un (op : UnOp)
  | cvt (k : IntKind)
  | eqv (neg : Bool) (ks : List CK)
  | isnil (nk : NK) (neg : Bool)
  | len
  | slen
  | cell (n i : Nat)
  | fld (i : Nat)
  | sub (off k : Nat)
  | aidx (n sz : Nat) (ag : Bool)
  | sidx
  | mkagg
  | mktup
  | mklst
  | mkifc (t : TypeId)
  | build (zero : List AV) (places : List (Nat × Nat))
  | eaddr (sz : Nat)
  | rld (ag : Bool) (sz : Nat)
  | roff (k : Nat)
  | ridx (n sz : Nat)
  | nilchk
  | lget (ag : Bool) (sz : Nat)
  | lset
  | lzero (bytes : Nat) (z : List AV)
  | lapp (sz bytes : Nat)
  | lsl (sz : Nat)
  | s2l (sz : Nat)
  | str2l
  | l2str
  | add64
  | sub64
  | lcpy (sz : Nat)
  | mksl (sz : Nat)
  | mkrp
  | chki
  | chkle
  | chkmk (bytes : Nat)
  | ofs (sz : Nat)
  | nsub
  | imin
  | slc (sz : Nat) (lo hi mx : Bool)
  | sls (lo hi : Bool)
  | sl2rp (n sz : Nat)
  | ext (i : Nat) (cell : Bool)
  | mx2
  | mn2
  | noroom
  | isifc
def ibin (op : BinOp) (k : IntKind) (a b : Int) : Option AV :=
  match op with
  | .add => some (.int k (k.wrap (a + b)))
  | .sub => some (.int k (k.wrap (a - b)))
  | .mul => some (.int k (k.wrap (a * b)))
  | .quo => if b = 0 then none else some (.int k (k.wrap (a.tdiv b)))
  | .rem => if b = 0 then none else some (.int k (a.tmod b))
  | .and => some (.int k (k.wrap (BitVec.ofInt k.bits a &&& BitVec.ofInt k.bits b).toNat))
  | .or => some (.int k (k.wrap (BitVec.ofInt k.bits a ||| BitVec.ofInt k.bits b).toNat))
  | .xor => some (.int k (k.wrap (BitVec.ofInt k.bits a ^^^ BitVec.ofInt k.bits b).toNat))
  | .andNot => some (.int k (k.wrap (BitVec.ofInt k.bits a &&& ~~~BitVec.ofInt k.bits b).toNat))
  | .eql => some (.bool (a == b))
  | .neq => some (.bool (a != b))
  | .lss => some (.bool (decide (a < b)))
  | .leq => some (.bool (decide (a ≤ b)))
  | .gtr => some (.bool (decide (a > b)))
  | .geq => some (.bool (decide (a ≥ b)))
  | .shl | .shr => none
def ishift (op : BinOp) (k : IntKind) (x y : Int) : Option AV :=
  if y < 0 then none else
  match op with
  | .shl => some (.int k (k.wrap (x * 2 ^ (min y.toNat k.bits))))
  | .shr => some (.int k (x.fdiv (2 ^ (min y.toNat k.bits))))
  | _ => none
def isShift : BinOp → Bool
  | .shl | .shr => true
  | _ => false
def sbin (op : BinOp) (x y : ByteArray) : Option AV :=
  match op with
  | .add => if ((x.size + y.size : Nat) : Int) > IntKind.i64.max then none else some (.str (x ++ y))
  | .eql => some (.bool (x.toList == y.toList))
  | .neq => some (.bool !(x.toList == y.toList))
  | .lss => some (.bool (Op.bytesLess x.toList y.toList))
  | .leq => some (.bool (Op.bytesLess x.toList y.toList || x.toList == y.toList))
  | .gtr => some (.bool !(Op.bytesLess x.toList y.toList || x.toList == y.toList))
  | .geq => some (.bool !(Op.bytesLess x.toList y.toList))
  | _ => none
def aBin (op : BinOp) : AV → AV → Option AV
  | .int k a, .int k' b => if isShift op then ishift op k a b else if k = k' then ibin op k a b else none
  | .str a, .str b => sbin op a b
  | _, _ => none
def aUn (op : UnOp) : AV → Option AV
  | .int k n => match op with
    | .neg => ibin .sub k 0 n
    | .xor => ibin .xor k (if k.signed then -1 else k.max) n
    | _ => none
  | .bool b => match op with
    | .not => some (.bool !b)
    | _ => none
  | _ => none
def eqCell : CK → AV → AV → Option Bool
  | .int k, .int j a, .int j' b => if j = k ∧ j' = k then some (a == b) else none
  | .bool, .bool a, .bool b => some (a == b)
  | .str, .str a, .str b => some (a == b)
  | _, _, _ => none
def eqCells : List CK → List AV → List AV → Option Bool
  | [], [], [] => some true
  | k :: ks, a :: as, b :: bs =>
    match eqCell k a b, eqCells ks as bs with
    | some x, some y => some (x && y)
    | _, _ => none
  | _, _, _ => none
def AV.cells : AV → List AV
  | .agg cs => cs
  | a => [a]
def putCells (cs : List AV) (off : Nat) (xs : List AV) : List AV := cs.take off ++ xs ++ cs.drop (off + xs.length)
def fillAV : List AV → List (Nat × Nat) → List AV → Option (List AV)
  | cs, [], [] => some cs
  | cs, (off, sz) :: ps, a :: as =>
    if a.cells.length = sz ∧ off + sz ≤ cs.length ∧ a.cells.all AV.isCell then fillAV (putCells cs off a.cells) ps as else none
  | _, _, _ => none
def AV.nat? : AV → Option Nat
  | .int .i64 n => if 0 ≤ n then some n.toNat else none
  | _ => none
def rdCells (ag : Bool) (sz : Nat) (cs : List AV) : Option AV :=
  if ag then (if sz ≤ cs.length then some (.agg (cs.take sz)) else none)
  else match cs with
    | c :: _ => if c.isCell then some c else none
    | [] => none
def repl (n : Nat) (z : List AV) : List AV := (List.replicate n z).flatten
def sliceCells (cs : List AV) (sz l h : Nat) : List AV := (cs.drop (l * sz)).take ((h - l) * sz)
def u8s (s : ByteArray) : List AV := s.data.toList.map fun b => AV.int .u8 b.toNat
def strOf : List AV → Option (List UInt8)
  | [] => some []
  | .int .u8 n :: cs => match strOf cs with
    | some l => some (UInt8.ofNat n.toNat :: l)
    | none => none
  | _ => none
def asSlice : AV → Option (Nat × List AV)
  | .sl n cs => some (n, cs)
  | .nils => some (0, [])
  | .c0 => some (0, [])
  | .emp => some (0, [])
  | _ => none
def num (n : Nat) : AV := .int .i64 n
def sliceAV (sz : Nat) (x : AV) (l h m : Nat) (full : Bool) : Option AV :=
  match asSlice x with
  | some (n, cs) =>
    if l ≤ h ∧ h ≤ m ∧ m ≤ n then
      some (if full && m == l then .c0 else .sl (h - l) (sliceCells cs sz l h))
    else none
  | none => none
def evalO (o : O) (xs : List AV) : Option AV :=
  match o, xs with
  | .bin op, [a, b] => aBin op a b
  | .bb neg, [.bool a, .bool b] => some (.bool (if neg then !(a == b) else a == b))
  | .un op, [a] => aUn op a
  | .cvt k, [.int _ n] => some (.int k (k.wrap n))
  | .eqv neg ks, [.agg a, .agg b] => (eqCells ks a b).map fun r => .bool (if neg then !r else r)
  | .isnil nk neg, [a] =>
    (match nk, a with
      | .sl, .nils => some true
      | .sl, .sl n _ => if 0 < n then some false else none
      | .sl, .emp => some false
      | .pt, .nilp => some true
      | .pt, .rp _ => some false
      | .fn, .nilf => some true
      | .fn, .fn _ _ => some false
      | .mp, .nilm => some true
      | .ifc, .nili => some true
      | .ifc, .ifc _ _ => some false
      | _, _ => none).map fun r => .bool (if neg then !r else r)
  | .len, [a] => (asSlice a).map fun p => num p.1
  | .slen, [.str s] => some (num s.size)
  | .cell n i, [.agg cs] => if cs.length = n then
      match cs[i]? with
      | some c => if c.isCell then some c else none
      | none => none
    else none
  | .fld i, [.agg cs] => match cs[i]? with
    | some c => if c.isCell then some c else none
    | none => none
  | .sub off k, [.agg cs] => if off + k ≤ cs.length then some (.agg ((cs.drop off).take k)) else none
  | .aidx n sz ag, [.agg cs, i] => match i with
    | .int _ i => if 0 ≤ i ∧ i < n then rdCells ag sz (cs.drop (i.toNat * sz)) else none
    | _ => none
  | .sidx, [.str s, .int _ i] => if 0 ≤ i then (s[i.toNat]?).map fun b => .int .u8 b.toNat else none
  | .mkagg, cs => if cs.all AV.isCell then some (.agg cs) else none
  | .mktup, cs => some (.tup cs)
  | .mklst, cs => if cs.all AV.isCell then some (.lst cs) else none
  | .mkifc t, [a] => some (.ifc t a)
  | .build z ps, as => (fillAV z ps as).map .agg
  | .eaddr sz, [x, .int _ i] => match asSlice x with
    | some (n, cs) => if 0 ≤ i ∧ i < n ∧ (i.toNat + 1) * sz ≤ cs.length then some (.rp (cs.drop (i.toNat * sz))) else none
    | none => none
  | .rld ag sz, [.rp cs] => rdCells ag sz cs
  | .roff k, [.rp cs] => if k < cs.length then some (.rp (cs.drop k)) else none
  | .ridx n sz, [.rp cs, .int _ i] => if 0 ≤ i ∧ i < n then some (.rp (cs.drop (i.toNat * sz))) else none
  | .nilchk, [a] => match a with
    | .rp cs => some (.rp cs)
    | .fn f cs => some (.fn f cs)
    | .ifc t v => some (.ifc t v)
    | _ => none
  | .lget ag sz, [.lst cs, o] => match o.nat? with
    | some o => rdCells ag sz (cs.drop o)
    | none => none
  | .lset, .lst cs :: o :: xs => match o.nat? with
    | some o => if o + xs.length ≤ cs.length ∧ xs.all AV.isCell then some (.lst (putCells cs o xs)) else none
    | none => none
  | .lzero bytes z, [n] => match n.nat? with
    | some n => if bytes * n ≤ 2 ^ 48 then some (.lst (repl n z)) else none
    | none => none
  | .lapp sz bytes, [.lst a, m, .lst b, k] => match m.nat?, k.nat? with
    | some m, some k => if m * sz ≤ a.length ∧ b.length = k * sz ∧ (m + k) * bytes ≤ 2 ^ 47 ∧ b.all AV.isCell then some (.lst (a.take (m * sz) ++ b)) else none
    | _, _ => none
  | .lsl sz, [.lst cs, off, n] => match off.nat?, n.nat? with
    | some off, some n => if off + n * sz ≤ cs.length then some (.lst ((cs.drop off).take (n * sz))) else none
    | _, _ => none
  | .s2l sz, [x] => match asSlice x with
    | some (n, cs) => if cs.length = n * sz then some (.lst cs) else none
    | none => none
  | .str2l, [.str s] => some (.lst (u8s s))
  | .add64, [.int .u64 x, .int .u64 y, .int .u64 c] =>
    if 0 ≤ x ∧ 0 ≤ y ∧ 0 ≤ c ∧ c ≤ 1 then some (.tup [.int .u64 ((x + y + c) % 18446744073709551616), .int .u64 ((x + y + c) / 18446744073709551616)]) else none
  | .sub64, [.int .u64 x, .int .u64 y, .int .u64 c] =>
    if 0 ≤ x ∧ 0 ≤ y ∧ y < 18446744073709551616 ∧ 0 ≤ c ∧ c ≤ 1 then some (.tup [.int .u64 ((x - y - c) % 18446744073709551616), .int .u64 (if x < y + c then 1 else 0)]) else none
  | .l2str, [.lst cs] => (strOf cs).map fun l => .str ⟨l.toArray⟩
  | .lcpy sz, [.lst d, off, .lst s, k] => match off.nat?, k.nat? with
    | some off, some k => if off + k * sz ≤ d.length ∧ k * sz ≤ s.length ∧ (s.take (k * sz)).all AV.isCell then some (.lst (putCells d off (s.take (k * sz)))) else none
    | _, _ => none
  | .mksl sz, [.lst cs, off, n] => match off.nat?, n.nat? with
    | some off, some n => if off + n * sz ≤ cs.length then some (.sl n ((cs.drop off).take (n * sz))) else none
    | _, _ => none
  | .mkrp, [.lst cs, off] => match off.nat? with
    | some off => some (.rp (cs.drop off))
    | none => none
  | .chki, [.int _ i, n] => match n.nat? with
    | some n => if 0 ≤ i ∧ i < n then some (.bool true) else none
    | none => none
  | .chkle, [.int _ i, .int _ j] => if 0 ≤ i ∧ i ≤ j then some (.bool true) else none
  | .chkmk bytes, [l, c] => match l.nat?, c.nat? with
    | some l, some c => if l ≤ c ∧ bytes * c ≤ 2 ^ 48 then some (.bool true) else none
    | _, _ => none
  | .ofs sz, [o, .int _ i] => match o.nat? with
    | some o => if 0 ≤ i then some (num (o + i.toNat * sz)) else none
    | none => none
  | .nsub, [.int _ a, .int _ b] => if 0 ≤ b ∧ b ≤ a then some (num (a.toNat - b.toNat)) else none
  | .imin, [a, b] => match a.nat?, b.nat? with
    | some a, some b => some (num (min a b))
    | _, _ => none
  | .slc sz lo hi mx, x :: bs => match asSlice x with
    | none => none
    | some (n, _) => match lo, hi, mx, bs with
      | false, false, false, [] => sliceAV sz x 0 n n false
      | true, false, false, [l] => match l with
        | .int _ l => if 0 ≤ l then sliceAV sz x l.toNat n n false else none
        | _ => none
      | false, true, false, [h] => match h with
        | .int _ h => if 0 ≤ h then sliceAV sz x 0 h.toNat h.toNat false else none
        | _ => none
      | true, true, false, [l, h] => match l, h with
        | .int _ l, .int _ h => if 0 ≤ l ∧ 0 ≤ h then sliceAV sz x l.toNat h.toNat h.toNat false else none
        | _, _ => none
      | false, true, true, [h, m] => match h, m with
        | .int _ h, .int _ m => if 0 ≤ h ∧ 0 ≤ m then sliceAV sz x 0 h.toNat m.toNat true else none
        | _, _ => none
      | true, true, true, [l, h, m] => match l, h, m with
        | .int _ l, .int _ h, .int _ m => if 0 ≤ l ∧ 0 ≤ h ∧ 0 ≤ m then sliceAV sz x l.toNat h.toNat m.toNat true else none
        | _, _, _ => none
      | _, _, _, _ => none
  | .sls lo hi, .str s :: bs => match lo, hi, bs with
    | false, false, [] => some (.str (s.extract 0 s.size))
    | true, false, [.int _ l] => if 0 ≤ l ∧ l ≤ s.size then some (.str (s.extract l.toNat s.size)) else none
    | false, true, [.int _ h] => if 0 ≤ h ∧ h ≤ s.size then some (.str (s.extract 0 h.toNat)) else none
    | true, true, [.int _ l, .int _ h] => if 0 ≤ l ∧ l ≤ h ∧ h ≤ s.size then some (.str (s.extract l.toNat h.toNat)) else none
    | _, _, _ => none
  | .sl2rp n sz, [x] => match asSlice x with
    | some (m, cs) => if 0 < n ∧ n ≤ m ∧ n * sz ≤ cs.length then some (.rp cs) else none
    | none => none
  | .ext i cell, [.tup vs] => match vs[i]? with
    | some v => if cell && !v.isCell then none else some v
    | none => none
  | .isifc, [a] => match a with
    | .ifc t v => some (.ifc t v)
    | _ => none
  | .noroom, [a] => match a with
    | .nils => some .nils
    | .c0 => some .c0
    | _ => none
  | .mx2, [.int k x, .int k' y] => if k = k' then some (.int k (if y > x then y else x)) else none
  | .mn2, [.int k x, .int k' y] => if k = k' then some (.int k (if y < x then y else x)) else none
  | _, _ => none
def O.cellOut : O → Bool
  | .mkagg | .mktup | .mklst | .add64 | .sub64 | .sub _ _ | .build _ _ | .lset | .lzero _ _ | .lapp _ _ | .lsl _ | .s2l _ | .str2l | .lcpy _ => false
  | .aidx _ _ ag | .rld ag _ | .lget ag _ => !ag
  | .ext _ c => c
  | _ => true
inductive Atom where
  | v (i : Nat)
  | c (a : AV)
def Atom.den (σ : List AV) : Atom → AV
  | .v i => σ.getD i default
  | .c a => a
def Atom.lt (n : Nat) : Atom → Bool
  | .v i => Nat.blt i n
  | .c _ => true
inductive SV where
  | undef
  | atm (a : Atom)
  | ptr (id : Nat) (off : Atom)
  | osl (id sz : Nat) (off len cap : Atom)
  | agg (l : List SV)
  | tup (l : List SV)
  | fn (f : Fn) (l : List SV)
  | ifc (t : TypeId) (s : SV)
  deriving Inhabited
inductive Cells where
  | fix (l : List SV)
  | dyn (a : Atom)
structure SB where
  cells : Cells
  ro : Bool
mutual
def SV.refs : SV → List Nat
  | .ptr id _ | .osl id _ _ _ _ => [id]
  | .agg l | .tup l | .fn _ l => SV.refsL l
  | .ifc _ s => SV.refs s
  | _ => []
def SV.refsL : List SV → List Nat
  | [] => []
  | s :: l => SV.refs s ++ SV.refsL l
end
def Cells.refs : Cells → List Nat
  | .fix l => SV.refsL l
  | .dyn _ => []
mutual
def AV.beq : AV → AV → Bool
  | .int k n, .int k' n' => decide (k = k') && decide (n = n')
  | .bool x, .bool y => x == y
  | .str s, .str s' => decide (s.data.toList = s'.data.toList)
  | .agg l, .agg l' | .tup l, .tup l' | .rp l, .rp l' | .lst l, .lst l' => AV.beqL l l'
  | .sl n l, .sl n' l' => Nat.beq n n' && AV.beqL l l'
  | .nils, .nils | .c0, .c0 | .emp, .emp | .nilp, .nilp | .nilf, .nilf | .nili, .nili | .nilm, .nilm => true
  | .fn f l, .fn f' l' => decide (f = f') && AV.beqL l l'
  | .ifc t v, .ifc t' v' => Nat.beq t t' && AV.beq v v'
  | _, _ => false
def AV.beqL : List AV → List AV → Bool
  | [], [] => true
  | a :: l, b :: l' => AV.beq a b && AV.beqL l l'
  | _, _ => false
end
abbrev Knowns := List (FuncId × List AV × AV)
def knownOf (f : FuncId) (as : List AV) : Knowns → Option AV
  | [] => none
  | (g, bs, v) :: l => if Nat.beq g f && AV.beqL bs as then some v else knownOf f as l
inductive HA where
  | val (a : Atom)
  | osl (k sz : Nat) (off len cap : Atom)
  | ptr (k : Nat) (off : Atom)
def HA.den (σ : List AV) : HA → HV
  | .val a => .val (a.den σ)
  | .osl k sz off len cap => .osl k sz (off.den σ) (len.den σ) (cap.den σ)
  | .ptr k off => .ptr k (off.den σ)
def HA.lt (n : Nat) : HA → Bool
  | .val a => a.lt n
  | .osl _ _ off len cap => off.lt n && len.lt n && cap.lt n
  | .ptr _ off => off.lt n
inductive Node where
  | op (o : O) (args : List Atom)
  | call (f : FuncId) (args : List Atom) (cell : Bool)
  | callH (f : FuncId) (args : List HA) (bs : List Atom) (sh : Sh)
  | known (f : FuncId) (args : List AV) (v : AV)
def Node.kind : Node → Bool
  | .op o _ => o.cellOut
  | .call _ _ c => c
  | .callH _ _ _ _ => false
  | .known _ _ _ => false
structure Em where
  n0 : Nat
  k0 : List Bool
  nodes : List Node
def Em.n (e : Em) : Nat := e.n0 + e.nodes.length
def Em.kind (e : Em) (i : Nat) : Bool :=
  if Nat.blt i e.n0 then e.k0.getD i false
  else match e.nodes[e.nodes.length - 1 - (i - e.n0)]? with
    | some nd => Nat.blt i e.n && nd.kind
    | none => false
def EM (α : Type) := Em → Option (α × Em)
def EM.bind {α β : Type} (x : EM α) (f : α → EM β) : EM β := fun e =>
  match x e with
  | some (a, e') => f a e'
  | none => none
instance : Monad EM where
  pure a := fun e => some (a, e)
  bind := EM.bind
def fail {α : Type} : EM α := fun _ => none
def lift {α : Type} (x : Option α) : EM α := fun e => match x with
  | some a => some (a, e)
  | none => none
def need (b : Bool) : EM Unit := fun e => if b then some ((), e) else none
def constArgs : List Atom → Option (List AV)
  | [] => some []
  | .c a :: l => match constArgs l with
    | some r => some (a :: r)
    | none => none
  | .v _ :: _ => none
def emit (o : O) (args : List Atom) : EM Atom := fun e =>
  if args.all (Atom.lt e.n) then
    match constArgs args with
    | some vs => match evalO o vs with
      | some v => some (.c v, e)
      | none => none
    | none => some (.v e.n, { e with nodes := .op o args :: e.nodes })
  else none
def emitCall (K : Knowns) (f : FuncId) (args : List Atom) (cell : Bool) : EM Atom := fun e =>
  if args.all (Atom.lt e.n) then
    match (constArgs args).bind fun vs => (knownOf f vs K).map fun v => (vs, v) with
    | some (vs, v) => if !cell || v.isCell then some (.c v, { e with nodes := .known f vs v :: e.nodes }) else none
    | none => some (.v e.n, { e with nodes := .call f args cell :: e.nodes })
  else none
def cellAtom (a : Atom) : EM Bool := fun e => match a with
  | .v i => some (e.kind i, e)
  | .c x => some (x.isCell, e)
def emitCallH (f : FuncId) (args : List HA) (bs : List Atom) (sh : Sh) : EM Atom := fun e =>
  if args.all (HA.lt e.n) && bs.all (Atom.lt e.n) then some (.v e.n, { e with nodes := .callH f args bs sh :: e.nodes }) else none
def asCell (s : SV) : EM SV :=
  match s with
  | .atm a => do need (← cellAtom a); pure s
  | .ptr .. | .osl .. | .fn .. | .ifc .. => pure s
  | _ => fail
def cellAtm (s : SV) : EM Atom :=
  match s with
  | .atm a => do need (← cellAtom a); pure a
  | _ => fail
def mapEM {α β : Type} (f : α → EM β) : List α → EM (List β)
  | [] => pure []
  | a :: l => do
    let b ← f a
    let bs ← mapEM f l
    pure (b :: bs)
def explode (ag : Bool) (n : Nat) (s : SV) : EM (List SV) :=
  if ag then
    match s with
    | .agg l => do
      need (l.length == n)
      mapEM asCell l
    | .atm (.c (.agg cs)) => do
      need (cs.length == n && cs.all AV.isCell)
      pure (cs.map fun c => .atm (.c c))
    | .atm a => do
      need (Nat.blt 0 n)
      mapEM (fun i => do let x ← emit (.cell n i) [a]; pure (.atm x)) (List.range n)
    | _ => fail
  else do
    need (n == 1)
    let x ← asCell s
    pure [x]
def atomOf (s : SV) : EM Atom :=
  match s with
  | .atm a => pure a
  | .agg l => do
    let as ← mapEM cellAtm l
    emit .mkagg as
  | _ => fail
def zeroAtom : Atom := .c (num 0)
def aggT (P : Program) (t : TypeId) : Option Bool :=
  match P.underlying t with
  | some (.struct _) => some true
  | some (.array _ _) => some true
  | some _ => some false
  | none => none
def sizeT (P : Program) (t : TypeId) : Option Nat := (P.info? t).map (·.size)
def bytesT (P : Program) (t : TypeId) : Option Nat := (P.info? t).map (·.bytes)
def ofVal1 : Value → Option AV
  | .int k n => some (.int k n)
  | .bool b => some (.bool b)
  | .string s => some (.str s)
  | .pointer none => some .nilp
  | .slice none 0 0 => some .nils
  | .nilFunc => some .nilf
  | .nilIface => some .nili
  | .map none => some .nilm
  | _ => none
def ofVals : List Value → Option (List AV)
  | [] => some []
  | v :: vs => match ofVal1 v, ofVals vs with
    | some a, some as => some (a :: as)
    | _, _ => none
def ofVal : Value → Option AV
  | .agg vs => (ofVals vs.toList).map .agg
  | v => ofVal1 v
def zeroT (P : Program) (t : TypeId) : Option (List AV) :=
  match P.info? t with
  | some i => match i.zero with
    | some z => ofVals z.cells.toList
    | none => none
  | none => none
def elemT (P : Program) (t : TypeId) : Option TypeId :=
  match P.underlying t with
  | some (.slice e) => some e
  | _ => none
end Go.SE
set_option autoImplicit false
namespace Go.SE
open Go
structure Eff where
  res : SV
  rd : List Nat := []
  wr : List (Nat × Option SB) := []
  new : List (Option SB) := []
abbrev Heap := List (Option SB)
def blk (heap : Heap) (id : Nat) : EM SB := lift (heap.getD id none)
def natLit : Atom → Option Nat
  | .c a => a.nat?
  | _ => none
def smallLit (a : Atom) : Option Nat := match natLit a with
  | some n => if Nat.ble n 64 then some n else none
  | none => none
def lstOf (sb : SB) : EM Atom :=
  match sb.cells with
  | .dyn a => pure a
  | .fix l => do
    let as ← mapEM cellAtm l
    emit .mklst as
def loadFrom (sb : SB) (ag : Bool) (sz : Nat) (off : Atom) : EM SV := do
  need (Nat.blt 0 sz)
  match sb.cells, natLit off with
  | .fix l, some o =>
    if ag then do
      need (Nat.ble (o + sz) l.length)
      pure (.agg ((l.drop o).take sz))
    else lift l[o]?
  | _, _ => do
    let a ← lstOf sb
    let x ← emit (.lget ag sz) [a, off]
    pure (.atm x)
def storeTo (sb : SB) (off : Atom) (xs : List SV) : EM Cells :=
  match sb.cells, natLit off with
  | .fix l, some o => do
    need (Nat.ble (o + xs.length) l.length)
    pure (.fix (l.take o ++ xs ++ l.drop (o + xs.length)))
  | _, _ => do
    let a ← lstOf sb
    let as ← mapEM cellAtm xs
    let x ← emit .lset (a :: off :: as)
    pure (.dyn x)
def freeze (heap : Heap) : Nat → SV → EM (Atom × List Nat)
  | 0, _ => fail
  | n + 1, s => match s with
    | .atm a => pure (a, [])
    | .osl id sz off len _ => do
      let sb ← blk heap id
      match sb.cells with
      | .dyn a => do
        let x ← emit (.mksl sz) [a, off, len]
        pure (x, [id])
      | .fix l => do
        let ps ← mapEM (freeze heap n) l
        let a ← emit .mklst (ps.map (·.1))
        let x ← emit (.mksl sz) [a, off, len]
        pure (x, id :: (ps.map (·.2)).flatten)
    | .ptr id off => do
      let sb ← blk heap id
      match sb.cells with
      | .dyn a => do
        let x ← emit .mkrp [a, off]
        pure (x, [id])
      | .fix l => do
        let ps ← mapEM (freeze heap n) l
        let a ← emit .mklst (ps.map (·.1))
        let x ← emit .mkrp [a, off]
        pure (x, id :: (ps.map (·.2)).flatten)
    | .agg l => do
      let ps ← mapEM (freeze heap n) l
      let a ← emit .mkagg (ps.map (·.1))
      pure (a, (ps.map (·.2)).flatten)
    | .tup l => do
      let ps ← mapEM (freeze heap n) l
      let a ← emit .mktup (ps.map (·.1))
      pure (a, (ps.map (·.2)).flatten)
    | .ifc t s => do
      let p ← freeze heap n s
      let a ← emit (.mkifc t) [p.1]
      pure (a, p.2)
    | _ => fail
def frozen (heap : Heap) (ids : List Nat) : List (Nat × Option SB) :=
  ids.map fun id => (id, (heap.getD id none).map fun sb => { sb with ro := true })
def opv (tmps : List SV) : Operand → Option SV
  | .tmp t => some (tmps.getD t .undef)
  | .const v => (ofVal v).map fun a => .atm (.c a)
  | .func f => some (.atm (.c (.fn (.func f) [])))
  | .global _ => none
def ckFields (P : Program) (ck : TypeId → Option (List CK)) : List Field → Nat → Option (List CK)
  | [], _ => some []
  | f :: fs, off => match ck f.type with
    | some k => if f.offset == off && f.name != "_" && sizeT P f.type == some k.length then (ckFields P ck fs (off + k.length)).map (k ++ ·) else none
    | none => none
def ckT (P : Program) : Nat → TypeId → Option (List CK)
  | 0, _ => none
  | d + 1, t => match P.underlying t with
    | some (.int k) => some [.int k]
    | some .bool => some [.bool]
    | some .string => some [.str]
    | some (.array n e) => match ckT P d e with
      | some ks => if sizeT P e == some ks.length then some (List.replicate n ks).flatten else none
      | none => none
    | some (.struct fs) => if P.stoodInHeld t then none else ckFields P (ckT P d) fs.toList 0
    | _ => none
def nkOf (P : Program) (t : TypeId) : Option NK :=
  match P.underlying t with
  | some (.slice _) => some .sl
  | some (.pointer _) => some .pt
  | some (.func _ _ _) => some .fn
  | some (.map _ _) => some .mp
  | some (.interface _) => some .ifc
  | _ => none
def isNilOf : NK → Operand → Bool
  | .sl, .const (.slice none _ _) => true
  | .pt, .const (.pointer none) => true
  | .fn, .const .nilFunc => true
  | .mp, .const (.map none) => true
  | .ifc, .const .nilIface => true
  | _, _ => false
def notNilSV : NK → SV → Bool
  | .sl, .osl .. => true
  | .pt, .ptr .. => true
  | .fn, .fn .. => true
  | .ifc, .ifc .. => true
  | _, _ => false
def isNeq (op : BinOp) : Bool := match op with | .neq => true | _ => false
def isEqOp (op : BinOp) : Bool := match op with | .eql | .neq => true | _ => false
def binStep (P : Program) (tmps : List SV) (op : BinOp) (t : TypeId) (x y : Operand) : EM Eff := do
  let a ← lift (opv tmps x)
  let b ← lift (opv tmps y)
  if isEqOp op then
    match P.underlying t with
    | some (.int _) | some .string => do
      let a ← atomOf a
      let b ← atomOf b
      let r ← emit (.bin op) [a, b]
      pure { res := .atm r }
    | some .bool => do
      let a ← atomOf a
      let b ← atomOf b
      let r ← emit (.bb (isNeq op)) [a, b]
      pure { res := .atm r }
    | some (.struct _) | some (.array _ _) => do
      let ks ← lift (ckT P 64 t)
      need (!P.eqGuardType P.depth t)
      let a ← atomOf a
      let b ← atomOf b
      let r ← emit (.eqv (isNeq op) ks) [a, b]
      pure { res := .atm r }
    | _ => do
      let nk ← lift (nkOf P t)
      need (isNilOf nk y)
      if notNilSV nk a then pure { res := .atm (.c (.bool (isNeq op))) }
      else do
        let a ← atomOf a
        let r ← emit (.isnil nk (isNeq op)) [a]
        pure { res := .atm r }
  else do
    let a ← atomOf a
    let b ← atomOf b
    let r ← emit (.bin op) [a, b]
    pure { res := .atm r }
def placeOf (P : Program) (t : TypeId) : Option (Nat → Option (Nat × Nat)) :=
  match P.underlying t with
  | some (.struct fs) => match fs.toList.mapM (fun f => (P.info? f.type).map fun i => (f.offset, i.size)) with
    | some places => some fun i => places.toArray[i]?
    | none => none
  | some (.array _ e) => match P.info? e with
    | some ie => some fun i => some (i * ie.size, ie.size)
    | none => none
  | _ => none
def mapPl (pl : Nat → Option (Nat × Nat)) : List Nat → Option (List (Nat × Nat))
  | [] => some []
  | i :: is => match pl i, mapPl pl is with
    | some p, some ps => some (p :: ps)
    | _, _ => none
def allAtm : List SV → Option (List Atom)
  | [] => some []
  | .atm a :: l => match allAtm l with
    | some as => some (a :: as)
    | none => none
  | _ :: _ => none
def fillSV : List SV → List (Nat × List SV) → Option (List SV)
  | cs, [] => some cs
  | cs, (off, xs) :: ps =>
    if off + xs.length ≤ cs.length then fillSV (cs.take off ++ xs ++ cs.drop (off + xs.length)) ps else none
def sureCell (s : SV) : EM Bool :=
  match s with
  | .atm a => cellAtom a
  | .ptr .. | .osl .. | .fn .. | .ifc .. => pure true
  | _ => pure false
def partCells (sz : Nat) (s : SV) : EM (List SV) := do
  let b ← sureCell s
  explode (!b) sz s
def mapPlaces : List (Nat × Nat) → List SV → EM (List (Nat × List SV))
  | [], [] => pure []
  | (off, sz) :: ps, s :: ss => do
    let l ← partCells sz s
    let r ← mapPlaces ps ss
    pure ((off, l) :: r)
  | _, _ => fail
def cellT (P : Program) (t : TypeId) : Bool :=
  match P.underlying t with
  | some (.struct _) | some (.array _ _) | some (.tuple _) | none => false
  | some _ => true
def buildStep (P : Program) (tmps : List SV) (t : TypeId) (parts : List (Nat × Operand)) : EM Eff := do
  let z ← lift (zeroT P t)
  let ss ← lift ((parts.map (·.2)).mapM (opv tmps))
  let pl ← lift (placeOf P t)
  let ps ← lift (mapPl pl (parts.map (·.1)))
  match allAtm ss with
  | some as => do
    let r ← emit (.build z ps) as
    pure { res := .atm r }
  | none => do
    let xs ← mapPlaces ps ss
    let cs ← lift (fillSV (z.map fun a => .atm (.c a)) xs)
    pure { res := .agg cs }
def buildSliceStep (P : Program) (heap : Heap) (tmps : List SV) (t : TypeId) (len : Nat) (parts : List (Nat × Operand)) : EM Eff := do
  let e ← lift (elemT P t)
  let sz ← lift (sizeT P e)
  let z ← lift (if len * sz = 0 then some [] else zeroT P e)
  need (Nat.ble (len * sz) (2 ^ 24) && (len * sz == 0 || z.length == sz))
  let ss ← lift ((parts.map (·.2)).mapM (opv tmps))
  let xs ← mapPlaces (parts.map fun p => (p.1 * sz, sz)) ss
  let cs ← lift (fillSV ((List.replicate len (z.map fun a => SV.atm (.c a))).flatten) xs)
  pure { res := .osl heap.length sz zeroAtom (.c (num len)) (.c (num len)), new := [some ⟨.fix cs, false⟩] }
def makeStep (P : Program) (heap : Heap) (tmps : List SV) (t : TypeId) (l c : Operand) : EM Eff := do
  let e ← lift (elemT P t)
  let sz ← lift (sizeT P e)
  let bytes ← lift (bytesT P e)
  let z ← lift (zeroT P e)
  need (z.length == sz)
  need (Nat.blt 0 bytes && Nat.blt 0 sz)
  let l ← atomOf (← lift (opv tmps l))
  let c ← atomOf (← lift (opv tmps c))
  let _ ← emit (.chkmk bytes) [l, c]
  match smallLit c with
  | some n => pure { res := .osl heap.length sz zeroAtom l c, new := [some ⟨.fix ((List.replicate n (z.map fun a => SV.atm (.c a))).flatten), false⟩] }
  | none => do
    let x ← emit (.lzero bytes z) [c]
    pure { res := .osl heap.length sz zeroAtom l c, new := [some ⟨.dyn x, false⟩] }
def newsOf (heap : Heap) (sz : Nat) (s : SV) : EM (Atom × Atom × List Nat) :=
  match s with
  | .osl id _ off len _ => do
    let sb ← blk heap id
    let a ← lstOf sb
    let x ← emit (.lsl sz) [a, off, len]
    pure (x, len, [id])
  | .atm a => do
    let n ← emit .len [a]
    let x ← emit (.s2l sz) [a]
    pure (x, n, [])
  | _ => fail
def newsStr (s : SV) : EM (Atom × Atom × List Nat) :=
  match s with
  | .atm a => do
    let n ← emit .slen [a]
    let x ← emit .str2l [a]
    pure (x, n, [])
  | _ => fail
def newsZero (bytes : Nat) (z : List AV) (s : SV) : EM (Atom × Atom × List Nat) :=
  match s with
  | .atm a => do
    let x ← emit (.lzero bytes z) [a]
    pure (x, a, [])
  | _ => fail
def isStrT (P : Program) (t : TypeId) : Bool := match P.underlying t with | some .string => true | _ => false
def isSliceT (P : Program) (t : TypeId) : Bool := match P.underlying t with | some (.slice _) => true | _ => false
def isIntT (P : Program) (t : TypeId) : Bool := match P.underlying t with | some (.int _) => true | _ => false
def newsT (P : Program) (heap : Heap) (u : TypeId) (sz bytes : Nat) (z : List AV) (x : SV) : EM (Atom × Atom × List Nat) :=
  if isStrT P u then newsStr x else if isSliceT P u then newsOf heap sz x else if isIntT P u then newsZero bytes z x else fail
def appendStep (P : Program) (heap : Heap) (t u : TypeId) (s x : SV) : EM Eff := do
  let e ← lift (elemT P t)
  let sz ← lift (sizeT P e)
  let bytes ← lift (bytesT P e)
  let z ← lift (zeroT P e)
  need (z.length == sz && Nat.blt 0 sz && Nat.blt 0 bytes && (!isStrT P u || sz == 1))
  let (b, k, rd) ← newsT P heap u sz bytes z x
  match s with
  | .osl id sz' off len _ => do
    let sb ← blk heap id
    need (!sb.ro && sz' == sz && natLit off == some 0)
    let a ← lstOf sb
    let y ← emit (.lapp sz bytes) [a, len, b, k]
    let n ← emit (.ofs 1) [len, k]
    pure { res := .osl heap.length sz zeroAtom n n, rd := id :: rd, wr := [(id, none)], new := [some ⟨.dyn y, false⟩] }
  | .atm a => do
    -- nothing is there, and what is appended is not nothing: the caller has seen to that
    let _ ← emit .noroom [a]
    if natLit k == some 0 then pure { res := .atm a, rd := rd } else
    let y ← emit (.lapp sz bytes) [.c (.lst []), zeroAtom, b, k]
    let _ ← emit .chki [zeroAtom, k]
    pure { res := .osl heap.length sz zeroAtom k k, rd := rd, new := [some ⟨.dyn y, false⟩] }
  | _ => fail
def copyStep (P : Program) (heap : Heap) (t u : TypeId) (d x : SV) : EM Eff := do
  let e ← lift (elemT P t)
  let sz ← lift (sizeT P e)
  need (Nat.blt 0 sz && (!isStrT P u || sz == 1))
  let (b, k, rd) ← (if isStrT P u then newsStr x else if isSliceT P u then newsOf heap sz x else fail)
  match d with
  | .osl id sz' off len _ => do
    let sb ← blk heap id
    need (!sb.ro && sz' == sz)
    let a ← lstOf sb
    let n ← emit .imin [k, len]
    let y ← emit (.lcpy sz) [a, off, b, n]
    pure { res := .atm n, rd := id :: rd, wr := [(id, some ⟨.dyn y, false⟩)] }
  | _ => fail
def optAtom (tmps : List SV) : Option Operand → EM (List Atom)
  | none => pure []
  | some x => do
    let a ← atomOf (← lift (opv tmps x))
    pure [a]
def bounds (lo hi mx : List Atom) (len cap : Atom) : EM (Atom × Atom × Atom) := do
  let m := mx.headD cap
  let h := hi.headD len
  let l := lo.headD zeroAtom
  let _ ← emit .chkle [zeroAtom, l]
  let _ ← emit .chkle [l, h]
  let _ ← emit .chkle [h, m]
  let _ ← emit .chkle [m, cap]
  pure (l, h, m)
def arrayT (P : Program) (t : TypeId) : Option (Nat × TypeId) :=
  match P.underlying t with
  | some (.array n e) => some (n, e)
  | _ => none
def spans (sb : SB) (sz : Nat) (off : Atom) (n : Nat) : EM Unit :=
  match sb.cells, natLit off with
  | .fix l, some o => need (Nat.ble (o + n * sz) l.length)
  | _, _ => do
    let a ← lstOf sb
    let _ ← emit (.lsl sz) [a, off, .c (num n)]
    pure ()
def sliceOwn (id sz : Nat) (off l h m : Atom) : EM SV := do
  let o ← emit (.ofs sz) [off, l]
  let n ← emit .nsub [h, l]
  let k ← emit .nsub [m, l]
  pure (.osl id sz o n k)
def sliceStep (P : Program) (heap : Heap) (tmps : List SV) (t : TypeId) (x : Operand) (lo hi mx : Option Operand) : EM Eff := do
  let s ← lift (opv tmps x)
  let lo' ← optAtom tmps lo
  let hi' ← optAtom tmps hi
  let mx' ← optAtom tmps mx
  need (mx.isNone || hi.isSome)
  match P.underlying t with
  | some (.array n e) => do
    let sz ← lift (sizeT P e)
    need (Nat.blt 0 sz)
    match s with
    | .ptr id off => do
      let sb ← blk heap id
      let _ ← spans sb sz off n
      let (l, h, m) ← bounds lo' hi' mx' (.c (num n)) (.c (num n))
      let r ← sliceOwn id sz off l h m
      pure { res := r, rd := [id] }
    | _ => fail
  | some (.slice e) => do
    let sz ← lift (sizeT P e)
    need (Nat.blt 0 sz)
    match s with
    | .osl id sz' off len cap => do
      need (sz' == sz)
      let (l, h, m) ← bounds lo' hi' mx' len cap
      let r ← sliceOwn id sz off l h m
      pure { res := r }
    | .atm a => do
      let r ← emit (.slc sz lo.isSome hi.isSome mx.isSome) (a :: lo' ++ hi' ++ mx')
      pure { res := .atm r }
    | _ => fail
  | some .string => do
    need mx.isNone
    match s with
    | .atm a => do
      let r ← emit (.sls lo.isSome hi.isSome) (a :: lo' ++ hi')
      pure { res := .atm r }
    | _ => fail
  | _ => fail
def indexAddrStep (P : Program) (tmps : List SV) (t : TypeId) (x ix : Operand) : EM Eff := do
  let s ← lift (opv tmps x)
  let i ← atomOf (← lift (opv tmps ix))
  match P.underlying t with
  | some (.array n e) => do
    let sz ← lift (sizeT P e)
    match s with
    | .ptr id off => do
      let _ ← emit .chki [i, .c (num n)]
      let o ← emit (.ofs sz) [off, i]
      pure { res := .ptr id o }
    | .atm a => do
      let r ← emit (.ridx n sz) [a, i]
      pure { res := .atm r }
    | _ => fail
  | some (.slice e) => do
    let sz ← lift (sizeT P e)
    match s with
    | .osl id sz' off len _ => do
      need (sz' == sz)
      let _ ← emit .chki [i, len]
      let o ← emit (.ofs sz) [off, i]
      pure { res := .ptr id o }
    | .atm a => do
      need (Nat.blt 0 sz)
      let r ← emit (.eaddr sz) [a, i]
      pure { res := .atm r }
    | _ => fail
  | _ => fail
def fieldOf (P : Program) (t : TypeId) (f : Nat) : Option Field :=
  match P.underlying t with
  | some (.struct fs) => fs[f]?
  | _ => none
def fieldStep (P : Program) (tmps : List SV) (t : TypeId) (x : Operand) (f : Nat) : EM Eff := do
  let s ← lift (opv tmps x)
  let fd ← lift (fieldOf P t f)
  let ag ← lift (aggT P fd.type)
  let sz ← lift (sizeT P fd.type)
  match s with
  | .agg l =>
    if ag then do
      need (Nat.ble (fd.offset + sz) l.length)
      pure { res := .agg ((l.drop fd.offset).take sz) }
    else do
      let r ← lift l[fd.offset]?
      pure { res := r }
  | .atm (.c (.agg cs)) =>
    if ag then do
      need (Nat.ble (fd.offset + sz) cs.length)
      pure { res := .atm (.c (.agg ((cs.drop fd.offset).take sz))) }
    else do
      let r ← lift cs[fd.offset]?
      need r.isCell
      pure { res := .atm (.c r) }
  | .atm a => do
    let r ← emit (if ag then .sub fd.offset sz else .fld fd.offset) [a]
    pure { res := .atm r }
  | _ => fail
end Go.SE
set_option autoImplicit false
namespace Go.SE
open Go
def convertStep (P : Program) (heap : Heap) (tmps : List SV) (src dst : TypeId) (x : Operand) : EM Eff := do
  let s ← lift (opv tmps x)
  match P.underlying src, P.underlying dst with
  | some _, some (.int k) => do
    let a ← atomOf s
    let r ← emit (.cvt k) [a]
    pure { res := .atm r }
  | some .string, some .string => do
    let a ← atomOf s
    let _ ← emit .str2l [a]
    pure { res := .atm a }
  | some (.slice e), some .string => do
    need (match P.underlying e with | some (.int .u8) => true | _ => false)
    let (b, _, rd) ← newsOf heap 1 s
    let r ← emit .l2str [b]
    pure { res := .atm r, rd := rd }
  | some .string, some (.slice e) => do
    need (match P.underlying e with | some (.int .u8) => true | _ => false)
    let a ← atomOf s
    let b ← emit .str2l [a]
    let n ← emit .slen [a]
    pure { res := .osl heap.length 1 zeroAtom n n, new := [some ⟨.dyn b, false⟩] }
  | _, _ => fail
def callTarget (tmps : List SV) (o : Oper) : Option (FuncId × List SV) :=
  match o.op with
  | .call c => match c.callee with
    | .value f => match opv tmps f, c.args.toList.mapM (opv tmps) with
      | some (.atm (.c (.fn (.func n) cs))), some as => some (n, as ++ cs.map fun x => .atm (.c x))
      | some (.fn (.func n) l), some as => some (n, as ++ l)
      | _, _ => none
    | _ => none
  | _ => none
def enterable (P : Program) (f : FuncId) : Bool :=
  match P.funcs[f]? with
  | some fn => fn.body.isSome && !(fn.name == "runtime.NumGoroutine")
  | none => false
def externOp (P : Program) (f : FuncId) : Option O :=
  match P.funcs[f]? with
  | some fn => if fn.body.isNone && fn.origin == "" then
      if fn.name == "math/bits.Add64" then some .add64 else if fn.name == "math/bits.Sub64" then some .sub64 else none
    else none
  | none => none
def externStep (x : O) (args : List SV) : EM Eff :=
  match args with
  | [s0, s1, s2] => do
    let a ← atomOf s0
    let b ← atomOf s1
    let c ← atomOf s2
    let r ← emit x [a, b, c]
    pure { res := .atm r }
  | _ => fail
def unfrozen (heap : Heap) (ids : List Nat) : List Nat := ids.filter fun id => match heap.getD id none with
  | some sb => !sb.ro
  | none => false
def callStep (P : Program) (K : Knowns) (heap : Heap) (o : Oper) (f : FuncId) (args : List SV) : EM Eff := do
  need (enterable P f)
  let ps ← mapEM (freeze heap 8) args
  let ids := (ps.map (·.2)).flatten
  let r ← emitCall K f (ps.map (·.1)) (cellT P o.type)
  pure { res := .atm r, rd := ids, wr := frozen heap (unfrozen heap ids) }
def hArgs (heap : Heap) : List Bool → List SV → Nat → EM (List HA × List Nat × List Nat)
  | [], [], _ => pure ([], [], [])
  | fl :: fls, s :: ss, k =>
    if fl then
      match s with
      | .osl id sz off len cap => do
        let r ← hArgs heap fls ss (k + 1)
        pure (.osl k sz off len cap :: r.1, id :: r.2.1, r.2.2)
      | .ptr id off => do
        let r ← hArgs heap fls ss (k + 1)
        pure (.ptr k off :: r.1, id :: r.2.1, r.2.2)
      | _ => fail
    else do
      let p ← freeze heap 8 s
      let r ← hArgs heap fls ss k
      pure (.val p.1 :: r.1, r.2.1, p.2 ++ r.2.2)
  | _, _, _ => fail
def distinct : List Nat → Bool
  | [] => true
  | i :: l => (l.all fun j => !Nat.beq i j) && distinct l
def ownLst (heap : Heap) (id : Nat) : EM Atom := do
  let sb ← blk heap id
  need (!sb.ro)
  lstOf sb
def partsH (ids : List Nat) (x : Atom) : List HS → Nat → EM (List SV × Nat)
  | [], n => pure ([], n)
  | .val c :: l, n => do
    let a ← emit (.ext n c) [x]
    let r ← partsH ids x l (n + 1)
    pure (.atm a :: r.1, r.2)
  | .osl k sz z :: l, n => do
    let id ← lift ids[k]?
    let o ← emit (.ext n true) [x]
    let le ← emit (.ext (n + 1) true) [x]
    let c ← emit (.ext (n + 2) true) [x]
    let r ← partsH ids x l (n + 3)
    pure (.osl id sz (if z then zeroAtom else o) le c :: r.1, r.2)
  | .ptr k :: l, n => do
    let id ← lift ids[k]?
    let o ← emit (.ext n true) [x]
    let r ← partsH ids x l (n + 1)
    pure (.ptr id o :: r.1, r.2)
def shRes (tup : Bool) (l : List SV) : EM SV :=
  if tup then pure (.tup l) else match l with
    | [s] => pure s
    | _ => fail
def callHStep (P : Program) (heap : Heap) (o : Oper) (f : FuncId) (flags : List Bool) (sh : Sh) (args : List SV) : EM Eff := do
  need (enterable P f)
  let r ← hArgs heap flags args 0
  need (distinct r.2.1 && r.2.1.all fun id => r.2.2.all fun j => !Nat.beq id j)
  need (Nat.ble r.2.1.length sh.nb)
  let bs ← mapEM (ownLst heap) r.2.1
  let x ← emitCallH f r.1 bs sh
  let p ← partsH (r.2.1 ++ List.range' heap.length (sh.nb - r.2.1.length)) x sh.l 0
  let s ← shRes sh.tup p.1
  let zs ← mapEM (fun k => emit (.ext (p.2 + k) false) [x]) (List.range r.2.1.length)
  let ns ← mapEM (fun k => emit (.ext (p.2 + k) false) [x]) (List.range' r.2.1.length (sh.nb - r.2.1.length))
  pure { res := s, rd := r.2.1 ++ r.2.2, wr := frozen heap (unfrozen heap r.2.2) ++ (r.2.1.zip zs).map fun p => (p.1, some ⟨.dyn p.2, false⟩), new := ns.map fun z => some ⟨.dyn z, false⟩ }
structure Mut where
  f : FuncId
  dst : Option Nat
  flags : List Bool
  sh : Sh
structure Muts where
  h : List Mut
  k : Knowns
def mutsOf (f : FuncId) (dst : Option Nat) : List Mut → Option (List Bool × Sh)
  | [] => none
  | m :: r => if Nat.beq m.f f && (match m.dst with | none => true | some d => match dst with | some d' => Nat.beq d d' | none => false) then some (m.flags, m.sh) else mutsOf f dst r
def builtinStep (P : Program) (heap : Heap) (tmps : List SV) (b : Builtin) (argTypes : List TypeId) (args : List Operand) : EM Eff := do
  let ss ← lift (args.mapM (opv tmps))
  match b, argTypes, ss with
  | .len, t :: _, [s] =>
    match P.underlying t with
    | some (.array n _) => pure { res := .atm (.c (num n)) }
    | some (.slice _) => match s with
      | .osl _ _ _ len _ => pure { res := .atm len }
      | .atm a => do
        let r ← emit .len [a]
        pure { res := .atm r }
      | _ => fail
    | some .string => do
      let a ← atomOf s
      let r ← emit .slen [a]
      pure { res := .atm r }
    | _ => fail
  | .append, [t, u], [s, x] => appendStep P heap t u s x
  | .copy, [t, u], [d, x] => copyStep P heap t u d x
  | .max, _, [x, y] => do
    let r ← emit .mx2 [← atomOf x, ← atomOf y]
    pure { res := .atm r }
  | .min, _, [x, y] => do
    let r ← emit .mn2 [← atomOf x, ← atomOf y]
    pure { res := .atm r }
  | _, _, _ => fail
def indexStep (P : Program) (tmps : List SV) (t : TypeId) (x ix : Operand) : EM Eff := do
  let s ← lift (opv tmps x)
  let i ← atomOf (← lift (opv tmps ix))
  match P.underlying t with
  | some (.array n e) => do
    let sz ← lift (sizeT P e)
    let ag ← lift (aggT P e)
    match s, natLit i with
    | .agg l, some k =>
      if ag then do
        need (Nat.blt k n && Nat.ble (k * sz + sz) l.length)
        pure { res := .agg ((l.drop (k * sz)).take sz) }
      else do
        need (Nat.blt k n)
        let r ← lift l[k * sz]?
        pure { res := r }
    | _, _ => do
      need (Nat.blt 0 sz)
      let a ← atomOf s
      let r ← emit (.aidx n sz ag) [a, i]
      pure { res := .atm r }
  | some .string => do
    let a ← atomOf s
    let r ← emit .sidx [a, i]
    pure { res := .atm r }
  | _ => fail
def opStep0 (P : Program) (M : Muts) (heap : Heap) (tmps : List SV) (o : Oper) : EM Eff :=
  match o.op with
  | .move x | .assign x => do
    let s ← lift (opv tmps x)
    pure { res := s }
  | .alloc e => do
    let z ← lift (zeroT P e)
    pure { res := .ptr heap.length zeroAtom, new := [some ⟨.fix (z.map fun a => .atm (.c a)), false⟩] }
  | .box e x => do
    let s ← lift (opv tmps x)
    let ag ← lift (aggT P e)
    let sz ← lift (sizeT P e)
    let cs ← explode ag sz s
    pure { res := .ptr heap.length zeroAtom, new := [some ⟨.fix cs, false⟩] }
  | .build t parts => buildStep P tmps t parts.toList
  | .buildSlice t len parts => buildSliceStep P heap tmps t len parts.toList
  | .load t x => do
    let s ← lift (opv tmps x)
    let ag ← lift (aggT P t)
    let sz ← lift (sizeT P t)
    match s with
    | .ptr id off => do
      let sb ← blk heap id
      let r ← loadFrom sb ag sz off
      pure { res := r, rd := [id] }
    | .atm a => do
      need (Nat.blt 0 sz)
      let r ← emit (.rld ag sz) [a]
      pure { res := .atm r }
    | _ => fail
  | .store t x y => do
    let s ← lift (opv tmps x)
    let v ← lift (opv tmps y)
    let ag ← lift (aggT P t)
    let sz ← lift (sizeT P t)
    match s with
    | .ptr id off => do
      let sb ← blk heap id
      need (!sb.ro)
      let cs ← explode ag sz v
      let c' ← storeTo sb off cs
      pure { res := .undef, wr := [(id, some ⟨c', false⟩)] }
    | _ => fail
  | .nilCheck x => do
    let s ← lift (opv tmps x)
    match s with
    | .ptr id off => pure { res := .ptr id off }
    | .fn (.func f) l => pure { res := .fn (.func f) l }
    | .atm a => do
      let r ← emit .nilchk [a]
      pure { res := .atm r }
    | _ => fail
  | .binOp op t x y _ => binStep P tmps op t x y
  | .unOp op _ x => do
    let a ← atomOf (← lift (opv tmps x))
    let r ← emit (.un op) [a]
    pure { res := .atm r }
  | .convert src dst x => convertStep P heap tmps src dst x
  | .sliceToArrayPointer t x => do
    let s ← lift (opv tmps x)
    let (n, e) ← lift (arrayT P t)
    let sz ← lift (sizeT P e)
    need (Nat.blt 0 n)
    match s with
    | .osl id sz' off len _ => do
      need (sz' == sz)
      let _ ← emit .chkle [.c (num n), len]
      pure { res := .ptr id off }
    | .atm a => do
      need (Nat.blt 0 sz)
      let r ← emit (.sl2rp n sz) [a]
      pure { res := .atm r }
    | _ => fail
  | .makeInterface t x => do
    let s ← lift (opv tmps x)
    need (match P.underlying t with | some (.interface _) | none => false | some _ => true)
    match s with
    | .atm a => do
      let r ← emit (.mkifc t) [a]
      pure { res := .atm r }
    | s => pure { res := .ifc t s }
  | .makeFunc fn first captured => do
    need first.isEmpty
    let ss ← lift (captured.toList.mapM (opv tmps))
    pure { res := .fn fn ss }
  | .makeSlice t l c => makeStep P heap tmps t l c
  | .slice t x lo hi mx => sliceStep P heap tmps t x lo hi mx
  | .fieldAddr t x f => do
    let s ← lift (opv tmps x)
    let fd ← lift (fieldOf P t f)
    let sz ← lift (sizeT P fd.type)
    need (Nat.blt 0 sz)
    match s with
    | .ptr id off => do
      let o ← emit (.ofs 1) [off, .c (num fd.offset)]
      pure { res := .ptr id o }
    | .atm a => do
      let r ← emit (.roff fd.offset) [a]
      pure { res := .atm r }
    | _ => fail
  | .field t x f => fieldStep P tmps t x f
  | .indexAddr t x i => indexAddrStep P tmps t x i
  | .index t x i => indexStep P tmps t x i
  | .extract x i => do
    let s ← lift (opv tmps x)
    match s with
    | .tup l => do
      let r ← lift l[i]?
      pure { res := r }
    | .atm a => do
      let r ← emit (.ext i (cellT P o.type)) [a]
      pure { res := .atm r }
    | _ => fail
  | .call c =>
    match c.callee with
    | .builtin b => builtinStep P heap tmps b c.argTypes.toList c.args.toList
    | _ => match callTarget tmps o with
      | some (f, args) => match mutsOf f o.dst M.h with
        | some (flags, sh) => callHStep P heap o f flags sh args
        | none => match externOp P f with
          | some x => externStep x args
          | none => callStep P M.k heap o f args
      | none => fail
  | _ => fail
def refsB : Option SB → List Nat
  | some sb => sb.cells.refs
  | none => []
def refsOk (n : Nat) (l : List Nat) : Bool := l.all fun id => Nat.blt id n
def effOld (len : Nat) (e : Eff) : Bool :=
  refsOk len ((e.wr.map fun p => refsB p.2).flatten ++ (e.new.map refsB).flatten)
def opStep (P : Program) (M : Muts) (heap : Heap) (tmps : List SV) (o : Oper) : EM Eff := do
  let e ← opStep0 P M heap tmps o
  need (effOld heap.length e)
  pure e
inductive T where
  | fail
  | ret (a : Atom)
  | pan (a : Atom)
  | node (nd : Node) (rest : T)
  | br (a : Atom) (t e : T)
  | loop (init : List Atom) (kinds : List Bool) (body : T)
  | back (d : Nat) (zs : List Atom)
def nodesT : List Node → T → T
  | [], t => t
  | nd :: l, t => nodesT l (.node nd t)
structure VS where
  n : Nat
  kinds : List Bool
  facts : List (Nat × Bool)
  dep : Nat
structure St where
  tmps : List SV
  heap : Heap
  vs : VS
def VS.em (v : VS) : Em := ⟨v.n, v.kinds, []⟩
def VS.of (v : VS) (e : Em) : VS := ⟨e.n, e.k0 ++ e.nodes.reverse.map Node.kind, v.facts, v.dep⟩
def factOf (i : Nat) : List (Nat × Bool) → Option Bool
  | [] => none
  | (j, b) :: l => if Nat.beq j i then some b else factOf i l
def withBool (a : Atom) (vs : VS) (k : Bool → VS → T) : T :=
  match a with
  | .c (.bool b) => k b vs
  | .v i => match factOf i vs.facts with
    | some b => k b vs
    | none => if Nat.blt i vs.n then .br a (k true { vs with facts := (i, true) :: vs.facts }) (k false { vs with facts := (i, false) :: vs.facts }) else .fail
  | _ => .fail
def lTmp (t : Nat) : Nat := 3 * t
def lBlk (id : Nat) : Nat := 3 * id + 1
def lDfn (id : Nat) : Nat := 3 * id + 2
inductive LV where
  | sv (s : SV)
  | bk (b : Option SB)
  | df (d : Bool)
structure Foot where
  rd : List Nat
  wr : List (Nat × LV)
def opTmps (o : Oper) : List Nat := o.op.operands.toList.filterMap fun | .tmp t => some t | _ => none
def newIds (len : Nat) (e : Eff) : List Nat := List.range' len e.new.length
def memW (len : Nat) (e : Eff) : List (Nat × LV) :=
  (e.wr.map fun p => (lBlk p.1, LV.bk p.2)) ++ ((newIds len e).map fun id => (lDfn id, LV.df true)) ++
    (((newIds len e).zip e.new).map fun p => (lBlk p.1, LV.bk p.2))
def effRefs (e : Eff) : List Nat := e.res.refs ++ (e.wr.map fun p => refsB p.2).flatten ++ (e.new.map refsB).flatten
def guardTmp (all : List Oper) (o : Oper) : List Nat :=
  match o.guard with
  | some (j, _) => match all[j]? with
    | some p => p.dst.toList
    | none => []
  | none => []
def footOf (all : List Oper) (len : Nat) (o : Oper) (e : Eff) : Foot :=
  { rd := (opTmps o ++ guardTmp all o).map lTmp ++ (e.rd ++ e.wr.map (·.1)).map lBlk ++ (e.rd ++ e.wr.map (·.1)).map lDfn
      ++ ((effRefs e).filter fun id => Nat.blt id len).map lDfn ++ (newIds len e).map lDfn,
    wr := memW len e ++ (o.dst.toList.map fun d => (lTmp d, LV.sv e.res)) }
def setBlks (heap : Heap) : List (Nat × Option SB) → Heap
  | [] => heap
  | (id, b) :: l => setBlks (heap.set id b) l
def putSV (tmps : List SV) (dst : Option Tmp) (s : SV) : List SV :=
  match dst with
  | some d => tmps.set d s
  | none => tmps
def dstOk (n : Nat) (dst : Option Tmp) : Bool :=
  match dst with
  | some d => Nat.blt d n
  | none => true
def effOk (len : Nat) (e : Eff) : Bool :=
  refsOk (len + e.new.length) (effRefs e) && refsOk len (e.wr.map (·.1)) && refsOk len e.rd
def St.apply (st : St) (o : Oper) (e : Eff) (vs : VS) : St :=
  { tmps := putSV st.tmps o.dst e.res, heap := setBlks st.heap e.wr ++ e.new, vs }
def atomEq : Atom → Atom → Bool
  | .v i, .v j => Nat.beq i j
  | .c a, .c b => AV.beq a b
  | _, _ => false
mutual
def atomsSV : SV → List Atom
  | .undef => []
  | .atm a => [a]
  | .ptr _ o => [o]
  | .osl _ _ a b c => [a, b, c]
  | .agg l | .tup l | .fn _ l => atomsSVL l
  | .ifc _ s => atomsSV s
def atomsSVL : List SV → List Atom
  | [] => []
  | s :: l => atomsSV s ++ atomsSVL l
end
def atomsCells : Cells → List Atom
  | .fix l => atomsSVL l
  | .dyn a => [a]
def inScope (st : St) : Bool :=
  (atomsSVL st.tmps).all (Atom.lt st.vs.n) && st.heap.all fun b => match b with
    | some sb => (atomsCells sb.cells).all (Atom.lt st.vs.n)
    | none => true
def skipEff : Eff := { res := .atm (.c (.tup [])) }
def isSkip : Atom → Bool
  | .c (.tup []) => true
  | _ => false
def guardT (all : List Oper) (o : Oper) (st : St) (k : Bool → VS → T) : T :=
  match o.guard with
  | none => k true st.vs
  | some (j, want) => match (all[j]?).bind (·.dst) with
    | some t => match st.tmps.getD t .undef with
      | .atm a => if isSkip a then k false st.vs else withBool a st.vs fun b vs => k (b == want) vs
      | _ => .fail
    | none => .fail
def oneT (P : Program) (M : Muts) (draw : Bool) (o : Oper) (st : St) (k : Eff → VS → T) : T :=
  match o.op with
  | .pick c a b => match opv st.tmps c, opv st.tmps a, opv st.tmps b with
    | some (.atm c), some a, some b => withBool c st.vs fun t vs => k { res := if t then a else b } vs
    | _, _, _ => .fail
  | .panic x => if draw then .fail else match opv st.tmps x with
    | some s => match (freeze st.heap 8 s >>= fun p => emit .isifc [p.1]) st.vs.em with
      | some (a, em) => nodesT em.nodes (.pan a)
      | none => .fail
    | none => .fail
  | _ => match opStep P M st.heap st.tmps o st.vs.em with
    | some (e, em) => nodesT em.nodes (k e (st.vs.of em))
    | none => .fail
def seOps (P : Program) (M : Muts) (draw : Bool) (all : List Oper) : List Oper → List Foot → St → (St → List Foot → T) → T
  | [], fs, st, k => if inScope st then k st fs else .fail
  | o :: os, fs, st, k =>
    guardT all o st fun run vs =>
      if run then oneT P M draw o { st with vs := vs } fun e vs' =>
        if dstOk st.tmps.length o.dst && effOk st.heap.length e then
          seOps P M draw all os (fs ++ [footOf all st.heap.length o e]) (st.apply o e vs') k
        else .fail
      else if dstOk st.tmps.length o.dst then
        seOps P M draw all os (fs ++ [footOf all st.heap.length o skipEff]) (st.apply o skipEff vs) k
      else .fail
def clash (f g : Foot) : Bool :=
  f.wr.any (fun p => g.rd.contains p.1 || g.wr.any fun q => Nat.beq q.1 p.1) || g.wr.any fun p => f.rd.contains p.1
def preds (o : Oper) : List Nat := o.after.toList.filterMap fun e => if Region.binds .any e then some e.on else none
def masks : List Oper → List Nat → List Nat
  | [], acc => acc
  | o :: os, acc => masks os (acc ++ [(preds o).foldl (fun m i => m ||| 2 ^ i ||| acc.getD i 0) 0])
def predsOk : Nat → List Oper → Bool
  | _, [] => true
  | j, o :: os => (preds o).all (fun i => Nat.blt i j) && predsOk (j + 1) os
def pairsOk (ms : List Nat) (fs : List Foot) : Bool :=
  (List.range fs.length).all fun j => match fs[j]? with
    | some g => (List.range j).all fun i => match fs[i]? with
      | some f => !clash f g || (ms.getD j 0).testBit i
      | none => true
    | none => true
def orderOk (ops : List Oper) (fs : List Foot) : Bool :=
  Nat.beq fs.length ops.length && predsOk 0 ops && ops.all (fun o => match o.op with | .select .. => false | _ => true) && pairsOk (masks ops []) fs
def seRegion (P : Program) (M : Muts) (draw : Bool) (ops : List Oper) (st : St) (k : St → T) : T :=
  seOps P M draw ops ops [] st fun st' fs => if draw && !orderOk ops fs then .fail else k st'
inductive Ex where
  | normal
  | exit (id : Nat)
  | ret
structure Ann where
  tmps : List Nat
  blks : List Nat
  live : Option (List Nat) := none
  vals : List Nat := []
def unroll (body : St → (Ex → St → T) → T) : Nat → St → (Ex → St → T) → T
  | 0, _, _ => .fail
  | n + 1, st, k => body st fun e st' => match e with
    | .normal => unroll body n st' k
    | e => k e st'
def isC : Atom → Bool
  | .c _ => true
  | .v _ => false
def genSV (vs : VS) (s : SV) : Option (SV × List Atom × List Bool) :=
  match s with
  | .atm a => match cellAtom a vs.em with
    | some (b, _) => some (.atm (.v vs.n), [a], [b])
    | none => none
  | .ptr id off => if isC off then some (.ptr id off, [], []) else some (.ptr id (.v vs.n), [off], [true])
  | .osl id sz off len cap => if isC off then some (.osl id sz off (.v vs.n) (.v (vs.n + 1)), [len, cap], [true, true])
    else some (.osl id sz (.v vs.n) (.v (vs.n + 1)) (.v (vs.n + 2)), [off, len, cap], [true, true, true])
  | _ => none
def VS.more (vs : VS) (ks : List Bool) : VS := { vs with n := vs.n + ks.length, kinds := vs.kinds ++ ks }
def genTmps : List Nat → List SV → VS → Option (List SV × VS × List Atom × List Bool)
  | [], tmps, vs => some (tmps, vs, [], [])
  | t :: ts, tmps, vs => match genSV vs (tmps.getD t .undef) with
    | some (s, as, ks) => match genTmps ts (tmps.set t s) (vs.more ks) with
      | some (tmps', vs', as', ks') => some (tmps', vs', as ++ as', ks ++ ks')
      | none => none
    | none => none
def atomsOf : List SV → Option (List Atom)
  | [] => some []
  | .atm a :: l => match atomsOf l with
    | some as => some (a :: as)
    | none => none
  | _ :: _ => none
def genCells (vs : VS) (c : Cells) : Option (Cells × List Atom × List Bool) :=
  match c with
  | .dyn a => some (.dyn (.v vs.n), [a], [false])
  | .fix [] => some (.dyn (.v vs.n), [.c (.lst [])], [false])
  | .fix l => match atomsOf l with
    | some as => some (.fix ((List.range' vs.n as.length).map fun i => .atm (.v i)), as, List.replicate as.length true)
    | none => none
def genBlks : List Nat → Heap → VS → Option (Heap × VS × List Atom × List Bool)
  | [], heap, vs => some (heap, vs, [], [])
  | id :: ids, heap, vs => match heap.getD id none with
    | some ⟨c, false⟩ => match genCells vs c with
      | some (c', as, ks) => match genBlks ids (heap.set id (some ⟨c', false⟩)) (vs.more ks) with
        | some (heap', vs', as', ks') => some (heap', vs', as ++ as', ks ++ ks')
        | none => none
      | none => none
    | _ => none
def pois (keep : Nat → Bool) : Nat → List SV → List SV
  | _, [] => []
  | t, s :: l => (if keep t then s else .undef) :: pois keep (t + 1) l
def keepOf (an : Ann) (poison : List Nat) : Nat → Bool :=
  match an.live with
  | some l => fun t => l.contains t || an.tmps.contains t
  | none => fun t => an.tmps.contains t || !poison.contains t
def headSt (st : St) (an : Ann) (keep : Nat → Bool) : Option (St × List Atom × List Bool) :=
  match genTmps an.tmps (pois keep 0 st.tmps) st.vs with
  | some (tmps, vs, as, ks) => match genBlks an.blks st.heap vs with
    | some (heap, vs', as', ks') => some (⟨tmps, heap, { vs' with dep := vs'.dep + 1 }⟩, as ++ as', ks ++ ks')
    | none => none
  | none => none
def renOf (ren : List (Nat × Nat)) (id : Nat) : Nat :=
  match ren with
  | [] => id
  | (i, j) :: l => if Nat.beq i id then j else renOf l id
def isV (i : Nat) : Atom → Bool
  | .v j => Nat.beq j i
  | _ => false
def allV : Nat → List SV → Bool
  | _, [] => true
  | i, .atm x :: l => isV i x && allV (i + 1) l
  | _, _ :: _ => false
def matSV (i : Nat) (h b : SV) : Option (List Atom × List (Nat × Nat)) :=
  match h, b with
  | .atm x, .atm a => if isV i x then some ([a], []) else none
  | .ptr id x, .ptr id' off => if isV i x then some ([off], [(id, id')]) else if isC x && atomEq x off then some ([], [(id, id')]) else none
  | .osl id sz x y z, .osl id' sz' off len cap => if Nat.beq sz sz' && isV i x && isV (i + 1) y && isV (i + 2) z then some ([off, len, cap], [(id, id')])
    else if Nat.beq sz sz' && isC x && atomEq x off && isV i y && isV (i + 1) z then some ([len, cap], [(id, id')]) else none
  | _, _ => none
def matTmps (h b : List SV) : Nat → List Nat → Option (List Atom × List (Nat × Nat))
  | _, [] => some ([], [])
  | i, t :: ts => match matSV i (h.getD t .undef) (b.getD t .undef) with
    | some (as, r) => match matTmps h b (i + as.length) ts with
      | some (as', r') => some (as ++ as', r ++ r')
      | none => none
    | none => none
mutual
def eqR (ren : List (Nat × Nat)) : SV → SV → Bool
  | .undef, _ => true
  | .atm a, .atm b => atomEq a b
  | .ptr id o, .ptr id' o' => Nat.beq (renOf ren id) id' && atomEq o o'
  | .osl id sz a b c, .osl id' sz' a' b' c' => Nat.beq (renOf ren id) id' && Nat.beq sz sz' && atomEq a a' && atomEq b b' && atomEq c c'
  | .agg l, .agg l' => eqRL ren l l'
  | .tup l, .tup l' => eqRL ren l l'
  | .fn f l, .fn f' l' => decide (f = f') && eqRL ren l l'
  | .ifc t s, .ifc t' s' => Nat.beq t t' && eqR ren s s'
  | _, _ => false
def eqRL (ren : List (Nat × Nat)) : List SV → List SV → Bool
  | [], [] => true
  | a :: l, b :: l' => eqR ren a b && eqRL ren l l'
  | _, _ => false
end
def eqRC (ren : List (Nat × Nat)) : Cells → Cells → Bool
  | .fix l, .fix l' => eqRL ren l l'
  | .dyn a, .dyn b => atomEq a b
  | _, _ => false
def matCells (i : Nat) (h b : Cells) : EM (List Atom) :=
  match h, b with
  | .dyn x, .dyn a => do
    need (isV i x)
    pure [a]
  | .dyn x, .fix l => do
    need (isV i x)
    let as ← mapEM cellAtm l
    let y ← emit .mklst as
    pure [y]
  | .fix l, .fix l' => do
    need (Nat.beq l.length l'.length && allV i l)
    mapEM cellAtm l'
  | .fix _, .dyn _ => fail
def matBlks (ren : List (Nat × Nat)) (h b : Heap) : Nat → List Nat → EM (List Atom)
  | _, [] => pure []
  | i, id :: ids => do
    let x ← lift (h.getD id none)
    let y ← lift (b.getD (renOf ren id) none)
    need (!x.ro && !y.ro)
    let as ← matCells i x.cells y.cells
    let as' ← matBlks ren h b (i + as.length) ids
    pure (as ++ as')
def restFrom (n0 : Nat) (ren : List (Nat × Nat)) (car : List Nat) : Nat → List SV → List SV → Bool
  | _, [], _ => true
  | t, s :: l, b => ((eqR ren s (b.headD .undef) && (atomsSV s).all (Atom.lt n0)) || car.contains t) && restFrom n0 ren car (t + 1) l b.tail
def restTmps (n0 : Nat) (ren : List (Nat × Nat)) (car : List Nat) (h b : List SV) : Bool := restFrom n0 ren car 0 h b
def restBlks (n0 : Nat) (ren : List (Nat × Nat)) (car : List Nat) (h b : Heap) : Bool :=
  (List.range h.length).all fun id => car.contains id || match h.getD id none with
    | none => true
    | some x => match b.getD (renOf ren id) none with
      | some y => (x.ro == y.ro) && eqRC ren x.cells y.cells && (atomsCells x.cells).all (Atom.lt n0)
      | none => false
def renInj (ren : List (Nat × Nat)) (n : Nat) : Bool :=
  (List.range n).all fun i => (List.range i).all fun j => !Nat.beq (renOf ren i) (renOf ren j)
def refsIn (h : St) : Bool :=
  h.tmps.all (fun s => refsOk h.heap.length s.refs) && h.heap.all fun b => refsOk h.heap.length (refsB b)
def kindsOk (vs : VS) (ks : List Bool) : List Atom → Bool
  | [] => ks.isEmpty
  | a :: as => match ks with
    | [] => false
    | k :: ks' => (!k || (match a with | .v i => vs.kinds.getD i false | .c x => x.isCell)) && a.lt vs.n && kindsOk vs ks' as
def matchT (B : Nat) (h : St) (an : Ann) (ks : List Bool) (b : St) : Option (List Atom × Em) :=
  match matTmps h.tmps b.tmps (h.vs.n - ks.length) an.tmps with
  | some (as, ren) =>
    match matBlks ren h.heap b.heap (h.vs.n - ks.length + as.length) an.blks b.vs.em with
    | some (as', em) =>
      if restTmps (h.vs.n - ks.length) ren an.tmps h.tmps b.tmps && restBlks (h.vs.n - ks.length) ren an.blks h.heap b.heap && renInj ren h.heap.length &&
          ren.all (fun p => Nat.beq (renOf ren p.1) p.2 && (Nat.beq p.2 p.1 || Nat.ble B p.1)) && Nat.beq b.tmps.length h.tmps.length && (List.range h.heap.length).all (fun id => Nat.blt (renOf ren id) b.heap.length) &&
          kindsOk (b.vs.of em) ks (as ++ as') then
        some (as ++ as', em)
      else none
    | none => none
  | none => none
def backT (B : Nat) (h : St) (an : Ann) (ks : List Bool) (b : St) : T :=
  match matchT B h an ks b with
  | some (zs, em) => nodesT em.nodes (.back (b.vs.dep - h.vs.dep) zs)
  | none => .fail
end Go.SE
set_option autoImplicit false
namespace Go.SE
open Go
structure Cfg where
  anns : List (FuncId × Nat × Ann)
  fuel : Nat
  base : Nat := 0
  muts : Muts := ⟨[], []⟩
  pre : List (FuncId × Nat × List Nat) := []
def preOf (f : FuncId) (n : Nat) : List (FuncId × Nat × List Nat) → List Nat
  | [] => []
  | (g, i, a) :: l => if Nat.beq g f && Nat.beq i n then a else preOf f n l
def annOf (f : FuncId) (id : Nat) : List (FuncId × Nat × Ann) → Option Ann
  | [] => none
  | (g, i, a) :: l => if Nat.beq g f && Nat.beq i id then some a else annOf f id l
def dstsOps (ops : List Oper) : List Nat := ops.filterMap (·.dst)
def dstsCode : Code → List Nat
  | .region _ ops _ => dstsOps ops.toList
  | .seq a b | .cond _ a b => dstsCode a ++ dstsCode b
  | .block _ b | .loop b | .scope b => dstsCode b
  | _ => []
def headVS (vs : VS) (ks : List Bool) : VS := ⟨vs.n + ks.length, vs.kinds ++ ks, vs.facts, vs.dep + 1⟩
def seLoop (B : Nat) (an : Ann) (poison : List Nat) (body : St → (Ex → St → T) → T) (st : St) (k : Ex → St → T) : T :=
  match headSt st an (keepOf an poison) with
  | some (h0, _, ks) =>
    let h : St := { h0 with vs := headVS st.vs ks }
    match matchT B h an ks st with
    | some (init, em) =>
      if em.nodes.isEmpty && inScope h && refsIn h && Nat.ble B h.heap.length && Nat.beq h.tmps.length st.tmps.length then
        .loop init ks (body h fun e b => match e with
          | .normal => backT B h an ks b
          | e => k e b)
      else .fail
    | none => .fail
  | none => .fail
def dynT (id : Nat) (st : St) (k : St → T) : T :=
  match st.heap.getD id none with
  | some ⟨.fix l, false⟩ => match lstOf ⟨.fix l, false⟩ st.vs.em with
    | some (a, em) =>
      let st' : St := { tmps := st.tmps, heap := st.heap.set id (some ⟨.dyn a, false⟩), vs := st.vs.of em }
      if inScope st' && Nat.blt id st.heap.length then nodesT em.nodes (k st') else .fail
    | none => .fail
  | _ => k st
def frzT : List Nat → St → (St → T) → T
  | [], st, k => k st
  | t :: ts, st, k => match Nat.ble 10000 t with
    | true => dynT (t - 10000) st fun st' => frzT ts st' k
    | false => match st.tmps.getD t .undef with
      | .undef => frzT ts st k
      | s => match freeze st.heap 8 s st.vs.em with
        | some ((a, ids), em) =>
          let st' : St := { tmps := st.tmps.set t (.atm a), heap := setBlks st.heap (frozen st.heap (unfrozen st.heap ids)), vs := st.vs.of em }
          if inScope st' && Nat.blt t st.tmps.length then nodesT em.nodes (frzT ts st' k) else .fail
        | none => .fail
def withVals (vals : List Nat) (x : St → (Ex → St → T) → T) : St → (Ex → St → T) → T :=
  fun st k => x st fun e b => match e with
    | .normal => frzT vals b (k .normal)
    | e => k e b
def seCode (P : Program) (cfg : Cfg) (f : FuncId) : Code → Nat → St → (Ex → St → T) → T
  | .skip, _, st, k => k .normal st
  | .label _, _, st, k => k .normal st
  | .region _ ops draw, _, st, k => match preOf f ops.toList.length cfg.pre with
    | [] => seRegion P cfg.muts draw ops.toList st fun st' => k .normal st'
    | vals => frzT vals st fun st1 => seRegion P cfg.muts draw ops.toList st1 fun st' => k .normal st'
  | .seq a b, bid, st, k => seCode P cfg f a bid st fun e st' => match e with
    | .normal => seCode P cfg f b bid st' k
    | e => k e st'
  | .cond c x y, bid, st, k => match opv st.tmps c with
    | some (.atm a) => withBool a st.vs fun t vs => if t then seCode P cfg f x bid { st with vs := vs } k else seCode P cfg f y bid { st with vs := vs } k
    | _ => .fail
  | .block id body, _, st, k => seCode P cfg f body id st fun e st' => match e with
    | .exit i => if Nat.beq i id then k .normal st' else k (.exit i) st'
    | e => k e st'
  | .exit id, _, st, k => k (.exit id) st
  | .ret, _, st, k => k .ret st
  | .loop body, bid, st, k => match annOf f bid cfg.anns with
    | some an => match an.vals with
      | [] => seLoop cfg.base an (dstsCode body) (fun st k => seCode P cfg f body bid st k) st k
      | vals => frzT vals st fun st1 => seLoop cfg.base an (dstsCode body) (withVals vals fun st k => seCode P cfg f body bid st k) st1 k
    | none => unroll (fun st k => seCode P cfg f body bid st k) cfg.fuel st k
  | _, _, _, _ => .fail
def resultSV (P : Program) (st : St) (r : ResultVar) : EM SV :=
  match r with
  | .tmp t => lift st.tmps[t]?
  | .cell a t => do
    let ag ← lift (aggT P t)
    let sz ← lift (sizeT P t)
    match st.tmps.getD a .undef with
    | .ptr id off => do
      let sb ← blk st.heap id
      loadFrom sb ag sz off
    | _ => fail
def resultsSV (P : Program) (st : St) (rs : List ResultVar) : EM SV :=
  match rs with
  | [r] => resultSV P st r
  | rs => do
    let l ← mapEM (resultSV P st) rs
    pure (.tup l)
def seTop (P : Program) (cfg : Cfg) (f : FuncId) (args : List Atom) (kinds : List Bool) : T :=
  match P.funcs[f]? with
  | some fn => match fn.body with
    | some c =>
      let st : St := ⟨args.map .atm ++ List.replicate (fn.ntmps - args.length) .undef, [], ⟨kinds.length, kinds, [], 0⟩⟩
      if Nat.ble args.length fn.ntmps && inScope st then
        seCode P cfg f c 0 st fun e st =>
          match e with
          | .exit _ => .fail
          | _ => match (resultsSV P st fn.results.toList >>= freeze st.heap 8) st.vs.em with
            | some ((a, _), em) => nodesT em.nodes (.ret a)
            | none => .fail
      else .fail
    | none => .fail
  | none => .fail
def kindOk (k : Bool) (a : AV) : Prop := k = true → a.isCell = true
def kindsRep : List Bool → List AV → Prop
  | [], [] => True
  | k :: ks, a :: as => kindOk k a ∧ kindsRep ks as
  | _, _ => False
def runNode (P : Program) (σ : List AV) (nd : Node) (v : AV) : Prop :=
  match nd with
  | .op o args => evalO o (args.map (Atom.den σ)) = some v
  | .call f args cell => Ct P f (args.map (Atom.den σ)) (fun e => e = .ret v) ∧ (cell = true → v.isCell = true)
  | .known f args x => Ct P f args (fun e => e = .ret x) ∧ v = x
  | .callH f args bs sh => CtH P f (args.map (HA.den σ)) (bs.map (Atom.den σ)) sh (fun e => e = .ret v)
def den (P : Program) (R : AEnd → Prop) : List (List AV → Prop) → List AV → T → Prop
  | _, _, .fail => False
  | _, σ, .ret a => R (.ret (a.den σ))
  | _, σ, .pan a => R (.pan (a.den σ))
  | H, σ, .node nd rest => ∃ v, runNode P σ nd v ∧ den P R H (σ ++ [v]) rest
  | H, σ, .br a t e => ∃ b, a.den σ = .bool b ∧ (if b then den P R H σ t else den P R H σ e)
  | H, σ, .loop init ks body => ∃ (I : List AV → Prop) (m : List AV → Nat), I (init.map (Atom.den σ)) ∧
      ∀ ys, kindsRep ks ys → I ys → den P R ((fun zs => I zs ∧ m zs < m ys) :: H) (σ ++ ys) body
  | H, σ, .back d zs => (H.getD d fun _ => False) (zs.map (Atom.den σ))
end Go.SE
set_option autoImplicit false
namespace Go.SE
open Go
abbrev Map := Nat → Nat × Nat
mutual
def SRep (Φ : Fix) (μ : Map) (τ : List AV) : SV → Value → Prop
  | .undef, _ => True
  | .atm a, v => Rep Φ (a.den τ) v
  | .ptr id off, v => ∃ o : Nat, off.den τ = num o ∧ v = .pointer (some ⟨(μ id).1, o, none⟩)
  | .osl id sz off len cap, v => ∃ o l k c o' : Nat, off.den τ = num o ∧ len.den τ = num l ∧ cap.den τ = num k ∧
      v = .slice (some ⟨(μ id).1, o', none⟩) l c ∧ l ≤ k ∧ k ≤ c ∧ (o' = o ∨ c = 0) ∧ o' + c * sz ≤ (μ id).2
  | .agg l, v => ∃ vs : Array Value, v = .agg vs ∧ SRepL Φ μ τ l vs.toList
  | .tup l, v => ∃ vs : Array Value, v = .tuple vs ∧ SRepL Φ μ τ l vs.toList
  | .fn f l, v => ∃ vs : Array Value, v = .func f #[] vs ∧ SRepL Φ μ τ l vs.toList
  | .ifc t s, v => ∃ u, v = .iface t u ∧ SRep Φ μ τ s u
def SRepL (Φ : Fix) (μ : Map) (τ : List AV) : List SV → List Value → Prop
  | [], vs => vs = []
  | s :: l, vs => match vs with
    | [] => False
    | v :: vs' => SRep Φ μ τ s v ∧ SRepL Φ μ τ l vs'
end
def CRep (Φ : Fix) (μ : Map) (τ : List AV) : Cells → List Value → Prop
  | .fix l, vs => ∃ xs ys, vs = xs ++ ys ∧ SRepL Φ μ τ l xs
  | .dyn a, vs => ∃ cs, a.den τ = .lst cs ∧ RepL Φ cs vs
theorem SRepL.length {Φ : Fix} {μ : Map} {τ : List AV} : ∀ {l : List SV} {vs : List Value}, SRepL Φ μ τ l vs → vs.length = l.length
  | [], vs, h => by simp only [SRepL] at h; simp [h]
  | _ :: l, [], h => by simp [SRepL] at h
  | _ :: l, v :: vs, h => by
    simp only [SRepL] at h
    simp [SRepL.length h.2]
theorem Atom.den_ext {τ τ' : List AV} {n : Nat} {a : Atom} (h : a.lt n = true) (he : ∀ i, i < n → τ.getD i default = τ'.getD i default) : a.den τ = a.den τ' := by
  cases a with
  | v i => exact he i (by simpa [Atom.lt, Nat.blt_eq] using h)
  | c a => rfl
mutual
theorem SRep.mono {Φ Φ' : Fix} {μ μ' : Map} {τ : List AV} (hΦ : Φ.le Φ') : ∀ (s : SV) (v : Value), (∀ id ∈ s.refs, μ' id = μ id) → SRep Φ μ τ s v → SRep Φ' μ' τ s v
  | .undef, _, _, _ => by simp [SRep]
  | .atm a, v, _, h => by simp only [SRep] at h ⊢; exact Rep.mono hΦ _ _ h
  | .ptr id off, v, hr, h => by
    simp only [SRep] at h ⊢
    rw [hr id (by simp [SV.refs])]; exact h
  | .osl id sz off len cap, v, hr, h => by
    simp only [SRep] at h ⊢
    rw [hr id (by simp [SV.refs])]; exact h
  | .agg l, v, hr, h => by
    simp only [SRep] at h ⊢
    obtain ⟨vs, h1, h2⟩ := h
    exact ⟨vs, h1, SRepL.mono hΦ l _ (fun id hi => hr id (by simpa [SV.refs] using hi)) h2⟩
  | .tup l, v, hr, h => by
    simp only [SRep] at h ⊢
    obtain ⟨vs, h1, h2⟩ := h
    exact ⟨vs, h1, SRepL.mono hΦ l _ (fun id hi => hr id (by simpa [SV.refs] using hi)) h2⟩
  | .fn f l, v, hr, h => by
    simp only [SRep] at h ⊢
    obtain ⟨vs, h1, h2⟩ := h
    exact ⟨vs, h1, SRepL.mono hΦ l _ (fun id hi => hr id (by simpa [SV.refs] using hi)) h2⟩
  | .ifc t s, v, hr, h => by
    simp only [SRep] at h ⊢
    obtain ⟨u, h1, h2⟩ := h
    exact ⟨u, h1, SRep.mono hΦ s u (fun id hi => hr id (by simpa [SV.refs] using hi)) h2⟩
theorem SRepL.mono {Φ Φ' : Fix} {μ μ' : Map} {τ : List AV} (hΦ : Φ.le Φ') : ∀ (l : List SV) (vs : List Value), (∀ id ∈ SV.refsL l, μ' id = μ id) → SRepL Φ μ τ l vs → SRepL Φ' μ' τ l vs
  | [], _, _, h => by simpa [SRepL] using h
  | _ :: _, [], _, h => by simp [SRepL] at h
  | s :: l, v :: vs, hr, h => by
    simp only [SRepL] at h ⊢
    exact ⟨SRep.mono hΦ s v (fun id hi => hr id (by simp [SV.refsL, hi])) h.1, SRepL.mono hΦ l vs (fun id hi => hr id (by simp [SV.refsL, hi])) h.2⟩
end
theorem CRep.mono {Φ Φ' : Fix} {μ μ' : Map} {τ : List AV} (hΦ : Φ.le Φ') (c : Cells) (vs : List Value) (hr : ∀ id ∈ c.refs, μ' id = μ id) (h : CRep Φ μ τ c vs) : CRep Φ' μ' τ c vs := by
  cases c with
  | fix l =>
    obtain ⟨xs, ys, h1, h2⟩ := h
    exact ⟨xs, ys, h1, SRepL.mono hΦ l xs (fun id hi => hr id (by simpa [Cells.refs] using hi)) h2⟩
  | dyn a =>
    obtain ⟨cs, h1, h2⟩ := h
    exact ⟨cs, h1, RepL.mono hΦ cs vs h2⟩
mutual
theorem SRep.ext {Φ : Fix} {μ : Map} {τ τ' : List AV} {n : Nat} (he : ∀ i, i < n → τ.getD i default = τ'.getD i default) :
    ∀ (s : SV) (v : Value), (atomsSV s).all (Atom.lt n) = true → SRep Φ μ τ s v → SRep Φ μ τ' s v
  | .undef, _, _, _ => by simp [SRep]
  | .atm a, v, ha, h => by
    simp only [SRep] at h ⊢
    rw [← Atom.den_ext (a := a) (by simpa [atomsSV] using ha) he]; exact h
  | .ptr id off, v, ha, h => by
    simp only [SRep] at h ⊢
    rw [← Atom.den_ext (a := off) (by simpa [atomsSV] using ha) he]; exact h
  | .osl id sz off len cap, v, ha, h => by
    simp only [atomsSV, List.all_cons, List.all_nil, Bool.and_true, Bool.and_eq_true] at ha
    simp only [SRep] at h ⊢
    rw [← Atom.den_ext (a := off) ha.1 he, ← Atom.den_ext (a := len) ha.2.1 he, ← Atom.den_ext (a := cap) ha.2.2 he]; exact h
  | .agg l, v, ha, h => by
    simp only [SRep] at h ⊢
    obtain ⟨vs, h1, h2⟩ := h
    exact ⟨vs, h1, SRepL.ext he l _ (by simpa [atomsSV] using ha) h2⟩
  | .tup l, v, ha, h => by
    simp only [SRep] at h ⊢
    obtain ⟨vs, h1, h2⟩ := h
    exact ⟨vs, h1, SRepL.ext he l _ (by simpa [atomsSV] using ha) h2⟩
  | .fn f l, v, ha, h => by
    simp only [SRep] at h ⊢
    obtain ⟨vs, h1, h2⟩ := h
    exact ⟨vs, h1, SRepL.ext he l _ (by simpa [atomsSV] using ha) h2⟩
  | .ifc t s, v, ha, h => by
    simp only [SRep] at h ⊢
    obtain ⟨u, h1, h2⟩ := h
    exact ⟨u, h1, SRep.ext he s u (by simpa [atomsSV] using ha) h2⟩
theorem SRepL.ext {Φ : Fix} {μ : Map} {τ τ' : List AV} {n : Nat} (he : ∀ i, i < n → τ.getD i default = τ'.getD i default) :
    ∀ (l : List SV) (vs : List Value), (atomsSVL l).all (Atom.lt n) = true → SRepL Φ μ τ l vs → SRepL Φ μ τ' l vs
  | [], _, _, h => by simpa [SRepL] using h
  | _ :: _, [], _, h => by simp [SRepL] at h
  | s :: l, v :: vs, ha, h => by
    simp only [atomsSVL, List.all_append, Bool.and_eq_true] at ha
    simp only [SRepL] at h ⊢
    exact ⟨SRep.ext he s v ha.1 h.1, SRepL.ext he l vs ha.2 h.2⟩
end
abbrev LS := Nat → LV
def LS.tmp (X : LS) (t : Nat) : SV := match X (lTmp t) with | .sv s => s | _ => .undef
def LS.blk (X : LS) (id : Nat) : Option SB := match X (lBlk id) with | .bk b => b | _ => none
def LS.dfn (X : LS) (id : Nat) : Bool := match X (lDfn id) with | .df d => d | _ => false
def LS.set (X : LS) (l : Nat) (v : LV) : LS := fun m => if m = l then v else X m
def LS.upd (X : LS) (W : List (Nat × LV)) : LS := W.foldl (fun X p => X.set p.1 p.2) X
structure Ent where
  w0 : World
  Φ0 : Fix
  own : Nat → Prop
  nt : Nat
  base : Nat
  μ0 : Map
def BRel (Φ : Fix) (μ : Map) (τ : List AV) (sb : SB) (p : Nat × Nat) (w : World) : Prop :=
  ∃ C t fr, w.heap[p.1]? = some (.cells C t fr) ∧ C.size = p.2 ∧ (∀ o, o < C.size → ¬ (fr.1 ≤ o ∧ o < fr.2)) ∧ CRep Φ μ τ sb.cells C.toList ∧
    (if sb.ro then Φ p.1 = some C else Φ p.1 = none)
structure Mem (E : Ent) (Φ : Fix) (w : World) : Prop where
  os : w.os = E.w0.os
  tape : w.tape = E.w0.tape
  output : w.output = E.w0.output
  size : E.w0.heap.size ≤ w.heap.size
  frame : ∀ b, b < E.w0.heap.size → ¬ E.own b → w.heap[b]? = E.w0.heap[b]?
  fix : WR Φ w
  phi : ∀ b, b < E.w0.heap.size → ¬ E.own b → Φ b = E.Φ0 b
  phi0 : E.Φ0.le Φ
structure SRel (E : Ent) (τ : List AV) (X : LS) (Φ : Fix) (μ : Map) (a : Act) (w : World) : Prop where
  dfr : a.defers = []
  nt : a.tmps.size = E.nt
  mem : Mem E Φ w
  tmps : ∀ t, SRep Φ μ τ (X.tmp t) (a.tmps.getD t undef)
  refs : ∀ t, ∀ id ∈ (X.tmp t).refs, X.dfn id = true
  blks : ∀ id sb, X.blk id = some sb → X.dfn id = true ∧ BRel Φ μ τ sb (μ id) w ∧ (∀ i ∈ sb.cells.refs, X.dfn i = true)
  home : ∀ id sb, X.blk id = some sb → sb.ro = false → E.w0.heap.size ≤ (μ id).1 ∨ E.own (μ id).1
  lt : ∀ id, X.dfn id = true → (μ id).1 < w.heap.size
  inj : ∀ id id' sb sb', X.blk id = some sb → X.blk id' = some sb' → sb.ro = false → sb'.ro = false → id ≠ id' → (μ id).1 ≠ (μ id').1
  old : ∀ id, id < E.base → X.dfn id = true ∧ μ id = E.μ0 id
theorem lTmp_ne_lBlk (a b : Nat) : lTmp a ≠ lBlk b := by unfold lTmp lBlk; omega
theorem lTmp_ne_lDfn (a b : Nat) : lTmp a ≠ lDfn b := by unfold lTmp lDfn; omega
theorem lBlk_ne_lDfn (a b : Nat) : lBlk a ≠ lDfn b := by unfold lBlk lDfn; omega
theorem lTmp_inj {a b : Nat} : lTmp a = lTmp b ↔ a = b := by unfold lTmp; omega
theorem lBlk_inj {a b : Nat} : lBlk a = lBlk b ↔ a = b := by unfold lBlk; omega
theorem lDfn_inj {a b : Nat} : lDfn a = lDfn b ↔ a = b := by unfold lDfn; omega
section sets
variable (X : LS) (i j : Nat) (s : SV) (b : Option SB) (d : Bool)
@[simp] theorem LS.tmp_set_tmp : (X.set (lTmp i) (.sv s)).tmp j = if j = i then s else X.tmp j := by
  unfold LS.tmp LS.set; by_cases h : j = i
  · simp [h]
  · rw [if_neg (fun e => h (lTmp_inj.1 e)), if_neg h]
@[simp] theorem LS.tmp_set_blk (v : LV) : (X.set (lBlk i) v).tmp j = X.tmp j := by
  unfold LS.tmp LS.set; rw [if_neg (lTmp_ne_lBlk j i)]
@[simp] theorem LS.tmp_set_dfn (v : LV) : (X.set (lDfn i) v).tmp j = X.tmp j := by
  unfold LS.tmp LS.set; rw [if_neg (lTmp_ne_lDfn j i)]
@[simp] theorem LS.blk_set_tmp (v : LV) : (X.set (lTmp i) v).blk j = X.blk j := by
  unfold LS.blk LS.set; rw [if_neg (Ne.symm (lTmp_ne_lBlk i j))]
@[simp] theorem LS.blk_set_blk : (X.set (lBlk i) (.bk b)).blk j = if j = i then b else X.blk j := by
  unfold LS.blk LS.set; by_cases h : j = i
  · simp [h]
  · rw [if_neg (fun e => h (lBlk_inj.1 e)), if_neg h]
@[simp] theorem LS.blk_set_dfn (v : LV) : (X.set (lDfn i) v).blk j = X.blk j := by
  unfold LS.blk LS.set; rw [if_neg (lBlk_ne_lDfn j i)]
@[simp] theorem LS.dfn_set_tmp (v : LV) : (X.set (lTmp i) v).dfn j = X.dfn j := by
  unfold LS.dfn LS.set; rw [if_neg (Ne.symm (lTmp_ne_lDfn i j))]
@[simp] theorem LS.dfn_set_blk (v : LV) : (X.set (lBlk i) v).dfn j = X.dfn j := by
  unfold LS.dfn LS.set; rw [if_neg (Ne.symm (lBlk_ne_lDfn i j))]
@[simp] theorem LS.dfn_set_dfn : (X.set (lDfn i) (.df d)).dfn j = if j = i then d else X.dfn j := by
  unfold LS.dfn LS.set; by_cases h : j = i
  · simp [h]
  · rw [if_neg (fun e => h (lDfn_inj.1 e)), if_neg h]
end sets
end Go.SE
set_option autoImplicit false
namespace Go.SE
open Go
variable {E : Ent} {τ : List AV} {X : LS} {Φ : Fix} {μ : Map} {a : Act} {w : World}
theorem heap_alloc_old (w : World) (o : Obj) (b : Nat) (h : b < w.heap.size) : (w.alloc o).heap[b]? = w.heap[b]? := by
  show (w.heap.push o)[b]? = _
  rw [Array.getElem?_push, if_neg (by omega)]
theorem heap_alloc_new (w : World) (o : Obj) : (w.alloc o).heap[w.heap.size]? = some o := by
  show (w.heap.push o)[w.heap.size]? = _
  simp
theorem cell_of_block {w : World} {b o : Nat} {C : Array Value} {t : TypeId} {fr : Nat × Nat} (h : w.heap[b]? = some (.cells C t fr)) : w.cell? ⟨b, o, none⟩ = C[o]? := by
  simp [World.cell?, h]
theorem frozen_of_block {w : World} {b o : Nat} {C : Array Value} {t : TypeId} {fr : Nat × Nat} (h : w.heap[b]? = some (.cells C t fr)) (hf : ¬ (fr.1 ≤ o ∧ o < fr.2)) : w.frozen? ⟨b, o, none⟩ = false := by
  simp only [World.frozen?, h]
  obtain ⟨lo, hi⟩ := fr
  simp only at hf ⊢
  simp; omega
theorem add_addr (b o i : Nat) : (⟨b, o, none⟩ : Addr).add i = ⟨b, o + i, none⟩ := by
  unfold Addr.add; split <;> simp_all
def splat (C : List Value) (o : Nat) (vs : List Value) : List Value := C.take o ++ vs ++ C.drop (o + vs.length)
theorem splat_length {C : List Value} {o : Nat} {vs : List Value} (h : o + vs.length ≤ C.length) : (splat C o vs).length = C.length := by
  simp [splat]; omega
theorem run_storeCells {P : Program} (b o : Nat) (t : TypeId) (fr : Nat × Nat) : ∀ (vs : List Value) (i : Nat) (C : Array Value) (w : World),
    w.heap[b]? = some (.cells C t fr) → (∀ k, k < C.size → ¬ (fr.1 ≤ k ∧ k < fr.2)) → o + i + vs.length ≤ C.size → (∀ v ∈ vs, v.oneCell' = true) →
    (storeCells ⟨b, o, none⟩ vs i).run P w = .ok () (w.setRow b (splat C.toList (o + i) vs).toArray)
  | [], i, C, w, h, _, hl, _ => by
    have e : splat C.toList (o + i) [] = C.toList := by simp [splat]
    rw [e]
    simp only [storeCells, Sem.run_pure, Array.toArray_toList]
    rw [setRow_self w b C t fr h]
  | v :: vs, i, C, w, h, hf, hl, h1 => by
    simp only [List.length_cons] at hl
    have hst : (store ((⟨b, o, none⟩ : Addr).add i) v).run P w = .ok () (w.setRow b (C.setIfInBounds (o + i) v)) := by
      rw [add_addr, run_store P w _ v .plain (h1 v (by simp)), cell_of_block h]
      have : C[o + i]? = some C[o + i] := Array.getElem?_eq_getElem (by omega)
      rw [this]
      simp only [frozen_of_block h (hf (o + i) (by omega)), Bool.false_eq_true, if_false]
      rw [setCell_eq_setRow w b (o + i) C t fr v h]
    have hb : (w.setRow b (C.setIfInBounds (o + i) v)).heap[b]? = some (.cells (C.setIfInBounds (o + i) v) t fr) := setRow_heap w b C _ t fr h
    have ih := run_storeCells (P := P) b o t fr vs (i + 1) (C.setIfInBounds (o + i) v) _ hb (by simpa using hf) (by simp; omega) (fun u hu => h1 u (by simp [hu]))
    simp only [storeCells, Sem.run_bind, hst, Result.andThen_ok, ih, setRow_setRow]
    congr 3
    have hlen : o + i < C.toList.length := by simp; omega
    simp only [splat, Array.toList_setIfInBounds, List.length_cons]
    rw [List.take_set, List.drop_set]
    have e1 : o + (i + 1) = o + i + 1 := by omega
    rw [e1, if_pos (by omega), List.take_succ_eq_append_getElem hlen]
    simp
    rw [List.set_append_right _ _ (by simp; omega)]
    have : o + i - min (o + i) C.size = 0 := by omega
    simp [this, show o + i + 1 + vs.length = o + i + (vs.length + 1) from by omega]
theorem Mem.alloc (h : Mem E Φ w) (o : Obj) : Mem E Φ (w.alloc o) where
  os := h.os
  tape := h.tape
  output := h.output
  size := by have := h.size; simp; omega
  frame := fun b hb ho => by rw [heap_alloc_old w o b (by have := h.size; omega)]; exact h.frame b hb ho
  fix := fun b C hC => by
    obtain ⟨t, fr, hh⟩ := h.fix b C hC
    have hlt : b < w.heap.size := (Array.getElem?_eq_some_iff.1 hh).1
    exact ⟨t, fr, by rw [heap_alloc_old w o b hlt]; exact hh⟩
  phi := h.phi
  phi0 := h.phi0
theorem Mem.drew (h : Mem E Φ w) : Mem E Φ w.drew := ⟨h.os, h.tape, h.output, h.size, h.frame, h.fix, h.phi, h.phi0⟩
theorem Mem.setRow (h : Mem E Φ w) {b : Nat} (cs : Array Value) (hb : E.w0.heap.size ≤ b ∨ E.own b) (hn : Φ b = none) : Mem E Φ (w.setRow b cs) where
  os := h.os
  tape := h.tape
  output := h.output
  size := by have := h.size; simpa using this
  frame := fun k hk ho => by
    rw [setRow_other w b k cs (fun e => by subst e; rcases hb with hb | hb; omega; exact ho hb)]
    exact h.frame k hk ho
  fix := fun k C hC => by
    obtain ⟨t, fr, hh⟩ := h.fix k C hC
    exact ⟨t, fr, by rw [setRow_other w b k cs (fun e => by subst e; rw [hn] at hC; cases hC)]; exact hh⟩
  phi := h.phi
  phi0 := h.phi0
def Fix.add (Φ : Fix) (b : Nat) (C : Array Value) : Fix := fun k => if k = b then some C else Φ k
theorem Fix.le_add {Φ : Fix} {b : Nat} {C : Array Value} (h : Φ b = none ∨ Φ b = some C) : Φ.le (Φ.add b C) := fun k D hD => by
  unfold Fix.add
  split
  · rename_i e; subst e
    rcases h with h | h
    · rw [h] at hD; cases hD
    · rw [h] at hD; exact hD
  · exact hD
theorem Mem.add (h : Mem E Φ w) {b : Nat} {C : Array Value} {t : TypeId} {fr : Nat × Nat} (hb : E.w0.heap.size ≤ b ∨ E.own b) (hn : Φ b = none)
    (hc : w.heap[b]? = some (.cells C t fr)) : Mem E (Φ.add b C) w where
  os := h.os
  tape := h.tape
  output := h.output
  size := h.size
  frame := h.frame
  fix := fun k D hD => by
    unfold Fix.add at hD
    split at hD
    · rename_i e; subst e; cases hD; exact ⟨t, fr, hc⟩
    · exact h.fix k D hD
  phi := fun k hk ho => by
    unfold Fix.add
    rw [if_neg (fun e => by subst e; rcases hb with hb | hb; omega; exact ho hb)]
    exact h.phi k hk ho
  phi0 := Fix.le_trans h.phi0 (Fix.le_add (.inl hn))
theorem BRel.other {sb : SB} {p : Nat × Nat} {w' : World} (h : BRel Φ μ τ sb p w) (e : w'.heap[p.1]? = w.heap[p.1]?) : BRel Φ μ τ sb p w' := by
  obtain ⟨C, t, fr, h1, h2⟩ := h
  exact ⟨C, t, fr, by rw [e]; exact h1, h2⟩
theorem SRel.put {s : SV} {v : Value} {d : Nat} (h : SRel E τ X Φ μ a w) (hs : SRep Φ μ τ s v) (hr : ∀ id ∈ s.refs, X.dfn id = true) (hd : d < E.nt) :
    SRel E τ (X.set (lTmp d) (.sv s)) Φ μ (a.put (some d) v) w where
  dfr := h.dfr
  nt := by simp [Act.put, h.nt]
  mem := h.mem
  tmps := fun t => by
    rw [LS.tmp_set_tmp]
    split
    · rename_i e; subst e
      have : t < a.tmps.size := by rw [h.nt]; exact hd
      simpa [Act.put, this] using hs
    · rename_i e
      have := h.tmps t
      simpa [Act.put, Array.getElem?_setIfInBounds_ne (Ne.symm e)] using this
  refs := fun t id hid => by
    rw [LS.tmp_set_tmp] at hid
    rw [LS.dfn_set_tmp]
    split at hid
    · exact hr id hid
    · exact h.refs t id hid
  blks := fun id sb hb => by
    rw [LS.blk_set_tmp] at hb
    simpa using h.blks id sb hb
  home := fun id sb hb => by
    rw [LS.blk_set_tmp] at hb
    exact h.home id sb hb
  lt := fun id hid => by
    rw [LS.dfn_set_tmp] at hid
    exact h.lt id hid
  inj := fun id id' sb sb' hb hb' => by
    rw [LS.blk_set_tmp] at hb hb'
    exact h.inj id id' sb sb' hb hb'
  old := fun id hid => by
    rw [LS.dfn_set_tmp]
    exact h.old id hid
theorem SRel.drew (h : SRel E τ X Φ μ a w) : SRel E τ X Φ μ a w.drew where
  dfr := h.dfr
  nt := h.nt
  mem := h.mem.drew
  tmps := h.tmps
  refs := h.refs
  blks := h.blks
  home := h.home
  lt := h.lt
  inj := h.inj
  old := h.old
theorem SRel.alloc {id : Nat} {c : Cells} {C : Array Value} {t : TypeId} {fr : Nat × Nat} (h : SRel E τ X Φ μ a w) (hid : X.dfn id = false)
    (hc : CRep Φ μ τ c C.toList) (hr : ∀ i ∈ c.refs, X.dfn i = true) (hf : ∀ o, o < C.size → ¬ (fr.1 ≤ o ∧ o < fr.2)) :
    SRel E τ ((X.set (lDfn id) (.df true)).set (lBlk id) (.bk (some ⟨c, false⟩))) Φ (fun i => if i = id then (w.heap.size, C.size) else μ i) a (w.alloc (.cells C t fr)) := by
  have hne : ∀ i, X.dfn i = true → (if i = id then (w.heap.size, C.size) else μ i) = μ i := fun i hi => by
    rw [if_neg]; intro e; subst e; rw [hid] at hi; cases hi
  have hΦ : Φ w.heap.size = none := by
    cases hΦ : Φ w.heap.size with
    | none => rfl
    | some C' =>
      obtain ⟨_, _, hh⟩ := h.mem.fix _ _ hΦ
      have := (Array.getElem?_eq_some_iff.1 hh).1
      omega
  refine ⟨h.dfr, h.nt, h.mem.alloc _, fun t' => ?_, fun t' i hi => ?_, fun i sb hb => ?_, fun i sb hb hro => ?_, fun i hi => ?_, fun i j sb sb' hb hb' hro hro' hij => ?_, fun i hi => ⟨by
    simp only [LS.dfn_set_blk, LS.dfn_set_dfn]
    rw [(h.old i hi).1]; simp, by rw [hne i (h.old i hi).1]; exact (h.old i hi).2⟩⟩
  · simp only [LS.tmp_set_blk, LS.tmp_set_dfn]
    exact SRep.mono (Fix.le_refl Φ) _ _ (fun i hi => hne i (h.refs t' i hi)) (h.tmps t')
  · simp only [LS.tmp_set_blk, LS.tmp_set_dfn] at hi
    simp only [LS.dfn_set_blk, LS.dfn_set_dfn]
    rw [h.refs t' i hi]; simp
  · simp only [LS.blk_set_blk, LS.blk_set_dfn] at hb
    simp only [LS.dfn_set_blk, LS.dfn_set_dfn]
    split at hb
    · rename_i e; subst e
      cases hb
      refine ⟨by simp, ⟨C, t, fr, by simpa using heap_alloc_new w _, by simp, hf, CRep.mono (Fix.le_refl Φ) c _ (fun j hj => hne j (hr j hj)) hc, by simpa using hΦ⟩, fun j hj => by rw [hr j hj]; simp⟩
    · rename_i e
      obtain ⟨h1, ⟨C', t', fr', h2, h3, h4, h5, h6⟩, h7⟩ := h.blks i sb hb
      refine ⟨by rw [h1]; simp, ⟨C', t', fr', ?_, ?_, h4, ?_, ?_⟩, fun j hj => by rw [h7 j hj]; simp⟩
      · rw [hne i h1, heap_alloc_old w _ _ (h.lt i h1)]; exact h2
      · rw [hne i h1]; exact h3
      · exact CRep.mono (Fix.le_refl Φ) sb.cells _ (fun j hj => hne j (h7 j hj)) h5
      · rw [hne i h1]; exact h6
  · simp only [LS.blk_set_blk, LS.blk_set_dfn] at hb
    split at hb
    · rename_i e; subst e
      left; simpa using h.mem.size
    · rw [hne i (h.blks i sb hb).1]; exact h.home i sb hb hro
  · simp only [LS.dfn_set_blk, LS.dfn_set_dfn] at hi
    by_cases e : i = id
    · subst e; simp
    · rw [if_neg e] at hi
      rw [if_neg e]
      have := h.lt i hi
      simp; omega
  · simp only [LS.blk_set_blk, LS.blk_set_dfn] at hb hb'
    by_cases e : i = id
    · subst e
      rw [if_neg (Ne.symm hij)] at hb'
      rw [if_pos rfl, if_neg (Ne.symm hij)]
      have := h.lt j (h.blks j sb' hb').1
      simp only; omega
    · by_cases e' : j = id
      · subst e'
        rw [if_neg e] at hb
        rw [if_pos rfl, if_neg e]
        have := h.lt i (h.blks i sb hb).1
        simp only; omega
      · rw [if_neg e] at hb
        rw [if_neg e'] at hb'
        rw [if_neg e, if_neg e']
        exact h.inj i j sb sb' hb hb' hro hro' hij
theorem SRel.recell {id : Nat} {c : Cells} {x : Atom} (h : SRel E τ X Φ μ a w) (hb : X.blk id = some ⟨c, false⟩) (hc : ∀ vs, CRep Φ μ τ c vs → CRep Φ μ τ (.dyn x) vs) :
    SRel E τ (X.set (lBlk id) (.bk (some ⟨.dyn x, false⟩))) Φ μ a w := by
  obtain ⟨h1, ⟨C0, t0, fr0, h2, h3, h4, h5, h6⟩, h7⟩ := h.blks id _ hb
  refine ⟨h.dfr, h.nt, h.mem, fun t' => ?_, fun t' i hi => ?_, fun i sb hb' => ?_, fun i sb hb' hro => ?_, fun i hi => ?_, fun i j sb sb' hi hj hro hro' hij => ?_, fun i hi => by rw [LS.dfn_set_blk]; exact h.old i hi⟩
  · rw [LS.tmp_set_blk]; exact h.tmps t'
  · rw [LS.tmp_set_blk] at hi; rw [LS.dfn_set_blk]; exact h.refs t' i hi
  · rw [LS.blk_set_blk] at hb'
    simp only [LS.dfn_set_blk]
    split at hb'
    · rename_i e; subst e; cases hb'
      exact ⟨h1, ⟨C0, t0, fr0, h2, h3, h4, hc _ h5, h6⟩, fun i hi => by simp [Cells.refs] at hi⟩
    · exact h.blks i sb hb'
  · rw [LS.blk_set_blk] at hb'
    split at hb'
    · rename_i e; subst e; exact h.home i _ hb rfl
    · exact h.home i sb hb' hro
  · rw [LS.dfn_set_blk] at hi
    exact h.lt i hi
  · rw [LS.blk_set_blk] at hi hj
    have key : ∀ k s, (if k = id then some (⟨.dyn x, false⟩ : SB) else X.blk k) = some s → ∃ s', X.blk k = some s' ∧ (s.ro = false → s'.ro = false) := fun k s hk => by
      split at hk
      · rename_i e; subst e; exact ⟨_, hb, fun _ => rfl⟩
      · exact ⟨s, hk, fun h => h⟩
    obtain ⟨s1, g1, g1'⟩ := key i sb hi
    obtain ⟨s2, g2, g2'⟩ := key j sb' hj
    exact h.inj i j s1 s2 g1 g2 (g1' hro) (g2' hro') hij
theorem SRel.modify {id : Nat} {c c' : Cells} {C : Array Value} (h : SRel E τ X Φ μ a w) (hb : X.blk id = some ⟨c, false⟩)
    (hs : C.size = (μ id).2) (hc : CRep Φ μ τ c' C.toList) (hr : ∀ i ∈ c'.refs, X.dfn i = true) :
    SRel E τ (X.set (lBlk id) (.bk (some ⟨c', false⟩))) Φ μ a (w.setRow (μ id).1 C) := by
  obtain ⟨h1, ⟨C0, t0, fr0, h2, h3, h4, h5, h6⟩, h7⟩ := h.blks id _ hb
  simp only [Bool.false_eq_true, if_false] at h6
  refine ⟨h.dfr, h.nt, h.mem.setRow C (h.home id _ hb rfl) h6, fun t' => ?_, fun t' i hi => ?_, fun i sb hb' => ?_, fun i sb hb' hro => ?_, fun i hi => ?_, fun i j sb sb' hi hj hro hro' hij => ?_, fun i hi => by rw [LS.dfn_set_blk]; exact h.old i hi⟩
  · rw [LS.tmp_set_blk]; exact h.tmps t'
  · rw [LS.tmp_set_blk] at hi; rw [LS.dfn_set_blk]; exact h.refs t' i hi
  · rw [LS.blk_set_blk] at hb'
    simp only [LS.dfn_set_blk]
    split at hb'
    · rename_i e; subst e; cases hb'
      exact ⟨h1, ⟨C, t0, fr0, setRow_heap w _ C0 C t0 fr0 h2, hs, by rw [hs, ← h3]; exact h4, hc, by simpa using h6⟩, hr⟩
    · rename_i e
      obtain ⟨k1, k2, k3⟩ := h.blks i sb hb'
      refine ⟨k1, k2.other (setRow_other w _ _ C ?_), k3⟩
      cases hro : sb.ro with
      | false => exact h.inj i id sb _ hb' hb hro rfl e
      | true =>
        obtain ⟨C1, _, _, _, _, _, _, g6⟩ := k2
        rw [hro] at g6
        simp only [if_true] at g6
        intro ee; rw [ee, h6] at g6; cases g6
  · rw [LS.blk_set_blk] at hb'
    split at hb'
    · rename_i e; subst e; exact h.home i _ hb rfl
    · exact h.home i sb hb' hro
  · rw [LS.dfn_set_blk] at hi
    simpa using h.lt i hi
  · rw [LS.blk_set_blk] at hi hj
    have key : ∀ k s, (if k = id then some (⟨c', false⟩ : SB) else X.blk k) = some s → ∃ s', X.blk k = some s' ∧ (s.ro = false → s'.ro = false) := fun k s hk => by
      split at hk
      · rename_i e; subst e; exact ⟨_, hb, fun _ => rfl⟩
      · exact ⟨s, hk, fun h => h⟩
    obtain ⟨s1, g1, g1'⟩ := key i sb hi
    obtain ⟨s2, g2, g2'⟩ := key j sb' hj
    exact h.inj i j s1 s2 g1 g2 (g1' hro) (g2' hro') hij
theorem SRel.kill {id : Nat} (h : SRel E τ X Φ μ a w) : SRel E τ (X.set (lBlk id) (.bk none)) Φ μ a w := by
  refine ⟨h.dfr, h.nt, h.mem, fun t' => ?_, fun t' i hi => ?_, fun i sb hb' => ?_, fun i sb hb' hro => ?_, fun i hi => ?_, fun i j sb sb' hi hj hro hro' hij => ?_, fun i hi => by rw [LS.dfn_set_blk]; exact h.old i hi⟩
  · rw [LS.tmp_set_blk]; exact h.tmps t'
  · rw [LS.tmp_set_blk] at hi; rw [LS.dfn_set_blk]; exact h.refs t' i hi
  · rw [LS.blk_set_blk] at hb'
    split at hb'
    · cases hb'
    · simpa using h.blks i sb hb'
  · rw [LS.blk_set_blk] at hb'
    split at hb'
    · cases hb'
    · exact h.home i sb hb' hro
  · rw [LS.dfn_set_blk] at hi; exact h.lt i hi
  · rw [LS.blk_set_blk] at hi hj
    split at hi
    · cases hi
    · split at hj
      · cases hj
      · exact h.inj i j sb sb' hi hj hro hro' hij
theorem SRel.freeze {id : Nat} {c : Cells} (h : SRel E τ X Φ μ a w) (hb : X.blk id = some ⟨c, false⟩) :
    ∃ Φ' C t fr, w.heap[(μ id).1]? = some (.cells C t fr) ∧ CRep Φ μ τ c C.toList ∧ Φ.le Φ' ∧ Φ' (μ id).1 = some C ∧
      SRel E τ (X.set (lBlk id) (.bk (some ⟨c, true⟩))) Φ' μ a w := by
  obtain ⟨h1, ⟨C, t0, fr0, h2, h3, h4, h5, h6⟩, h7⟩ := h.blks id _ hb
  simp only [Bool.false_eq_true, if_false] at h6
  have hle : Φ.le (Φ.add (μ id).1 C) := Fix.le_add (.inl h6)
  refine ⟨Φ.add (μ id).1 C, C, t0, fr0, h2, h5, hle, by simp [Fix.add], ?_⟩
  refine ⟨h.dfr, h.nt, h.mem.add (h.home id _ hb rfl) h6 h2, fun t' => ?_, fun t' i hi => ?_, fun i sb hb' => ?_, fun i sb hb' hro => ?_, fun i hi => ?_, fun i j sb sb' hi hj hro hro' hij => ?_, fun i hi => by rw [LS.dfn_set_blk]; exact h.old i hi⟩
  · rw [LS.tmp_set_blk]; exact SRep.mono hle _ _ (fun _ _ => rfl) (h.tmps t')
  · rw [LS.tmp_set_blk] at hi; rw [LS.dfn_set_blk]; exact h.refs t' i hi
  · rw [LS.blk_set_blk] at hb'
    simp only [LS.dfn_set_blk]
    split at hb'
    · rename_i e; subst e; cases hb'
      exact ⟨h1, ⟨C, t0, fr0, h2, h3, h4, CRep.mono hle _ _ (fun _ _ => rfl) h5, by simp [Fix.add]⟩, h7⟩
    · rename_i e
      obtain ⟨k1, ⟨C1, t1, fr1, g2, g3, g4, g5, g6⟩, k3⟩ := h.blks i sb hb'
      refine ⟨k1, ⟨C1, t1, fr1, g2, g3, g4, CRep.mono hle _ _ (fun _ _ => rfl) g5, ?_⟩, k3⟩
      cases hro : sb.ro with
      | true =>
        rw [hro] at g6
        simp only [if_true] at g6 ⊢
        exact hle _ _ g6
      | false =>
        rw [hro] at g6
        simp only [Bool.false_eq_true, if_false] at g6 ⊢
        unfold Fix.add
        rw [if_neg (h.inj i id sb _ hb' hb hro rfl e)]
        exact g6
  · rw [LS.blk_set_blk] at hb'
    split at hb'
    · cases hb'; cases hro
    · exact h.home i sb hb' hro
  · rw [LS.dfn_set_blk] at hi; exact h.lt i hi
  · rw [LS.blk_set_blk] at hi hj
    split at hi
    · cases hi; cases hro
    · split at hj
      · cases hj; cases hro'
      · exact h.inj i j sb sb' hi hj hro hro' hij
theorem SRel.rename {id id' : Nat} {sb : SB} (h : SRel E τ X Φ μ a w) (hb : X.blk id = some sb) (hid : X.dfn id' = false) :
    SRel E τ (((X.set (lBlk id) (.bk none)).set (lDfn id') (.df true)).set (lBlk id') (.bk (some sb))) Φ (fun i => if i = id' then μ id else μ i) a w := by
  have hne : ∀ i, X.dfn i = true → (if i = id' then μ id else μ i) = μ i := fun i hi => by
    rw [if_neg]; intro e; subst e; rw [hid] at hi; cases hi
  obtain ⟨h1, ⟨C0, t0, fr0, h2, h3, h4, h5, h6⟩, h7⟩ := h.blks id _ hb
  have hii : id ≠ id' := fun e => by subst e; rw [hid] at h1; cases h1
  refine ⟨h.dfr, h.nt, h.mem, fun t' => ?_, fun t' i hi => ?_, fun i sb' hb' => ?_, fun i sb' hb' hro => ?_, fun i hi => ?_, fun i j sb' sb'' hi hj hro hro' hij => ?_, fun i hi => ⟨by
    simp only [LS.dfn_set_blk, LS.dfn_set_dfn]
    rw [(h.old i hi).1]; simp, by rw [hne i (h.old i hi).1]; exact (h.old i hi).2⟩⟩
  · simp only [LS.tmp_set_blk, LS.tmp_set_dfn]
    exact SRep.mono (Fix.le_refl Φ) _ _ (fun i hi => hne i (h.refs t' i hi)) (h.tmps t')
  · simp only [LS.tmp_set_blk, LS.tmp_set_dfn] at hi
    simp only [LS.dfn_set_blk, LS.dfn_set_dfn]
    rw [h.refs t' i hi]; simp
  · simp only [LS.blk_set_blk, LS.blk_set_dfn] at hb'
    simp only [LS.dfn_set_blk, LS.dfn_set_dfn]
    split at hb'
    · rename_i e; subst e; cases hb'
      refine ⟨by simp, ⟨C0, t0, fr0, by simpa using h2, by simpa using h3, h4, CRep.mono (Fix.le_refl Φ) _ _ (fun j hj => hne j (h7 j hj)) h5, by simpa using h6⟩, fun j hj => by rw [h7 j hj]; simp⟩
    · split at hb'
      · cases hb'
      · obtain ⟨k1, ⟨C', t', fr', g2, g3, g4, g5, g6⟩, k3⟩ := h.blks i sb' hb'
        refine ⟨by rw [k1]; simp, ⟨C', t', fr', ?_, ?_, g4, CRep.mono (Fix.le_refl Φ) _ _ (fun j hj => hne j (k3 j hj)) g5, ?_⟩, fun j hj => by rw [k3 j hj]; simp⟩
        · rw [hne i k1]; exact g2
        · rw [hne i k1]; exact g3
        · rw [hne i k1]; exact g6
  · simp only [LS.blk_set_blk, LS.blk_set_dfn] at hb'
    split at hb'
    · rename_i e; subst e; cases hb'
      simpa using h.home id _ hb hro
    · split at hb'
      · cases hb'
      · rw [hne i (h.blks i sb' hb').1]; exact h.home i sb' hb' hro
  · simp only [LS.dfn_set_blk, LS.dfn_set_dfn] at hi
    by_cases e : i = id'
    · subst e; simpa using h.lt id h1
    · rw [if_neg e] at hi ⊢
      exact h.lt i hi
  · simp only [LS.blk_set_blk, LS.blk_set_dfn] at hi hj
    have key : ∀ k s, (if k = id' then some sb else if k = id then none else X.blk k) = some s → ∃ k', X.blk k' = some s ∧ (if k = id' then μ id else μ k) = μ k' ∧ (k' = if k = id' then id else k) := fun k s hk => by
      split at hk
      · rename_i e; subst e; cases hk; exact ⟨id, hb, by simp, by simp⟩
      · rename_i e
        split at hk
        · cases hk
        · exact ⟨k, hk, by simp [e], by simp [e]⟩
    obtain ⟨i', g1, g2, g3⟩ := key i sb' hi
    obtain ⟨j', k1, k2, k3⟩ := key j sb'' hj
    rw [g2, k2]
    refine h.inj i' j' sb' sb'' g1 k1 hro hro' ?_
    rw [g3, k3]
    intro e
    by_cases a1 : i = id'
    · by_cases a2 : j = id'
      · exact hij (a1.trans a2.symm)
      · rw [if_pos a1, if_neg a2] at e
        rw [if_neg a2] at hj
        rw [if_pos e.symm] at hj
        cases hj
    · by_cases a2 : j = id'
      · rw [if_neg a1, if_pos a2] at e
        rw [if_neg a1, if_pos e] at hi
        cases hi
      · rw [if_neg a1, if_neg a2] at e
        exact hij e
end Go.SE
set_option autoImplicit false
namespace Go.SE
open Go
theorem EM.bind_eq {α β : Type} {x : EM α} {f : α → EM β} {e : Em} {r : β × Em} : (x >>= f) e = some r ↔ ∃ a e1, x e = some (a, e1) ∧ f a e1 = some r := by
  show EM.bind x f e = some r ↔ _
  unfold EM.bind
  cases h : x e with
  | none => simp
  | some p =>
    obtain ⟨a, e1⟩ := p
    constructor
    · intro k; exact ⟨a, e1, rfl, k⟩
    · rintro ⟨a', e1', k1, k2⟩
      cases k1; exact k2
theorem EM.pure_eq {α : Type} {a : α} {e : Em} {r : α × Em} : (pure a : EM α) e = some r ↔ r = (a, e) := by
  show some (a, e) = some r ↔ _
  simp [eq_comm]
theorem fail_eq {α : Type} {e : Em} {r : α × Em} : (fail : EM α) e = some r ↔ False := by simp [fail]
theorem lift_eq {α : Type} {x : Option α} {e : Em} {r : α × Em} : lift x e = some r ↔ ∃ a, x = some a ∧ r = (a, e) := by
  unfold lift; cases x <;> simp [eq_comm]
theorem need_eq {b : Bool} {e : Em} {r : Unit × Em} : need b e = some r ↔ b = true ∧ r = ((), e) := by
  unfold need; cases b <;> simp [eq_comm]
def RunR (P : Program) (σ0 : List AV) : List Node → List AV → Prop
  | [], σ => σ = σ0
  | nd :: l, σ => ∃ σ1 v, RunR P σ0 l σ1 ∧ runNode P σ1 nd v ∧ σ = σ1 ++ [v]
theorem RunR.length {P : Program} {σ0 : List AV} : ∀ {l : List Node} {σ : List AV}, RunR P σ0 l σ → σ.length = σ0.length + l.length
  | [], σ, h => by cases h; rfl
  | _ :: l, σ, ⟨σ1, v, h1, _, h3⟩ => by subst h3; have := RunR.length h1; simp; omega
theorem RunR.start {P : Program} {σ0 : List AV} : ∀ {l : List Node} {σ : List AV}, RunR P σ0 l σ → σ0 <+: σ
  | [], σ, h => by cases h; exact List.prefix_rfl
  | _ :: l, σ, ⟨σ1, v, h1, _, h3⟩ => by subst h3; exact List.IsPrefix.trans (RunR.start h1) (List.prefix_append _ _)
theorem getD_of_pre {σ τ : List AV} (h : σ <+: τ) {i : Nat} (hi : i < σ.length) : σ.getD i default = τ.getD i default := by
  obtain ⟨r, rfl⟩ := h
  simp [List.getElem?_append_left hi]
theorem kindsRep.getD : ∀ {ks : List Bool} {σ : List AV} {i : Nat}, kindsRep ks σ → ks.getD i false = true → (σ.getD i default).isCell = true
  | [], [], i, _, h => by simp at h
  | k :: ks, a :: σ, 0, h, hk => h.1 (by simpa using hk)
  | k :: ks, a :: σ, i + 1, h, hk => by
    have := kindsRep.getD (i := i) h.2 (by simpa using hk)
    simpa using this
  | [], _ :: _, _, h, _ => h.elim
  | _ :: _, [], _, h, _ => h.elim
theorem kindsRep.length : ∀ {ks : List Bool} {σ : List AV}, kindsRep ks σ → σ.length = ks.length
  | [], [], _ => rfl
  | _ :: _, _ :: _, h => by simp [kindsRep.length h.2]
  | [], _ :: _, h => h.elim
  | _ :: _, [], h => h.elim
theorem kindsRep.append : ∀ {ks ls : List Bool} {σ ρ : List AV}, kindsRep ks σ → kindsRep ls ρ → kindsRep (ks ++ ls) (σ ++ ρ)
  | [], _, [], _, _, h => h
  | _ :: _, _, _ :: _, _, h, h' => ⟨h.1, kindsRep.append h.2 h'⟩
  | [], _, _ :: _, _, h, _ => h.elim
  | _ :: _, _, [], _, h, _ => h.elim
theorem rdCells_cell {sz : Nat} {cs : List AV} {v : AV} (h : rdCells false sz cs = some v) : v.isCell = true := by
  unfold rdCells at h
  simp only [Bool.false_eq_true, if_false] at h
  split at h
  · split at h
    · cases h; assumption
    · cases h
  · cases h
theorem ibin_cell {op : BinOp} {k : IntKind} {a b : Int} {v : AV} (h : ibin op k a b = some v) : v.isCell = true := by
  unfold ibin at h
  split at h <;> first | (cases h; rfl) | (split at h <;> cases h; rfl) | cases h
theorem ishift_cell {op : BinOp} {k : IntKind} {a b : Int} {v : AV} (h : ishift op k a b = some v) : v.isCell = true := by
  unfold ishift at h
  split at h
  · cases h
  · split at h <;> cases h <;> rfl
theorem sbin_cell {op : BinOp} {a b : ByteArray} {v : AV} (h : sbin op a b = some v) : v.isCell = true := by
  unfold sbin at h
  split at h <;> first | (cases h; rfl) | (split at h <;> cases h; rfl) | cases h
theorem aBin_cell {op : BinOp} {a b v : AV} (h : aBin op a b = some v) : v.isCell = true := by
  unfold aBin at h
  split at h
  · split at h
    · exact ishift_cell h
    · split at h
      · exact ibin_cell h
      · cases h
  · exact sbin_cell h
  · cases h
theorem aUn_cell {op : UnOp} {a v : AV} (h : aUn op a = some v) : v.isCell = true := by
  unfold aUn at h
  split at h
  · split at h
    · exact ibin_cell h
    · exact ibin_cell h
    · cases h
  · split at h <;> cases h; rfl
  · cases h
theorem sliceAV_cell {sz l h m : Nat} {x v : AV} {f : Bool} (e : sliceAV sz x l h m f = some v) : v.isCell = true := by
  unfold sliceAV at e
  split at e
  · split at e
    · cases e; split <;> rfl
    · cases e
  · cases e
theorem cellOut_sound {o : O} {xs : List AV} {v : AV} (hc : o.cellOut = true) (h : evalO o xs = some v) : v.isCell = true := by
  unfold evalO at h
  split at h
  · exact aBin_cell h
  · cases h; rfl
  · exact aUn_cell h
  · cases h; rfl
  · simp only [Option.map_eq_some_iff] at h; obtain ⟨_, _, rfl⟩ := h; rfl
  · simp only [Option.map_eq_some_iff] at h; obtain ⟨_, _, rfl⟩ := h; rfl
  · simp only [Option.map_eq_some_iff] at h; obtain ⟨_, _, rfl⟩ := h; rfl
  all_goals first
    | (simp [O.cellOut] at hc; done)
    | (simp only [O.cellOut, Bool.not_eq_true'] at hc; subst hc; exact rdCells_cell h)
    | (cases h; rfl)
    | (cases h; done)
    | (simp only [Option.map_eq_some_iff] at h; obtain ⟨_, _, rfl⟩ := h; rfl)
    | ((repeat' split at h) <;> first
      | (simp only [O.cellOut, Bool.not_eq_true'] at hc; subst hc; exact rdCells_cell h)
      | (cases h; done)
      | (cases h; first | rfl | assumption)
      | exact sliceAV_cell h
      | exact rdCells_cell (by simp_all [O.cellOut])
      | (simp only [Option.map_eq_some_iff] at h; obtain ⟨_, _, rfl⟩ := h; rfl)
      | (cases h; simp_all [O.cellOut]))
end Go.SE
set_option autoImplicit false
namespace Go.SE
open Go
def Hold (P : Program) (σ0 τ : List AV) (e : Em) : Prop :=
  σ0.length = e.n0 ∧ kindsRep e.k0 σ0 ∧ ∃ σ, RunR P σ0 e.nodes σ ∧ σ <+: τ
variable {P : Program} {σ0 τ : List AV}
theorem args_den {σ τ : List AV} {n : Nat} (h : σ <+: τ) (hn : σ.length = n) {args : List Atom} (ha : args.all (Atom.lt n) = true) : args.map (Atom.den σ) = args.map (Atom.den τ) := by
  apply List.map_congr_left
  intro x hx
  exact Atom.den_ext (List.all_eq_true.1 ha x hx) (fun i hi => getD_of_pre h (by omega))
theorem constArgs_den {τ : List AV} : ∀ {args : List Atom} {vs : List AV}, constArgs args = some vs → args.map (Atom.den τ) = vs
  | [], vs, h => by simp [constArgs] at h; simp [h]
  | .c a :: l, vs, h => by
    simp only [constArgs] at h
    split at h
    · rename_i r hr
      cases h
      simp [constArgs_den hr, Atom.den]
    · cases h
  | .v i :: l, vs, h => by simp [constArgs] at h
theorem emit_back {o : O} {args : List Atom} {e e' : Em} {a : Atom} (h : emit o args e = some (a, e')) (H : Hold P σ0 τ e') :
    Hold P σ0 τ e ∧ evalO o (args.map (Atom.den τ)) = some (a.den τ) ∧ (o.cellOut = true → (a.den τ).isCell = true) := by
  unfold emit at h
  split at h
  · rename_i hs
    split at h
    · rename_i vs hv
      split at h
      · rename_i v hev
        cases h
        have e1 : evalO o (args.map (Atom.den τ)) = some v := by rw [constArgs_den hv]; exact hev
        exact ⟨H, e1, fun hc => cellOut_sound hc e1⟩
      · cases h
    · cases h
      obtain ⟨h1, h2, σ, h3, h4⟩ := H
      obtain ⟨σ1, v, k1, k2, rfl⟩ := h3
      have hpre : σ1 <+: τ := List.IsPrefix.trans (List.prefix_append _ _) h4
      have hlen : σ1.length = e.n := by rw [RunR.length k1, h1]; rfl
      have hv : (Atom.v e.n).den τ = v := by
        show τ.getD e.n default = v
        rw [← getD_of_pre h4 (by simp; omega)]
        simp [← hlen]
      have e1 : evalO o (args.map (Atom.den τ)) = some v := by
        rw [← args_den hpre hlen hs]; exact k2
      refine ⟨⟨h1, h2, σ1, k1, hpre⟩, by rw [hv]; exact e1, fun hc => by rw [hv]; exact cellOut_sound hc e1⟩
  · cases h
theorem emitCall_back {K : Knowns} {f : FuncId} {args : List Atom} {cell : Bool} {e e' : Em} {a : Atom} (h : emitCall K f args cell e = some (a, e')) (H : Hold P σ0 τ e') :
    Hold P σ0 τ e ∧ Ct P f (args.map (Atom.den τ)) (fun r => r = .ret (a.den τ)) ∧ (cell = true → (a.den τ).isCell = true) := by
  unfold emitCall at h
  split at h
  · rename_i hs
    generalize hk : ((constArgs args).bind fun vs => (knownOf f vs K).map fun v => (vs, v)) = kn at h
    cases kn with
    | some p =>
      obtain ⟨vs, x⟩ := p
      simp only at h
      split at h
      · rename_i hc
        cases h
        obtain ⟨h1, h2, σ, h3, h4⟩ := H
        obtain ⟨σ1, v, k1, k2, rfl⟩ := h3
        have hpre : σ1 <+: τ := List.IsPrefix.trans (List.prefix_append _ _) h4
        have hvs : constArgs args = some vs := by
          cases hca : constArgs args with
          | none => simp [hca] at hk
          | some us =>
            simp only [hca, Option.bind_some, Option.map_eq_some_iff, Prod.mk.injEq] at hk
            obtain ⟨_, _, rfl, _⟩ := hk
            rfl
        have k3 : Ct P f vs (fun e => e = .ret x) := k2.1
        refine ⟨⟨h1, h2, σ1, k1, hpre⟩, by rw [constArgs_den hvs]; exact k3, fun hcc => ?_⟩
        rw [hcc] at hc
        simpa [Atom.den] using hc
      · cases h
    | none =>
      simp only at h
      cases h
      obtain ⟨h1, h2, σ, h3, h4⟩ := H
      obtain ⟨σ1, v, k1, k2, rfl⟩ := h3
      have hpre : σ1 <+: τ := List.IsPrefix.trans (List.prefix_append _ _) h4
      have hlen : σ1.length = e.n := by rw [RunR.length k1, h1]; rfl
      have hv : (Atom.v e.n).den τ = v := by
        show τ.getD e.n default = v
        rw [← getD_of_pre h4 (by simp; omega)]
        simp [← hlen]
      obtain ⟨k3, k4⟩ := k2
      rw [args_den hpre hlen hs] at k3
      exact ⟨⟨h1, h2, σ1, k1, hpre⟩, by rw [hv]; exact k3, fun hc => by rw [hv]; exact k4 hc⟩
  · cases h
theorem HA.den_ext {τ τ' : List AV} {n : Nat} {a : HA} (h : a.lt n = true) (he : ∀ i, i < n → τ.getD i default = τ'.getD i default) : a.den τ = a.den τ' := by
  cases a <;> simp only [HA.lt, Bool.and_eq_true] at h <;> simp only [HA.den]
  · rw [Atom.den_ext h he]
  · rw [Atom.den_ext h.1.1 he, Atom.den_ext h.1.2 he, Atom.den_ext h.2 he]
  · rw [Atom.den_ext h he]
theorem emitCallH_back {f : FuncId} {args : List HA} {bs : List Atom} {sh : Sh} {e e' : Em} {a : Atom} (h : emitCallH f args bs sh e = some (a, e')) (H : Hold P σ0 τ e') :
    Hold P σ0 τ e ∧ CtH P f (args.map (HA.den τ)) (bs.map (Atom.den τ)) sh (fun r => r = .ret (a.den τ)) := by
  unfold emitCallH at h
  split at h
  · rename_i hs
    simp only [Bool.and_eq_true] at hs
    cases h
    obtain ⟨h1, h2, σ, h3, h4⟩ := H
    obtain ⟨σ1, v, k1, k2, rfl⟩ := h3
    have hpre : σ1 <+: τ := List.IsPrefix.trans (List.prefix_append _ _) h4
    have hlen : σ1.length = e.n := by rw [RunR.length k1, h1]; rfl
    have hv : (Atom.v e.n).den τ = v := by
      show τ.getD e.n default = v
      rw [← getD_of_pre h4 (by simp; omega)]
      simp [← hlen]
    have k3 : CtH P f (args.map (HA.den σ1)) (bs.map (Atom.den σ1)) sh (fun r => r = .ret v) := k2
    rw [args_den hpre hlen hs.2] at k3
    have : args.map (HA.den σ1) = args.map (HA.den τ) := by
      apply List.map_congr_left
      intro x hx
      exact HA.den_ext (List.all_eq_true.1 hs.1 x hx) (fun i hi => getD_of_pre hpre (by omega))
    rw [this] at k3
    exact ⟨⟨h1, h2, σ1, k1, hpre⟩, by rw [hv]; exact k3⟩
  · cases h
theorem node_cell : ∀ {l : List Node} {σ : List AV} {j : Nat} {nd : Node}, RunR P σ0 l σ → j < l.length → l[l.length - 1 - j]? = some nd → nd.kind = true →
    (σ.getD (σ0.length + j) default).isCell = true
  | [], _, _, _, _, hj, _, _ => by simp at hj
  | x :: l, σ, j, nd, ⟨σ1, v, h1, h2, h3⟩, hj, hn, hk => by
    subst h3
    have hl := RunR.length h1
    simp only [List.length_cons] at hj hn
    by_cases hjl : j = l.length
    · subst hjl
      have hn' : x = nd := by simpa using hn
      subst hn'
      have : (σ1 ++ [v]).getD (σ0.length + l.length) default = v := by rw [← hl]; simp
      rw [this]
      cases x with
      | op o args => exact cellOut_sound hk h2
      | call f args c => exact h2.2 hk
      | callH f args bs sh => cases hk
      | known f args x => cases hk
    · have : l.length + 1 - 1 - j = (l.length - 1 - j) + 1 := by omega
      rw [this, List.getElem?_cons_succ] at hn
      have ih := node_cell h1 (by omega) hn hk
      rw [getD_of_pre (List.prefix_append σ1 [v]) (by omega)] at ih
      exact ih
theorem kind_sound {e : Em} (H : Hold P σ0 τ e) {i : Nat} (h : e.kind i = true) : (τ.getD i default).isCell = true := by
  obtain ⟨h1, h2, σ, h3, h4⟩ := H
  unfold Em.kind at h
  split at h
  · rename_i hi
    have hi' : i < σ0.length := by rw [h1]; simpa [Nat.blt_eq] using hi
    rw [← getD_of_pre (List.IsPrefix.trans (RunR.start h3) h4) hi']
    exact kindsRep.getD h2 h
  · rename_i hi
    split at h
    · rename_i nd hnd
      simp only [Bool.and_eq_true, Nat.blt_eq] at h hi
      have hlt : i < e.n0 + e.nodes.length := h.1
      have := node_cell h3 (j := i - e.n0) (by omega) hnd h.2
      rw [show σ0.length + (i - e.n0) = i from by omega] at this
      rw [← getD_of_pre h4 (by rw [RunR.length h3]; omega)]
      exact this
    · cases h
theorem cellAtom_back {a : Atom} {b : Bool} {e e' : Em} (h : cellAtom a e = some (b, e')) : e' = e ∧ (Hold P σ0 τ e → b = true → (a.den τ).isCell = true) := by
  unfold cellAtom at h
  split at h
  · cases h; exact ⟨rfl, fun H hb => kind_sound H hb⟩
  · cases h; exact ⟨rfl, fun _ hb => hb⟩
def All2 {α β : Type} (Q : α → β → Prop) : List α → List β → Prop
  | [], [] => True
  | a :: as, b :: bs => Q a b ∧ All2 Q as bs
  | _, _ => False
theorem All2.length {α β : Type} {Q : α → β → Prop} : ∀ {as : List α} {bs : List β}, All2 Q as bs → bs.length = as.length
  | [], [], _ => rfl
  | _ :: _, _ :: _, h => by simp [All2.length h.2]
  | [], _ :: _, h => h.elim
  | _ :: _, [], h => h.elim
theorem All2.mono {α β : Type} {Q Q' : α → β → Prop} (hq : ∀ a b, Q a b → Q' a b) : ∀ {as : List α} {bs : List β}, All2 Q as bs → All2 Q' as bs
  | [], [], _ => trivial
  | _ :: _, _ :: _, h => ⟨hq _ _ h.1, All2.mono hq h.2⟩
  | [], _ :: _, h => h.elim
  | _ :: _, [], h => h.elim
theorem mapEM_back {α β : Type} {f : α → EM β} {Q : α → β → Prop} (hf : ∀ a e b e', f a e = some (b, e') → Hold P σ0 τ e' → Hold P σ0 τ e ∧ Q a b) :
    ∀ {l : List α} {e e' : Em} {r : List β}, mapEM f l e = some (r, e') → Hold P σ0 τ e' → Hold P σ0 τ e ∧ All2 Q l r
  | [], e, e', r, h, H => by
    simp only [mapEM, EM.pure_eq] at h
    cases h; exact ⟨H, trivial⟩
  | a :: l, e, e', r, h, H => by
    simp only [mapEM, EM.bind_eq, EM.pure_eq] at h
    obtain ⟨b, e1, h1, bs, e2, h2, h3⟩ := h
    cases h3
    obtain ⟨H1, q1⟩ := mapEM_back hf h2 H
    obtain ⟨H0, q0⟩ := hf a e b e1 h1 H1
    exact ⟨H0, q0, q1⟩
theorem isCell_value {Φ : Fix} {a : AV} {v : Value} (h : Rep Φ a v) (hc : a.isCell = true) : v.oneCell' = true := by
  cases a <;> simp only [Rep] at h <;> first
    | (simp [AV.isCell] at hc; done)
    | (obtain ⟨_, _, rfl, _⟩ := h; rfl)
    | (obtain ⟨_, rfl, _⟩ := h; rfl)
    | (subst h; rfl)
end Go.SE
