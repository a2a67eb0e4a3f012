/- Nothing of the statement is proved here: this text lays generic laws: FQ; no conditions. -/
import Derived.Test.YtdpcehjiicfpdaaFO
set_option linter.all false
set_option autoImplicit false
set_option maxRecDepth 4000
set_option maxHeartbeats 4000000
set_option exponentiation.threshold 5000
namespace Go.SE
open Go
variable {P : Program} {R : AEnd → Prop}
theorem in64 {z : Nat} (h : z < 18446744073709551616) : InR .u64 (z : Int) := by constructor <;> omega
def RP (m low sq : Nat) : AV := .rp (CN .u64 (fdigs B64 4 m ++ (fdigs b32 8 m ++ ([low] ++ fdigs B64 4 sq))))
def Rok (m low sq : Nat) : Prop := m % 2 = 1 ∧ m < W256 ∧ low < b32 ∧ low * m % b32 = 4294967295 ∧ sq = W256 * W256 % m
theorem Rok.pos {m low sq : Nat} (h : Rok m low sq) : 0 < m := by have := h.1; omega
theorem Rok.sq_lt {m low sq : Nat} (h : Rok m low sq) : sq < m := by rw [h.2.2.2.2]; exact Nat.mod_lt _ h.pos
theorem Rok.sq_lt' {m low sq : Nat} (h : Rok m low sq) : sq < W256 := Nat.lt_trans h.sq_lt h.2.1
theorem len_four {L : List Nat} (h : L.length = 4) : ∃ a b c d, L = [a, b, c, d] := by
  match L, h with
  | [a, b, c, d], _ => exact ⟨a, b, c, d, rfl⟩
theorem WV_fd {a : Nat} (h : a < W256) : WV a = .agg (CN .u64 (fdigs B64 4 a)) := WV_ws h
theorem RP_parts {m low sq : Nat} (hm : m < W256) (hs : sq < W256) : ∃ m0 m1 m2 m3 p0 p1 p2 p3 p4 p5 p6 p7 s0 s1 s2 s3,
    fdigs b32 8 m = [p0, p1, p2, p3, p4, p5, p6, p7] ∧ WV m = WL m0 m1 m2 m3 ∧ WV sq = WL s0 s1 s2 s3 ∧
    RP m low sq = .rp (CN .u64 [m0, m1, m2, m3, p0, p1, p2, p3, p4, p5, p6, p7, low, s0, s1, s2, s3]) := by
  obtain ⟨m0, m1, m2, m3, em⟩ := len_four (fdigs_length (b := B64) 4 m)
  obtain ⟨s0, s1, s2, s3, es⟩ := len_four (fdigs_length (b := B64) 4 sq)
  obtain ⟨p0, p1, p2, p3, p4, p5, p6, p7, ep⟩ := len_eight (fdigs_length (b := b32) 8 m)
  refine ⟨m0, m1, m2, m3, p0, p1, p2, p3, p4, p5, p6, p7, s0, s1, s2, s3, ep, ?_, ?_, ?_⟩
  · rw [WV_fd hm, em]; rfl
  · rw [WV_fd hs, es]; rfl
  · unfold RP; rw [em, es, ep]; rfl
theorem ev_ridxN {n j : Nat} {k k' : IntKind} {L : List Nat} {z : Int} (hz : z = (j : Int)) (h : j < n) : evalO (.ridx n 1) [.rp (CN k L), .int k' z] = some (.rp (CN k (L.drop j))) := by
  subst hz
  show (if 0 ≤ (j : Int) ∧ (j : Int) < n then some (AV.rp ((CN k L).drop ((j : Int).toNat * 1))) else none) = _
  rw [if_pos ⟨by omega, by omega⟩]
  simp [CN]
theorem mul32 {x y : Nat} (hx : x < b32) (hy : y < b32) : x * y ≤ 18446744065119617025 :=
  Nat.mul_le_mul (show x ≤ 4294967295 from Nat.le_of_lt_succ hx) (show y ≤ 4294967295 from Nat.le_of_lt_succ hy)
theorem cut_one {p o c r c' V V' A Z y x : Nat} (h1 : V' + p * o = V + p * r) (h2 : r + b32 * c' = c + o + x * y) (h3 : V + p * c = A + y * Z) : V' + p * b32 * c' = A + y * (Z + p * x) := by
  have h4 := place_step (b := b32) (y := x * y) (c := c) (o := o) (r := r) (c' := c') h1 (h2.trans (by omega)) h3
  rw [h4, Nat.mul_add, Nat.mul_left_comm y p x, Nat.mul_comm y x]
theorem cut_two {p o c r c' V A k Z x : Nat} (h2 : r + b32 * c' = c + o + k * x) (h3 : b32 * (V + p * c) = A + k * Z) : b32 * (V + p * r + p * b32 * c') = A + p * b32 * o + k * (Z + p * b32 * x) := by
  have h5 : b32 * (V + p * r + p * b32 * c') = b32 * V + p * b32 * (r + b32 * c') := by
    simp only [Nat.mul_add]
    rw [Nat.mul_left_comm b32 p r, Nat.mul_left_comm b32 (p * b32) c', Nat.mul_assoc p b32 r, Nat.add_assoc]
  have h6 : b32 * (V + p * c) = b32 * V + p * b32 * c := by rw [Nat.mul_add, Nat.mul_left_comm, Nat.mul_assoc]
  rw [h6] at h3
  rw [h5, h2]
  simp only [Nat.mul_add]
  rw [Nat.mul_left_comm k (p * b32) x]
  omega
theorem cut_mid {V V1 V2 V3 T c t8 r8 c8 L9 Z : Nat} (h : V1 + b32 ^ 8 * c = V + Z) (hT : V = T + b32 ^ 9 * L9) (h2 : V2 + b32 ^ 8 * t8 = V1 + b32 ^ 8 * r8) (h3 : V3 + b32 ^ 9 * L9 = V2 + b32 ^ 9 * c8) (h4 : r8 + b32 * c8 = c + t8) : V3 = T + Z := by
  have e9 : b32 ^ 9 = 4294967296 * b32 ^ 8 := rfl
  have h4' : r8 + 4294967296 * c8 = c + t8 := h4
  have h5 := congrArg (b32 ^ 8 * ·) h4'
  simp only [Nat.mul_add] at h5
  rw [Nat.mul_left_comm] at h5
  rw [e9, Nat.mul_assoc] at hT h3
  rw [Nat.mul_assoc] at h3
  omega
theorem cut_end {V3 A c r8 c8 s7 q7 W km T : Nat} (h : b32 * (W + b32 ^ 7 * c) = A + km) (hV : V3 = A + b32 ^ 8 * r8 + b32 ^ 9 * c8) (h7 : s7 + b32 * q7 = c + r8) (hT : T = W + b32 ^ 7 * s7 + b32 ^ 8 * (c8 + q7)) : b32 * T = V3 + km := by
  have e7 : b32 ^ 7 = 26959946667150639794667015087019630673637144422540572481103610249216 := rfl
  have e9 : b32 ^ 9 = 497323236409786642155382248146820840100456150797347717440463976893159497012533375533056 := rfl
  have e8 : b32 ^ 8 = 115792089237316195423570985008687907853269984665640564039457584007913129639936 := rfl
  rw [e7] at h hT
  rw [e8] at hT
  rw [e8, e9] at hV
  have h7' : s7 + 4294967296 * q7 = c + r8 := h7
  have h' : 4294967296 * (W + 26959946667150639794667015087019630673637144422540572481103610249216 * c) = A + km := h
  show 4294967296 * T = _
  omega
theorem cut_bound {T T' x m yi k : Nat} (h : b32 * T' = T + yi * x + k * m) (hT : T < x + m) (hy : yi < b32) (hk : k < b32) : T' < x + m := by
  have h1 : yi * x ≤ 4294967295 * x := Nat.mul_le_mul_right _ (Nat.le_of_lt_succ hy)
  have h2 : k * m ≤ 4294967295 * m := Nat.mul_le_mul_right _ (Nat.le_of_lt_succ hk)
  have h' : 4294967296 * T' = T + yi * x + k * m := h
  omega
theorem cut_cong {T T' x m yi k q y i : Nat} (h : b32 * T' = T + yi * x + k * m) (hT : T * b32 ^ i = x * (y % b32 ^ i) + q * m) (hy : yi = y / b32 ^ i % b32) : T' * b32 ^ (i + 1) = x * (y % b32 ^ (i + 1)) + (q + k * b32 ^ i) * m := by
  rw [mod_pow_next, ← hy, Nat.pow_succ]
  have h1 : T' * (b32 ^ i * b32) = (b32 * T') * b32 ^ i := by rw [Nat.mul_comm (b32 ^ i), ← Nat.mul_assoc, Nat.mul_comm T']
  rw [h1, h, Nat.add_mul, Nat.add_mul, hT, Nat.mul_add, Nat.add_mul]
  have h2 : yi * x * b32 ^ i = x * (b32 ^ i * yi) := by rw [Nat.mul_comm yi x, Nat.mul_assoc, Nat.mul_comm yi]
  have h3 : k * m * b32 ^ i = k * b32 ^ i * m := Nat.mul_right_comm _ _ _
  omega
theorem cut_low {t low m p0 k : Nat} (hl : low * m % b32 = 4294967295) (hp : p0 = m % b32) (hk : k = t * low % b32) : (t + k * p0) % b32 = 0 := by
  have h1 : (t + k * p0) % b32 = (t + t * (low * m)) % b32 := by
    rw [hk, hp, Nat.add_mod, Nat.mul_mod, Nat.mod_mod, Nat.mod_mod, ← Nat.mul_mod, ← Nat.add_mod, Nat.mul_assoc]
  rw [h1, Nat.add_mod, Nat.mul_mod, hl]
  show (t % 4294967296 + t % 4294967296 * 4294967295 % 4294967296) % 4294967296 = 0
  omega
theorem take_set_eq {L : List Nat} (u x : Nat) : (L.set u x).take u = L.take u := by
  rw [List.take_set_of_le (Nat.le_refl _)]
theorem getD_set_self {L : List Nat} {u x : Nat} (h : u < L.length) : (L.set u x).getD u 0 = x := by
  simp [List.getD_eq_getElem?_getD, h]
theorem getD_take {L : List Nat} {u n : Nat} (h : u < n) : (L.take n).getD u 0 = L.getD u 0 := by
  simp [List.getD_eq_getElem?_getD, h]
def RCutC (P : Program) (f : FuncId) : Prop := ∀ m low sq a b, Rok m low sq → a < m → b < W256 → Ct P f [RP m low sq, WV a, WV b] (fun e => e = .ret (WV (montS m a b)))
def t_rcut (parts whole minus more : FuncId) : T :=
 .node (.op (.cell 4 0) [.v 1]) <|
 .node (.op (.cell 4 1) [.v 1]) <|
 .node (.op (.cell 4 2) [.v 1]) <|
 .node (.op (.cell 4 3) [.v 1]) <|
 .node (.op (.cell 4 0) [.v 2]) <|
 .node (.op (.cell 4 1) [.v 2]) <|
 .node (.op (.cell 4 2) [.v 2]) <|
 .node (.op (.cell 4 3) [.v 2]) <|
 .node (.op .mkagg [.v 3, .v 4, .v 5, .v 6]) <|
 .node (.call parts [.v 11] false) <|
 .node (.op .mkagg [.v 7, .v 8, .v 9, .v 10]) <|
 .node (.call parts [.v 13] false) <|
 .node (.op (.cell 8 0) [.v 12]) <|
 .node (.op (.cell 8 1) [.v 12]) <|
 .node (.op (.cell 8 2) [.v 12]) <|
 .node (.op (.cell 8 3) [.v 12]) <|
 .node (.op (.cell 8 4) [.v 12]) <|
 .node (.op (.cell 8 5) [.v 12]) <|
 .node (.op (.cell 8 6) [.v 12]) <|
 .node (.op (.cell 8 7) [.v 12]) <|
 .node (.op (.cell 8 0) [.v 14]) <|
 .node (.op (.cell 8 1) [.v 14]) <|
 .node (.op (.cell 8 2) [.v 14]) <|
 .node (.op (.cell 8 3) [.v 14]) <|
 .node (.op (.cell 8 4) [.v 14]) <|
 .node (.op (.cell 8 5) [.v 14]) <|
 .node (.op (.cell 8 6) [.v 14]) <|
 .node (.op (.cell 8 7) [.v 14]) <|
 .loop [.c (.int .i64 0), .c (.lst [.int .u64 0, .int .u64 0, .int .u64 0, .int .u64 0, .int .u64 0, .int .u64 0, .int .u64 0, .int .u64 0, .int .u64 0, .int .u64 0])] [true, false] <|
 .node (.op (.bin .lss) [.v 31, .c (.int .i64 8)]) <|
 .br (.v 33) (
 .loop [.c (.int .u64 0), .c (.int .i64 0), .v 32] [true, true, false] <|
 .node (.op (.bin .lss) [.v 35, .c (.int .i64 8)]) <|
 .br (.v 37) (
 .node (.op .chki [.v 35, .c (.int .i64 10)]) <|
 .node (.op (.ofs 1) [.c (.int .i64 0), .v 35]) <|
 .node (.op (.lget false 1) [.v 36, .v 39]) <|
 .node (.op (.bin .add) [.v 34, .v 40]) <|
 .node (.op .chki [.v 35, .c (.int .i64 8)]) <|
 .node (.op (.ofs 1) [.c (.int .i64 0), .v 35]) <|
 .node (.op .mklst [.v 15, .v 16, .v 17, .v 18, .v 19, .v 20, .v 21, .v 22]) <|
 .node (.op (.lget false 1) [.v 44, .v 43]) <|
 .node (.op .chki [.v 31, .c (.int .i64 8)]) <|
 .node (.op (.ofs 1) [.c (.int .i64 0), .v 31]) <|
 .node (.op .mklst [.v 23, .v 24, .v 25, .v 26, .v 27, .v 28, .v 29, .v 30]) <|
 .node (.op (.lget false 1) [.v 48, .v 47]) <|
 .node (.op (.bin .mul) [.v 45, .v 49]) <|
 .node (.op (.bin .add) [.v 41, .v 50]) <|
 .node (.op (.bin .and) [.v 51, .c (.int .u64 4294967295)]) <|
 .node (.op (.bin .shr) [.v 51, .c (.int .u64 32)]) <|
 .node (.op .chki [.v 35, .c (.int .i64 10)]) <|
 .node (.op (.ofs 1) [.c (.int .i64 0), .v 35]) <|
 .node (.op .lset [.v 36, .v 55, .v 52]) <|
 .node (.op (.bin .add) [.v 35, .c (.int .i64 1)]) <|
 .back 0 [.v 53, .v 57, .v 56]) (
 .node (.op (.lget false 1) [.v 36, .c (.int .i64 8)]) <|
 .node (.op (.bin .add) [.v 34, .v 38]) <|
 .node (.op (.bin .and) [.v 39, .c (.int .u64 4294967295)]) <|
 .node (.op (.bin .shr) [.v 39, .c (.int .u64 32)]) <|
 .node (.op .lset [.v 36, .c (.int .i64 8), .v 40]) <|
 .node (.op .lset [.v 42, .c (.int .i64 9), .v 41]) <|
 .node (.op (.lget false 1) [.v 43, .c (.int .i64 0)]) <|
 .node (.op .nilchk [.v 0]) <|
 .node (.op (.roff 12) [.v 45]) <|
 .node (.op (.rld false 1) [.v 46]) <|
 .node (.op (.bin .mul) [.v 44, .v 47]) <|
 .node (.op (.bin .and) [.v 48, .c (.int .u64 4294967295)]) <|
 .node (.op (.lget false 1) [.v 43, .c (.int .i64 0)]) <|
 .node (.op .nilchk [.v 0]) <|
 .node (.op (.roff 4) [.v 51]) <|
 .node (.op (.ridx 8 1) [.v 52, .c (.int .i64 0)]) <|
 .node (.op (.rld false 1) [.v 53]) <|
 .node (.op (.bin .mul) [.v 49, .v 54]) <|
 .node (.op (.bin .add) [.v 50, .v 55]) <|
 .node (.op (.bin .shr) [.v 56, .c (.int .u64 32)]) <|
 .loop [.v 57, .c (.int .i64 1), .v 43] [true, true, false] <|
 .node (.op (.bin .lss) [.v 59, .c (.int .i64 8)]) <|
 .br (.v 61) (
 .node (.op .chki [.v 59, .c (.int .i64 10)]) <|
 .node (.op (.ofs 1) [.c (.int .i64 0), .v 59]) <|
 .node (.op (.lget false 1) [.v 60, .v 63]) <|
 .node (.op (.bin .add) [.v 58, .v 64]) <|
 .node (.op .nilchk [.v 0]) <|
 .node (.op (.roff 4) [.v 66]) <|
 .node (.op (.ridx 8 1) [.v 67, .v 59]) <|
 .node (.op (.rld false 1) [.v 68]) <|
 .node (.op (.bin .mul) [.v 49, .v 69]) <|
 .node (.op (.bin .add) [.v 65, .v 70]) <|
 .node (.op (.bin .sub) [.v 59, .c (.int .i64 1)]) <|
 .node (.op (.bin .and) [.v 71, .c (.int .u64 4294967295)]) <|
 .node (.op (.bin .shr) [.v 71, .c (.int .u64 32)]) <|
 .node (.op .chki [.v 72, .c (.int .i64 10)]) <|
 .node (.op (.ofs 1) [.c (.int .i64 0), .v 72]) <|
 .node (.op .lset [.v 60, .v 76, .v 73]) <|
 .node (.op (.bin .add) [.v 59, .c (.int .i64 1)]) <|
 .back 0 [.v 74, .v 78, .v 77]) (
 .node (.op (.lget false 1) [.v 60, .c (.int .i64 8)]) <|
 .node (.op (.bin .add) [.v 58, .v 62]) <|
 .node (.op (.bin .and) [.v 63, .c (.int .u64 4294967295)]) <|
 .node (.op (.lget false 1) [.v 60, .c (.int .i64 9)]) <|
 .node (.op (.bin .shr) [.v 63, .c (.int .u64 32)]) <|
 .node (.op (.bin .add) [.v 65, .v 66]) <|
 .node (.op .lset [.v 60, .c (.int .i64 7), .v 64]) <|
 .node (.op .lset [.v 68, .c (.int .i64 8), .v 67]) <|
 .node (.op (.bin .add) [.v 31, .c (.int .i64 1)]) <|
 .back 2 [.v 70, .v 69]))) (
 .loop [.c (.int .i64 0), .c (.lst [.int .u64 0, .int .u64 0, .int .u64 0, .int .u64 0, .int .u64 0, .int .u64 0, .int .u64 0, .int .u64 0])] [true, false] <|
 .node (.op (.bin .lss) [.v 34, .c (.int .i64 8)]) <|
 .br (.v 36) (
 .node (.op .chki [.v 34, .c (.int .i64 10)]) <|
 .node (.op (.ofs 1) [.c (.int .i64 0), .v 34]) <|
 .node (.op (.lget false 1) [.v 32, .v 38]) <|
 .node (.op .chki [.v 34, .c (.int .i64 8)]) <|
 .node (.op (.ofs 1) [.c (.int .i64 0), .v 34]) <|
 .node (.op .lset [.v 35, .v 41, .v 39]) <|
 .node (.op (.bin .add) [.v 34, .c (.int .i64 1)]) <|
 .back 0 [.v 43, .v 42]) (
 .node (.op (.lget true 8) [.v 35, .c (.int .i64 0)]) <|
 .node (.call whole [.v 37] false) <|
 .node (.op (.cell 4 0) [.v 38]) <|
 .node (.op (.cell 4 1) [.v 38]) <|
 .node (.op (.cell 4 2) [.v 38]) <|
 .node (.op (.cell 4 3) [.v 38]) <|
 .node (.op (.lget false 1) [.v 32, .c (.int .i64 8)]) <|
 .node (.op (.bin .gtr) [.v 43, .c (.int .u64 0)]) <|
 .br (.v 44) (
 .node (.op .nilchk [.v 0]) <|
 .node (.op (.roff 0) [.v 45]) <|
 .node (.op (.rld true 4) [.v 46]) <|
 .node (.op .mkagg [.v 39, .v 40, .v 41, .v 42]) <|
 .node (.call minus [.v 48, .v 47] false) <|
 .node (.op (.cell 4 0) [.v 49]) <|
 .node (.op (.cell 4 1) [.v 49]) <|
 .node (.op (.cell 4 2) [.v 49]) <|
 .node (.op (.cell 4 3) [.v 49]) <|
 .node (.op .mkagg [.v 50, .v 51, .v 52, .v 53]) <|
 .ret (.v 54)) (
 .node (.op .nilchk [.v 0]) <|
 .node (.op (.roff 0) [.v 45]) <|
 .node (.op (.rld true 4) [.v 46]) <|
 .node (.op .mkagg [.v 39, .v 40, .v 41, .v 42]) <|
 .node (.call more [.v 48, .v 47] true) <|
 .br (.v 49) (
 .node (.op .nilchk [.v 0]) <|
 .node (.op (.roff 0) [.v 50]) <|
 .node (.op (.rld true 4) [.v 51]) <|
 .node (.op .mkagg [.v 39, .v 40, .v 41, .v 42]) <|
 .node (.call minus [.v 53, .v 52] false) <|
 .node (.op (.cell 4 0) [.v 54]) <|
 .node (.op (.cell 4 1) [.v 54]) <|
 .node (.op (.cell 4 2) [.v 54]) <|
 .node (.op (.cell 4 3) [.v 54]) <|
 .node (.op .mkagg [.v 55, .v 56, .v 57, .v 58]) <|
 .ret (.v 59)) (
 .node (.op .mkagg [.v 39, .v 40, .v 41, .v 42]) <|
 .ret (.v 50)))))
theorem rcut_den {parts whole minus more : FuncId} {m low sq a b : Nat} (hpa : PartsC P parts) (hwh : WholeC P whole) (hmi : W2 P minus (fun a b => (a + W256 - b) % W256)) (hmo : RMoreC P more)
    (hF : Rok m low sq) (ha : a < m) (hb : b < W256) : D P (fun e => e = .ret (WV (montS m a b))) [] 3 [WV b, WV a, RP m low sq] (t_rcut parts whole minus more) := by
  have hm := hF.2.1
  have hlow : low < 4294967296 := hF.2.2.1
  have haW : a < W256 := Nat.lt_trans ha hm
  obtain ⟨m0, m1, m2, m3, p0, p1, p2, p3, p4, p5, p6, p7, s0, s1, s2, s3, ep, eM, eS, eR⟩ := RP_parts (low := low) hm hF.sq_lt'
  obtain ⟨a0, a1, a2, a3, ha0, ha1, ha2, ha3, eA, ea⟩ := WV_limbs haW
  obtain ⟨b0, b1, b2, b3, hb0, hb1, hb2, hb3, eB, eb⟩ := WV_limbs hb
  obtain ⟨x0, x1, x2, x3, x4, x5, x6, x7, ex⟩ := len_eight (fdigs_length (b := b32) 8 a)
  obtain ⟨y0, y1, y2, y3, y4, y5, y6, y7, ey⟩ := len_eight (fdigs_length (b := b32) 8 b)
  have hP := fdigs_lt (b := b32) (by decide) 8 m
  have hX := fdigs_lt (b := b32) (by decide) 8 a
  have hY := fdigs_lt (b := b32) (by decide) 8 b
  have vP := val_fdigs_lt (b := b32) (k := 8) hm
  have vX := val_fdigs_lt (b := b32) (k := 8) haW
  have vY := val_fdigs_lt (b := b32) (k := 8) hb
  have cA := hpa a haW
  have cB := hpa b hb
  unfold PV at cA cB
  rw [show fdigs 4294967296 8 a = [x0, x1, x2, x3, x4, x5, x6, x7] from ex, eA] at cA
  rw [show fdigs 4294967296 8 b = [y0, y1, y2, y3, y4, y5, y6, y7] from ey, eB] at cB
  rw [ep] at hP vP
  rw [ex] at hX vX
  rw [ey] at hY vY
  have hp0 : p0 = m % b32 := by
    have := congrArg (fun l : List Nat => l.getD 0 0) ep
    exact this.symm
  have hp0l : p0 < b32 := hP p0 (by simp)
  rw [eR, eA, eB]
  refine d_cells rfl rfl rfl rfl (d_cells rfl rfl rfl rfl ?_)
  refine d_op (v := WL a0 a1 a2 a3) ev_wl (d_call cA (fun h => by cases h) (d_op (v := WL b0 b1 b2 b3) ev_wl (d_call cB (fun h => by cases h) ?_)))
  refine d_expl (N := 8) (i := 12) rfl rfl rfl rfl (d_expl (N := 8) (i := 14) rfl rfl rfl rfl ?_)
  refine d_while (fun s : Nat × List Nat => [.int .i64 (s.1 : Int), .lst (CN .u64 s.2)])
    (fun s => s.1 ≤ 8 ∧ s.2.length = 10 ∧ LtAll b32 s.2 ∧ val b32 (s.2.take 9) < a + m ∧ ∃ q, val b32 (s.2.take 9) * b32 ^ s.1 = a * (b % b32 ^ s.1) + q * m) (fun s => 8 - s.1)
    (0, [0, 0, 0, 0, 0, 0, 0, 0, 0, 0]) ⟨Nat.zero_le _, rfl, LtAll.replicate (k := 10) (by decide), by show 0 < a + m; omega, 0, by show 0 * 1 = a * (b % 1) + 0 * m; rw [Nat.mod_one]; simp⟩ rfl ?_
  rintro ⟨i, L⟩ ⟨hi, hl, hlt, hbd, q, hq⟩
  dsimp only at hi hl hlt hbd hq ⊢
  refine d_op ev_lss (d_if rfl (fun h1 => ?_) (fun h1 => ?_))
  · have hi8 : i < 8 := by omega
    obtain ⟨y, eyi⟩ : ∃ y, y = [y0, y1, y2, y3, y4, y5, y6, y7].getD i 0 := ⟨_, rfl⟩
    have hy : y < b32 := eyi ▸ hY.getD (by decide) _
    have hyd : y = b / b32 ^ i % b32 := by rw [eyi, getD_digit (by decide) hY, vY]
    refine d_while (fun s : Nat × Nat × List Nat => [.int .u64 (s.1 : Int), .int .i64 (s.2.1 : Int), .lst (CN .u64 s.2.2)])
      (fun s => s.1 < b32 ∧ s.2.1 ≤ 8 ∧ s.2.2.length = 10 ∧ LtAll b32 s.2.2 ∧ (∀ n, 8 ≤ n → s.2.2.getD n 0 = L.getD n 0) ∧ val b32 s.2.2 + b32 ^ s.2.1 * s.1 = val b32 L + y * val b32 ([x0, x1, x2, x3, x4, x5, x6, x7].take s.2.1)) (fun s => 8 - s.2.1)
      (0, 0, L) ⟨by show 0 < 4294967296; decide, Nat.zero_le _, hl, hlt, fun _ _ => rfl, by show val b32 L + 1 * 0 = val b32 L + y * 0; simp⟩ rfl ?_
    rintro ⟨c, j, M⟩ ⟨hc, hj, hMl, hMlt, hMe, hMv⟩
    dsimp only at hc hj hMl hMlt hMe hMv ⊢
    have hc' : c < 4294967296 := hc
    refine d_op ev_lss (d_if rfl (fun h2 => ?_) (fun h2 => ?_))
    · have hj8 : j < 8 := by omega
      obtain ⟨o, eo⟩ : ∃ o, o = M.getD j 0 := ⟨_, rfl⟩
      obtain ⟨x, exj⟩ : ∃ x, x = [x0, x1, x2, x3, x4, x5, x6, x7].getD j 0 := ⟨_, rfl⟩
      have ho : o < 4294967296 := eo ▸ hMlt.getD (by decide) _
      have hx : x < 4294967296 := exj ▸ hX.getD (by decide) _
      have hxy := mul32 hx hy
      have hval := cut_one (V' := val b32 (M.set j ((c + o + x * y) % b32))) (r := (c + o + x * y) % b32) (c' := (c + o + x * y) / b32) (p := b32 ^ j) (o := o)
        (by have := val_set (b := b32) (L := M) (i := j) (by omega) ((c + o + x * y) % b32); rw [← eo] at this; exact this) (Nat.mod_add_div _ _) hMv
      refine d_op (ev_chki (n := 10) (by omega) (by omega) rfl) (d_op (ev_ofs (n := j) (o := 0) rfl rfl) (d_op (ev_lgetN' (i := j) (by simp) (by omega) eo.symm) ?_))
      refine d_op (ev_add (by constructor <;> omega)) (d_op (ev_chki (n := 8) (by omega) (by omega) rfl) (d_op (ev_ofs (n := j) (o := 0) rfl rfl) ?_))
      refine d_op (v := .lst (CN .u64 [x0, x1, x2, x3, x4, x5, x6, x7])) rfl (d_op (ev_lgetN' (i := j) (by simp) (by simpa using hj8) exj.symm) ?_)
      refine d_op (ev_chki (n := 8) (by omega) (by omega) rfl) (d_op (ev_ofs (n := i) (o := 0) rfl rfl) ?_)
      refine d_op (v := .lst (CN .u64 [y0, y1, y2, y3, y4, y5, y6, y7])) rfl (d_op (ev_lgetN' (i := i) (by simp) (by simpa using hi8) eyi.symm) ?_)
      have hz : ((c : Int) + (o : Int)) + (x : Int) * (y : Int) = ((c + o + x * y : Nat) : Int) := by push_cast; rfl
      have hxz : (x : Int) * (y : Int) = ((x * y : Nat) : Int) := by push_cast; rfl
      refine d_op (ev_mul (by rw [hxz]; exact in64 (by omega))) (d_op (ev_add (by rw [hz]; exact in64 (by omega))) ?_)
      rw [hz]
      generalize hs : c + o + x * y = s at *
      refine d_op (ev_and (in64 (by omega)) (y := 4294967295) (by decide)) ?_
      rw [Nat.and_two_pow_sub_one_eq_mod _ 32]
      refine d_op (ev_shr (y := 32) rfl (by decide) rfl) ?_
      refine d_op (ev_chki (n := 10) (by omega) (by omega) rfl) (d_op (ev_ofs (n := j) (o := 0) rfl rfl) (d_op (ev_lsetN (i := j) (by simp) (by omega) rfl) (d_op (ev_add (by constructor <;> omega)) ?_)))
      refine d_back rfl ⟨(s / b32, j + 1, M.set j (s % b32)), rfl, ⟨by show s / 4294967296 < 4294967296; omega, by show j + 1 ≤ 8; omega, by simp [hMl], hMlt.set (Nat.mod_lt _ (by decide)) _, fun n hn => by rw [getD_set_ne (by omega)]; exact hMe n hn, ?_⟩, by show 8 - (j + 1) < 8 - j; omega⟩
      show val b32 (M.set j (s % b32)) + b32 ^ (j + 1) * (s / b32) = _
      rw [val_take_succ, ← exj, Nat.pow_succ]
      exact hval
    · have : j = 8 := by omega
      subst this
      rw [show [x0, x1, x2, x3, x4, x5, x6, x7].take 8 = [x0, x1, x2, x3, x4, x5, x6, x7] from rfl, vX] at hMv
      obtain ⟨t8, e8⟩ : ∃ t8, t8 = M.getD 8 0 := ⟨_, rfl⟩
      obtain ⟨L9, e9⟩ : ∃ L9, L9 = M.getD 9 0 := ⟨_, rfl⟩
      have ht8 : t8 < 4294967296 := e8 ▸ hMlt.getD (by decide) _
      refine d_op (ev_lgetN' (i := 8) (by simp) (by omega) e8.symm) (d_op (ev_add (by constructor <;> omega)) ?_)
      rw [show (c : Int) + (t8 : Int) = ((c + t8 : Nat) : Int) by push_cast; rfl]
      obtain ⟨r8, er8⟩ : ∃ r8, r8 = (c + t8) % 4294967296 := ⟨_, rfl⟩
      obtain ⟨c8, ec8⟩ : ∃ c8, c8 = (c + t8) / 4294967296 := ⟨_, rfl⟩
      have hr8 : r8 < 4294967296 := by omega
      have hc8 : c8 ≤ 1 := by omega
      have h48 : r8 + b32 * c8 = c + t8 := by show r8 + 4294967296 * c8 = _; omega
      refine d_op (ev_and (in64 (by omega)) (y := 4294967295) (by decide)) ?_
      rw [Nat.and_two_pow_sub_one_eq_mod _ 32, show (2 : Nat) ^ 32 = 4294967296 from rfl, ← er8]
      refine d_op (ev_shr (y := 32) rfl (by decide) ec8.symm) ?_
      refine d_op (ev_lsetN (i := 8) (by simp) (by omega) rfl) (d_op (ev_lsetN (i := 9) (by simp) (by simp; omega) rfl) ?_)
      obtain ⟨N, eN⟩ : ∃ N, N = (M.set 8 r8).set 9 c8 := ⟨_, rfl⟩
      rw [← eN]
      have hNl : N.length = 10 := by rw [eN]; simp [hMl]
      have hNlt : LtAll b32 N := by rw [eN]; exact (hMlt.set hr8 8).set (by show c8 < 4294967296; omega) 9
      have hN9 : N.getD 9 0 = c8 := by rw [eN, getD_set_self (by simp; omega)]
      have hN8 : N.getD 8 0 = r8 := by rw [eN, getD_set_ne (by omega), getD_set_self (by omega)]
      have hNv : val b32 N = val b32 (L.take 9) + y * a := by
        have v2 := val_set (b := b32) (L := M) (i := 8) (by omega) r8
        have v3 := val_set (b := b32) (L := M.set 8 r8) (i := 9) (by simp; omega) c8
        rw [getD_set_ne (by omega), ← e9, ← eN] at v3
        rw [← e8] at v2
        have v4 := val_take_succ (b := b32) L 9
        rw [← hMe 9 (by omega), ← e9, List.take_of_length_le (by omega)] at v4
        exact cut_mid hMv v4 v2 v3 h48
      obtain ⟨t0, e0⟩ : ∃ t0, t0 = N.getD 0 0 := ⟨_, rfl⟩
      have ht0 : t0 < 4294967296 := e0 ▸ hNlt.getD (by decide) _
      refine d_op (ev_lgetN' (i := 0) (by simp) (by omega) e0.symm) ?_
      refine d_op (v := .rp (CN .u64 [m0, m1, m2, m3, p0, p1, p2, p3, p4, p5, p6, p7, low, s0, s1, s2, s3])) rfl (d_op (v := .rp (CN .u64 [low, s0, s1, s2, s3])) rfl (d_op (v := .int .u64 (low : Int)) rfl ?_))
      have htl := mul32 ht0 hlow
      refine d_op (ev_mul (by rw [show (t0 : Int) * (low : Int) = ((t0 * low : Nat) : Int) by push_cast; rfl]; exact in64 (by omega))) ?_
      rw [show (t0 : Int) * (low : Int) = ((t0 * low : Nat) : Int) by push_cast; rfl]
      refine d_op (ev_and (in64 (by omega)) (y := 4294967295) (by decide)) ?_
      rw [Nat.and_two_pow_sub_one_eq_mod _ 32, show (2 : Nat) ^ 32 = 4294967296 from rfl]
      obtain ⟨k, ek⟩ : ∃ k, k = t0 * low % 4294967296 := ⟨_, rfl⟩
      rw [← ek]
      have hk : k < 4294967296 := by omega
      have hkp := mul32 hk hp0l
      have hdiv := cut_low (t := t0) (k := k) hF.2.2.2.1 hp0 ek
      refine d_op (ev_lgetN' (i := 0) (by simp) (by omega) e0.symm) ?_
      refine d_op (v := .rp (CN .u64 [m0, m1, m2, m3, p0, p1, p2, p3, p4, p5, p6, p7, low, s0, s1, s2, s3])) rfl (d_op (v := .rp (CN .u64 [p0, p1, p2, p3, p4, p5, p6, p7, low, s0, s1, s2, s3])) rfl (d_op (v := .rp (CN .u64 [p0, p1, p2, p3, p4, p5, p6, p7, low, s0, s1, s2, s3])) rfl (d_op (v := .int .u64 (p0 : Int)) rfl ?_)))
      refine d_op (ev_mul (by rw [show (k : Int) * (p0 : Int) = ((k * p0 : Nat) : Int) by push_cast; rfl]; exact in64 (by omega))) ?_
      have hz0 : (t0 : Int) + (k : Int) * (p0 : Int) = ((t0 + k * p0 : Nat) : Int) := by push_cast; rfl
      refine d_op (ev_add (by rw [hz0]; exact in64 (by omega))) ?_
      rw [hz0]
      refine d_op (ev_shr (y := 32) rfl (by decide) rfl) ?_
      rw [show (2 : Nat) ^ 32 = 4294967296 from rfl]
      refine d_while (fun s : Nat × Nat × List Nat => [.int .u64 (s.1 : Int), .int .i64 ((s.2.1 + 1 : Nat) : Int), .lst (CN .u64 s.2.2)])
        (fun s => s.1 < b32 ∧ s.2.1 ≤ 7 ∧ s.2.2.length = 10 ∧ LtAll b32 s.2.2 ∧ (∀ n, s.2.1 < n → s.2.2.getD n 0 = N.getD n 0) ∧ b32 * (val b32 (s.2.2.take s.2.1) + b32 ^ s.2.1 * s.1) = val b32 (N.take (s.2.1 + 1)) + k * val b32 ([p0, p1, p2, p3, p4, p5, p6, p7].take (s.2.1 + 1))) (fun s => 7 - s.2.1)
        ((t0 + k * p0) / 4294967296, 0, N) ⟨by show _ < 4294967296; omega, Nat.zero_le _, hNl, hNlt, fun _ _ => rfl, ?_⟩ rfl ?_
      · show b32 * (0 + 1 * ((t0 + k * p0) / 4294967296)) = val b32 (N.take (0 + 1)) + k * (p0 + b32 * 0)
        rw [val_take_succ, ← e0]
        show 4294967296 * (0 + 1 * ((t0 + k * p0) / 4294967296)) = 0 + 1 * t0 + k * (p0 + 4294967296 * 0)
        have : (t0 + k * p0) % 4294967296 = 0 := hdiv
        simp only [Nat.mul_zero, Nat.add_zero, Nat.zero_add, Nat.one_mul]
        omega
      rintro ⟨d, u, Q⟩ ⟨hd, hu, hQl, hQlt, hQe, hQv⟩
      dsimp only at hd hu hQl hQlt hQe hQv ⊢
      have hd' : d < 4294967296 := hd
      refine d_op ev_lss (d_if rfl (fun h3 => ?_) (fun h3 => ?_))
      · have hu8 : u + 1 < 8 := by omega
        obtain ⟨o, eo⟩ : ∃ o, o = Q.getD (u + 1) 0 := ⟨_, rfl⟩
        obtain ⟨x, exj⟩ : ∃ x, x = [p0, p1, p2, p3, p4, p5, p6, p7].getD (u + 1) 0 := ⟨_, rfl⟩
        have ho : o < 4294967296 := eo ▸ hQlt.getD (by decide) _
        have hx : x < 4294967296 := exj ▸ hP.getD (by decide) _
        have hxy := mul32 hk hx
        have hval := cut_two (V := val b32 (Q.take u)) (p := b32 ^ u) (o := o) (x := x) (r := (d + o + k * x) % b32) (c' := (d + o + k * x) / b32) (Nat.mod_add_div _ _) hQv
        refine d_op (ev_chki (n := 10) (by omega) (by omega) rfl) (d_op (ev_ofs (n := u + 1) (o := 0) rfl rfl) (d_op (ev_lgetN' (i := u + 1) (by simp) (by omega) eo.symm) ?_))
        refine d_op (ev_add (by constructor <;> omega)) ?_
        refine d_op (v := .rp (CN .u64 [m0, m1, m2, m3, p0, p1, p2, p3, p4, p5, p6, p7, low, s0, s1, s2, s3])) rfl (d_op (v := .rp (CN .u64 [p0, p1, p2, p3, p4, p5, p6, p7, low, s0, s1, s2, s3])) rfl ?_)
        refine d_op (ev_ridxN (j := u + 1) rfl hu8) (d_op (ev_rldN' (L := [p0, p1, p2, p3, p4, p5, p6, p7, low, s0, s1, s2, s3]) (i := u + 1) (x := x) (by simp; omega) ?_) ?_)
        · rw [exj, show [p0, p1, p2, p3, p4, p5, p6, p7, low, s0, s1, s2, s3] = [p0, p1, p2, p3, p4, p5, p6, p7] ++ [low, s0, s1, s2, s3] from rfl]
          simp only [List.getD_eq_getElem?_getD]
          rw [List.getElem?_append_left (by simpa using hu8)]
        have hxz : (k : Int) * (x : Int) = ((k * x : Nat) : Int) := by push_cast; rfl
        have hz : ((d : Int) + (o : Int)) + (k : Int) * (x : Int) = ((d + o + k * x : Nat) : Int) := by push_cast; rfl
        refine d_op (ev_mul (by rw [hxz]; exact in64 (by omega))) (d_op (ev_add (by rw [hz]; exact in64 (by omega))) ?_)
        rw [hz]
        generalize hs : d + o + k * x = s at *
        refine d_op (ev_sub (by constructor <;> omega)) ?_
        refine d_op (ev_and (in64 (by omega)) (y := 4294967295) (by decide)) ?_
        rw [Nat.and_two_pow_sub_one_eq_mod _ 32]
        refine d_op (ev_shr (y := 32) rfl (by decide) rfl) ?_
        rw [show ((u + 1 : Nat) : Int) - 1 = (u : Int) by omega]
        refine d_op (ev_chki (n := 10) (by omega) (by omega) rfl) (d_op (ev_ofs (n := u) (o := 0) rfl rfl) (d_op (ev_lsetN (i := u) (by simp) (by omega) rfl) (d_op (ev_add (by constructor <;> omega)) ?_)))
        refine d_back rfl ⟨(s / b32, u + 1, Q.set u (s % b32)), by rw [show ((u + 1 : Nat) : Int) + 1 = ((u + 1 + 1 : Nat) : Int) by omega]; rfl, ⟨by show s / 4294967296 < 4294967296; omega, by show u + 1 ≤ 7; omega, by simp [hQl], hQlt.set (Nat.mod_lt _ (by decide)) _, fun n hn => ?_, ?_⟩, by show 7 - (u + 1) < 7 - u; omega⟩
        · have hn' : u + 1 < n := hn
          show (Q.set u (s % b32)).getD n 0 = _
          rw [getD_set_ne (by omega)]; exact hQe n (by omega)
        · show b32 * (val b32 ((Q.set u (s % b32)).take (u + 1)) + b32 ^ (u + 1) * (s / b32)) = val b32 (N.take (u + 1 + 1)) + k * val b32 ([p0, p1, p2, p3, p4, p5, p6, p7].take (u + 1 + 1))
          rw [val_take_succ, take_set_eq, getD_set_self (by omega), val_take_succ N (u + 1), val_take_succ _ (u + 1), ← exj, ← hQe (u + 1) (by omega), ← eo, Nat.pow_succ]
          exact hval
      · have : u = 7 := by omega
        subst this
        have g8 : Q.getD 8 0 = r8 := by rw [hQe 8 (by omega), hN8]
        have g9 : Q.getD 9 0 = c8 := by rw [hQe 9 (by omega), hN9]
        refine d_op (ev_lgetN' (i := 8) (by simp) (by omega) g8) (d_op (ev_add (by constructor <;> omega)) ?_)
        rw [show (d : Int) + (r8 : Int) = ((d + r8 : Nat) : Int) by push_cast; rfl]
        obtain ⟨s7, es7⟩ : ∃ s7, s7 = (d + r8) % 4294967296 := ⟨_, rfl⟩
        obtain ⟨q7, eq7⟩ : ∃ q7, q7 = (d + r8) / 4294967296 := ⟨_, rfl⟩
        have hs7 : s7 < 4294967296 := by omega
        have h77 : s7 + b32 * q7 = d + r8 := by show s7 + 4294967296 * q7 = _; omega
        refine d_op (ev_and (in64 (by omega)) (y := 4294967295) (by decide)) ?_
        rw [Nat.and_two_pow_sub_one_eq_mod _ 32, show (2 : Nat) ^ 32 = 4294967296 from rfl, ← es7]
        refine d_op (ev_lgetN' (i := 9) (by simp) (by omega) g9) (d_op (ev_shr (y := 32) rfl (by decide) eq7.symm) (d_op (ev_add (by constructor <;> omega)) ?_))
        rw [show (c8 : Int) + (q7 : Int) = ((c8 + q7 : Nat) : Int) by push_cast; rfl]
        refine d_op (ev_lsetN (i := 7) (by simp) (by omega) rfl) (d_op (ev_lsetN (i := 8) (by simp) (by simp; omega) rfl) (d_op (ev_add (by constructor <;> omega)) ?_))
        obtain ⟨L', eL'⟩ : ∃ L', L' = (Q.set 7 s7).set 8 (c8 + q7) := ⟨_, rfl⟩
        rw [← eL']
        have hT : val b32 (L'.take 9) = val b32 (Q.take 7) + b32 ^ 7 * s7 + b32 ^ 8 * (c8 + q7) := by
          rw [val_take_succ, eL', take_set_eq, getD_set_self (by simp; omega), val_take_succ _ 7, take_set_eq, getD_set_self (by omega)]
        have hNN : val b32 N = val b32 (N.take 8) + b32 ^ 8 * r8 + b32 ^ 9 * c8 := by
          have e10 : N.take 10 = N := List.take_of_length_le (by omega)
          have v1 := val_take_succ (b := b32) N 9
          have v2 := val_take_succ (b := b32) N 8
          rw [e10, hN9] at v1
          rw [hN8] at v2
          rw [v1, v2]
        rw [show [p0, p1, p2, p3, p4, p5, p6, p7].take (7 + 1) = [p0, p1, p2, p3, p4, p5, p6, p7] from rfl, vP] at hQv
        have hend := cut_end hQv hNN h77 hT
        rw [hNv] at hend
        have hbd' := cut_bound hend hbd hy hk
        have hcong := cut_cong hend hq hyd
        have hnew : c8 + q7 < b32 := by
          have : b32 ^ 8 * (c8 + q7) < a + m := by omega
          have h2 : b32 ^ 8 = W256 := rfl
          rw [h2] at this
          unfold W256 at *
          show c8 + q7 < 4294967296
          omega
        refine d_back rfl ⟨(i + 1, L'), rfl, ⟨by show i + 1 ≤ 8; omega, by rw [eL']; simp [hQl], by rw [eL']; exact (hQlt.set hs7 7).set hnew 8, hbd', _, hcong⟩, by show 8 - (i + 1) < 8 - i; omega⟩
  · have : i = 8 := by omega
    subst this
    obtain ⟨T, eT⟩ : ∃ T, T = val b32 (L.take 9) := ⟨_, rfl⟩
    rw [← eT] at hbd hq
    have hlt9 := hlt.take 9
    have hW : b32 ^ 8 = W256 := rfl
    rw [hW, Nat.mod_eq_of_lt hb] at hq
    have hTm : T % m = montS m a b := mont_of hF.1 (by rw [hq, Nat.add_mul_mod_self_right])
    have hgd : ∀ j, j < 9 → L.getD j 0 = T / b32 ^ j % b32 := fun j hj => by rw [← getD_take hj, getD_digit (by decide) hlt9, ← eT]
    refine d_while (fun j : Nat => [.int .i64 (j : Int), .lst (CN .u64 (fdigs b32 8 (T % b32 ^ j)))]) (fun j => j ≤ 8) (fun j => 8 - j) 0 (Nat.zero_le _) (by show _ = [_, AV.lst (CN .u64 (fdigs b32 8 (T % 1)))]; rw [Nat.mod_one]; rfl) ?_
    intro j hj
    refine d_op ev_lss (d_if rfl (fun h2 => ?_) (fun h2 => ?_))
    · have hj8 : j < 8 := by omega
      refine d_op (ev_chki (n := 10) (by omega) (by omega) rfl) (d_op (ev_ofs (n := j) (o := 0) rfl rfl) (d_op (ev_lgetN' (i := j) (by simp) (by omega) (hgd j (by omega))) ?_))
      refine d_op (ev_chki (n := 8) (by omega) (by omega) rfl) (d_op (ev_ofs (n := j) (o := 0) rfl rfl) ?_)
      refine d_op (ev_lsetN (i := j) (by simp) (by rw [fdigs_length]; omega) rfl) (d_op (ev_add (by constructor <;> omega)) ?_)
      rw [fd_setw (by decide) hj8]
      exact d_back rfl ⟨j + 1, rfl, by omega, by omega⟩
    · have : j = 8 := by omega
      subst this
      rw [hW]
      have hTW : T % W256 < W256 := Nat.mod_lt _ (by decide)
      have hcl := hwh (T % W256) hTW
      unfold PV at hcl
      obtain ⟨z0, z1, z2, z3, z4, z5, z6, z7, ez⟩ := len_eight (fdigs_length (b := b32) 8 (T % W256))
      rw [show fdigs 4294967296 8 (T % W256) = [z0, z1, z2, z3, z4, z5, z6, z7] from ez] at hcl
      rw [ez]
      obtain ⟨r0, r1, r2, r3, hr0, hr1, hr2, hr3, eR', er⟩ := WV_limbs hTW
      rw [eR'] at hcl
      have hmin := hmi (T % W256) m hTW hm
      have hmor := hmo (T % W256) m hTW hm
      have hres : ∃ u0 u1 u2 u3, WV ((T % W256 + W256 - m) % W256) = WL u0 u1 u2 u3 := by
        obtain ⟨u0, u1, u2, u3, _, _, _, _, eU, _⟩ := WV_limbs (a := (T % W256 + W256 - m) % W256) (Nat.mod_lt _ (by decide))
        exact ⟨u0, u1, u2, u3, eU⟩
      obtain ⟨u0, u1, u2, u3, eU⟩ := hres
      have hTlt : T < 2 * m := by omega
      have hsub : m ≤ T → WV ((T % W256 + W256 - m) % W256) = WV (montS m a b) := fun h => by
        rw [← hTm]; congr 1
        have h5 : T % m = T - m := by rw [mod_two hTlt, if_neg (by omega)]
        rw [h5]; unfold W256 at *; omega
      rw [eR', eM] at hmor
      rw [eR', eM, eU] at hmin
      rw [eU] at hsub
      refine d_op (v := .agg (CN .u64 [z0, z1, z2, z3, z4, z5, z6, z7])) rfl (d_call hcl (fun h => by cases h) (d_cells rfl rfl rfl rfl ?_))
      have h8 : L.getD 8 0 = T / W256 := by
        rw [hgd 8 (by omega), hW]
        apply Nat.mod_eq_of_lt
        show T / W256 < 4294967296
        unfold W256 at *; omega
      refine d_op (ev_lgetN' (i := 8) (by simp) (by omega) h8) (d_op ev_gtr (d_if rfl (fun h3 => ?_) (fun h3 => ?_)))
      · refine d_op (v := .rp (CN .u64 [m0, m1, m2, m3, p0, p1, p2, p3, p4, p5, p6, p7, low, s0, s1, s2, s3])) rfl (d_op (v := .rp (CN .u64 [m0, m1, m2, m3, p0, p1, p2, p3, p4, p5, p6, p7, low, s0, s1, s2, s3])) rfl (d_op (v := WL m0 m1 m2 m3) rfl ?_))
        refine d_op (v := WL r0 r1 r2 r3) ev_wl (d_call hmin (fun h => by cases h) (d_cells rfl rfl rfl rfl (d_op (v := WL u0 u1 u2 u3) ev_wl (d_ret ?_))))
        have : m ≤ T := by unfold W256 at *; omega
        rw [← hsub this]; rfl
      · have hT0 : T < W256 := by unfold W256 at *; omega
        have hTT : T % W256 = T := Nat.mod_eq_of_lt hT0
        refine d_op (v := .rp (CN .u64 [m0, m1, m2, m3, p0, p1, p2, p3, p4, p5, p6, p7, low, s0, s1, s2, s3])) rfl (d_op (v := .rp (CN .u64 [m0, m1, m2, m3, p0, p1, p2, p3, p4, p5, p6, p7, low, s0, s1, s2, s3])) rfl (d_op (v := WL m0 m1 m2 m3) rfl ?_))
        refine d_op (v := WL r0 r1 r2 r3) ev_wl (d_call hmor (fun _ => rfl) (d_if rfl (fun h4 => ?_) (fun h4 => ?_)))
        · refine d_op (v := .rp (CN .u64 [m0, m1, m2, m3, p0, p1, p2, p3, p4, p5, p6, p7, low, s0, s1, s2, s3])) rfl (d_op (v := .rp (CN .u64 [m0, m1, m2, m3, p0, p1, p2, p3, p4, p5, p6, p7, low, s0, s1, s2, s3])) rfl (d_op (v := WL m0 m1 m2 m3) rfl ?_))
          refine d_op (v := WL r0 r1 r2 r3) ev_wl (d_call hmin (fun h => by cases h) (d_cells rfl rfl rfl rfl (d_op (v := WL u0 u1 u2 u3) ev_wl (d_ret ?_))))
          rw [← hsub (by omega)]; rfl
        · refine d_op (v := WL r0 r1 r2 r3) ev_wl (d_ret ?_)
          show AEnd.ret (WL r0 r1 r2 r3) = _
          rw [← eR', ← hTm, Nat.mod_eq_of_lt hT0, Nat.mod_eq_of_lt (show T < m by omega)]
end Go.SE
