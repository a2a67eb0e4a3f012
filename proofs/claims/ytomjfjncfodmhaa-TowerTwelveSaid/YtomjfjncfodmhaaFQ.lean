/- Nothing of the statement is proved here: this text lays generic laws: FQ; no conditions. -/
import Derived.Test.YtomjfjncfodmhaaFN
set_option linter.all false
set_option autoImplicit false
set_option maxRecDepth 4000
set_option maxHeartbeats 4000000
set_option exponentiation.threshold 5000
namespace Go.SE
open Go
variable {P : Program} {R : AEnd → Prop}
theorem in64 {z : Nat} (h : z < 18446744073709551616) : InR .u64 (z : Int) := by constructor <;> omega
def RP (m low sq : Nat) : AV := .rp (CN .u64 (fdigs B64 4 m ++ (fdigs b32 8 m ++ ([low] ++ fdigs B64 4 sq))))
def Rok (m low sq : Nat) : Prop := m % 2 = 1 ∧ m < W256 ∧ low < b32 ∧ low * m % b32 = 4294967295 ∧ sq = W256 * W256 % m
theorem Rok.pos {m low sq : Nat} (h : Rok m low sq) : 0 < m := by have := h.1; omega
theorem Rok.sq_lt {m low sq : Nat} (h : Rok m low sq) : sq < m := by rw [h.2.2.2.2]; exact Nat.mod_lt _ h.pos
theorem Rok.sq_lt' {m low sq : Nat} (h : Rok m low sq) : sq < W256 := Nat.lt_trans h.sq_lt h.2.1
theorem len_four {L : List Nat} (h : L.length = 4) : ∃ a b c d, L = [a, b, c, d] := by
  match L, h with
  | [a, b, c, d], _ => exact ⟨a, b, c, d, rfl⟩
theorem WV_fd {a : Nat} (h : a < W256) : WV a = .agg (CN .u64 (fdigs B64 4 a)) := WV_ws h
theorem RP_parts {m low sq : Nat} (hm : m < W256) (hs : sq < W256) : ∃ m0 m1 m2 m3 p0 p1 p2 p3 p4 p5 p6 p7 s0 s1 s2 s3,
    fdigs b32 8 m = [p0, p1, p2, p3, p4, p5, p6, p7] ∧ WV m = WL m0 m1 m2 m3 ∧ WV sq = WL s0 s1 s2 s3 ∧
    RP m low sq = .rp (CN .u64 [m0, m1, m2, m3, p0, p1, p2, p3, p4, p5, p6, p7, low, s0, s1, s2, s3]) := by
  obtain ⟨m0, m1, m2, m3, em⟩ := len_four (fdigs_length (b := B64) 4 m)
  obtain ⟨s0, s1, s2, s3, es⟩ := len_four (fdigs_length (b := B64) 4 sq)
  obtain ⟨p0, p1, p2, p3, p4, p5, p6, p7, ep⟩ := len_eight (fdigs_length (b := b32) 8 m)
  refine ⟨m0, m1, m2, m3, p0, p1, p2, p3, p4, p5, p6, p7, s0, s1, s2, s3, ep, ?_, ?_, ?_⟩
  · rw [WV_fd hm, em]; rfl
  · rw [WV_fd hs, es]; rfl
  · unfold RP; rw [em, es, ep]; rfl
theorem ev_ridxN {n j : Nat} {k k' : IntKind} {L : List Nat} {z : Int} (hz : z = (j : Int)) (h : j < n) : evalO (.ridx n 1) [.rp (CN k L), .int k' z] = some (.rp (CN k (L.drop j))) := by
  subst hz
  show (if 0 ≤ (j : Int) ∧ (j : Int) < n then some (AV.rp ((CN k L).drop ((j : Int).toNat * 1))) else none) = _
  rw [if_pos ⟨by omega, by omega⟩]
  simp [CN]
theorem mul32 {x y : Nat} (hx : x < b32) (hy : y < b32) : x * y ≤ 18446744065119617025 :=
  Nat.mul_le_mul (show x ≤ 4294967295 from Nat.le_of_lt_succ hx) (show y ≤ 4294967295 from Nat.le_of_lt_succ hy)
theorem cut_one {p o c r c' V V' A Z y x : Nat} (h1 : V' + p * o = V + p * r) (h2 : r + b32 * c' = c + o + x * y) (h3 : V + p * c = A + y * Z) : V' + p * b32 * c' = A + y * (Z + p * x) := by
  have h4 := place_step (b := b32) (y := x * y) (c := c) (o := o) (r := r) (c' := c') h1 (h2.trans (by omega)) h3
  rw [h4, Nat.mul_add, Nat.mul_left_comm y p x, Nat.mul_comm y x]
theorem cut_two {p o c r c' V A k Z x : Nat} (h2 : r + b32 * c' = c + o + k * x) (h3 : b32 * (V + p * c) = A + k * Z) : b32 * (V + p * r + p * b32 * c') = A + p * b32 * o + k * (Z + p * b32 * x) := by
  have h5 : b32 * (V + p * r + p * b32 * c') = b32 * V + p * b32 * (r + b32 * c') := by
    simp only [Nat.mul_add]
    rw [Nat.mul_left_comm b32 p r, Nat.mul_left_comm b32 (p * b32) c', Nat.mul_assoc p b32 r, Nat.add_assoc]
  have h6 : b32 * (V + p * c) = b32 * V + p * b32 * c := by rw [Nat.mul_add, Nat.mul_left_comm, Nat.mul_assoc]
  rw [h6] at h3
  rw [h5, h2]
  simp only [Nat.mul_add]
  rw [Nat.mul_left_comm k (p * b32) x]
  omega
theorem cut_mid {V V1 V2 V3 T c t8 r8 c8 L9 Z : Nat} (h : V1 + b32 ^ 8 * c = V + Z) (hT : V = T + b32 ^ 9 * L9) (h2 : V2 + b32 ^ 8 * t8 = V1 + b32 ^ 8 * r8) (h3 : V3 + b32 ^ 9 * L9 = V2 + b32 ^ 9 * c8) (h4 : r8 + b32 * c8 = c + t8) : V3 = T + Z := by
  have e9 : b32 ^ 9 = 4294967296 * b32 ^ 8 := rfl
  have h4' : r8 + 4294967296 * c8 = c + t8 := h4
  have h5 := congrArg (b32 ^ 8 * ·) h4'
  simp only [Nat.mul_add] at h5
  rw [Nat.mul_left_comm] at h5
  rw [e9, Nat.mul_assoc] at hT h3
  rw [Nat.mul_assoc] at h3
  omega
theorem cut_end {V3 A c r8 c8 s7 q7 W km T : Nat} (h : b32 * (W + b32 ^ 7 * c) = A + km) (hV : V3 = A + b32 ^ 8 * r8 + b32 ^ 9 * c8) (h7 : s7 + b32 * q7 = c + r8) (hT : T = W + b32 ^ 7 * s7 + b32 ^ 8 * (c8 + q7)) : b32 * T = V3 + km := by
  have e7 : b32 ^ 7 = 26959946667150639794667015087019630673637144422540572481103610249216 := rfl
  have e9 : b32 ^ 9 = 497323236409786642155382248146820840100456150797347717440463976893159497012533375533056 := rfl
  have e8 : b32 ^ 8 = 115792089237316195423570985008687907853269984665640564039457584007913129639936 := rfl
  rw [e7] at h hT
  rw [e8] at hT
  rw [e8, e9] at hV
  have h7' : s7 + 4294967296 * q7 = c + r8 := h7
  have h' : 4294967296 * (W + 26959946667150639794667015087019630673637144422540572481103610249216 * c) = A + km := h
  show 4294967296 * T = _
  omega
theorem cut_bound {T T' x m yi k : Nat} (h : b32 * T' = T + yi * x + k * m) (hT : T < x + m) (hy : yi < b32) (hk : k < b32) : T' < x + m := by
  have h1 : yi * x ≤ 4294967295 * x := Nat.mul_le_mul_right _ (Nat.le_of_lt_succ hy)
  have h2 : k * m ≤ 4294967295 * m := Nat.mul_le_mul_right _ (Nat.le_of_lt_succ hk)
  have h' : 4294967296 * T' = T + yi * x + k * m := h
  omega
theorem cut_cong {T T' x m yi k q y i : Nat} (h : b32 * T' = T + yi * x + k * m) (hT : T * b32 ^ i = x * (y % b32 ^ i) + q * m) (hy : yi = y / b32 ^ i % b32) : T' * b32 ^ (i + 1) = x * (y % b32 ^ (i + 1)) + (q + k * b32 ^ i) * m := by
  rw [mod_pow_next, ← hy, Nat.pow_succ]
  have h1 : T' * (b32 ^ i * b32) = (b32 * T') * b32 ^ i := by rw [Nat.mul_comm (b32 ^ i), ← Nat.mul_assoc, Nat.mul_comm T']
  rw [h1, h, Nat.add_mul, Nat.add_mul, hT, Nat.mul_add, Nat.add_mul]
  have h2 : yi * x * b32 ^ i = x * (b32 ^ i * yi) := by rw [Nat.mul_comm yi x, Nat.mul_assoc, Nat.mul_comm yi]
  have h3 : k * m * b32 ^ i = k * b32 ^ i * m := Nat.mul_right_comm _ _ _
  omega
theorem cut_low {t low m p0 k : Nat} (hl : low * m % b32 = 4294967295) (hp : p0 = m % b32) (hk : k = t * low % b32) : (t + k * p0) % b32 = 0 := by
  have h1 : (t + k * p0) % b32 = (t + t * (low * m)) % b32 := by
    rw [hk, hp, Nat.add_mod, Nat.mul_mod, Nat.mod_mod, Nat.mod_mod, ← Nat.mul_mod, ← Nat.add_mod, Nat.mul_assoc]
  rw [h1, Nat.add_mod, Nat.mul_mod, hl]
  show (t % 4294967296 + t % 4294967296 * 4294967295 % 4294967296) % 4294967296 = 0
  omega
theorem take_set_eq {L : List Nat} (u x : Nat) : (L.set u x).take u = L.take u := by
  rw [List.take_set_of_le (Nat.le_refl _)]
theorem getD_set_self {L : List Nat} {u x : Nat} (h : u < L.length) : (L.set u x).getD u 0 = x := by
  simp [List.getD_eq_getElem?_getD, h]
theorem getD_take {L : List Nat} {u n : Nat} (h : u < n) : (L.take n).getD u 0 = L.getD u 0 := by
  simp [List.getD_eq_getElem?_getD, h]
def RCutC (P : Program) (f : FuncId) : Prop := ∀ m low sq a b, Rok m low sq → a < m → b < W256 → Ct P f [RP m low sq, WV a, WV b] (fun e => e = .ret (WV (montS m a b)))
def t_rcut (parts whole minus more : FuncId) : T :=
 .node (.op (.cell 4 0) [.v 1]) <|
 .node (.op (.cell 4 1) [.v 1]) <|
 .node (.op (.cell 4 2) [.v 1]) <|
 .node (.op (.cell 4 3) [.v 1]) <|
 .node (.op (.cell 4 0) [.v 2]) <|
 .node (.op (.cell 4 1) [.v 2]) <|
 .node (.op (.cell 4 2) [.v 2]) <|
 .node (.op (.cell 4 3) [.v 2]) <|
 .node (.op .mkagg [.v 3, .v 4, .v 5, .v 6]) <|
 .node (.call parts [.v 11] false) <|
 .node (.op .mkagg [.v 7, .v 8, .v 9, .v 10]) <|
 .node (.call parts [.v 13] false) <|
 .node (.op (.cell 8 0) [.v 12]) <|
 .node (.op (.cell 8 1) [.v 12]) <|
 .node (.op (.cell 8 2) [.v 12]) <|
 .node (.op (.cell 8 3) [.v 12]) <|
 .node (.op (.cell 8 4) [.v 12]) <|
 .node (.op (.cell 8 5) [.v 12]) <|
 .node (.op (.cell 8 6) [.v 12]) <|
 .node (.op (.cell 8 7) [.v 12]) <|
 .node (.op (.cell 8 0) [.v 14]) <|
 .node (.op (.cell 8 1) [.v 14]) <|
 .node (.op (.cell 8 2) [.v 14]) <|
 .node (.op (.cell 8 3) [.v 14]) <|
 .node (.op (.cell 8 4) [.v 14]) <|
 .node (.op (.cell 8 5) [.v 14]) <|
 .node (.op (.cell 8 6) [.v 14]) <|
 .node (.op (.cell 8 7) [.v 14]) <|
 .loop [.c (.int .i64 0), .c (.lst [.int .u64 0, .int .u64 0, .int .u64 0, .int .u64 0, .int .u64 0, .int .u64 0, .int .u64 0, .int .u64 0, .int .u64 0, .int .u64 0])] [true, false] <|
 .node (.op (.bin .lss) [.v 31, .c (.int .i64 8)]) <|
 .br (.v 33) (
 .loop [.c (.int .u64 0), .c (.int .i64 0), .v 32] [true, true, false] <|
 .node (.op (.bin .lss) [.v 35, .c (.int .i64 8)]) <|
 .br (.v 37) (
 .node (.op .chki [.v 35, .c (.int .i64 10)]) <|
 .node (.op (.ofs 1) [.c (.int .i64 0), .v 35]) <|
 .node (.op (.lget false 1) [.v 36, .v 39]) <|
 .node (.op (.bin .add) [.v 34, .v 40]) <|
 .node (.op .chki [.v 35, .c (.int .i64 8)]) <|
 .node (.op (.ofs 1) [.c (.int .i64 0), .v 35]) <|
 .node (.op .mklst [.v 15, .v 16, .v 17, .v 18, .v 19, .v 20, .v 21, .v 22]) <|
 .node (.op (.lget false 1) [.v 44, .v 43]) <|
 .node (.op .chki [.v 31, .c (.int .i64 8)]) <|
 .node (.op (.ofs 1) [.c (.int .i64 0), .v 31]) <|
 .node (.op .mklst [.v 23, .v 24, .v 25, .v 26, .v 27, .v 28, .v 29, .v 30]) <|
 .node (.op (.lget false 1) [.v 48, .v 47]) <|
 .node (.op (.bin .mul) [.v 45, .v 49]) <|
 .node (.op (.bin .add) [.v 41, .v 50]) <|
 .node (.op (.bin .and) [.v 51, .c (.int .u64 4294967295)]) <|
 .node (.op (.bin .shr) [.v 51, .c (.int .u64 32)]) <|
 .node (.op .chki [.v 35, .c (.int .i64 10)]) <|
 .node (.op (.ofs 1) [.c (.int .i64 0), .v 35]) <|
 .node (.op .lset [.v 36, .v 55, .v 52]) <|
 .node (.op (.bin .add) [.v 35, .c (.int .i64 1)]) <|
 .back 0 [.v 53, .v 57, .v 56]) (
 .node (.op (.lget false 1) [.v 36, .c (.int .i64 8)]) <|
 .node (.op (.bin .add) [.v 34, .v 38]) <|
 .node (.op (.bin .and) [.v 39, .c (.int .u64 4294967295)]) <|
 .node (.op (.bin .shr) [.v 39, .c (.int .u64 32)]) <|
 .node (.op .lset [.v 36, .c (.int .i64 8), .v 40]) <|
 .node (.op .lset [.v 42, .c (.int .i64 9), .v 41]) <|
 .node (.op (.lget false 1) [.v 43, .c (.int .i64 0)]) <|
 .node (.op .nilchk [.v 0]) <|
 .node (.op (.roff 12) [.v 45]) <|
 .node (.op (.rld false 1) [.v 46]) <|
 .node (.op (.bin .mul) [.v 44, .v 47]) <|
 .node (.op (.bin .and) [.v 48, .c (.int .u64 4294967295)]) <|
 .node (.op (.lget false 1) [.v 43, .c (.int .i64 0)]) <|
 .node (.op .nilchk [.v 0]) <|
 .node (.op (.roff 4) [.v 51]) <|
 .node (.op (.ridx 8 1) [.v 52, .c (.int .i64 0)]) <|
 .node (.op (.rld false 1) [.v 53]) <|
 .node (.op (.bin .mul) [.v 49, .v 54]) <|
 .node (.op (.bin .add) [.v 50, .v 55]) <|
 .node (.op (.bin .shr) [.v 56, .c (.int .u64 32)]) <|
 .loop [.v 57, .c (.int .i64 1), .v 43] [true, true, false] <|
 .node (.op (.bin .lss) [.v 59, .c (.int .i64 8)]) <|
 .br (.v 61) (
 .node (.op .chki [.v 59, .c (.int .i64 10)]) <|
 .node (.op (.ofs 1) [.c (.int .i64 0), .v 59]) <|
 .node (.op (.lget false 1) [.v 60, .v 63]) <|
 .node (.op (.bin .add) [.v 58, .v 64]) <|
 .node (.op .nilchk [.v 0]) <|
 .node (.op (.roff 4) [.v 66]) <|
 .node (.op (.ridx 8 1) [.v 67, .v 59]) <|
 .node (.op (.rld false 1) [.v 68]) <|
 .node (.op (.bin .mul) [.v 49, .v 69]) <|
 .node (.op (.bin .add) [.v 65, .v 70]) <|
 .node (.op (.bin .sub) [.v 59, .c (.int .i64 1)]) <|
 .node (.op (.bin .and) [.v 71, .c (.int .u64 4294967295)]) <|
 .node (.op (.bin .shr) [.v 71, .c (.int .u64 32)]) <|
 .node (.op .chki [.v 72, .c (.int .i64 10)]) <|
 .node (.op (.ofs 1) [.c (.int .i64 0), .v 72]) <|
 .node (.op .lset [.v 60, .v 76, .v 73]) <|
 .node (.op (.bin .add) [.v 59, .c (.int .i64 1)]) <|
 .back 0 [.v 74, .v 78, .v 77]) (
 .node (.op (.lget false 1) [.v 60, .c (.int .i64 8)]) <|
 .node (.op (.bin .add) [.v 58, .v 62]) <|
 .node (.op (.bin .and) [.v 63, .c (.int .u64 4294967295)]) <|
 .node (.op (.lget false 1) [.v 60, .c (.int .i64 9)]) <|
 .node (.op (.bin .shr) [.v 63, .c (.int .u64 32)]) <|
 .node (.op (.bin .add) [.v 65, .v 66]) <|
 .node (.op .lset [.v 60, .c (.int .i64 7), .v 64]) <|
 .node (.op .lset [.v 68, .c (.int .i64 8), .v 67]) <|
 .node (.op (.bin .add) [.v 31, .c (.int .i64 1)]) <|
 .back 2 [.v 70, .v 69]))) (
 .loop [.c (.int .i64 0), .c (.lst [.int .u64 0, .int .u64 0, .int .u64 0, .int .u64 0, .int .u64 0, .int .u64 0, .int .u64 0, .int .u64 0])] [true, false] <|
 .node (.op (.bin .lss) [.v 34, .c (.int .i64 8)]) <|
 .br (.v 36) (
 .node (.op .chki [.v 34, .c (.int .i64 10)]) <|
 .node (.op (.ofs 1) [.c (.int .i64 0), .v 34]) <|
 .node (.op (.lget false 1) [.v 32, .v 38]) <|
 .node (.op .chki [.v 34, .c (.int .i64 8)]) <|
 .node (.op (.ofs 1) [.c (.int .i64 0), .v 34]) <|
 .node (.op .lset [.v 35, .v 41, .v 39]) <|
 .node (.op (.bin .add) [.v 34, .c (.int .i64 1)]) <|
 .back 0 [.v 43, .v 42]) (
 .node (.op (.lget true 8) [.v 35, .c (.int .i64 0)]) <|
 .node (.call whole [.v 37] false) <|
 .node (.op (.cell 4 0) [.v 38]) <|
 .node (.op (.cell 4 1) [.v 38]) <|
 .node (.op (.cell 4 2) [.v 38]) <|
 .node (.op (.cell 4 3) [.v 38]) <|
 .node (.op (.lget false 1) [.v 32, .c (.int .i64 8)]) <|
 .node (.op (.bin .gtr) [.v 43, .c (.int .u64 0)]) <|
 .br (.v 44) (
 .node (.op .nilchk [.v 0]) <|
 .node (.op (.roff 0) [.v 45]) <|
 .node (.op (.rld true 4) [.v 46]) <|
 .node (.op .mkagg [.v 39, .v 40, .v 41, .v 42]) <|
 .node (.call minus [.v 48, .v 47] false) <|
 .node (.op (.cell 4 0) [.v 49]) <|
 .node (.op (.cell 4 1) [.v 49]) <|
 .node (.op (.cell 4 2) [.v 49]) <|
 .node (.op (.cell 4 3) [.v 49]) <|
 .node (.op .mkagg [.v 50, .v 51, .v 52, .v 53]) <|
 .ret (.v 54)) (
 .node (.op .nilchk [.v 0]) <|
 .node (.op (.roff 0) [.v 45]) <|
 .node (.op (.rld true 4) [.v 46]) <|
 .node (.op .mkagg [.v 39, .v 40, .v 41, .v 42]) <|
 .node (.call more [.v 48, .v 47] true) <|
 .br (.v 49) (
 .node (.op .nilchk [.v 0]) <|
 .node (.op (.roff 0) [.v 50]) <|
 .node (.op (.rld true 4) [.v 51]) <|
 .node (.op .mkagg [.v 39, .v 40, .v 41, .v 42]) <|
 .node (.call minus [.v 53, .v 52] false) <|
 .node (.op (.cell 4 0) [.v 54]) <|
 .node (.op (.cell 4 1) [.v 54]) <|
 .node (.op (.cell 4 2) [.v 54]) <|
 .node (.op (.cell 4 3) [.v 54]) <|
 .node (.op .mkagg [.v 55, .v 56, .v 57, .v 58]) <|
 .ret (.v 59)) (
 .node (.op .mkagg [.v 39, .v 40, .v 41, .v 42]) <|
 .ret (.v 50)))))
theorem rcut_den {parts whole minus more : FuncId} {m low sq a b : Nat} (hpa : PartsC P parts) (hwh : WholeC P whole) (hmi : W2 P minus (fun a b => (a + W256 - b) % W256)) (hmo : RMoreC P more)
    (hF : Rok m low sq) (ha : a < m) (hb : b < W256) : D P (fun e => e = .ret (WV (montS m a b))) [] 3 [WV b, WV a, RP m low sq] (t_rcut parts whole minus more) := by
  have hm := hF.2.1
  have hlow : low < 4294967296 := hF.2.2.1
  have haW : a < W256 := Nat.lt_trans ha hm
  obtain ⟨m0, m1, m2, m3, p0, p1, p2, p3, p4, p5, p6, p7, s0, s1, s2, s3, ep, eM, eS, eR⟩ := RP_parts (low := low) hm hF.sq_lt'
  obtain ⟨a0, a1, a2, a3, ha0, ha1, ha2, ha3, eA, ea⟩ := WV_limbs haW
  obtain ⟨b0, b1, b2, b3, hb0, hb1, hb2, hb3, eB, eb⟩ := WV_limbs hb
  obtain ⟨x0, x1, x2, x3, x4, x5, x6, x7, ex⟩ := len_eight (fdigs_length (b := b32) 8 a)
  obtain ⟨y0, y1, y2, y3, y4, y5, y6, y7, ey⟩ := len_eight (fdigs_length (b := b32) 8 b)
  have hP := fdigs_lt (b := b32) (by decide) 8 m
  have hX := fdigs_lt (b := b32) (by decide) 8 a
  have hY := fdigs_lt (b := b32) (by decide) 8 b
  have vP := val_fdigs_lt (b := b32) (k := 8) hm
  have vX := val_fdigs_lt (b := b32) (k := 8) haW
  have vY := val_fdigs_lt (b := b32) (k := 8) hb
  have cA := hpa a haW
  have cB := hpa b hb
  unfold PV at cA cB
  rw [show fdigs 4294967296 8 a = [x0, x1, x2, x3, x4, x5, x6, x7] from ex, eA] at cA
  rw [show fdigs 4294967296 8 b = [y0, y1, y2, y3, y4, y5, y6, y7] from ey, eB] at cB
  rw [ep] at hP vP
  rw [ex] at hX vX
  rw [ey] at hY vY
  have hp0 : p0 = m % b32 := by
    have := congrArg (fun l : List Nat => l.getD 0 0) ep
    exact this.symm
  have hp0l : p0 < b32 := hP p0 (by simp)
  rw [eR, eA, eB]
  refine d_cells rfl rfl rfl rfl (d_cells rfl rfl rfl rfl ?_)
  refine d_op (v := WL a0 a1 a2 a3) ev_wl (d_call cA (fun h => by cases h) (d_op (v := WL b0 b1 b2 b3) ev_wl (d_call cB (fun h => by cases h) ?_)))
  refine d_expl (N := 8) (i := 12) rfl rfl rfl rfl (d_expl (N := 8) (i := 14) rfl rfl rfl rfl ?_)
  refine d_while (fun s : Nat × List Nat => [.int .i64 (s.1 : Int), .lst (CN .u64 s.2)])
    (fun s => s.1 ≤ 8 ∧ s.2.length = 10 ∧ LtAll b32 s.2 ∧ val b32 (s.2.take 9) < a + m ∧ ∃ q, val b32 (s.2.take 9) * b32 ^ s.1 = a * (b % b32 ^ s.1) + q * m) (fun s => 8 - s.1)
    (0, [0, 0, 0, 0, 0, 0, 0, 0, 0, 0]) ⟨Nat.zero_le _, rfl, LtAll.replicate (k := 10) (by decide), by show 0 < a + m; omega, 0, by show 0 * 1 = a * (b % 1) + 0 * m; rw [Nat.mod_one]; simp⟩ rfl ?_
  rintro ⟨i, L⟩ ⟨hi, hl, hlt, hbd, q, hq⟩
  dsimp only at hi hl hlt hbd hq ⊢
  refine d_op ev_lss (d_if rfl (fun h1 => ?_) (fun h1 => ?_))
  · have hi8 : i < 8 := by omega
    obtain ⟨y, eyi⟩ : ∃ y, y = [y0, y1, y2, y3, y4, y5, y6, y7].getD i 0 := ⟨_, rfl⟩
    have hy : y < b32 := eyi ▸ hY.getD (by decide) _
    have hyd : y = b / b32 ^ i % b32 := by rw [eyi, getD_digit (by decide) hY, vY]
    refine d_while (fun s : Nat × Nat × List Nat => [.int .u64 (s.1 : Int), .int .i64 (s.2.1 : Int), .lst (CN .u64 s.2.2)])
      (fun s => s.1 < b32 ∧ s.2.1 ≤ 8 ∧ s.2.2.length = 10 ∧ LtAll b32 s.2.2 ∧ (∀ n, 8 ≤ n → s.2.2.getD n 0 = L.getD n 0) ∧ val b32 s.2.2 + b32 ^ s.2.1 * s.1 = val b32 L + y * val b32 ([x0, x1, x2, x3, x4, x5, x6, x7].take s.2.1)) (fun s => 8 - s.2.1)
      (0, 0, L) ⟨by show 0 < 4294967296; decide, Nat.zero_le _, hl, hlt, fun _ _ => rfl, by show val b32 L + 1 * 0 = val b32 L + y * 0; simp⟩ rfl ?_
    rintro ⟨c, j, M⟩ ⟨hc, hj, hMl, hMlt, hMe, hMv⟩
    dsimp only at hc hj hMl hMlt hMe hMv ⊢
    have hc' : c < 4294967296 := hc
    refine d_op ev_lss (d_if rfl (fun h2 => ?_) (fun h2 => ?_))
    · have hj8 : j < 8 := by omega
      obtain ⟨o, eo⟩ : ∃ o, o = M.getD j 0 := ⟨_, rfl⟩
      obtain ⟨x, exj⟩ : ∃ x, x = [x0, x1, x2, x3, x4, x5, x6, x7].getD j 0 := ⟨_, rfl⟩
      have ho : o < 4294967296 := eo ▸ hMlt.getD (by decide) _
      have hx : x < 4294967296 := exj ▸ hX.getD (by decide) _
      have hxy := mul32 hx hy
      have hval := cut_one (V' := val b32 (M.set j ((c + o + x * y) % b32))) (r := (c + o + x * y) % b32) (c' := (c + o + x * y) / b32) (p := b32 ^ j) (o := o)
        (by have := val_set (b := b32) (L := M) (i := j) (by omega) ((c + o + x * y) % b32); rw [← eo] at this; exact this) (Nat.mod_add_div _ _) hMv
      refine d_op (ev_chki (n := 10) (by omega) (by omega) rfl) (d_op (ev_ofs (n := j) (o := 0) rfl rfl) (d_op (ev_lgetN' (i := j) (by simp) (by omega) eo.symm) ?_))
      refine d_op (ev_add (by constructor <;> omega)) (d_op (ev_chki (n := 8) (by omega) (by omega) rfl) (d_op (ev_ofs (n := j) (o := 0) rfl rfl) ?_))
      refine d_op (v := .lst (CN .u64 [x0, x1, x2, x3, x4, x5, x6, x7])) rfl (d_op (ev_lgetN' (i := j) (by simp) (by simpa using hj8) exj.symm) ?_)
      refine d_op (ev_chki (n := 8) (by omega) (by omega) rfl) (d_op (ev_ofs (n := i) (o := 0) rfl rfl) ?_)
      refine d_op (v := .lst (CN .u64 [y0, y1, y2, y3, y4, y5, y6, y7])) rfl (d_op (ev_lgetN' (i := i) (by simp) (by simpa using hi8) eyi.symm) ?_)
      have hz : ((c : Int) + (o : Int)) + (x : Int) * (y : Int) = ((c + o + x * y : Nat) : Int) := by push_cast; rfl
      have hxz : (x : Int) * (y : Int) = ((x * y : Nat) : Int) := by push_cast; rfl
      refine d_op (ev_mul (by rw [hxz]; exact in64 (by omega))) (d_op (ev_add (by rw [hz]; exact in64 (by omega))) ?_)
      rw [hz]
      generalize hs : c + o + x * y = s at *
      refine d_op (ev_and (in64 (by omega)) (y := 4294967295) (by decide)) ?_
      rw [Nat.and_two_pow_sub_one_eq_mod _ 32]
      refine d_op (ev_shr (y := 32) rfl (by decide) rfl) ?_
      refine d_op (ev_chki (n := 10) (by omega) (by omega) rfl) (d_op (ev_ofs (n := j) (o := 0) rfl rfl) (d_op (ev_lsetN (i := j) (by simp) (by omega) rfl) (d_op (ev_add (by constructor <;> omega)) ?_)))
      refine d_back rfl ⟨(s / b32, j + 1, M.set j (s % b32)), rfl, ⟨by show s / 4294967296 < 4294967296; omega, by show j + 1 ≤ 8; omega, by simp [hMl], hMlt.set (Nat.mod_lt _ (by decide)) _, fun n hn => by rw [getD_set_ne (by omega)]; exact hMe n hn, ?_⟩, by show 8 - (j + 1) < 8 - j; omega⟩
      show val b32 (M.set j (s % b32)) + b32 ^ (j + 1) * (s / b32) = _
      rw [val_take_succ, ← exj, Nat.pow_succ]
      exact hval
    · have : j = 8 := by omega
      subst this
      rw [show [x0, x1, x2, x3, x4, x5, x6, x7].take 8 = [x0, x1, x2, x3, x4, x5, x6, x7] from rfl, vX] at hMv
      obtain ⟨t8, e8⟩ : ∃ t8, t8 = M.getD 8 0 := ⟨_, rfl⟩
      obtain ⟨L9, e9⟩ : ∃ L9, L9 = M.getD 9 0 := ⟨_, rfl⟩
      have ht8 : t8 < 4294967296 := e8 ▸ hMlt.getD (by decide) _
      refine d_op (ev_lgetN' (i := 8) (by simp) (by omega) e8.symm) (d_op (ev_add (by constructor <;> omega)) ?_)
      rw [show (c : Int) + (t8 : Int) = ((c + t8 : Nat) : Int) by push_cast; rfl]
      obtain ⟨r8, er8⟩ : ∃ r8, r8 = (c + t8) % 4294967296 := ⟨_, rfl⟩
      obtain ⟨c8, ec8⟩ : ∃ c8, c8 = (c + t8) / 4294967296 := ⟨_, rfl⟩
      have hr8 : r8 < 4294967296 := by omega
      have hc8 : c8 ≤ 1 := by omega
      have h48 : r8 + b32 * c8 = c + t8 := by show r8 + 4294967296 * c8 = _; omega
      refine d_op (ev_and (in64 (by omega)) (y := 4294967295) (by decide)) ?_
      rw [Nat.and_two_pow_sub_one_eq_mod _ 32, show (2 : Nat) ^ 32 = 4294967296 from rfl, ← er8]
      refine d_op (ev_shr (y := 32) rfl (by decide) ec8.symm) ?_
      refine d_op (ev_lsetN (i := 8) (by simp) (by omega) rfl) (d_op (ev_lsetN (i := 9) (by simp) (by simp; omega) rfl) ?_)
      obtain ⟨N, eN⟩ : ∃ N, N = (M.set 8 r8).set 9 c8 := ⟨_, rfl⟩
      rw [← eN]
      have hNl : N.length = 10 := by rw [eN]; simp [hMl]
      have hNlt : LtAll b32 N := by rw [eN]; exact (hMlt.set hr8 8).set (by show c8 < 4294967296; omega) 9
      have hN9 : N.getD 9 0 = c8 := by rw [eN, getD_set_self (by simp; omega)]
      have hN8 : N.getD 8 0 = r8 := by rw [eN, getD_set_ne (by omega), getD_set_self (by omega)]
      have hNv : val b32 N = val b32 (L.take 9) + y * a := by
        have v2 := val_set (b := b32) (L := M) (i := 8) (by omega) r8
        have v3 := val_set (b := b32) (L := M.set 8 r8) (i := 9) (by simp; omega) c8
        rw [getD_set_ne (by omega), ← e9, ← eN] at v3
        rw [← e8] at v2
        have v4 := val_take_succ (b := b32) L 9
        rw [← hMe 9 (by omega), ← e9, List.take_of_length_le (by omega)] at v4
        exact cut_mid hMv v4 v2 v3 h48
      obtain ⟨t0, e0⟩ : ∃ t0, t0 = N.getD 0 0 := ⟨_, rfl⟩
      have ht0 : t0 < 4294967296 := e0 ▸ hNlt.getD (by decide) _
      refine d_op (ev_lgetN' (i := 0) (by simp) (by omega) e0.symm) ?_
      refine d_op (v := .rp (CN .u64 [m0, m1, m2, m3, p0, p1, p2, p3, p4, p5, p6, p7, low, s0, s1, s2, s3])) rfl (d_op (v := .rp (CN .u64 [low, s0, s1, s2, s3])) rfl (d_op (v := .int .u64 (low : Int)) rfl ?_))
      have htl := mul32 ht0 hlow
      refine d_op (ev_mul (by rw [show (t0 : Int) * (low : Int) = ((t0 * low : Nat) : Int) by push_cast; rfl]; exact in64 (by omega))) ?_
      rw [show (t0 : Int) * (low : Int) = ((t0 * low : Nat) : Int) by push_cast; rfl]
      refine d_op (ev_and (in64 (by omega)) (y := 4294967295) (by decide)) ?_
      rw [Nat.and_two_pow_sub_one_eq_mod _ 32, show (2 : Nat) ^ 32 = 4294967296 from rfl]
      obtain ⟨k, ek⟩ : ∃ k, k = t0 * low % 4294967296 := ⟨_, rfl⟩
      rw [← ek]
      have hk : k < 4294967296 := by omega
      have hkp := mul32 hk hp0l
      have hdiv := cut_low (t := t0) (k := k) hF.2.2.2.1 hp0 ek
      refine d_op (ev_lgetN' (i := 0) (by simp) (by omega) e0.symm) ?_
      refine d_op (v := .rp (CN .u64 [m0, m1, m2, m3, p0, p1, p2, p3, p4, p5, p6, p7, low, s0, s1, s2, s3])) rfl (d_op (v := .rp (CN .u64 [p0, p1, p2, p3, p4, p5, p6, p7, low, s0, s1, s2, s3])) rfl (d_op (v := .rp (CN .u64 [p0, p1, p2, p3, p4, p5, p6, p7, low, s0, s1, s2, s3])) rfl (d_op (v := .int .u64 (p0 : Int)) rfl ?_)))
      refine d_op (ev_mul (by rw [show (k : Int) * (p0 : Int) = ((k * p0 : Nat) : Int) by push_cast; rfl]; exact in64 (by omega))) ?_
      have hz0 : (t0 : Int) + (k : Int) * (p0 : Int) = ((t0 + k * p0 : Nat) : Int) := by push_cast; rfl
      refine d_op (ev_add (by rw [hz0]; exact in64 (by omega))) ?_
      rw [hz0]
      refine d_op (ev_shr (y := 32) rfl (by decide) rfl) ?_
      rw [show (2 : Nat) ^ 32 = 4294967296 from rfl]
      refine d_while (fun s : Nat × Nat × List Nat => [.int .u64 (s.1 : Int), .int .i64 ((s.2.1 + 1 : Nat) : Int), .lst (CN .u64 s.2.2)])
        (fun s => s.1 < b32 ∧ s.2.1 ≤ 7 ∧ s.2.2.length = 10 ∧ LtAll b32 s.2.2 ∧ (∀ n, s.2.1 < n → s.2.2.getD n 0 = N.getD n 0) ∧ b32 * (val b32 (s.2.2.take s.2.1) + b32 ^ s.2.1 * s.1) = val b32 (N.take (s.2.1 + 1)) + k * val b32 ([p0, p1, p2, p3, p4, p5, p6, p7].take (s.2.1 + 1))) (fun s => 7 - s.2.1)
        ((t0 + k * p0) / 4294967296, 0, N) ⟨by show _ < 4294967296; omega, Nat.zero_le _, hNl, hNlt, fun _ _ => rfl, ?_⟩ rfl ?_
      · show b32 * (0 + 1 * ((t0 + k * p0) / 4294967296)) = val b32 (N.take (0 + 1)) + k * (p0 + b32 * 0)
        rw [val_take_succ, ← e0]
        show 4294967296 * (0 + 1 * ((t0 + k * p0) / 4294967296)) = 0 + 1 * t0 + k * (p0 + 4294967296 * 0)
        have : (t0 + k * p0) % 4294967296 = 0 := hdiv
        simp only [Nat.mul_zero, Nat.add_zero, Nat.zero_add, Nat.one_mul]
        omega
      rintro ⟨d, u, Q⟩ ⟨hd, hu, hQl, hQlt, hQe, hQv⟩
      dsimp only at hd hu hQl hQlt hQe hQv ⊢
      have hd' : d < 4294967296 := hd
      refine d_op ev_lss (d_if rfl (fun h3 => ?_) (fun h3 => ?_))
      · have hu8 : u + 1 < 8 := by omega
        obtain ⟨o, eo⟩ : ∃ o, o = Q.getD (u + 1) 0 := ⟨_, rfl⟩
        obtain ⟨x, exj⟩ : ∃ x, x = [p0, p1, p2, p3, p4, p5, p6, p7].getD (u + 1) 0 := ⟨_, rfl⟩
        have ho : o < 4294967296 := eo ▸ hQlt.getD (by decide) _
        have hx : x < 4294967296 := exj ▸ hP.getD (by decide) _
        have hxy := mul32 hk hx
        have hval := cut_two (V := val b32 (Q.take u)) (p := b32 ^ u) (o := o) (x := x) (r := (d + o + k * x) % b32) (c' := (d + o + k * x) / b32) (Nat.mod_add_div _ _) hQv
        refine d_op (ev_chki (n := 10) (by omega) (by omega) rfl) (d_op (ev_ofs (n := u + 1) (o := 0) rfl rfl) (d_op (ev_lgetN' (i := u + 1) (by simp) (by omega) eo.symm) ?_))
        refine d_op (ev_add (by constructor <;> omega)) ?_
        refine d_op (v := .rp (CN .u64 [m0, m1, m2, m3, p0, p1, p2, p3, p4, p5, p6, p7, low, s0, s1, s2, s3])) rfl (d_op (v := .rp (CN .u64 [p0, p1, p2, p3, p4, p5, p6, p7, low, s0, s1, s2, s3])) rfl ?_)
        refine d_op (ev_ridxN (j := u + 1) rfl hu8) (d_op (ev_rldN' (L := [p0, p1, p2, p3, p4, p5, p6, p7, low, s0, s1, s2, s3]) (i := u + 1) (x := x) (by simp; omega) ?_) ?_)
        · rw [exj, show [p0, p1, p2, p3, p4, p5, p6, p7, low, s0, s1, s2, s3] = [p0, p1, p2, p3, p4, p5, p6, p7] ++ [low, s0, s1, s2, s3] from rfl]
          simp only [List.getD_eq_getElem?_getD]
          rw [List.getElem?_append_left (by simpa using hu8)]
        have hxz : (k : Int) * (x : Int) = ((k * x : Nat) : Int) := by push_cast; rfl
        have hz : ((d : Int) + (o : Int)) + (k : Int) * (x : Int) = ((d + o + k * x : Nat) : Int) := by push_cast; rfl
        refine d_op (ev_mul (by rw [hxz]; exact in64 (by omega))) (d_op (ev_add (by rw [hz]; exact in64 (by omega))) ?_)
        rw [hz]
        generalize hs : d + o + k * x = s at *
        refine d_op (ev_sub (by constructor <;> omega)) ?_
        refine d_op (ev_and (in64 (by omega)) (y := 4294967295) (by decide)) ?_
        rw [Nat.and_two_pow_sub_one_eq_mod _ 32]
        refine d_op (ev_shr (y := 32) rfl (by decide) rfl) ?_
        rw [show ((u + 1 : Nat) : Int) - 1 = (u : Int) by omega]
        refine d_op (ev_chki (n := 10) (by omega) (by omega) rfl) (d_op (ev_ofs (n := u) (o := 0) rfl rfl) (d_op (ev_lsetN (i := u) (by simp) (by omega) rfl) (d_op (ev_add (by constructor <;> omega)) ?_)))
        refine d_back rfl ⟨(s / b32, u + 1, Q.set u (s % b32)), by rw [show ((u + 1 : Nat) : Int) + 1 = ((u + 1 + 1 : Nat) : Int) by omega]; rfl, ⟨by show s / 4294967296 < 4294967296; omega, by show u + 1 ≤ 7; omega, by simp [hQl], hQlt.set (Nat.mod_lt _ (by decide)) _, fun n hn => ?_, ?_⟩, by show 7 - (u + 1) < 7 - u; omega⟩
        · have hn' : u + 1 < n := hn
          show (Q.set u (s % b32)).getD n 0 = _
          rw [getD_set_ne (by omega)]; exact hQe n (by omega)
        · show b32 * (val b32 ((Q.set u (s % b32)).take (u + 1)) + b32 ^ (u + 1) * (s / b32)) = val b32 (N.take (u + 1 + 1)) + k * val b32 ([p0, p1, p2, p3, p4, p5, p6, p7].take (u + 1 + 1))
          rw [val_take_succ, take_set_eq, getD_set_self (by omega), val_take_succ N (u + 1), val_take_succ _ (u + 1), ← exj, ← hQe (u + 1) (by omega), ← eo, Nat.pow_succ]
          exact hval
      · have : u = 7 := by omega
        subst this
        have g8 : Q.getD 8 0 = r8 := by rw [hQe 8 (by omega), hN8]
        have g9 : Q.getD 9 0 = c8 := by rw [hQe 9 (by omega), hN9]
        refine d_op (ev_lgetN' (i := 8) (by simp) (by omega) g8) (d_op (ev_add (by constructor <;> omega)) ?_)
        rw [show (d : Int) + (r8 : Int) = ((d + r8 : Nat) : Int) by push_cast; rfl]
        obtain ⟨s7, es7⟩ : ∃ s7, s7 = (d + r8) % 4294967296 := ⟨_, rfl⟩
        obtain ⟨q7, eq7⟩ : ∃ q7, q7 = (d + r8) / 4294967296 := ⟨_, rfl⟩
        have hs7 : s7 < 4294967296 := by omega
        have h77 : s7 + b32 * q7 = d + r8 := by show s7 + 4294967296 * q7 = _; omega
        refine d_op (ev_and (in64 (by omega)) (y := 4294967295) (by decide)) ?_
        rw [Nat.and_two_pow_sub_one_eq_mod _ 32, show (2 : Nat) ^ 32 = 4294967296 from rfl, ← es7]
        refine d_op (ev_lgetN' (i := 9) (by simp) (by omega) g9) (d_op (ev_shr (y := 32) rfl (by decide) eq7.symm) (d_op (ev_add (by constructor <;> omega)) ?_))
        rw [show (c8 : Int) + (q7 : Int) = ((c8 + q7 : Nat) : Int) by push_cast; rfl]
        refine d_op (ev_lsetN (i := 7) (by simp) (by omega) rfl) (d_op (ev_lsetN (i := 8) (by simp) (by simp; omega) rfl) (d_op (ev_add (by constructor <;> omega)) ?_))
        obtain ⟨L', eL'⟩ : ∃ L', L' = (Q.set 7 s7).set 8 (c8 + q7) := ⟨_, rfl⟩
        rw [← eL']
        have hT : val b32 (L'.take 9) = val b32 (Q.take 7) + b32 ^ 7 * s7 + b32 ^ 8 * (c8 + q7) := by
          rw [val_take_succ, eL', take_set_eq, getD_set_self (by simp; omega), val_take_succ _ 7, take_set_eq, getD_set_self (by omega)]
        have hNN : val b32 N = val b32 (N.take 8) + b32 ^ 8 * r8 + b32 ^ 9 * c8 := by
          have e10 : N.take 10 = N := List.take_of_length_le (by omega)
          have v1 := val_take_succ (b := b32) N 9
          have v2 := val_take_succ (b := b32) N 8
          rw [e10, hN9] at v1
          rw [hN8] at v2
          rw [v1, v2]
        rw [show [p0, p1, p2, p3, p4, p5, p6, p7].take (7 + 1) = [p0, p1, p2, p3, p4, p5, p6, p7] from rfl, vP] at hQv
        have hend := cut_end hQv hNN h77 hT
        rw [hNv] at hend
        have hbd' := cut_bound hend hbd hy hk
        have hcong := cut_cong hend hq hyd
        have hnew : c8 + q7 < b32 := by
          have : b32 ^ 8 * (c8 + q7) < a + m := by omega
          have h2 : b32 ^ 8 = W256 := rfl
          rw [h2] at this
          unfold W256 at *
          show c8 + q7 < 4294967296
          omega
        refine d_back rfl ⟨(i + 1, L'), rfl, ⟨by show i + 1 ≤ 8; omega, by rw [eL']; simp [hQl], by rw [eL']; exact (hQlt.set hs7 7).set hnew 8, hbd', _, hcong⟩, by show 8 - (i + 1) < 8 - i; omega⟩
  · have : i = 8 := by omega
    subst this
    obtain ⟨T, eT⟩ : ∃ T, T = val b32 (L.take 9) := ⟨_, rfl⟩
    rw [← eT] at hbd hq
    have hlt9 := hlt.take 9
    have hW : b32 ^ 8 = W256 := rfl
    rw [hW, Nat.mod_eq_of_lt hb] at hq
    have hTm : T % m = montS m a b := mont_of hF.1 (by rw [hq, Nat.add_mul_mod_self_right])
    have hgd : ∀ j, j < 9 → L.getD j 0 = T / b32 ^ j % b32 := fun j hj => by rw [← getD_take hj, getD_digit (by decide) hlt9, ← eT]
    refine d_while (fun j : Nat => [.int .i64 (j : Int), .lst (CN .u64 (fdigs b32 8 (T % b32 ^ j)))]) (fun j => j ≤ 8) (fun j => 8 - j) 0 (Nat.zero_le _) (by show _ = [_, AV.lst (CN .u64 (fdigs b32 8 (T % 1)))]; rw [Nat.mod_one]; rfl) ?_
    intro j hj
    refine d_op ev_lss (d_if rfl (fun h2 => ?_) (fun h2 => ?_))
    · have hj8 : j < 8 := by omega
      refine d_op (ev_chki (n := 10) (by omega) (by omega) rfl) (d_op (ev_ofs (n := j) (o := 0) rfl rfl) (d_op (ev_lgetN' (i := j) (by simp) (by omega) (hgd j (by omega))) ?_))
      refine d_op (ev_chki (n := 8) (by omega) (by omega) rfl) (d_op (ev_ofs (n := j) (o := 0) rfl rfl) ?_)
      refine d_op (ev_lsetN (i := j) (by simp) (by rw [fdigs_length]; omega) rfl) (d_op (ev_add (by constructor <;> omega)) ?_)
      rw [fd_setw (by decide) hj8]
      exact d_back rfl ⟨j + 1, rfl, by omega, by omega⟩
    · have : j = 8 := by omega
      subst this
      rw [hW]
      have hTW : T % W256 < W256 := Nat.mod_lt _ (by decide)
      have hcl := hwh (T % W256) hTW
      unfold PV at hcl
      obtain ⟨z0, z1, z2, z3, z4, z5, z6, z7, ez⟩ := len_eight (fdigs_length (b := b32) 8 (T % W256))
      rw [show fdigs 4294967296 8 (T % W256) = [z0, z1, z2, z3, z4, z5, z6, z7] from ez] at hcl
      rw [ez]
      obtain ⟨r0, r1, r2, r3, hr0, hr1, hr2, hr3, eR', er⟩ := WV_limbs hTW
      rw [eR'] at hcl
      have hmin := hmi (T % W256) m hTW hm
      have hmor := hmo (T % W256) m hTW hm
      have hres : ∃ u0 u1 u2 u3, WV ((T % W256 + W256 - m) % W256) = WL u0 u1 u2 u3 := by
        obtain ⟨u0, u1, u2, u3, _, _, _, _, eU, _⟩ := WV_limbs (a := (T % W256 + W256 - m) % W256) (Nat.mod_lt _ (by decide))
        exact ⟨u0, u1, u2, u3, eU⟩
      obtain ⟨u0, u1, u2, u3, eU⟩ := hres
      have hTlt : T < 2 * m := by omega
      have hsub : m ≤ T → WV ((T % W256 + W256 - m) % W256) = WV (montS m a b) := fun h => by
        rw [← hTm]; congr 1
        have h5 : T % m = T - m := by rw [mod_two hTlt, if_neg (by omega)]
        rw [h5]; unfold W256 at *; omega
      rw [eR', eM] at hmor
      rw [eR', eM, eU] at hmin
      rw [eU] at hsub
      refine d_op (v := .agg (CN .u64 [z0, z1, z2, z3, z4, z5, z6, z7])) rfl (d_call hcl (fun h => by cases h) (d_cells rfl rfl rfl rfl ?_))
      have h8 : L.getD 8 0 = T / W256 := by
        rw [hgd 8 (by omega), hW]
        apply Nat.mod_eq_of_lt
        show T / W256 < 4294967296
        unfold W256 at *; omega
      refine d_op (ev_lgetN' (i := 8) (by simp) (by omega) h8) (d_op ev_gtr (d_if rfl (fun h3 => ?_) (fun h3 => ?_)))
      · refine d_op (v := .rp (CN .u64 [m0, m1, m2, m3, p0, p1, p2, p3, p4, p5, p6, p7, low, s0, s1, s2, s3])) rfl (d_op (v := .rp (CN .u64 [m0, m1, m2, m3, p0, p1, p2, p3, p4, p5, p6, p7, low, s0, s1, s2, s3])) rfl (d_op (v := WL m0 m1 m2 m3) rfl ?_))
        refine d_op (v := WL r0 r1 r2 r3) ev_wl (d_call hmin (fun h => by cases h) (d_cells rfl rfl rfl rfl (d_op (v := WL u0 u1 u2 u3) ev_wl (d_ret ?_))))
        have : m ≤ T := by unfold W256 at *; omega
        rw [← hsub this]; rfl
      · have hT0 : T < W256 := by unfold W256 at *; omega
        have hTT : T % W256 = T := Nat.mod_eq_of_lt hT0
        refine d_op (v := .rp (CN .u64 [m0, m1, m2, m3, p0, p1, p2, p3, p4, p5, p6, p7, low, s0, s1, s2, s3])) rfl (d_op (v := .rp (CN .u64 [m0, m1, m2, m3, p0, p1, p2, p3, p4, p5, p6, p7, low, s0, s1, s2, s3])) rfl (d_op (v := WL m0 m1 m2 m3) rfl ?_))
        refine d_op (v := WL r0 r1 r2 r3) ev_wl (d_call hmor (fun _ => rfl) (d_if rfl (fun h4 => ?_) (fun h4 => ?_)))
        · refine d_op (v := .rp (CN .u64 [m0, m1, m2, m3, p0, p1, p2, p3, p4, p5, p6, p7, low, s0, s1, s2, s3])) rfl (d_op (v := .rp (CN .u64 [m0, m1, m2, m3, p0, p1, p2, p3, p4, p5, p6, p7, low, s0, s1, s2, s3])) rfl (d_op (v := WL m0 m1 m2 m3) rfl ?_))
          refine d_op (v := WL r0 r1 r2 r3) ev_wl (d_call hmin (fun h => by cases h) (d_cells rfl rfl rfl rfl (d_op (v := WL u0 u1 u2 u3) ev_wl (d_ret ?_))))
          rw [← hsub (by omega)]; rfl
        · refine d_op (v := WL r0 r1 r2 r3) ev_wl (d_ret ?_)
          show AEnd.ret (WL r0 r1 r2 r3) = _
          rw [← eR', ← hTm, Nat.mod_eq_of_lt hT0, Nat.mod_eq_of_lt (show T < m by omega)]
end Go.SE
set_option autoImplicit false
set_option maxRecDepth 4000
set_option maxHeartbeats 4000000
set_option exponentiation.threshold 5000
namespace Go.SE
open Go
variable {P : Program} {R : AEnd → Prop}
def rcells (m low sq : Nat) : List AV := CN .u64 (fdigs B64 4 m ++ (fdigs b32 8 m ++ ([low] ++ fdigs B64 4 sq)))
theorem RP_cells (m low sq : Nat) : RP m low sq = .rp (rcells m low sq) := rfl
theorem rcells_parts {m low sq : Nat} (hm : m < W256) (hs : sq < W256) : ∃ m0 m1 m2 m3 p0 p1 p2 p3 p4 p5 p6 p7 s0 s1 s2 s3,
    fdigs b32 8 m = [p0, p1, p2, p3, p4, p5, p6, p7] ∧ WV m = WL m0 m1 m2 m3 ∧ WV sq = WL s0 s1 s2 s3 ∧
    rcells m low sq = CN .u64 [m0, m1, m2, m3, p0, p1, p2, p3, p4, p5, p6, p7, low, s0, s1, s2, s3] := by
  obtain ⟨m0, m1, m2, m3, p0, p1, p2, p3, p4, p5, p6, p7, s0, s1, s2, s3, h1, h2, h3, h4⟩ := RP_parts (low := low) hm hs
  rw [RP_cells] at h4
  injection h4 with h4
  exact ⟨m0, m1, m2, m3, p0, p1, p2, p3, p4, p5, p6, p7, s0, s1, s2, s3, h1, h2, h3, h4⟩
theorem WV_parts {a : Nat} (h : a < W256) : ∃ a0 a1 a2 a3, WV a = WL a0 a1 a2 a3 := by
  obtain ⟨a0, a1, a2, a3, _, _, _, _, e, _⟩ := WV_limbs h
  exact ⟨a0, a1, a2, a3, e⟩
def R2C (P : Program) (f : FuncId) (s : Nat → Nat → Nat → Nat) : Prop := ∀ m low sq a b, m < W256 → sq < W256 → a < m → b < m → Ct P f [RP m low sq, WV a, WV b] (fun e => e = .ret (WV (s m a b)))
def R2H (P : Program) (f : FuncId) (s : Nat → Nat → Nat → Nat) : Prop := ∀ m low sq a b, m < W256 → sq < W256 → a < m → b < m →
  CtH P f [.ptr 0 (.int .i64 0), .val (WV a), .val (WV b)] [.lst (rcells m low sq)] ⟨false, [.val false], 1⟩ (fun e => e = .ret (.tup [WV (s m a b), .lst (rcells m low sq)]))
section
variable {m low sq a b : Nat}
def t_rfadd (plus minus more : FuncId) : T :=
 .node (.op (.cell 4 0) [.v 1]) <|
 .node (.op (.cell 4 1) [.v 1]) <|
 .node (.op (.cell 4 2) [.v 1]) <|
 .node (.op (.cell 4 3) [.v 1]) <|
 .node (.op (.cell 4 0) [.v 2]) <|
 .node (.op (.cell 4 1) [.v 2]) <|
 .node (.op (.cell 4 2) [.v 2]) <|
 .node (.op (.cell 4 3) [.v 2]) <|
 .node (.op .mkagg [.v 3, .v 4, .v 5, .v 6]) <|
 .node (.op .mkagg [.v 7, .v 8, .v 9, .v 10]) <|
 .node (.call plus [.v 11, .v 12] false) <|
 .node (.op (.ext 0 false) [.v 13]) <|
 .node (.op (.ext 1 true) [.v 13]) <|
 .node (.op (.cell 4 0) [.v 14]) <|
 .node (.op (.cell 4 1) [.v 14]) <|
 .node (.op (.cell 4 2) [.v 14]) <|
 .node (.op (.cell 4 3) [.v 14]) <|
 .br (.v 15) (
 .node (.op .nilchk [.v 0]) <|
 .node (.op (.roff 0) [.v 20]) <|
 .node (.op (.rld true 4) [.v 21]) <|
 .node (.op .mkagg [.v 16, .v 17, .v 18, .v 19]) <|
 .node (.call minus [.v 23, .v 22] false) <|
 .node (.op (.cell 4 0) [.v 24]) <|
 .node (.op (.cell 4 1) [.v 24]) <|
 .node (.op (.cell 4 2) [.v 24]) <|
 .node (.op (.cell 4 3) [.v 24]) <|
 .node (.op .mkagg [.v 25, .v 26, .v 27, .v 28]) <|
 .ret (.v 29)) (
 .node (.op .nilchk [.v 0]) <|
 .node (.op (.roff 0) [.v 20]) <|
 .node (.op (.rld true 4) [.v 21]) <|
 .node (.op .mkagg [.v 16, .v 17, .v 18, .v 19]) <|
 .node (.call more [.v 23, .v 22] true) <|
 .br (.v 24) (
 .node (.op .nilchk [.v 0]) <|
 .node (.op (.roff 0) [.v 25]) <|
 .node (.op (.rld true 4) [.v 26]) <|
 .node (.op .mkagg [.v 16, .v 17, .v 18, .v 19]) <|
 .node (.call minus [.v 28, .v 27] false) <|
 .node (.op (.cell 4 0) [.v 29]) <|
 .node (.op (.cell 4 1) [.v 29]) <|
 .node (.op (.cell 4 2) [.v 29]) <|
 .node (.op (.cell 4 3) [.v 29]) <|
 .node (.op .mkagg [.v 30, .v 31, .v 32, .v 33]) <|
 .ret (.v 34)) (
 .node (.op .mkagg [.v 16, .v 17, .v 18, .v 19]) <|
 .ret (.v 25)))
theorem rfadd_den {plus minus more : FuncId} (hp : RPlusC P plus) (hmi : W2 P minus (fun a b => (a + W256 - b) % W256)) (hmo : RMoreC P more) (hm : m < W256) (hsq : sq < W256) (ha : a < m) (hb : b < m) :
    D P (fun e => e = .ret (WV (addM m a b))) [] 3 [WV b, WV a, RP m low sq] (t_rfadd plus minus more) := by
  have haW : a < W256 := Nat.lt_trans ha hm
  have hbW : b < W256 := Nat.lt_trans hb hm
  obtain ⟨m0, m1, m2, m3, p0, p1, p2, p3, p4, p5, p6, p7, s0, s1, s2, s3, ep, eM, eS, eR⟩ := RP_parts (low := low) hm hsq
  obtain ⟨a0, a1, a2, a3, eA⟩ := WV_parts haW
  obtain ⟨b0, b1, b2, b3, eB⟩ := WV_parts hbW
  have hr : (a + b) % W256 < W256 := Nat.mod_lt _ (by decide)
  obtain ⟨r0, r1, r2, r3, eR'⟩ := WV_parts hr
  obtain ⟨u0, u1, u2, u3, eU⟩ := WV_parts (show ((a + b) % W256 + W256 - m) % W256 < W256 from Nat.mod_lt _ (by decide))
  have hplus := hp a b haW hbW
  have hmin := hmi _ m hr hm
  have hmor := hmo _ m hr hm
  rw [eA, eB, eR'] at hplus
  have hsub : m ≤ a + b → WV (((a + b) % W256 + W256 - m) % W256) = WV (addM m a b) := fun h => by
    congr 1
    have h5 : addM m a b = a + b - m := by unfold addM; rw [mod_two (by omega), if_neg (by omega)]
    rw [h5]; unfold W256 at *; omega
  dsimp only at hmin
  rw [eR', eM] at hmor
  rw [eR', eM, eU] at hmin
  rw [eU] at hsub
  rw [eA, eB, eR]
  refine d_cells rfl rfl rfl rfl (d_cells rfl rfl rfl rfl (d_op (v := WL a0 a1 a2 a3) ev_wl (d_op (v := WL b0 b1 b2 b3) ev_wl (d_call hplus (fun h => by cases h) ?_))))
  refine d_op (v := WL r0 r1 r2 r3) (ev_ext rfl (fun h => by cases h)) (d_op (ev_ext rfl (fun _ => rfl)) (d_cells rfl rfl rfl rfl (d_if rfl (fun h => ?_) (fun h => ?_))))
  · refine d_op (v := .rp (CN .u64 [m0, m1, m2, m3, p0, p1, p2, p3, p4, p5, p6, p7, low, s0, s1, s2, s3])) rfl (d_op (v := .rp (CN .u64 [m0, m1, m2, m3, p0, p1, p2, p3, p4, p5, p6, p7, low, s0, s1, s2, s3])) rfl (d_op (v := WL m0 m1 m2 m3) rfl ?_))
    refine d_op (v := WL r0 r1 r2 r3) ev_wl (d_call hmin (fun h => by cases h) (d_cells rfl rfl rfl rfl (d_op (v := WL u0 u1 u2 u3) ev_wl (d_ret ?_))))
    rw [← hsub (by omega)]; rfl
  · refine d_op (v := .rp (CN .u64 [m0, m1, m2, m3, p0, p1, p2, p3, p4, p5, p6, p7, low, s0, s1, s2, s3])) rfl (d_op (v := .rp (CN .u64 [m0, m1, m2, m3, p0, p1, p2, p3, p4, p5, p6, p7, low, s0, s1, s2, s3])) rfl (d_op (v := WL m0 m1 m2 m3) rfl ?_))
    have hlt : (a + b) % W256 = a + b := Nat.mod_eq_of_lt (by omega)
    refine d_op (v := WL r0 r1 r2 r3) ev_wl (d_call hmor (fun _ => rfl) (d_if rfl (fun h4 => ?_) (fun h4 => ?_)))
    · refine d_op (v := .rp (CN .u64 [m0, m1, m2, m3, p0, p1, p2, p3, p4, p5, p6, p7, low, s0, s1, s2, s3])) rfl (d_op (v := .rp (CN .u64 [m0, m1, m2, m3, p0, p1, p2, p3, p4, p5, p6, p7, low, s0, s1, s2, s3])) rfl (d_op (v := WL m0 m1 m2 m3) rfl ?_))
      refine d_op (v := WL r0 r1 r2 r3) ev_wl (d_call hmin (fun h => by cases h) (d_cells rfl rfl rfl rfl (d_op (v := WL u0 u1 u2 u3) ev_wl (d_ret ?_))))
      rw [← hsub (by omega)]; rfl
    · refine d_op (v := WL r0 r1 r2 r3) ev_wl (d_ret ?_)
      show AEnd.ret (WL r0 r1 r2 r3) = _
      rw [← eR']; unfold addM; rw [hlt, Nat.mod_eq_of_lt (show a + b < m by omega)]
def t_rfaddH (plus minus more : FuncId) : T :=
 .node (.op (.cell 4 0) [.v 1]) <|
 .node (.op (.cell 4 1) [.v 1]) <|
 .node (.op (.cell 4 2) [.v 1]) <|
 .node (.op (.cell 4 3) [.v 1]) <|
 .node (.op (.cell 4 0) [.v 2]) <|
 .node (.op (.cell 4 1) [.v 2]) <|
 .node (.op (.cell 4 2) [.v 2]) <|
 .node (.op (.cell 4 3) [.v 2]) <|
 .node (.op .mkagg [.v 3, .v 4, .v 5, .v 6]) <|
 .node (.op .mkagg [.v 7, .v 8, .v 9, .v 10]) <|
 .node (.call plus [.v 11, .v 12] false) <|
 .node (.op (.ext 0 false) [.v 13]) <|
 .node (.op (.ext 1 true) [.v 13]) <|
 .node (.op (.cell 4 0) [.v 14]) <|
 .node (.op (.cell 4 1) [.v 14]) <|
 .node (.op (.cell 4 2) [.v 14]) <|
 .node (.op (.cell 4 3) [.v 14]) <|
 .br (.v 15) (
 .node (.op (.lget true 4) [.v 0, .c (.int .i64 0)]) <|
 .node (.op .mkagg [.v 16, .v 17, .v 18, .v 19]) <|
 .node (.call minus [.v 21, .v 20] false) <|
 .node (.op (.cell 4 0) [.v 22]) <|
 .node (.op (.cell 4 1) [.v 22]) <|
 .node (.op (.cell 4 2) [.v 22]) <|
 .node (.op (.cell 4 3) [.v 22]) <|
 .node (.op .mkagg [.v 23, .v 24, .v 25, .v 26]) <|
 .node (.op .mktup [.v 27, .v 0]) <|
 .ret (.v 28)) (
 .node (.op (.lget true 4) [.v 0, .c (.int .i64 0)]) <|
 .node (.op .mkagg [.v 16, .v 17, .v 18, .v 19]) <|
 .node (.call more [.v 21, .v 20] true) <|
 .br (.v 22) (
 .node (.op (.lget true 4) [.v 0, .c (.int .i64 0)]) <|
 .node (.op .mkagg [.v 16, .v 17, .v 18, .v 19]) <|
 .node (.call minus [.v 24, .v 23] false) <|
 .node (.op (.cell 4 0) [.v 25]) <|
 .node (.op (.cell 4 1) [.v 25]) <|
 .node (.op (.cell 4 2) [.v 25]) <|
 .node (.op (.cell 4 3) [.v 25]) <|
 .node (.op .mkagg [.v 26, .v 27, .v 28, .v 29]) <|
 .node (.op .mktup [.v 30, .v 0]) <|
 .ret (.v 31)) (
 .node (.op .mkagg [.v 16, .v 17, .v 18, .v 19]) <|
 .node (.op .mktup [.v 23, .v 0]) <|
 .ret (.v 24)))
theorem rfaddH_den {plus minus more : FuncId} (hp : RPlusC P plus) (hmi : W2 P minus (fun a b => (a + W256 - b) % W256)) (hmo : RMoreC P more) (hm : m < W256) (hsq : sq < W256) (ha : a < m) (hb : b < m) :
    D P (fun e => e = .ret (.tup [WV (addM m a b), .lst (rcells m low sq)])) [] 3 [WV b, WV a, .lst (rcells m low sq)] (t_rfaddH plus minus more) := by
  have haW : a < W256 := Nat.lt_trans ha hm
  have hbW : b < W256 := Nat.lt_trans hb hm
  obtain ⟨m0, m1, m2, m3, p0, p1, p2, p3, p4, p5, p6, p7, s0, s1, s2, s3, ep, eM, eS, eR⟩ := rcells_parts (low := low) hm hsq
  obtain ⟨a0, a1, a2, a3, eA⟩ := WV_parts haW
  obtain ⟨b0, b1, b2, b3, eB⟩ := WV_parts hbW
  have hr : (a + b) % W256 < W256 := Nat.mod_lt _ (by decide)
  obtain ⟨r0, r1, r2, r3, eR'⟩ := WV_parts hr
  obtain ⟨u0, u1, u2, u3, eU⟩ := WV_parts (show ((a + b) % W256 + W256 - m) % W256 < W256 from Nat.mod_lt _ (by decide))
  have hplus := hp a b haW hbW
  have hmin := hmi _ m hr hm
  have hmor := hmo _ m hr hm
  rw [eA, eB, eR'] at hplus
  have hsub : m ≤ a + b → WV (((a + b) % W256 + W256 - m) % W256) = WV (addM m a b) := fun h => by
    congr 1
    have h5 : addM m a b = a + b - m := by unfold addM; rw [mod_two (by omega), if_neg (by omega)]
    rw [h5]; unfold W256 at *; omega
  dsimp only at hmin
  rw [eR', eM] at hmor
  rw [eR', eM, eU] at hmin
  rw [eU] at hsub
  rw [eA, eB, eR]
  refine d_cells rfl rfl rfl rfl (d_cells rfl rfl rfl rfl (d_op (v := WL a0 a1 a2 a3) ev_wl (d_op (v := WL b0 b1 b2 b3) ev_wl (d_call hplus (fun h => by cases h) ?_))))
  refine d_op (v := WL r0 r1 r2 r3) (ev_ext rfl (fun h => by cases h)) (d_op (ev_ext rfl (fun _ => rfl)) (d_cells rfl rfl rfl rfl (d_if rfl (fun h => ?_) (fun h => ?_))))
  · refine d_op (v := WL m0 m1 m2 m3) rfl ?_
    refine d_op (v := WL r0 r1 r2 r3) ev_wl (d_call hmin (fun h => by cases h) (d_cells rfl rfl rfl rfl (d_op (v := WL u0 u1 u2 u3) ev_wl (d_op ev_mktup (d_ret ?_)))))
    rw [← hsub (by omega)]; rfl
  · refine d_op (v := WL m0 m1 m2 m3) rfl ?_
    have hlt : (a + b) % W256 = a + b := Nat.mod_eq_of_lt (by omega)
    refine d_op (v := WL r0 r1 r2 r3) ev_wl (d_call hmor (fun _ => rfl) (d_if rfl (fun h4 => ?_) (fun h4 => ?_)))
    · refine d_op (v := WL m0 m1 m2 m3) rfl ?_
      refine d_op (v := WL r0 r1 r2 r3) ev_wl (d_call hmin (fun h => by cases h) (d_cells rfl rfl rfl rfl (d_op (v := WL u0 u1 u2 u3) ev_wl (d_op ev_mktup (d_ret ?_)))))
      rw [← hsub (by omega)]; rfl
    · refine d_op (v := WL r0 r1 r2 r3) ev_wl (d_op ev_mktup (d_ret ?_))
      have : WV (addM m a b) = WL r0 r1 r2 r3 := by rw [← eR']; unfold addM; rw [hlt, Nat.mod_eq_of_lt (show a + b < m by omega)]
      rw [this]; rfl
def t_rfsub (plus minus more : FuncId) : T :=
 .node (.op (.cell 4 0) [.v 1]) <|
 .node (.op (.cell 4 1) [.v 1]) <|
 .node (.op (.cell 4 2) [.v 1]) <|
 .node (.op (.cell 4 3) [.v 1]) <|
 .node (.op (.cell 4 0) [.v 2]) <|
 .node (.op (.cell 4 1) [.v 2]) <|
 .node (.op (.cell 4 2) [.v 2]) <|
 .node (.op (.cell 4 3) [.v 2]) <|
 .node (.op .mkagg [.v 3, .v 4, .v 5, .v 6]) <|
 .node (.op .mkagg [.v 7, .v 8, .v 9, .v 10]) <|
 .node (.call more [.v 11, .v 12] true) <|
 .br (.v 13) (
 .node (.op .mkagg [.v 3, .v 4, .v 5, .v 6]) <|
 .node (.op .mkagg [.v 7, .v 8, .v 9, .v 10]) <|
 .node (.call minus [.v 14, .v 15] false) <|
 .node (.op (.cell 4 0) [.v 16]) <|
 .node (.op (.cell 4 1) [.v 16]) <|
 .node (.op (.cell 4 2) [.v 16]) <|
 .node (.op (.cell 4 3) [.v 16]) <|
 .node (.op .mkagg [.v 17, .v 18, .v 19, .v 20]) <|
 .ret (.v 21)) (
 .node (.op .mkagg [.v 3, .v 4, .v 5, .v 6]) <|
 .node (.op .mkagg [.v 7, .v 8, .v 9, .v 10]) <|
 .node (.call minus [.v 14, .v 15] false) <|
 .node (.op .nilchk [.v 0]) <|
 .node (.op (.roff 0) [.v 17]) <|
 .node (.op (.rld true 4) [.v 18]) <|
 .node (.call plus [.v 16, .v 19] false) <|
 .node (.op (.ext 0 false) [.v 20]) <|
 .node (.op (.ext 1 true) [.v 20]) <|
 .node (.op (.cell 4 0) [.v 21]) <|
 .node (.op (.cell 4 1) [.v 21]) <|
 .node (.op (.cell 4 2) [.v 21]) <|
 .node (.op (.cell 4 3) [.v 21]) <|
 .node (.op .mkagg [.v 23, .v 24, .v 25, .v 26]) <|
 .ret (.v 27))
theorem rfsub_den {plus minus more : FuncId} (hp : RPlusC P plus) (hmi : W2 P minus (fun a b => (a + W256 - b) % W256)) (hmo : RMoreC P more) (hm : m < W256) (hsq : sq < W256) (ha : a < m) (hb : b < m) :
    D P (fun e => e = .ret (WV (subM m a b))) [] 3 [WV b, WV a, RP m low sq] (t_rfsub plus minus more) := by
  have haW : a < W256 := Nat.lt_trans ha hm
  have hbW : b < W256 := Nat.lt_trans hb hm
  obtain ⟨m0, m1, m2, m3, p0, p1, p2, p3, p4, p5, p6, p7, s0, s1, s2, s3, ep, eM, eS, eR⟩ := RP_parts (low := low) hm hsq
  obtain ⟨a0, a1, a2, a3, eA⟩ := WV_parts haW
  obtain ⟨b0, b1, b2, b3, eB⟩ := WV_parts hbW
  have hr : (a + W256 - b) % W256 < W256 := Nat.mod_lt _ (by decide)
  obtain ⟨r0, r1, r2, r3, eR'⟩ := WV_parts hr
  obtain ⟨u0, u1, u2, u3, eU⟩ := WV_parts (show ((a + W256 - b) % W256 + m) % W256 < W256 from Nat.mod_lt _ (by decide))
  have hmor := hmo a b haW hbW
  have hmin := hmi a b haW hbW
  have hplus := hp _ m hr hm
  dsimp only at hmin
  rw [eA, eB] at hmor
  rw [eA, eB, eR'] at hmin
  have hs : WV (subM m a b) = if b ≤ a then WL r0 r1 r2 r3 else WL u0 u1 u2 u3 := by
    unfold subM
    rw [mod_two (by omega)]
    by_cases h : b ≤ a
    · rw [if_neg (by omega), if_pos h, ← eR']; congr 1; unfold W256 at *; omega
    · rw [if_pos (by omega), if_neg h, ← eU]; congr 1; unfold W256 at *; omega
  rw [eR', eM, eU] at hplus
  rw [hs, eA, eB, eR]
  refine d_cells rfl rfl rfl rfl (d_cells rfl rfl rfl rfl (d_op (v := WL a0 a1 a2 a3) ev_wl (d_op (v := WL b0 b1 b2 b3) ev_wl (d_call hmor (fun _ => rfl) (d_if rfl (fun h => ?_) (fun h => ?_))))))
  · rw [if_pos h]
    exact d_op (v := WL a0 a1 a2 a3) ev_wl (d_op (v := WL b0 b1 b2 b3) ev_wl (d_call hmin (fun h => by cases h) (d_cells rfl rfl rfl rfl (d_op (v := WL r0 r1 r2 r3) ev_wl (d_ret rfl)))))
  · rw [if_neg h]
    refine d_op (v := WL a0 a1 a2 a3) ev_wl (d_op (v := WL b0 b1 b2 b3) ev_wl (d_call hmin (fun h => by cases h) ?_))
    refine d_op (v := .rp (CN .u64 [m0, m1, m2, m3, p0, p1, p2, p3, p4, p5, p6, p7, low, s0, s1, s2, s3])) rfl (d_op (v := .rp (CN .u64 [m0, m1, m2, m3, p0, p1, p2, p3, p4, p5, p6, p7, low, s0, s1, s2, s3])) rfl (d_op (v := WL m0 m1 m2 m3) rfl ?_))
    refine d_call hplus (fun h => by cases h) (d_op (v := WL u0 u1 u2 u3) (ev_ext rfl (fun h => by cases h)) (d_op (ev_ext rfl (fun _ => rfl)) ?_))
    exact d_cells rfl rfl rfl rfl (d_op (v := WL u0 u1 u2 u3) ev_wl (d_ret rfl))
theorem mont_sqR {m a b : Nat} (hm : m % 2 = 1) : montS m (montS m a (W256 * W256 % m)) b = a * b % m := by
  have h := rinv_spec hm
  unfold montS
  have e1 : a * (W256 * W256 % m) * rinv m % m = a * W256 % m := by
    have : a * (W256 * W256 % m) * rinv m % m = a * (W256 * W256) * rinv m % m := by
      rw [Nat.mul_mod, Nat.mul_mod a, Nat.mod_mod, ← Nat.mul_mod a, ← Nat.mul_mod]
    rw [this]
    have : a * (W256 * W256) * rinv m = a * W256 * (W256 * rinv m) := by grind
    rw [this, Nat.mul_mod, h, ← Nat.mul_mod, Nat.mul_one]
  rw [e1]
  have e2 : a * W256 % m * b * rinv m % m = a * W256 * b * rinv m % m := by
    rw [Nat.mul_mod, Nat.mul_mod (a * W256 % m), Nat.mod_mod, ← Nat.mul_mod (a * W256), ← Nat.mul_mod]
  rw [e2]
  have : a * W256 * b * rinv m = a * b * (W256 * rinv m) := by grind
  rw [this, Nat.mul_mod, h, ← Nat.mul_mod, Nat.mul_one]
def RMulC (P : Program) (f : FuncId) (s : Nat → Nat → Nat → Nat) : Prop := ∀ m low sq a b, Rok m low sq → a < m → b < m → Ct P f [RP m low sq, WV a, WV b] (fun e => e = .ret (WV (s m a b)))
def t_rfmul (cut : FuncId) : T :=
 .node (.op (.cell 4 0) [.v 1]) <|
 .node (.op (.cell 4 1) [.v 1]) <|
 .node (.op (.cell 4 2) [.v 1]) <|
 .node (.op (.cell 4 3) [.v 1]) <|
 .node (.op (.cell 4 0) [.v 2]) <|
 .node (.op (.cell 4 1) [.v 2]) <|
 .node (.op (.cell 4 2) [.v 2]) <|
 .node (.op (.cell 4 3) [.v 2]) <|
 .node (.op .nilchk [.v 0]) <|
 .node (.op (.roff 13) [.v 11]) <|
 .node (.op (.rld true 4) [.v 12]) <|
 .node (.op .mkagg [.v 3, .v 4, .v 5, .v 6]) <|
 .node (.call cut [.v 0, .v 14, .v 13] false) <|
 .node (.op .mkagg [.v 7, .v 8, .v 9, .v 10]) <|
 .node (.call cut [.v 0, .v 15, .v 16] false) <|
 .node (.op (.cell 4 0) [.v 17]) <|
 .node (.op (.cell 4 1) [.v 17]) <|
 .node (.op (.cell 4 2) [.v 17]) <|
 .node (.op (.cell 4 3) [.v 17]) <|
 .node (.op .mkagg [.v 18, .v 19, .v 20, .v 21]) <|
 .ret (.v 22)
theorem rfmul_den {cut : FuncId} (hc : RCutC P cut) (hF : Rok m low sq) (ha : a < m) (hb : b < m) :
    D P (fun e => e = .ret (WV (mulM m a b))) [] 3 [WV b, WV a, RP m low sq] (t_rfmul cut) := by
  have hm := hF.2.1
  have haW : a < W256 := Nat.lt_trans ha hm
  have hbW : b < W256 := Nat.lt_trans hb hm
  have h1 := hc m low sq a sq hF ha hF.sq_lt'
  have h2 := hc m low sq (montS m a sq) b hF (montS_lt (by omega)) hbW
  have e2 : montS m (montS m a sq) b = mulM m a b := by
    have : montS m (montS m a (W256 * W256 % m)) b = a * b % m := mont_sqR hF.1
    rw [hF.2.2.2.2]; exact this
  rw [e2] at h2
  obtain ⟨m0, m1, m2, m3, p0, p1, p2, p3, p4, p5, p6, p7, s0, s1, s2, s3, ep, eM, eS, eR⟩ := RP_parts (low := low) hm hF.sq_lt'
  obtain ⟨a0, a1, a2, a3, eA⟩ := WV_parts haW
  obtain ⟨b0, b1, b2, b3, eB⟩ := WV_parts hbW
  obtain ⟨r0, r1, r2, r3, eR'⟩ := WV_parts (show mulM m a b < W256 from Nat.lt_trans (Nat.mod_lt _ (by omega)) hm)
  rw [eA, eS, eR] at h1
  rw [eB, eR', eR] at h2
  rw [eR', eA, eB, eR]
  refine d_cells rfl rfl rfl rfl (d_cells rfl rfl rfl rfl ?_)
  refine d_op (v := .rp (CN .u64 [m0, m1, m2, m3, p0, p1, p2, p3, p4, p5, p6, p7, low, s0, s1, s2, s3])) rfl (d_op (v := .rp (CN .u64 [s0, s1, s2, s3])) rfl (d_op (v := WL s0 s1 s2 s3) rfl ?_))
  refine d_op (v := WL a0 a1 a2 a3) ev_wl (d_call h1 (fun h => by cases h) (d_op (v := WL b0 b1 b2 b3) ev_wl (d_call h2 (fun h => by cases h) ?_)))
  exact d_cells rfl rfl rfl rfl (d_op (v := WL r0 r1 r2 r3) ev_wl (d_ret rfl))
end
end Go.SE
set_option autoImplicit false
set_option maxRecDepth 4000
set_option maxHeartbeats 4000000
set_option exponentiation.threshold 5000
namespace Go.SE
open Go
variable {P : Program} {R : AEnd → Prop}
theorem pow_split {s r i : Nat} (h : s * r = 64) : (2 ^ s) ^ i = B64 ^ (i / r) * 2 ^ (s * (i % r)) := by
  have e : B64 = 2 ^ (s * r) := by rw [h]
  rw [e, ← Nat.pow_mul, ← Nat.pow_mul, ← Nat.pow_add]
  congr 1
  rw [Nat.mul_assoc, ← Nat.mul_add, Nat.div_add_mod]
theorem part_at {s r a i x : Nat} (h : s * r = 64) (hr : 0 < r) (hx : x = a / B64 ^ (i / r) % B64) : x / 2 ^ (s * (i % r)) % 2 ^ s = a / (2 ^ s) ^ i % 2 ^ s := by
  have hlt : i % r < r := Nat.mod_lt _ hr
  have hle : s * (i % r) + s ≤ 64 := by
    rw [← h, ← Nat.mul_succ]; exact Nat.mul_le_mul_left _ hlt
  have e64 : B64 = 2 ^ (s * (i % r)) * 2 ^ (64 - s * (i % r)) := by rw [← Nat.pow_add, show s * (i % r) + (64 - s * (i % r)) = 64 by omega]
  rw [hx, pow_split h, ← Nat.div_div_eq_div_mul]
  generalize a / B64 ^ (i / r) = w
  rw [e64, Nat.mod_mul_right_div_self]
  exact Nat.mod_mod_of_dvd _ (Nat.pow_dvd_pow 2 (show s ≤ 64 - s * (i % r) by omega))
theorem join_step {s r a i x y : Nat} (h : s * r = 64) (hr : 0 < r) (hi : i < 4 * r) (hx : x = a % (2 ^ s) ^ i / B64 ^ (i / r) % B64) (hy : y = a / (2 ^ s) ^ i % 2 ^ s) :
    x ||| y * 2 ^ (s * (i % r)) = x + y * 2 ^ (s * (i % r)) ∧ (fdigs B64 4 (a % (2 ^ s) ^ i)).set (i / r) (x + y * 2 ^ (s * (i % r))) = fdigs B64 4 (a % (2 ^ s) ^ (i + 1)) ∧ x + y * 2 ^ (s * (i % r)) < B64 := by
  have hlt' : i % r < r := Nat.mod_lt _ hr
  have hle : s * (i % r) + s ≤ 64 := by
    rw [← h, ← Nat.mul_succ]; exact Nat.mul_le_mul_left _ hlt'
  have hc : 0 < 2 ^ (s * (i % r)) := Nat.pow_pos (by decide)
  have hs : 0 < 2 ^ s := Nat.pow_pos (by decide)
  have hxl : x < 2 ^ (s * (i % r)) := by
    rw [hx, pow_split h, Nat.mod_mul_right_div_self]
    exact Nat.lt_of_le_of_lt (Nat.mod_le _ _) (Nat.mod_lt _ hc)
  have hyl : y < 2 ^ s := hy ▸ Nat.mod_lt _ hs
  have hlt : x + y * 2 ^ (s * (i % r)) < B64 := by
    have h1 : (y + 1) * 2 ^ (s * (i % r)) ≤ 2 ^ s * 2 ^ (s * (i % r)) := Nat.mul_le_mul_right _ hyl
    have h2 : 2 ^ s * 2 ^ (s * (i % r)) ≤ 2 ^ 64 := by rw [← Nat.pow_add]; exact Nat.pow_le_pow_right (by decide) (by omega)
    rw [Nat.add_mul] at h1
    show _ < 2 ^ 64
    omega
  refine ⟨?_, ?_, hlt⟩
  · rw [Nat.mul_comm y, Nat.or_comm, ← Nat.two_pow_add_eq_or_of_lt hxl, Nat.add_comm]
  · have hb : 0 < B64 := by decide
    have hi2 : i / r < 4 := by rw [Nat.div_lt_iff_lt_mul hr]; omega
    have hp4 : (2 ^ s) ^ (4 * r) = B64 ^ 4 := by
      rw [← Nat.pow_mul, show s * (4 * r) = 4 * 64 by rw [Nat.mul_left_comm, h]]; rfl
    have hm1 : a % (2 ^ s) ^ (i + 1) < B64 ^ 4 := by
      rw [← hp4]; exact Nat.lt_of_lt_of_le (Nat.mod_lt _ (Nat.pow_pos hs)) (Nat.pow_le_pow_right hs (by omega))
    have hm : a % (2 ^ s) ^ i < B64 ^ 4 := by
      rw [← hp4]; exact Nat.lt_of_lt_of_le (Nat.mod_lt _ (Nat.pow_pos hs)) (Nat.pow_le_pow_right hs (by omega))
    have h1 := val_set (b := B64) (L := fdigs B64 4 (a % (2 ^ s) ^ i)) (i := i / r) (by rw [fdigs_length]; exact hi2) (x + y * 2 ^ (s * (i % r)))
    rw [getD_digit hb (fdigs_lt hb _ _), val_fdigs_lt hm, ← hx] at h1
    refine eq_fdigs hb ((fdigs_lt hb _ _).set hlt _) (by simp [fdigs_length]) ?_
    rw [mod_pow_next, ← hy, pow_split h, Nat.mul_assoc, Nat.mul_comm (2 ^ _) y, ← pow_split h]
    rw [Nat.mul_add] at h1
    omega
theorem fdigs_snoc (b : Nat) : ∀ k a, fdigs b k a ++ [a / b ^ k % b] = fdigs b (k + 1) a
  | 0, a => by simp [fdigs]
  | k + 1, a => by
    have h := fdigs_snoc b k (a / b)
    rw [Nat.div_div_eq_div_mul, Nat.mul_comm b, ← Nat.pow_succ] at h
    show a % b :: (fdigs b k (a / b) ++ _) = a % b :: fdigs b (k + 1) (a / b)
    rw [h]
def WDigsC (P : Program) (f : FuncId) : Prop := ∀ a, a < W256 → Ct P f [WV a] (fun e => e = .ret (SN .u64 (fdigs 65536 16 a)))
def t_wdigs : T :=
 .node (.op (.cell 4 0) [.v 0]) <|
 .node (.op (.cell 4 1) [.v 0]) <|
 .node (.op (.cell 4 2) [.v 0]) <|
 .node (.op (.cell 4 3) [.v 0]) <|
 .loop [.c (.int .i64 0), .c (.int .i64 0), .c (.int .i64 0), .c (.lst [])] [true, true, true, false] <|
 .node (.op (.bin .lss) [.v 7, .c (.int .i64 16)]) <|
 .br (.v 9) (
 .node (.op (.bin .quo) [.v 7, .c (.int .i64 4)]) <|
 .node (.op .chki [.v 10, .c (.int .i64 4)]) <|
 .node (.op (.ofs 1) [.c (.int .i64 0), .v 10]) <|
 .node (.op .mklst [.v 1, .v 2, .v 3, .v 4]) <|
 .node (.op (.lget false 1) [.v 13, .v 12]) <|
 .node (.op (.bin .rem) [.v 7, .c (.int .i64 4)]) <|
 .node (.op (.bin .mul) [.c (.int .i64 16), .v 15]) <|
 .node (.op (.cvt .u64) [.v 16]) <|
 .node (.op (.bin .shr) [.v 14, .v 17]) <|
 .node (.op (.bin .and) [.v 18, .c (.int .u64 65535)]) <|
 .node (.op .mklst [.v 19]) <|
 .node (.op (.lsl 1) [.v 20, .c (.int .i64 0), .c (.int .i64 1)]) <|
 .node (.op (.lapp 1 8) [.v 8, .v 5, .v 21, .c (.int .i64 1)]) <|
 .node (.op (.ofs 1) [.v 5, .c (.int .i64 1)]) <|
 .node (.op (.bin .add) [.v 7, .c (.int .i64 1)]) <|
 .back 0 [.v 23, .v 23, .v 24, .v 22]) (
 .node (.op (.mksl 1) [.v 8, .c (.int .i64 0), .v 5]) <|
 .ret (.v 10))
theorem wdigs_den {a : Nat} (ha : a < W256) : D P (fun e => e = .ret (SN .u64 (fdigs 65536 16 a))) [] 1 [WV a] t_wdigs := by
  obtain ⟨a0, a1, a2, a3, h0, h1, h2, h3, eA, ea⟩ := WV_limbs ha
  rw [eA]
  have hL := mem4 h0 h1 h2 h3
  refine d_cells rfl rfl rfl rfl ?_
  refine d_while (fun i : Nat => [.int .i64 (i : Int), .int .i64 (i : Int), .int .i64 (i : Int), .lst (CN .u64 (fdigs 65536 i a))]) (fun i => i ≤ 16) (fun i => 16 - i) 0 (Nat.zero_le _) rfl ?_
  intro i hi
  refine d_op ev_lss (d_if rfl (fun hl => ?_) (fun hl => ?_))
  · have hi8 : i < 16 := by omega
    obtain ⟨x, ex⟩ : ∃ x, x = [a0, a1, a2, a3].getD (i / 4) 0 := ⟨_, rfl⟩
    have hx : x < 18446744073709551616 := ex ▸ hL.getD (by decide) _
    have hxd : x = a / B64 ^ (i / 4) % B64 := by rw [ex, getD_digit (by decide) hL, val4, ← ea]
    have hp := part_at (s := 16) (r := 4) rfl (by decide) hxd
    have h32 : x / 2 ^ (16 * (i % 4)) ≤ x := Nat.div_le_self _ _
    generalize ez : x / 2 ^ (16 * (i % 4)) = z at *
    clear hxd
    refine d_op (ev_quo (by omega) (by decide) (by constructor <;> omega)) ?_
    refine d_op (ev_chki (n := 4) (by omega) (by omega) rfl) (d_op (ev_ofs (n := i / 4) (o := 0) rfl (by omega)) (d_op (v := .lst (CN .u64 [a0, a1, a2, a3])) rfl ?_))
    refine d_op (ev_lgetN' (i := i / 4) (by simp) (by simp; omega) ex.symm) ?_
    refine d_op (ev_rem (by omega) (by decide)) (d_op (ev_mul (by constructor <;> omega)) (d_op (ev_cvt (by constructor <;> omega)) ?_))
    refine d_op (ev_shr (y := 16 * (i % 4)) (by omega) (by show 16 * (i % 4) ≤ 64; omega) ez) ?_
    refine d_op (ev_and (in64 (by omega)) (y := 65535) (by decide)) ?_
    rw [Nat.and_two_pow_sub_one_eq_mod _ 16, hp]
    refine d_op (ev_mklst rfl) (d_op (ev_lslN (k := .u64) (L := [a / (2 ^ 16) ^ i % 2 ^ 16]) (o := 0) (n := 1) rfl rfl (by simp)) ?_)
    refine d_op (ev_lappN (k := .u64) (M := [a / (2 ^ 16) ^ i % 2 ^ 16]) (by simp) rfl (by simp; omega)) ?_
    refine d_op (ev_ofs (n := 1) rfl rfl) (d_op (ev_add (by constructor <;> omega)) ?_)
    rw [show (2 : Nat) ^ 16 = 65536 from rfl, fdigs_snoc]
    exact d_back rfl ⟨i + 1, rfl, by omega, by omega⟩
  · have : i = 16 := by omega
    subst this
    exact d_op (ev_mkslN rfl (by simp)) (d_ret rfl)
def WWordC (P : Program) (f : FuncId) : Prop := ∀ L, LtAll 65536 L → L.length ≤ 1099511627776 → Ct P f [SN .u64 L] (fun e => e = .ret (WV (val 65536 L % W256)))
theorem fd_word {a : Nat} (ha : a < W256) : ∃ a0 a1 a2 a3, fdigs B64 4 a = [a0, a1, a2, a3] ∧ WV a = WL a0 a1 a2 a3 := by
  obtain ⟨a0, a1, a2, a3, h0, h1, h2, h3, eA, ea⟩ := WV_limbs ha
  exact ⟨a0, a1, a2, a3, (eq_fdigs (by decide) (mem4 h0 h1 h2 h3) rfl (by rw [val4, ← ea])).symm, eA⟩
def t_wword : T :=
 .loop [.c (.int .i64 0), .c (.lst [.int .u64 0, .int .u64 0, .int .u64 0, .int .u64 0])] [true, false] <|
 .node (.op (.bin .lss) [.v 1, .c (.int .i64 16)]) <|
 .br (.v 3) (
 .node (.op .len [.v 0]) <|
 .node (.op (.bin .lss) [.v 1, .v 4]) <|
 .br (.v 5) (
 .node (.op (.bin .quo) [.v 1, .c (.int .i64 4)]) <|
 .node (.op (.bin .quo) [.v 1, .c (.int .i64 4)]) <|
 .node (.op .chki [.v 7, .c (.int .i64 4)]) <|
 .node (.op (.ofs 1) [.c (.int .i64 0), .v 7]) <|
 .node (.op (.lget false 1) [.v 2, .v 9]) <|
 .node (.op (.eaddr 1) [.v 0, .v 1]) <|
 .node (.op (.rld false 1) [.v 11]) <|
 .node (.op (.bin .rem) [.v 1, .c (.int .i64 4)]) <|
 .node (.op (.bin .mul) [.c (.int .i64 16), .v 13]) <|
 .node (.op (.cvt .u64) [.v 14]) <|
 .node (.op (.bin .shl) [.v 12, .v 15]) <|
 .node (.op (.bin .or) [.v 10, .v 16]) <|
 .node (.op .chki [.v 6, .c (.int .i64 4)]) <|
 .node (.op (.ofs 1) [.c (.int .i64 0), .v 6]) <|
 .node (.op .lset [.v 2, .v 19, .v 17]) <|
 .node (.op (.bin .add) [.v 1, .c (.int .i64 1)]) <|
 .back 0 [.v 21, .v 20]) (
 .node (.op (.lget true 4) [.v 2, .c (.int .i64 0)]) <|
 .node (.op (.cell 4 0) [.v 6]) <|
 .node (.op (.cell 4 1) [.v 6]) <|
 .node (.op (.cell 4 2) [.v 6]) <|
 .node (.op (.cell 4 3) [.v 6]) <|
 .node (.op .mkagg [.v 7, .v 8, .v 9, .v 10]) <|
 .ret (.v 11))) (
 .node (.op (.lget true 4) [.v 2, .c (.int .i64 0)]) <|
 .node (.op (.cell 4 0) [.v 4]) <|
 .node (.op (.cell 4 1) [.v 4]) <|
 .node (.op (.cell 4 2) [.v 4]) <|
 .node (.op (.cell 4 3) [.v 4]) <|
 .node (.op .mkagg [.v 5, .v 6, .v 7, .v 8]) <|
 .ret (.v 9))
theorem wword_den {L : List Nat} (hL : LtAll 65536 L) (hl : L.length ≤ 1099511627776) : D P (fun e => e = .ret (WV (val 65536 L % W256))) [] 1 [SN .u64 L] t_wword := by
  obtain ⟨V, eV⟩ : ∃ V, V = val 65536 L := ⟨_, rfl⟩
  rw [← eV]
  have hV : V < 65536 ^ L.length := eV ▸ val_lt (by decide) hL
  have fin : ∀ {i : Nat}, V % 65536 ^ i = V % W256 → ∀ {H : List (List AV → Prop)} {n ρ t}, (∀ r0 r1 r2 r3, WV (V % W256) = WL r0 r1 r2 r3 → fdigs B64 4 (V % 65536 ^ i) = [r0, r1, r2, r3] → D P (fun e => e = .ret (WL r0 r1 r2 r3)) H n ρ t) → D P (fun e => e = .ret (WV (V % W256))) H n ρ t := fun {i} h {H n ρ t} k => by
    obtain ⟨r0, r1, r2, r3, e1, e2⟩ := fd_word (show V % W256 < W256 from Nat.mod_lt _ (by decide))
    rw [e2]
    exact k r0 r1 r2 r3 e2 (by rw [h]; exact e1)
  refine d_while (fun i : Nat => [.int .i64 (i : Int), .lst (CN .u64 (fdigs B64 4 (V % 65536 ^ i)))]) (fun i => i ≤ 16) (fun i => 16 - i) 0 (Nat.zero_le _) (by show _ = [_, AV.lst (CN .u64 (fdigs B64 4 (V % 1)))]; rw [Nat.mod_one]; rfl) ?_
  intro i hi
  refine d_op ev_lss (d_if rfl (fun h1 => ?_) (fun h1 => ?_))
  · have hi8 : i < 16 := by omega
    refine d_op ev_len (d_op ev_lss (d_if rfl (fun h2 => ?_) (fun h2 => ?_)))
    · have hil : i < L.length := by omega
      obtain ⟨x, ex⟩ : ∃ x, x = V % 65536 ^ i / B64 ^ (i / 4) % B64 := ⟨_, rfl⟩
      obtain ⟨y, ey⟩ : ∃ y, y = V / 65536 ^ i % 65536 := ⟨_, rfl⟩
      have hx : x < 18446744073709551616 := ex ▸ Nat.mod_lt _ (by decide)
      obtain ⟨s1, s2, s3⟩ := join_step (s := 16) (r := 4) rfl (by decide) (show i < 4 * 4 by omega) ex ey
      rw [show (2 : Nat) ^ 16 = 65536 from rfl] at s2
      have hm : V % 65536 ^ i < B64 ^ 4 := Nat.lt_of_lt_of_le (Nat.mod_lt _ (Nat.pow_pos (by decide))) (Nat.pow_le_pow_right (n := 65536) (j := 16) (by decide) (by omega))
      have gx : (fdigs B64 4 (V % 65536 ^ i)).getD (i / 4) 0 = x := by rw [getD_digit (by decide) (fdigs_lt (by decide) _ _), val_fdigs_lt hm, ← ex]
      have gy : L.getD i 0 = y := by rw [getD_digit (by decide) hL, ← eV, ← ey]
      have hs3 : y * 2 ^ (16 * (i % 4)) < 18446744073709551616 := Nat.lt_of_le_of_lt (Nat.le_add_left _ x) s3
      have hy : y < 65536 := ey ▸ Nat.mod_lt _ (by decide)
      clear ex ey
      refine d_op (ev_quo (by omega) (by decide) (by constructor <;> omega)) (d_op (ev_quo (by omega) (by decide) (by constructor <;> omega)) ?_)
      refine d_op (ev_chki (n := 4) (by omega) (by omega) rfl) (d_op (ev_ofs (n := i / 4) (o := 0) rfl (by omega)) ?_)
      refine d_op (ev_lgetN' (i := i / 4) (by simp) (by rw [fdigs_length]; omega) gx) ?_
      refine d_op (ev_eaddrN (i := i) rfl hil) (d_op (ev_rldN' hil gy) ?_)
      refine d_op (ev_rem (by omega) (by decide)) (d_op (ev_mul (by constructor <;> omega)) (d_op (ev_cvt (by constructor <;> omega)) ?_))
      refine d_op (ev_shl (y := 16 * (i % 4)) (by omega) (by show 16 * (i % 4) ≤ 64; omega) rfl) ?_
      rw [wrap_in (in64 hs3)]
      refine d_op (ev_or (in64 hx) (in64 hs3)) ?_
      rw [s1]
      refine d_op (ev_chki (n := 4) (by omega) (by omega) rfl) (d_op (ev_ofs (n := i / 4) (o := 0) rfl (by omega)) ?_)
      refine d_op (ev_lsetN (i := i / 4) (by simp) (by rw [fdigs_length]; omega) rfl) (d_op (ev_add (by constructor <;> omega)) ?_)
      rw [s2]
      exact d_back rfl ⟨i + 1, rfl, by omega, by omega⟩
    · have hVi : V < 65536 ^ i := Nat.lt_of_lt_of_le hV (Nat.pow_le_pow_right (by decide) (by omega))
      have hVW : V < W256 := Nat.lt_of_lt_of_le hVi (Nat.pow_le_pow_right (n := 65536) (j := 16) (by decide) hi)
      refine fin (i := i) (by rw [Nat.mod_eq_of_lt hVi, Nat.mod_eq_of_lt hVW]) (fun r0 r1 r2 r3 e1 e2 => ?_)
      rw [e2]
      exact d_op (v := WL r0 r1 r2 r3) rfl (d_cells rfl rfl rfl rfl (d_op (v := WL r0 r1 r2 r3) ev_wl (d_ret rfl)))
  · have : i = 16 := by omega
    subst this
    refine fin (i := 16) rfl (fun r0 r1 r2 r3 e1 e2 => ?_)
    rw [e2]
    exact d_op (v := WL r0 r1 r2 r3) rfl (d_cells rfl rfl rfl rfl (d_op (v := WL r0 r1 r2 r3) ev_wl (d_ret rfl)))
end Go.SE
set_option autoImplicit false
set_option maxRecDepth 4000
set_option maxHeartbeats 4000000
set_option exponentiation.threshold 5000
namespace Go.SE
open Go
variable {P : Program} {R : AEnd → Prop}
def zmod (a b : Nat) : Nat := if b = 0 then 0 else a % b
section
variable {a b m : Nat}
def WDivModC (P : Program) (f : FuncId) : Prop := ∀ a b, a < W256 → b < W256 → Ct P f [WV a, WV b] (fun e => e = .ret (.tup [WV (a / b), WV (zmod a b)]))
theorem val16 (h : a < W256) : val 65536 (fdigs 65536 16 a) = a := val_fdigs_lt h
def t_wdivmod (digs div word : FuncId) : T :=
 .node (.op (.cell 4 0) [.v 0]) <|
 .node (.op (.cell 4 1) [.v 0]) <|
 .node (.op (.cell 4 2) [.v 0]) <|
 .node (.op (.cell 4 3) [.v 0]) <|
 .node (.op (.cell 4 0) [.v 1]) <|
 .node (.op (.cell 4 1) [.v 1]) <|
 .node (.op (.cell 4 2) [.v 1]) <|
 .node (.op (.cell 4 3) [.v 1]) <|
 .node (.op .mkagg [.v 6, .v 7, .v 8, .v 9]) <|
 .node (.op (.eqv false [.int .u64, .int .u64, .int .u64, .int .u64]) [.v 10, .c (.agg [.int .u64 0, .int .u64 0, .int .u64 0, .int .u64 0])]) <|
 .br (.v 11) (
 .node (.op .mkagg [.v 6, .v 7, .v 8, .v 9]) <|
 .node (.op .mkagg [.v 6, .v 7, .v 8, .v 9]) <|
 .node (.op .mktup [.v 12, .v 13]) <|
 .ret (.v 14)) (
 .node (.op .mkagg [.v 2, .v 3, .v 4, .v 5]) <|
 .node (.call digs [.v 12] true) <|
 .node (.op .mkagg [.v 6, .v 7, .v 8, .v 9]) <|
 .node (.call digs [.v 14] true) <|
 .node (.call div [.v 13, .v 15] false) <|
 .node (.op (.ext 0 true) [.v 16]) <|
 .node (.op (.ext 1 true) [.v 16]) <|
 .node (.call word [.v 17] false) <|
 .node (.call word [.v 18] false) <|
 .node (.op (.cell 4 0) [.v 19]) <|
 .node (.op (.cell 4 1) [.v 19]) <|
 .node (.op (.cell 4 2) [.v 19]) <|
 .node (.op (.cell 4 3) [.v 19]) <|
 .node (.op (.cell 4 0) [.v 20]) <|
 .node (.op (.cell 4 1) [.v 20]) <|
 .node (.op (.cell 4 2) [.v 20]) <|
 .node (.op (.cell 4 3) [.v 20]) <|
 .node (.op .mkagg [.v 21, .v 22, .v 23, .v 24]) <|
 .node (.op .mkagg [.v 25, .v 26, .v 27, .v 28]) <|
 .node (.op .mktup [.v 29, .v 30]) <|
 .ret (.v 31))
theorem wdivmod_den {digs div word : FuncId} (hd : WDigsC P digs) (hv : RDivC P div) (hw : WWordC P word) (ha : a < W256) (hb : b < W256) : D P (fun e => e = .ret (.tup [WV (a / b), WV (zmod a b)])) [] 2 [WV b, WV a] (t_wdivmod digs div word) := by
  obtain ⟨a0, a1, a2, a3, eA⟩ := WV_parts ha
  obtain ⟨b0, b1, b2, b3, eB⟩ := WV_parts hb
  have hq : a / b < W256 := Nat.lt_of_le_of_lt (Nat.div_le_self _ _) ha
  have hr : zmod a b < W256 := by unfold zmod; split; decide; exact Nat.lt_of_le_of_lt (Nat.mod_le _ _) ha
  obtain ⟨q0, q1, q2, q3, eQ⟩ := WV_parts hq
  obtain ⟨r0, r1, r2, r3, eR⟩ := WV_parts hr
  have h1 := hd a ha
  have h2 := hd b hb
  have heq := ev_weq hb (show 0 < W256 by decide)
  rw [eB] at heq
  rw [eA] at h1
  rw [eB] at h2
  rw [eQ, eR, eA, eB]
  refine d_cells rfl rfl rfl rfl (d_cells rfl rfl rfl rfl (d_op (v := WL b0 b1 b2 b3) ev_wl (d_op heq (d_if rfl (fun h => ?_) (fun h => ?_)))))
  · subst h
    have e1 : WL q0 q1 q2 q3 = WL b0 b1 b2 b3 := by rw [← eQ, ← eB, Nat.div_zero]
    have e2 : WL r0 r1 r2 r3 = WL b0 b1 b2 b3 := by rw [← eR, ← eB]; rfl
    rw [e1, e2]
    exact d_op (v := WL b0 b1 b2 b3) ev_wl (d_op (v := WL b0 b1 b2 b3) ev_wl (d_op ev_mktup (d_ret rfl)))
  · have h3 := hv (fdigs 65536 16 a) (fdigs 65536 16 b) (fdigs_lt (by decide) _ _) (fdigs_lt (by decide) _ _) (by rw [val16 hb]; omega) (by simp) (by simp)
    rw [val16 ha, val16 hb, fdigs_length, fdigs_length, show min 16 (16 + 1) = 16 from rfl] at h3
    have h4 := hw (fdigs 65536 16 (a / b)) (fdigs_lt (by decide) _ _) (by simp)
    have ez : zmod a b = a % b := by unfold zmod; rw [if_neg h]
    have h5 := hw (fdigs 65536 16 (a % b)) (fdigs_lt (by decide) _ _) (by simp)
    rw [val16 hq, Nat.mod_eq_of_lt hq, eQ] at h4
    rw [← ez, val16 hr, Nat.mod_eq_of_lt hr, eR] at h5
    rw [← ez] at h3
    refine d_op (v := WL a0 a1 a2 a3) ev_wl (d_call h1 (fun h => by cases h; rfl) (d_op (v := WL b0 b1 b2 b3) ev_wl (d_call h2 (fun h => by cases h; rfl) (d_call h3 (fun h => by cases h) ?_))))
    refine d_op (ev_ext rfl (fun _ => rfl)) (d_op (ev_ext rfl (fun _ => rfl)) (d_call h4 (fun h => by cases h) (d_call h5 (fun h => by cases h) ?_)))
    exact d_cells rfl rfl rfl rfl (d_cells rfl rfl rfl rfl (d_op (v := WL q0 q1 q2 q3) ev_wl (d_op (v := WL r0 r1 r2 r3) ev_wl (d_op ev_mktup (d_ret rfl)))))
end
def ROfC (P : Program) (f : FuncId) : Prop := ∀ m low sq a, 0 < m → m < W256 → sq < W256 → a < W256 → Ct P f [RP m low sq, WV a] (fun e => e = .ret (WV (a % m)))
def t_rfof (more divmod : FuncId) : T :=
 .node (.op (.cell 4 0) [.v 1]) <|
 .node (.op (.cell 4 1) [.v 1]) <|
 .node (.op (.cell 4 2) [.v 1]) <|
 .node (.op (.cell 4 3) [.v 1]) <|
 .node (.op .nilchk [.v 0]) <|
 .node (.op (.roff 0) [.v 6]) <|
 .node (.op (.rld true 4) [.v 7]) <|
 .node (.op .mkagg [.v 2, .v 3, .v 4, .v 5]) <|
 .node (.call more [.v 9, .v 8] true) <|
 .node (.op (.un .not) [.v 10]) <|
 .br (.v 11) (
 .node (.op .mkagg [.v 2, .v 3, .v 4, .v 5]) <|
 .ret (.v 12)) (
 .node (.op .nilchk [.v 0]) <|
 .node (.op (.roff 0) [.v 12]) <|
 .node (.op (.rld true 4) [.v 13]) <|
 .node (.op .mkagg [.v 2, .v 3, .v 4, .v 5]) <|
 .node (.call divmod [.v 15, .v 14] false) <|
 .node (.op (.ext 0 false) [.v 16]) <|
 .node (.op (.ext 1 false) [.v 16]) <|
 .node (.op (.cell 4 0) [.v 17]) <|
 .node (.op (.cell 4 1) [.v 17]) <|
 .node (.op (.cell 4 2) [.v 17]) <|
 .node (.op (.cell 4 3) [.v 17]) <|
 .node (.op (.cell 4 0) [.v 18]) <|
 .node (.op (.cell 4 1) [.v 18]) <|
 .node (.op (.cell 4 2) [.v 18]) <|
 .node (.op (.cell 4 3) [.v 18]) <|
 .node (.op .mkagg [.v 23, .v 24, .v 25, .v 26]) <|
 .ret (.v 27))
theorem rfof_den {more divmod : FuncId} {m low sq a : Nat} (hmo : RMoreC P more) (hdm : WDivModC P divmod) (h0 : 0 < m) (hm : m < W256) (hsq : sq < W256) (ha : a < W256) :
    D P (fun e => e = .ret (WV (a % m))) [] 2 [WV a, RP m low sq] (t_rfof more divmod) := by
  obtain ⟨m0, m1, m2, m3, p0, p1, p2, p3, p4, p5, p6, p7, s0, s1, s2, s3, ep, eM, eS, eR⟩ := RP_parts (low := low) hm hsq
  obtain ⟨a0, a1, a2, a3, eA⟩ := WV_parts ha
  have hz : zmod a m = a % m := by unfold zmod; rw [if_neg (by omega)]
  have hr : a % m < W256 := Nat.lt_of_le_of_lt (Nat.mod_le _ _) ha
  have hq : a / m < W256 := Nat.lt_of_le_of_lt (Nat.div_le_self _ _) ha
  obtain ⟨q0, q1, q2, q3, eQ⟩ := WV_parts hq
  obtain ⟨r0, r1, r2, r3, eR'⟩ := WV_parts hr
  have h1 := hmo a m ha hm
  have h2 := hdm a m ha hm
  rw [hz, eQ, eR', eA, eM] at h2
  rw [eA, eM] at h1
  rw [eR', eA, eR]
  refine d_cells rfl rfl rfl rfl ?_
  refine d_op (v := .rp (CN .u64 [m0, m1, m2, m3, p0, p1, p2, p3, p4, p5, p6, p7, low, s0, s1, s2, s3])) rfl (d_op (v := .rp (CN .u64 [m0, m1, m2, m3, p0, p1, p2, p3, p4, p5, p6, p7, low, s0, s1, s2, s3])) rfl (d_op (v := WL m0 m1 m2 m3) rfl ?_))
  refine d_op (v := WL a0 a1 a2 a3) ev_wl (d_call h1 (fun _ => rfl) (d_op ev_not (d_br (!decide (m ≤ a)) rfl (fun h => ?_) (fun h => ?_))))
  · have hlt : a < m := by simpa using h
    have e : WL r0 r1 r2 r3 = WL a0 a1 a2 a3 := by rw [← eR', ← eA, Nat.mod_eq_of_lt hlt]
    rw [e]
    exact d_op (v := WL a0 a1 a2 a3) ev_wl (d_ret rfl)
  · refine d_op (v := .rp (CN .u64 [m0, m1, m2, m3, p0, p1, p2, p3, p4, p5, p6, p7, low, s0, s1, s2, s3])) rfl (d_op (v := .rp (CN .u64 [m0, m1, m2, m3, p0, p1, p2, p3, p4, p5, p6, p7, low, s0, s1, s2, s3])) rfl (d_op (v := WL m0 m1 m2 m3) rfl ?_))
    refine d_op (v := WL a0 a1 a2 a3) ev_wl (d_call h2 (fun h => by cases h) (d_op (v := WL q0 q1 q2 q3) (ev_ext rfl (fun h => by cases h)) (d_op (v := WL r0 r1 r2 r3) (ev_ext rfl (fun h => by cases h)) ?_)))
    exact d_cells rfl rfl rfl rfl (d_cells rfl rfl rfl rfl (d_op (v := WL r0 r1 r2 r3) ev_wl (d_ret rfl)))
end Go.SE
set_option autoImplicit false
set_option maxRecDepth 4000
set_option maxHeartbeats 4000000
set_option exponentiation.threshold 5000
namespace Go.SE
open Go
variable {P : Program} {R : AEnd → Prop}
theorem odd_part : ∀ (n e : Nat), e ≤ n → 0 < e → ∃ j t, e = 2 ^ j * (2 * t + 1)
  | 0, e, h, h0 => by omega
  | n + 1, e, h, h0 => by
    by_cases h2 : e % 2 = 1
    · exact ⟨0, e / 2, by rw [Nat.pow_zero, Nat.one_mul]; omega⟩
    · obtain ⟨j, t, ht⟩ := odd_part n (e / 2) (by omega) (by omega)
      exact ⟨j + 1, t, by rw [Nat.pow_succ, Nat.mul_right_comm, ← ht]; omega⟩
theorem and_compl {t n : Nat} (h : t < 2 ^ n) : (2 * t + 1) &&& (2 ^ (n + 1) - (2 * t + 1)) = 1 := by
  apply Nat.eq_of_testBit_eq
  intro i
  have e : 2 ^ (n + 1) - (2 * t + 1) = 2 * (2 ^ n - (t + 1)) + 1 := by rw [Nat.pow_succ]; omega
  rw [e, Nat.testBit_and]
  cases i with
  | zero => rw [Nat.testBit_zero, Nat.testBit_zero, Nat.testBit_zero, show (2 * t + 1) % 2 = 1 by omega, show (2 * (2 ^ n - (t + 1)) + 1) % 2 = 1 by omega]; rfl
  | succ i =>
    rw [Nat.testBit_succ, Nat.testBit_succ, Nat.testBit_succ, show (2 * t + 1) / 2 = t by omega, show (2 * (2 ^ n - (t + 1)) + 1) / 2 = 2 ^ n - (t + 1) by omega, Nat.testBit_two_pow_sub_succ h]
    simp
    intro h1 h2
    rw [h1]
theorem low_bit {e j t : Nat} (he : e = 2 ^ j * (2 * t + 1)) (h : e < 4294967296) : j < 32 ∧ e &&& (18446744073709551616 - e) = 2 ^ j := by
  have hj : j < 32 := by
    refine Nat.lt_of_not_le fun h2 => ?_
    have h3 : 2 ^ 32 ≤ 2 ^ j := Nat.pow_le_pow_right (by decide) h2
    have h4 : 2 ^ j * 1 ≤ 2 ^ j * (2 * t + 1) := Nat.mul_le_mul_left _ (by omega)
    have : (2 : Nat) ^ 32 = 4294967296 := rfl
    omega
  refine ⟨hj, ?_⟩
  obtain ⟨n, hn⟩ : ∃ n, n + 1 + j = 64 := ⟨63 - j, by omega⟩
  have hW : 18446744073709551616 = 2 ^ j * 2 ^ (n + 1) := by rw [← Nat.pow_add, Nat.add_comm j, hn]
  have ht : t < 2 ^ n := by
    have h5 : 2 ^ j * (2 * t + 1) < 2 ^ j * 2 ^ (n + 1) := by rw [← he, ← hW]; omega
    have := Nat.lt_of_mul_lt_mul_left h5
    rw [Nat.pow_succ] at this
    omega
  have e2 : 18446744073709551616 - e = 2 ^ j * (2 ^ (n + 1) - (2 * t + 1)) := by rw [he, hW, Nat.mul_sub]
  rw [e2, he]
  have h6 := Nat.shiftLeft_and_distrib (a := 2 * t + 1) (b := 2 ^ (n + 1) - (2 * t + 1)) (i := j)
  rw [and_compl ht, Nat.shiftLeft_eq, Nat.shiftLeft_eq, Nat.shiftLeft_eq, Nat.one_mul, Nat.mul_comm, Nat.mul_comm _ (2 ^ j)] at h6
  exact h6.symm
theorem ev_unxor64 {x : Nat} (hx : x < 18446744073709551616) : evalO (.un .xor) [.int .u64 (x : Int)] = some (.int .u64 ((18446744073709551615 ^^^ x : Nat) : Int)) := by
  have := ev_xor (k := .u64) (x := 18446744073709551615) (y := x) (by constructor <;> omega) (by constructor <;> omega)
  simp only [evalO, aBin, isShift, Bool.false_eq_true, if_false, if_true] at this
  simp only [evalO, aUn]
  exact this
theorem low32 {x : Nat} : x &&& 4294967295 = x % 4294967296 := Nat.and_two_pow_sub_one_eq_mod x 32
theorem nlow32 {x : Nat} (hx : x < 18446744073709551616) : (18446744073709551615 ^^^ x) &&& 4294967295 = 4294967295 - x % 4294967296 := by
  rw [← low32]
  apply Nat.eq_of_testBit_eq
  intro i
  have h1 : 4294967295 - (x &&& 4294967295) = 2 ^ 32 - ((x &&& 4294967295) + 1) := by
    show _ = 4294967296 - _
    omega
  rw [h1, Nat.testBit_two_pow_sub_succ (by rw [low32]; exact Nat.mod_lt _ (by decide)), Nat.testBit_and, Nat.testBit_xor, Nat.testBit_and]
  rw [show 18446744073709551615 = 2 ^ 64 - 1 from rfl, show 4294967295 = 2 ^ 32 - 1 from rfl, Nat.testBit_two_pow_sub_one, Nat.testBit_two_pow_sub_one]
  by_cases h : i < 32
  · simp [h, show i < 64 by omega]
  · simp [h]
theorem low_more {l p k e j t : Nat} (hp : p % 2 = 1) (hk : k ≤ 32) (hd : 2 ^ k ∣ l * p + 1) (he : e = 4294967295 - l * p % 4294967296) (ht : e = 2 ^ j * (2 * t + 1)) (hj : j < 32) : k ≤ j ∧ 2 ^ (j + 1) ∣ (l + 2 ^ j) * p + 1 := by
  have h32 : (2 : Nat) ^ 32 = 4294967296 := rfl
  -- all together a multiple of 2^32
  have hs : 4294967296 ∣ l * p + 1 + e := by
    refine Nat.dvd_of_mod_eq_zero ?_
    omega
  have hdk : 2 ^ k ∣ e := by
    have h1 : 2 ^ k ∣ l * p + 1 + e := Nat.dvd_trans (by rw [← h32]; exact Nat.pow_dvd_pow 2 hk) hs
    exact (Nat.dvd_add_right hd).1 h1
  have hkj : k ≤ j := by
    refine Nat.le_of_not_lt fun h => ?_
    have h2 : 2 ^ (j + 1) ∣ 2 ^ j * (2 * t + 1) := by rw [← ht]; exact Nat.dvd_trans (Nat.pow_dvd_pow 2 h) hdk
    rw [Nat.pow_succ] at h2
    have := Nat.dvd_of_mul_dvd_mul_left (Nat.pow_pos (by decide)) h2
    omega
  refine ⟨hkj, ?_⟩
  have hs' : 2 ^ (j + 1) ∣ l * p + 1 + e := Nat.dvd_trans (by rw [← h32]; exact Nat.pow_dvd_pow 2 hj) hs
  have h3 : 2 ^ (j + 1) ∣ (l * p + 1 + e) + 2 ^ (j + 1) * ((p - 1) / 2) := Nat.dvd_add hs' (Nat.dvd_mul_right _ _)
  have h4 : (l * p + 1 + e) + 2 ^ (j + 1) * ((p - 1) / 2) = ((l + 2 ^ j) * p + 1) + 2 ^ (j + 1) * t := by
    obtain ⟨q, hq⟩ : ∃ q, p = 2 * q + 1 := ⟨p / 2, by omega⟩
    have e1 : (p - 1) / 2 = q := by omega
    rw [e1, ht, Nat.add_mul, Nat.pow_succ]
    have e2 : 2 ^ j * p = 2 ^ j * 2 * q + 2 ^ j := by rw [hq, Nat.mul_add, Nat.mul_assoc, Nat.mul_one]
    have e3 : 2 ^ j * (2 * t + 1) = 2 ^ j * 2 * t + 2 ^ j := by rw [Nat.mul_add, Nat.mul_assoc, Nat.mul_one]
    rw [e2, e3]
    omega
  rw [h4] at h3
  exact (Nat.dvd_add_left (Nat.dvd_mul_right _ _)).1 h3
def rlow (m : Nat) : Nat := minv m % b32
theorem rlow_lt {m : Nat} : rlow m < b32 := Nat.mod_lt _ (by decide)
theorem low_uniq {m l l' : Nat} (hl : l < b32) (hl' : l' < b32) (h : l * m % b32 = 4294967295) (h' : l' * m % b32 = 4294967295) : l = l' := by
  have e1 : l * (l' * m) % b32 = l * 4294967295 % b32 := by rw [Nat.mul_mod, h', Nat.mul_mod l 4294967295]; rfl
  have e2 : l' * (l * m) % b32 = l' * 4294967295 % b32 := by rw [Nat.mul_mod, h, Nat.mul_mod l' 4294967295]; rfl
  have e3 : l * (l' * m) = l' * (l * m) := Nat.mul_left_comm _ _ _
  rw [e3, e2] at e1
  have g1 : l < 4294967296 := hl
  have g2 : l' < 4294967296 := hl'
  have e4 : l' * 4294967295 % 4294967296 = l * 4294967295 % 4294967296 := e1
  omega
theorem rlow_ok {m : Nat} (h : m % 2 = 1) : rlow m * m % b32 = 4294967295 := by
  have h1 := (minv_ok h).2
  unfold rlow
  rw [Nat.mod_mul_mod]
  have : (minv m * m % 18446744073709551616) % b32 = minv m * m % b32 := Nat.mod_mod_of_dvd _ (by decide)
  rw [← this, h1]
  rfl
theorem rlow_is {m l : Nat} (h : m % 2 = 1) (hl : l < b32) (hl' : l * m % b32 = 4294967295) : l = rlow m := low_uniq hl rlow_lt hl' (rlow_ok h)
def RNewC (P : Program) (f : FuncId) : Prop := ∀ m, m % 2 = 1 → 1 < m → m < W256 → Ct P f [WV m] (fun e => e = .ret (RP m (rlow m) (W256 * W256 % m)))
theorem Rok_new {m : Nat} (h : m % 2 = 1) (hm : m < W256) : Rok m (rlow m) (W256 * W256 % m) := ⟨h, hm, rlow_lt, rlow_ok h, rfl⟩
theorem WL_inj {a b c d a' b' c' d' : Nat} (h : WL a b c d = WL a' b' c' d') : a = a' ∧ b = b' ∧ c = c' ∧ d = d' := by
  simp only [WL, AV.agg.injEq, List.cons.injEq, AV.int.injEq, true_and, and_true] at h
  obtain ⟨h0, h1, h2, h3⟩ := h
  exact ⟨Int.ofNat_inj.1 h0, Int.ofNat_inj.1 h1, Int.ofNat_inj.1 h2, Int.ofNat_inj.1 h3⟩
theorem fd_WL {t t0 t1 t2 t3 : Nat} (h : t < W256) (e : WV t = WL t0 t1 t2 t3) : fdigs B64 4 t = [t0, t1, t2, t3] := by
  obtain ⟨s0, s1, s2, s3, es⟩ := len_four (fdigs_length (b := B64) 4 t)
  rw [WV_fd h, es] at e
  have e' : WL s0 s1 s2 s3 = WL t0 t1 t2 t3 := e
  obtain ⟨h0, h1, h2, h3⟩ := WL_inj e'
  rw [es, h0, h1, h2, h3]
theorem rcells_set {m low sq t t0 t1 t2 t3 : Nat} (ht : t < W256) (e : WV t = WL t0 t1 t2 t3) :
    evalO .lset [.lst (rcells m low sq), .int .i64 13, .int .u64 (t0 : Int), .int .u64 (t1 : Int), .int .u64 (t2 : Int), .int .u64 (t3 : Int)] = some (.lst (rcells m low t)) := by
  obtain ⟨m0, m1, m2, m3, em⟩ := len_four (fdigs_length (b := B64) 4 m)
  obtain ⟨s0, s1, s2, s3, es⟩ := len_four (fdigs_length (b := B64) 4 sq)
  obtain ⟨p0, p1, p2, p3, p4, p5, p6, p7, ep⟩ := len_eight (fdigs_length (b := b32) 8 m)
  unfold rcells
  rw [em, es, ep, fd_WL ht e]
  rfl
theorem rcells_get {m low sq t0 t1 t2 t3 : Nat} (ht : sq < W256) (e : WV sq = WL t0 t1 t2 t3) :
    evalO (.lget true 4) [.lst (rcells m low sq), .int .i64 13] = some (WL t0 t1 t2 t3) := by
  obtain ⟨m0, m1, m2, m3, em⟩ := len_four (fdigs_length (b := B64) 4 m)
  obtain ⟨p0, p1, p2, p3, p4, p5, p6, p7, ep⟩ := len_eight (fdigs_length (b := b32) 8 m)
  unfold rcells
  rw [em, ep, fd_WL ht e]
  rfl
def t_rnew (parts add : FuncId) : T :=
 .node (.op (.cell 4 0) [.v 0]) <|
 .node (.op (.cell 4 1) [.v 0]) <|
 .node (.op (.cell 4 2) [.v 0]) <|
 .node (.op (.cell 4 3) [.v 0]) <|
 .node (.op .mkagg [.v 1, .v 2, .v 3, .v 4]) <|
 .node (.call parts [.v 5] false) <|
 .node (.op (.cell 8 0) [.v 6]) <|
 .node (.op (.cell 8 1) [.v 6]) <|
 .node (.op (.cell 8 2) [.v 6]) <|
 .node (.op (.cell 8 3) [.v 6]) <|
 .node (.op (.cell 8 4) [.v 6]) <|
 .node (.op (.cell 8 5) [.v 6]) <|
 .node (.op (.cell 8 6) [.v 6]) <|
 .node (.op (.cell 8 7) [.v 6]) <|
 .loop [.v 1, .v 2, .v 3, .v 4, .v 7, .v 8, .v 9, .v 10, .v 11, .v 12, .v 13, .v 14, .c (.int .u64 1), .c (.int .u64 0), .c (.int .u64 0), .c (.int .u64 0), .c (.int .u64 0)] [true, true, true, true, true, true, true, true, true, true, true, true, true, true, true, true, true] <|
 .node (.op (.bin .mul) [.v 27, .v 19]) <|
 .node (.op (.bin .and) [.v 32, .c (.int .u64 4294967295)]) <|
 .node (.op (.bin .neq) [.v 33, .c (.int .u64 4294967295)]) <|
 .br (.v 34) (
 .node (.op (.bin .mul) [.v 27, .v 19]) <|
 .node (.op (.un .xor) [.v 35]) <|
 .node (.op (.bin .and) [.v 36, .c (.int .u64 4294967295)]) <|
 .node (.op (.un .neg) [.v 37]) <|
 .node (.op (.bin .and) [.v 37, .v 38]) <|
 .node (.op (.bin .add) [.v 27, .v 39]) <|
 .back 0 [.v 15, .v 16, .v 17, .v 18, .v 19, .v 20, .v 21, .v 22, .v 23, .v 24, .v 25, .v 26, .v 40, .v 28, .v 29, .v 30, .v 31]) (
 .node (.op .mklst [.v 15, .v 16, .v 17, .v 18, .v 19, .v 20, .v 21, .v 22, .v 23, .v 24, .v 25, .v 26, .v 27, .c (.int .u64 1), .c (.int .u64 0), .c (.int .u64 0), .c (.int .u64 0)]) <|
 .loop [.c (.int .i64 0), .v 35] [true, false] <|
 .node (.op (.bin .lss) [.v 36, .c (.int .i64 512)]) <|
 .br (.v 38) (
 .node (.op (.lget true 4) [.v 37, .c (.int .i64 13)]) <|
 .node (.op (.lget true 4) [.v 37, .c (.int .i64 13)]) <|
 .node (.callH add [.ptr 0 (.c (.int .i64 0)), .val (.v 39), .val (.v 40)] [.v 37] (.mk false [.val false] 1)) <|
 .node (.op (.ext 0 false) [.v 41]) <|
 .node (.op (.ext 1 false) [.v 41]) <|
 .node (.op (.cell 4 0) [.v 42]) <|
 .node (.op (.cell 4 1) [.v 42]) <|
 .node (.op (.cell 4 2) [.v 42]) <|
 .node (.op (.cell 4 3) [.v 42]) <|
 .node (.op .lset [.v 43, .c (.int .i64 13), .v 44, .v 45, .v 46, .v 47]) <|
 .node (.op (.bin .add) [.v 36, .c (.int .i64 1)]) <|
 .back 0 [.v 49, .v 48]) (
 .node (.op .mkrp [.v 37, .c (.int .i64 0)]) <|
 .ret (.v 39)))
theorem rnew_den {parts add : FuncId} {m : Nat} (hpa : PartsC P parts) (had : R2H P add addM) (ho : m % 2 = 1) (h1 : 1 < m) (hm : m < W256) :
    D P (fun e => e = .ret (RP m (rlow m) (W256 * W256 % m))) [] 1 [WV m] (t_rnew parts add) := by
  obtain ⟨m0, m1, m2, m3, eM⟩ := WV_parts hm
  obtain ⟨p0, p1, p2, p3, p4, p5, p6, p7, ep⟩ := len_eight (fdigs_length (b := b32) 8 m)
  have em := fd_WL hm eM
  have hP := fdigs_lt (b := b32) (by decide) 8 m
  rw [ep] at hP
  have hp0 : p0 = m % b32 := by
    have := congrArg (fun l : List Nat => l.getD 0 0) ep
    exact this.symm
  have hp0l : p0 < 4294967296 := hP p0 (by simp)
  have hpo : p0 % 2 = 1 := by
    rw [hp0]; show m % 4294967296 % 2 = 1; omega
  have c := hpa m hm
  unfold PV at c
  rw [show fdigs 4294967296 8 m = [p0, p1, p2, p3, p4, p5, p6, p7] from ep, eM] at c
  rw [eM]
  refine d_cells rfl rfl rfl rfl (d_op (v := WL m0 m1 m2 m3) ev_wl (d_call c (fun h => by cases h) (d_expl (N := 8) (i := 6) rfl rfl rfl rfl ?_)))
  refine d_while (fun l : Nat => [.int .u64 (m0 : Int), .int .u64 (m1 : Int), .int .u64 (m2 : Int), .int .u64 (m3 : Int), .int .u64 (p0 : Int), .int .u64 (p1 : Int), .int .u64 (p2 : Int), .int .u64 (p3 : Int), .int .u64 (p4 : Int), .int .u64 (p5 : Int), .int .u64 (p6 : Int), .int .u64 (p7 : Int),
      .int .u64 (l : Int), .int .u64 0, .int .u64 0, .int .u64 0, .int .u64 0])
    (fun l => ∃ k, k ≤ 32 ∧ l < 2 ^ k ∧ 2 ^ k ∣ l * p0 + 1) (fun l => 4294967296 - l) 1 ⟨1, by omega, by decide, Nat.dvd_of_mod_eq_zero (by omega)⟩ rfl ?_
  rintro l ⟨k, hk, hlk, hd⟩
  have hl : l < 4294967296 := Nat.lt_of_lt_of_le hlk (Nat.pow_le_pow_right (n := 2) (by decide) hk)
  have hx : l * p0 ≤ 4294967295 * 4294967295 := Nat.mul_le_mul (by omega) (by omega)
  have hmul : ∀ {z w : Int}, z = (l : Int) → w = (p0 : Int) → evalO (.bin .mul) [.int .u64 z, .int .u64 w] = some (.int .u64 ((l * p0 : Nat) : Int)) := fun hz hw => by
    subst hz; subst hw
    have := ev_mul (k := .u64) (a := (l : Int)) (b := (p0 : Int)) (by rw [← Int.natCast_mul]; constructor <;> omega)
    rw [this, Int.natCast_mul]
  obtain ⟨x, ex⟩ : ∃ x, x = l * p0 := ⟨_, rfl⟩
  have hx64 : x < 18446744073709551616 := by omega
  refine d_op (hmul rfl rfl) ?_
  rw [← ex]
  refine d_op (ev_and (y := 4294967295) (by constructor <;> omega) (by decide)) ?_
  rw [low32]
  refine d_op ev_neq (d_if rfl (fun g => ?_) (fun g => ?_))
  · refine d_op (hmul rfl rfl) ?_
    rw [← ex]
    refine d_op (ev_unxor64 hx64) (d_op (ev_and (y := 4294967295) (by have : 18446744073709551615 ^^^ x < 18446744073709551616 := Nat.xor_lt_two_pow (n := 64) (by decide) hx64; constructor <;> omega) (by decide)) ?_)
    rw [nlow32 hx64]
    obtain ⟨e, ee⟩ : ∃ e, e = 4294967295 - x % 4294967296 := ⟨_, rfl⟩
    rw [← ee]
    have he0 : 0 < e := by omega
    have he : e < 4294967296 := by omega
    obtain ⟨j, t, ht⟩ := odd_part e e (Nat.le_refl _) he0
    obtain ⟨hj, hb⟩ := low_bit ht he
    obtain ⟨hkj, hd'⟩ := low_more hpo hk hd (by rw [← ex]; exact ee) ht hj
    have h2j : 2 ^ j < 4294967296 := Nat.pow_lt_pow_right (a := 2) (by decide) hj
    have h2k : 2 ^ k ≤ 2 ^ j := Nat.pow_le_pow_right (by decide) hkj
    refine d_op (v := .int .u64 ((18446744073709551616 - e : Nat) : Int)) (ev_negw.trans (by rw [wrap_u rfl]; congr 2; show (0 - (e : Int)) % 18446744073709551616 = _; omega)) ?_
    refine d_op (ev_and (by constructor <;> omega) (by constructor <;> omega)) ?_
    rw [hb]
    obtain ⟨q, hq⟩ : ∃ q, q = 2 ^ j := ⟨_, rfl⟩
    have hq1 : 0 < q := by rw [hq]; exact Nat.pow_pos (by decide)
    refine d_op (ev_add (by rw [← hq]; rw [← hq] at h2j; constructor <;> omega)) ?_
    refine d_back rfl ⟨l + q, by rw [hq]; rfl, ⟨j + 1, hj, by rw [hq, Nat.pow_succ]; omega, by rw [hq]; exact hd'⟩, by omega⟩
  · have hl' : l * m % b32 = 4294967295 := by
      have : l * p0 % b32 = l * m % b32 := by rw [hp0, Nat.mul_mod, Nat.mod_mod, ← Nat.mul_mod]
      rw [← this, ← ex]
      show x % 4294967296 = _
      omega
    have hlr := rlow_is ho hl hl'
    have e0 : rcells m l 1 = CN .u64 [m0, m1, m2, m3, p0, p1, p2, p3, p4, p5, p6, p7, l, 1, 0, 0, 0] := by
      unfold rcells; rw [em, ep]; rfl
    refine d_op (v := .lst (rcells m l 1)) (by rw [e0]; rfl) ?_
    rw [hlr]
    refine d_while (fun i : Nat => [.int .i64 (i : Int), .lst (rcells m (rlow m) (2 ^ i % m))]) (fun i => i ≤ 512) (fun i => 512 - i) 0 (Nat.zero_le _) (by rw [Nat.pow_zero, Nat.mod_eq_of_lt h1]; rfl) ?_
    intro i hi
    refine d_op ev_lss (d_if rfl (fun g1 => ?_) (fun g1 => ?_))
    · have lt : ∀ x, x % m < m := fun x => Nat.mod_lt _ (by omega)
      have lt' : ∀ x, x % m < W256 := fun x => Nat.lt_trans (lt x) hm
      obtain ⟨s0, s1, s2, s3, eS⟩ := WV_parts (lt' (2 ^ i))
      obtain ⟨t0, t1, t2, t3, eT⟩ := WV_parts (lt' (2 ^ (i + 1)))
      have ha := had m (rlow m) (2 ^ i % m) (2 ^ i % m) (2 ^ i % m) hm (lt' _) (lt _) (lt _)
      have e : addM m (2 ^ i % m) (2 ^ i % m) = 2 ^ (i + 1) % m := by unfold addM; rw [← Nat.add_mod]; congr 1; rw [Nat.pow_succ]; omega
      rw [e, eS, eT] at ha
      refine d_op (rcells_get (lt' _) eS) (d_op (rcells_get (lt' _) eS) (d_callH ha (d_op (ev_ext rfl (fun h => by cases h)) (d_op (ev_ext rfl (fun h => by cases h)) ?_))))
      refine d_cells rfl rfl rfl rfl (d_op (rcells_set (lt' _) eT) (d_op (ev_add (by constructor <;> omega)) ?_))
      exact d_back rfl ⟨i + 1, rfl, by omega, by omega⟩
    · have : i = 512 := by omega
      subst this
      have e3 : 2 ^ 512 % m = W256 * W256 % m := rfl
      rw [e3]
      exact d_op (v := RP m (rlow m) (W256 * W256 % m)) rfl (d_ret rfl)
end Go.SE
