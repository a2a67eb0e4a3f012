/- Nothing of the statement is proved here: this text lays generic laws: NL; no conditions. -/
import Derived.Test.YtdgpkmphhjmdeaaNJ

set_option linter.all false
set_option autoImplicit false
set_option exponentiation.threshold 5000
namespace Go.SE
open Go

variable {P : Program} {R : AEnd → Prop} {L A B X Y : List Nat} {b : Nat}

theorem fdigs_mod {k n : Nat} : fdigs B32 k (n % B32 ^ k) = fdigs B32 k n := by
  have := fdigs_val (b := B32) (L := fdigs B32 k n) (by decide) (fdigs_lt (by decide) _ _)
  rwa [fdigs_length, val_fdigs] at this

theorem fdigs_succ {b : Nat} (k n : Nat) : fdigs b (k + 1) n = fdigs b k n ++ [n / b ^ k % b] := by
  induction k generalizing n with
  | zero => simp [fdigs]
  | succ k ih =>
    rw [fdigs, ih, fdigs, List.cons_append, Nat.pow_succ, Nat.mul_comm (b ^ k) b, Nat.div_div_eq_div_mul]

theorem ev_mkslTake {k : IntKind} {L : List Nat} {a b : Int} {n : Nat} (ha : a = 0) (hb : b = (n : Int)) (h : n ≤ L.length) : evalO (.mksl 1) [.lst (CN k L), .int .i64 a, .int .i64 b] = some (SN k (L.take n)) := by
  rw [ev_mksl (o := 0) (n := n) (by simpa using ha) hb (by simpa using h)]
  have : (L.take n).length = n := by simp; omega
  simp [SN, CN, List.map_take]
  omega

def t_divide (compare clone small lz32 shifted trim takes gives : FuncId) : T :=
  .node (.call compare [.v 0, .v 1] true) <| -- 2
  .node (.op (.bin .lss) [.v 2, .c (.int .i64 0)]) <| -- 3
  .br (.v 3) (
    .node (.call clone [.v 0] true) <| -- 4
    .node (.op .mktup [.c .nils, .v 4]) <| -- 5
    .ret (.v 5)) (
    .node (.op .len [.v 1]) <| -- 4
    .node (.op (.bin .eql) [.v 4, .c (.int .i64 1)]) <| -- 5
    .br (.v 5) (
      .node (.op (.eaddr 1) [.v 1, .c (.int .i64 0)]) <| -- 6
      .node (.op (.rld false 1) [.v 6]) <| -- 7
      .node (.call small [.v 0, .v 7] false) <| -- 8
      .node (.op (.ext 0 true) [.v 8]) <| -- 9
      .node (.op (.ext 1 true) [.v 8]) <| -- 10
      .node (.op .mktup [.v 9, .v 10]) <| -- 11
      .ret (.v 11)) (
      .node (.op .len [.v 1]) <| -- 6
      .node (.op (.bin .sub) [.v 6, .c (.int .i64 1)]) <| -- 7
      .node (.op (.eaddr 1) [.v 1, .v 7]) <| -- 8
      .node (.op (.rld false 1) [.v 8]) <| -- 9
      .node (.call lz32 [.v 9] true) <| -- 10
      .node (.call shifted [.v 1, .v 10] true) <| -- 11
      .node (.call trim [.v 11] true) <| -- 12
      .node (.callH shifted [.val (.v 0), .val (.v 10)] [] (.mk false [.osl 0 1 true] 1)) <| -- 13
      .node (.op (.ext 0 true) [.v 13]) <| -- 14
      .node (.op (.ext 1 true) [.v 13]) <| -- 15
      .node (.op (.ext 2 true) [.v 13]) <| -- 16
      .node (.op (.ext 3 false) [.v 13]) <| -- 17
      .node (.op .len [.v 12]) <| -- 18
      .node (.op (.bin .sub) [.v 15, .v 18]) <| -- 19
      .node (.op (.chkmk 4) [.v 19, .v 19]) <| -- 20
      .node (.op (.lzero 4 [.int .u32 0]) [.v 19]) <| -- 21
      .node (.op (.bin .sub) [.v 19, .c (.int .i64 1)]) <| -- 22
      .loop [.v 22, .v 17, .v 21] [true, false, false] <| -- 23 to 25
        .node (.op (.bin .geq) [.v 23, .c (.int .i64 0)]) <| -- 26
        .br (.v 26) (
          .node (.op (.bin .add) [.v 23, .v 18]) <| -- 27
          .node (.op .chki [.v 27, .v 15]) <| -- 28
          .node (.op (.ofs 1) [.c (.int .i64 0), .v 27]) <| -- 29
          .node (.op (.lget false 1) [.v 24, .v 29]) <| -- 30
          .node (.op (.cvt .u64) [.v 30]) <| -- 31
          .node (.op (.bin .shl) [.v 31, .c (.int .u64 32)]) <| -- 32
          .node (.op (.bin .add) [.v 23, .v 18]) <| -- 33
          .node (.op (.bin .sub) [.v 33, .c (.int .i64 1)]) <| -- 34
          .node (.op .chki [.v 34, .v 15]) <| -- 35
          .node (.op (.ofs 1) [.c (.int .i64 0), .v 34]) <| -- 36
          .node (.op (.lget false 1) [.v 24, .v 36]) <| -- 37
          .node (.op (.cvt .u64) [.v 37]) <| -- 38
          .node (.op (.bin .or) [.v 32, .v 38]) <| -- 39
          .node (.op (.bin .sub) [.v 18, .c (.int .i64 1)]) <| -- 40
          .node (.op (.eaddr 1) [.v 12, .v 40]) <| -- 41
          .node (.op (.rld false 1) [.v 41]) <| -- 42
          .node (.op (.cvt .u64) [.v 42]) <| -- 43
          .node (.op (.bin .quo) [.v 39, .v 43]) <| -- 44
          .node (.op (.bin .sub) [.v 18, .c (.int .i64 1)]) <| -- 45
          .node (.op (.eaddr 1) [.v 12, .v 45]) <| -- 46
          .node (.op (.rld false 1) [.v 46]) <| -- 47
          .node (.op (.cvt .u64) [.v 47]) <| -- 48
          .node (.op (.bin .rem) [.v 39, .v 48]) <| -- 49
          .loop [.v 44, .v 49] [true, true] <| -- 50 to 51
            .node (.op (.bin .geq) [.v 50, .c (.int .u64 4294967296)]) <| -- 52
            .br (.v 52) (
              .node (.op (.bin .sub) [.v 50, .c (.int .u64 1)]) <| -- 53
              .node (.op (.bin .sub) [.v 18, .c (.int .i64 1)]) <| -- 54
              .node (.op (.eaddr 1) [.v 12, .v 54]) <| -- 55
              .node (.op (.rld false 1) [.v 55]) <| -- 56
              .node (.op (.cvt .u64) [.v 56]) <| -- 57
              .node (.op (.bin .add) [.v 51, .v 57]) <| -- 58
              .node (.op (.bin .geq) [.v 58, .c (.int .u64 4294967296)]) <| -- 59
              .br (.v 59) (
                .node (.op (.bin .add) [.v 23, .v 18]) <| -- 60
                .node (.op (.bin .add) [.v 60, .c (.int .i64 1)]) <| -- 61
                .node (.op .chkle [.c (.int .i64 0), .v 23]) <| -- 62
                .node (.op .chkle [.v 23, .v 61]) <| -- 63
                .node (.op .chkle [.v 61, .v 16]) <| -- 64
                .node (.op .chkle [.v 16, .v 16]) <| -- 65
                .node (.op (.ofs 1) [.c (.int .i64 0), .v 23]) <| -- 66
                .node (.op .nsub [.v 61, .v 23]) <| -- 67
                .node (.op .nsub [.v 16, .v 23]) <| -- 68
                .node (.op (.cvt .u32) [.v 53]) <| -- 69
                .node (.callH takes [.osl 0 1 (.v 66) (.v 67) (.v 68), .val (.v 12), .val (.v 69)] [.v 24] (.mk false [.val true] 1)) <| -- 70
                .node (.op (.ext 0 true) [.v 70]) <| -- 71
                .node (.op (.ext 1 false) [.v 70]) <| -- 72
                .br (.v 71) (
                  .node (.op (.bin .sub) [.v 53, .c (.int .u64 1)]) <| -- 73
                  .node (.op (.bin .add) [.v 23, .v 18]) <| -- 74
                  .node (.op (.bin .add) [.v 74, .c (.int .i64 1)]) <| -- 75
                  .node (.op .chkle [.c (.int .i64 0), .v 23]) <| -- 76
                  .node (.op .chkle [.v 23, .v 75]) <| -- 77
                  .node (.op .chkle [.v 75, .v 16]) <| -- 78
                  .node (.op .chkle [.v 16, .v 16]) <| -- 79
                  .node (.op (.ofs 1) [.c (.int .i64 0), .v 23]) <| -- 80
                  .node (.op .nsub [.v 75, .v 23]) <| -- 81
                  .node (.op .nsub [.v 16, .v 23]) <| -- 82
                  .node (.callH gives [.osl 0 1 (.v 80) (.v 81) (.v 82), .val (.v 12)] [.v 72] (.mk true [] 1)) <| -- 83
                  .node (.op (.ext 0 false) [.v 83]) <| -- 84
                  .node (.op (.cvt .u32) [.v 73]) <| -- 85
                  .node (.op .chki [.v 23, .v 19]) <| -- 86
                  .node (.op (.ofs 1) [.c (.int .i64 0), .v 23]) <| -- 87
                  .node (.op .lset [.v 25, .v 87, .v 85]) <| -- 88
                  .node (.op (.bin .sub) [.v 23, .c (.int .i64 1)]) <| -- 89
                  .back 1 [.v 89, .v 84, .v 88]) (
                  .node (.op (.cvt .u32) [.v 53]) <| -- 73
                  .node (.op .chki [.v 23, .v 19]) <| -- 74
                  .node (.op (.ofs 1) [.c (.int .i64 0), .v 23]) <| -- 75
                  .node (.op .lset [.v 25, .v 75, .v 73]) <| -- 76
                  .node (.op (.bin .sub) [.v 23, .c (.int .i64 1)]) <| -- 77
                  .back 1 [.v 77, .v 72, .v 76])) (
                .back 0 [.v 53, .v 58])) (
              .node (.op (.bin .sub) [.v 18, .c (.int .i64 2)]) <| -- 53
              .node (.op (.eaddr 1) [.v 12, .v 53]) <| -- 54
              .node (.op (.rld false 1) [.v 54]) <| -- 55
              .node (.op (.cvt .u64) [.v 55]) <| -- 56
              .node (.op (.bin .mul) [.v 50, .v 56]) <| -- 57
              .node (.op (.bin .shl) [.v 51, .c (.int .u64 32)]) <| -- 58
              .node (.op (.bin .add) [.v 23, .v 18]) <| -- 59
              .node (.op (.bin .sub) [.v 59, .c (.int .i64 2)]) <| -- 60
              .node (.op .chki [.v 60, .v 15]) <| -- 61
              .node (.op (.ofs 1) [.c (.int .i64 0), .v 60]) <| -- 62
              .node (.op (.lget false 1) [.v 24, .v 62]) <| -- 63
              .node (.op (.cvt .u64) [.v 63]) <| -- 64
              .node (.op (.bin .or) [.v 58, .v 64]) <| -- 65
              .node (.op (.bin .gtr) [.v 57, .v 65]) <| -- 66
              .br (.v 66) (
                .node (.op (.bin .sub) [.v 50, .c (.int .u64 1)]) <| -- 67
                .node (.op (.bin .sub) [.v 18, .c (.int .i64 1)]) <| -- 68
                .node (.op (.eaddr 1) [.v 12, .v 68]) <| -- 69
                .node (.op (.rld false 1) [.v 69]) <| -- 70
                .node (.op (.cvt .u64) [.v 70]) <| -- 71
                .node (.op (.bin .add) [.v 51, .v 71]) <| -- 72
                .node (.op (.bin .geq) [.v 72, .c (.int .u64 4294967296)]) <| -- 73
                .br (.v 73) (
                  .node (.op (.bin .add) [.v 23, .v 18]) <| -- 74
                  .node (.op (.bin .add) [.v 74, .c (.int .i64 1)]) <| -- 75
                  .node (.op .chkle [.c (.int .i64 0), .v 23]) <| -- 76
                  .node (.op .chkle [.v 23, .v 75]) <| -- 77
                  .node (.op .chkle [.v 75, .v 16]) <| -- 78
                  .node (.op .chkle [.v 16, .v 16]) <| -- 79
                  .node (.op (.ofs 1) [.c (.int .i64 0), .v 23]) <| -- 80
                  .node (.op .nsub [.v 75, .v 23]) <| -- 81
                  .node (.op .nsub [.v 16, .v 23]) <| -- 82
                  .node (.op (.cvt .u32) [.v 67]) <| -- 83
                  .node (.callH takes [.osl 0 1 (.v 80) (.v 81) (.v 82), .val (.v 12), .val (.v 83)] [.v 24] (.mk false [.val true] 1)) <| -- 84
                  .node (.op (.ext 0 true) [.v 84]) <| -- 85
                  .node (.op (.ext 1 false) [.v 84]) <| -- 86
                  .br (.v 85) (
                    .node (.op (.bin .sub) [.v 67, .c (.int .u64 1)]) <| -- 87
                    .node (.op (.bin .add) [.v 23, .v 18]) <| -- 88
                    .node (.op (.bin .add) [.v 88, .c (.int .i64 1)]) <| -- 89
                    .node (.op .chkle [.c (.int .i64 0), .v 23]) <| -- 90
                    .node (.op .chkle [.v 23, .v 89]) <| -- 91
                    .node (.op .chkle [.v 89, .v 16]) <| -- 92
                    .node (.op .chkle [.v 16, .v 16]) <| -- 93
                    .node (.op (.ofs 1) [.c (.int .i64 0), .v 23]) <| -- 94
                    .node (.op .nsub [.v 89, .v 23]) <| -- 95
                    .node (.op .nsub [.v 16, .v 23]) <| -- 96
                    .node (.callH gives [.osl 0 1 (.v 94) (.v 95) (.v 96), .val (.v 12)] [.v 86] (.mk true [] 1)) <| -- 97
                    .node (.op (.ext 0 false) [.v 97]) <| -- 98
                    .node (.op (.cvt .u32) [.v 87]) <| -- 99
                    .node (.op .chki [.v 23, .v 19]) <| -- 100
                    .node (.op (.ofs 1) [.c (.int .i64 0), .v 23]) <| -- 101
                    .node (.op .lset [.v 25, .v 101, .v 99]) <| -- 102
                    .node (.op (.bin .sub) [.v 23, .c (.int .i64 1)]) <| -- 103
                    .back 1 [.v 103, .v 98, .v 102]) (
                    .node (.op (.cvt .u32) [.v 67]) <| -- 87
                    .node (.op .chki [.v 23, .v 19]) <| -- 88
                    .node (.op (.ofs 1) [.c (.int .i64 0), .v 23]) <| -- 89
                    .node (.op .lset [.v 25, .v 89, .v 87]) <| -- 90
                    .node (.op (.bin .sub) [.v 23, .c (.int .i64 1)]) <| -- 91
                    .back 1 [.v 91, .v 86, .v 90])) (
                  .back 0 [.v 67, .v 72])) (
                .node (.op (.bin .add) [.v 23, .v 18]) <| -- 67
                .node (.op (.bin .add) [.v 67, .c (.int .i64 1)]) <| -- 68
                .node (.op .chkle [.c (.int .i64 0), .v 23]) <| -- 69
                .node (.op .chkle [.v 23, .v 68]) <| -- 70
                .node (.op .chkle [.v 68, .v 16]) <| -- 71
                .node (.op .chkle [.v 16, .v 16]) <| -- 72
                .node (.op (.ofs 1) [.c (.int .i64 0), .v 23]) <| -- 73
                .node (.op .nsub [.v 68, .v 23]) <| -- 74
                .node (.op .nsub [.v 16, .v 23]) <| -- 75
                .node (.op (.cvt .u32) [.v 50]) <| -- 76
                .node (.callH takes [.osl 0 1 (.v 73) (.v 74) (.v 75), .val (.v 12), .val (.v 76)] [.v 24] (.mk false [.val true] 1)) <| -- 77
                .node (.op (.ext 0 true) [.v 77]) <| -- 78
                .node (.op (.ext 1 false) [.v 77]) <| -- 79
                .br (.v 78) (
                  .node (.op (.bin .sub) [.v 50, .c (.int .u64 1)]) <| -- 80
                  .node (.op (.bin .add) [.v 23, .v 18]) <| -- 81
                  .node (.op (.bin .add) [.v 81, .c (.int .i64 1)]) <| -- 82
                  .node (.op .chkle [.c (.int .i64 0), .v 23]) <| -- 83
                  .node (.op .chkle [.v 23, .v 82]) <| -- 84
                  .node (.op .chkle [.v 82, .v 16]) <| -- 85
                  .node (.op .chkle [.v 16, .v 16]) <| -- 86
                  .node (.op (.ofs 1) [.c (.int .i64 0), .v 23]) <| -- 87
                  .node (.op .nsub [.v 82, .v 23]) <| -- 88
                  .node (.op .nsub [.v 16, .v 23]) <| -- 89
                  .node (.callH gives [.osl 0 1 (.v 87) (.v 88) (.v 89), .val (.v 12)] [.v 79] (.mk true [] 1)) <| -- 90
                  .node (.op (.ext 0 false) [.v 90]) <| -- 91
                  .node (.op (.cvt .u32) [.v 80]) <| -- 92
                  .node (.op .chki [.v 23, .v 19]) <| -- 93
                  .node (.op (.ofs 1) [.c (.int .i64 0), .v 23]) <| -- 94
                  .node (.op .lset [.v 25, .v 94, .v 92]) <| -- 95
                  .node (.op (.bin .sub) [.v 23, .c (.int .i64 1)]) <| -- 96
                  .back 1 [.v 96, .v 91, .v 95]) (
                  .node (.op (.cvt .u32) [.v 50]) <| -- 80
                  .node (.op .chki [.v 23, .v 19]) <| -- 81
                  .node (.op (.ofs 1) [.c (.int .i64 0), .v 23]) <| -- 82
                  .node (.op .lset [.v 25, .v 82, .v 80]) <| -- 83
                  .node (.op (.bin .sub) [.v 23, .c (.int .i64 1)]) <| -- 84
                  .back 1 [.v 84, .v 79, .v 83])))) (
          .node (.callH trim [.osl 0 1 (.c (.int .i64 0)) (.v 15) (.v 16)] [.v 24] (.mk false [.osl 0 1 false] 1)) <| -- 27
          .node (.op (.ext 0 true) [.v 27]) <| -- 28
          .node (.op (.ext 1 true) [.v 27]) <| -- 29
          .node (.op (.ext 2 true) [.v 27]) <| -- 30
          .node (.op (.ext 3 false) [.v 27]) <| -- 31
          .loop [.c (.int .i64 0), .v 31] [true, false] <| -- 32 to 33
            .node (.op (.bin .lss) [.v 32, .v 29]) <| -- 34
            .br (.v 34) (
              .node (.op .chki [.v 32, .v 29]) <| -- 35
              .node (.op (.ofs 1) [.v 28, .v 32]) <| -- 36
              .node (.op (.lget false 1) [.v 33, .v 36]) <| -- 37
              .node (.op (.bin .shr) [.v 37, .v 10]) <| -- 38
              .node (.op .chki [.v 32, .v 29]) <| -- 39
              .node (.op (.ofs 1) [.v 28, .v 32]) <| -- 40
              .node (.op .lset [.v 33, .v 40, .v 38]) <| -- 41
              .node (.op (.bin .add) [.v 32, .c (.int .i64 1)]) <| -- 42
              .node (.op (.bin .lss) [.v 42, .v 29]) <| -- 43
              .br (.v 43) (
                .node (.op .chki [.v 32, .v 29]) <| -- 44
                .node (.op (.ofs 1) [.v 28, .v 32]) <| -- 45
                .node (.op (.lget false 1) [.v 41, .v 45]) <| -- 46
                .node (.op (.bin .add) [.v 32, .c (.int .i64 1)]) <| -- 47
                .node (.op .chki [.v 47, .v 29]) <| -- 48
                .node (.op (.ofs 1) [.v 28, .v 47]) <| -- 49
                .node (.op (.lget false 1) [.v 41, .v 49]) <| -- 50
                .node (.op (.cvt .u64) [.v 50]) <| -- 51
                .node (.op (.bin .sub) [.c (.int .i64 32), .v 10]) <| -- 52
                .node (.op (.bin .shl) [.v 51, .v 52]) <| -- 53
                .node (.op (.cvt .u32) [.v 53]) <| -- 54
                .node (.op (.bin .or) [.v 46, .v 54]) <| -- 55
                .node (.op .chki [.v 32, .v 29]) <| -- 56
                .node (.op (.ofs 1) [.v 28, .v 32]) <| -- 57
                .node (.op .lset [.v 41, .v 57, .v 55]) <| -- 58
                .node (.op (.bin .add) [.v 32, .c (.int .i64 1)]) <| -- 59
                .back 0 [.v 59, .v 58]) (
                .node (.op (.bin .add) [.v 32, .c (.int .i64 1)]) <| -- 44
                .back 0 [.v 44, .v 41])) (
              .node (.op (.mksl 1) [.v 25, .c (.int .i64 0), .v 19]) <| -- 35
              .node (.call trim [.v 35] true) <| -- 36
              .node (.op (.mksl 1) [.v 33, .v 28, .v 29]) <| -- 37
              .node (.call trim [.v 37] true) <| -- 38
              .node (.op .mktup [.v 36, .v 38]) <| -- 39
              .ret (.v 39)))))
set_option maxHeartbeats 4000000 in
theorem divide_den {compare clone small lz32 shifted trim takes gives : FuncId} (hcm : CompareC P compare) (hcl : OwnC P clone) (hsm : SmallC P small) (hlz : Lz32C P lz32) (hsh : ShiftedC P shifted) (hshH : ShiftedH P shifted)
    (ht : TrimC P trim) (htH : TrimH P trim) (htk : TakesH P takes) (hgi : GivesH P gives) (hA : LtAll B32 A) (hB : LtAll B32 B) (nA : NoTail A) (nB : NoTail B) (hne : B ≠ []) (hal : A.length ≤ 17592186044416) (hbl : B.length ≤ 17592186044416) :
    D P (Is (resD (val B32 A) (val B32 B))) [] 2 [W B, W A] (t_divide compare clone small lz32 shifted trim takes gives) := by
  have hb0 : val B32 B ≠ 0 := val_ne_zero_of_noTail (by decide) nB hne
  refine d_call (hcm A B hA hB (by omega) (by omega)) (fun _ => rfl) ?_
  refine d_op ev_lss (d_if rfl (fun h => ?_) (fun h => ?_))
  · have hlt : val B32 A < val B32 B := by
      unfold cmpN at h
      split at h
      · assumption
      · split at h <;> omega
    refine d_call (hcl A (by omega)) (fun _ => rfl) (d_op ev_mktup (d_ret ⟨_, rfl, ?_⟩))
    unfold resD
    rw [Nat.div_eq_of_lt hlt, Nat.mod_eq_of_lt hlt, digs_zero, digs_val (by decide) hA nA]
    exact Sub.tup ⟨Sub.nils_sl, Sub.refl _, trivial⟩
  · have hge : val B32 B ≤ val B32 A := by
      rcases Nat.lt_or_ge (val B32 A) (val B32 B) with h1 | h1
      · exfalso; apply h; unfold cmpN; rw [if_pos h1]; decide
      · exact h1
    have hbpos : 0 < B.length := by
      rcases Nat.eq_zero_or_pos B.length with h1 | h1
      · exact absurd (List.eq_nil_of_length_eq_zero h1) hne
      · exact h1
    refine d_op ev_len (d_op ev_eql (d_if rfl (fun h1 => ?_) (fun h1 => ?_)))
    · have hone : B = [B.getD 0 0] := by
        have := dropN_cons (L := B) (i := 0) hbpos
        rw [List.drop_zero, List.drop_eq_nil_of_le (by omega)] at this
        exact this
      have hv1 : val B32 B = B.getD 0 0 := by
        have := congrArg (val B32) hone
        rw [val_cons, val_nil, Nat.mul_zero, Nat.add_zero] at this
        exact this
      have hx : B.getD 0 0 < B32 := hB.getD (by decide) 0
      refine d_op (ev_eaddrN (i := 0) rfl (by omega)) (d_op (ev_rldN (by omega)) ?_)
      refine d_call (hsm A (B.getD 0 0) hA (by omega) (by omega) hx) (fun h => by cases h) ?_
      refine d_op (ev_ext rfl (fun _ => rfl)) (d_op (ev_ext rfl (fun _ => rfl)) (d_op ev_mktup (d_ret ⟨_, rfl, ?_⟩)))
      unfold resD
      rw [hv1]
      exact Sub.refl _
    · have hk2 : 2 ≤ B.length := by omega
      obtain ⟨x, ex, x0, xl, n32, hvlt, hvge⟩ := norm_facts hB nB hne
      obtain ⟨n, en⟩ : ∃ n, n = 32 - blen x := ⟨_, rfl⟩
      rw [← en] at n32 hvlt hvge
      obtain ⟨k, ek⟩ : ∃ k, k = B.length := ⟨_, rfl⟩
      have hk2' : 2 ≤ k := by omega
      obtain ⟨la, ela⟩ : ∃ la, la = A.length := ⟨_, rfl⟩
      obtain ⟨v, ev⟩ : ∃ v, v = val B32 B * 2 ^ n := ⟨_, rfl⟩
      obtain ⟨a', ea⟩ : ∃ a', a' = val B32 A * 2 ^ n := ⟨_, rfl⟩
      have hlab : k ≤ la := by rw [ek, ela]; exact noTail_len hA hB nA nB hge
      rw [← ev, ← ek] at hvlt hvge
      have ek1 : (B.length : Int) - 1 = ((k - 1 : Nat) : Int) := by omega
      refine d_op ev_len (d_op (ev_sub (by constructor <;> omega)) ?_)
      rw [ek1]
      refine d_op (ev_eaddrN (i := k - 1) rfl (by omega)) (d_op (ev_rldN' (x := x) (by omega) (by rw [ex, ek])) ?_)
      refine d_call (hlz x xl) (fun _ => rfl) ?_
      rw [← en]
      refine d_call (hsh B n hB (by omega) n32) (fun _ => rfl) ?_
      have hkp : B32 ^ (B.length + 1) = B32 ^ B.length * B32 := Nat.pow_succ ..
      have hvlt2 : v < B32 ^ (B.length + 1) := by
        rw [hkp, ← ek]
        have : B32 ^ k * 1 ≤ B32 ^ k * B32 := Nat.mul_le_mul_left _ (by decide)
        omega
      refine d_call (ht _ (fdigs_lt (by decide) _ _) (by simp; omega)) (fun _ => rfl) ?_
      obtain ⟨V, eV⟩ : ∃ V, V = nrm (fdigs B32 (B.length + 1) (val B32 B * 2 ^ n)) := ⟨_, rfl⟩
      rw [← eV]
      have hVv : val B32 V = v := by rw [eV, nrm_val, ← ev, val_fdigs_lt hvlt2]
      have hVt : LtAll B32 V := eV ▸ nrm_lt
      have hVl : V.length = k := by
        have e1 : V = digs B32 v := by rw [eV]; unfold nrm; rw [← ev, val_fdigs_lt hvlt2]
        have h3 : (digs B32 v).length ≤ k := (digs_length_le (by decide)).2 hvlt
        have h4 : k - 1 < (digs B32 v).length := (digs_length_lt (by decide)).2 (by omega)
        rw [e1]; omega
      refine d_callH (hshH A n hA (by omega) n32) ?_
      rw [← ea, ← ela]
      refine d_op (ev_ext rfl (fun _ => rfl)) (d_op (ev_ext rfl (fun _ => rfl)) (d_op (ev_ext rfl (fun _ => rfl)) (d_op (ev_ext rfl (fun h => by cases h)) ?_)))
      obtain ⟨m, em⟩ : ∃ m, m = la + 1 - k := ⟨_, rfl⟩
      have em1 : ((la + 1 : Nat) : Int) - (V.length : Int) = (m : Int) := by omega
      have hmk : m + k = la + 1 := by omega
      refine d_op ev_len (d_op (ev_sub (by constructor <;> omega)) ?_)
      rw [em1]
      refine d_op (ev_chkmk rfl rfl (Nat.le_refl _) (by omega)) (d_op (ev_lzeroN (k := .u32) (n := m) rfl (by omega)) (d_op (ev_sub (by constructor <;> omega)) ?_))
      have ha2 : a' < B32 ^ la * 2 ^ n := by
        rw [ea, ela]
        exact Nat.mul_lt_mul_of_pos_right (val_lt (by decide) hA) (Nat.two_pow_pos n)
      have hn31 : 2 ^ n ≤ 2147483648 := Nat.pow_le_pow_right (n := 2) (by omega) (show n ≤ 31 by omega)
      have ha3 : a' < B32 ^ (la + 1) := by
        rw [Nat.pow_succ]
        have : B32 ^ la * 2 ^ n ≤ B32 ^ la * B32 := Nat.mul_le_mul_left _ (by show 2 ^ n ≤ 4294967296; omega)
        omega
      have start : DivI a' v la m m (fdigs B32 (la + 1) a') (List.replicate m 0) := by
        refine ⟨Nat.le_refl _, by simp, fdigs_lt (by decide) _ _, by simp, LtAll.replicate (by decide) _, by rw [val_fdigs_lt ha3, val_replicate]; simp, ?_, fun i _ => getD_replicate i⟩
        rw [val_drop (by decide) (fdigs_lt (by decide) _ _), val_fdigs_lt ha3, Nat.div_lt_iff_lt_mul (Nat.pow_pos (by decide))]
        have e1 : B32 ^ la = B32 ^ (k - 1) * B32 ^ m := by rw [← Nat.pow_add]; congr 1; omega
        have h5 : B32 ^ (k - 1) * 2 ^ n ≤ v := by
          have := Nat.mul_le_mul_left (B32 ^ (k - 1)) hn31
          rw [Nat.mul_comm _ 2147483648] at this
          omega
        have h6 := Nat.mul_le_mul_right (B32 ^ m) h5
        have e2 : B32 ^ (k - 1) * 2 ^ n * B32 ^ m = B32 ^ la * 2 ^ n := by rw [e1]; ac_rfl
        omega
      refine d_while (fun s : Nat × List Nat × List Nat => [.int .i64 ((s.1 : Int) - 1), .lst (CN .u32 s.2.1), .lst (CN .u32 s.2.2)]) (fun s => DivI a' v la m s.1 s.2.1 s.2.2) (fun s => s.1)
        (m, fdigs B32 (la + 1) a', List.replicate m 0) start rfl ?_
      rintro ⟨J, U, Q⟩ hI
      dsimp only at hI ⊢
      refine d_op ev_geq (d_if rfl (fun h2 => ?_) (fun h2 => ?_))
      · obtain ⟨j, rfl⟩ : ∃ j, J = j + 1 := ⟨J - 1, by omega⟩
        have hjm := hI.le
        have hql := hI.ql
        obtain ⟨Pre, M, Suf, S⟩ := div_step hI hmk hvlt
        have hcut := S.cut
        subst hcut
        have hpl := S.pl
        have hml := S.ml
        have hsum := S.sum
        have hwlt := S.lt
        obtain ⟨wr, hwr, hw⟩ := top3 S.mt S.ml hk2'
        obtain ⟨vr, hvr, hv⟩ := top2 hVt hVl hk2'
        rw [hVv] at hv
        have gM : ∀ i, i < k + 1 → (Pre ++ M ++ Suf).getD (j + i) 0 = M.getD i 0 := fun i hi => by rw [← hpl]; exact mid_getD (by omega)
        obtain ⟨u0, e0⟩ : ∃ u0, u0 = M.getD k 0 := ⟨_, rfl⟩
        obtain ⟨u1, e1⟩ : ∃ u1, u1 = M.getD (k - 1) 0 := ⟨_, rfl⟩
        obtain ⟨u2, e2⟩ : ∃ u2, u2 = M.getD (k - 2) 0 := ⟨_, rfl⟩
        obtain ⟨v1, f1⟩ : ∃ v1, v1 = V.getD (k - 1) 0 := ⟨_, rfl⟩
        obtain ⟨v2, f2⟩ : ∃ v2, v2 = V.getD (k - 2) 0 := ⟨_, rfl⟩
        have l0 : u0 < 4294967296 := e0 ▸ S.mt.getD (by decide) _
        have l1 : u1 < 4294967296 := e1 ▸ S.mt.getD (by decide) _
        have l2 : u2 < 4294967296 := e2 ▸ S.mt.getD (by decide) _
        have m1 : v1 < 4294967296 := f1 ▸ hVt.getD (by decide) _
        have m2 : v2 < 4294967296 := f2 ▸ hVt.getD (by decide) _
        rw [← e0, ← e1, ← e2] at hw
        rw [← f1, ← f2] at hv
        have hv1 : 2147483648 ≤ v1 := by
          rw [f1, getD_digit (by decide) hVt, hVv]
          have h3 : v / B32 ^ (k - 1) < 4294967296 := by
            rw [Nat.div_lt_iff_lt_mul (Nat.pow_pos (by decide)), Nat.mul_comm, show B32 ^ (k - 1) * 4294967296 = B32 ^ k from by rw [show k = (k - 1) + 1 from by omega, Nat.pow_succ]; rfl]
            exact hvlt
          rw [Nat.mod_eq_of_lt h3]
          exact (Nat.le_div_iff_mul_le (Nat.pow_pos (by decide))).2 hvge
        have hvk1 : v ≤ B32 ^ (k + 1) := by
          rw [Nat.pow_succ]
          have : B32 ^ k * 1 ≤ B32 ^ k * B32 := Nat.mul_le_mul_left _ (by decide)
          omega
        have hu0 : u0 ≤ v1 := top_le hv hvr m2 hw hwlt
        have ejk : (j : Int) + (V.length : Int) = ((j + k : Nat) : Int) := by omega
        have ejk1 : ((j + k : Nat) : Int) + 1 = ((j + k + 1 : Nat) : Int) := by omega
        have ejkm : ((j + k : Nat) : Int) - 1 = ((j + (k - 1) : Nat) : Int) := by omega
        have ejk2 : ((j + k : Nat) : Int) - 2 = ((j + (k - 2) : Nat) : Int) := by omega
        have eofs : ((0 + j * 1 : Nat) : Int) = (Pre.length : Int) := by omega
        have en1 : ((j + k + 1 : Nat) : Int) - (j : Int) = (M.length : Int) := by omega
        have en2 : ((j + k + 1 : Nat) : Int) - (j : Int) = ((k + 1 : Nat) : Int) := by omega
        have evk : (V.length : Int) - 1 = ((k - 1 : Nat) : Int) := by omega
        have evk2 : (V.length : Int) - 2 = ((k - 2 : Nat) : Int) := by omega
        have ejj : ((j + 1 : Nat) : Int) - 1 = (j : Int) := by omega
        rw [ejj]
        obtain ⟨h', eh⟩ : ∃ h', h' = u0 * 4294967296 + u1 := ⟨_, rfl⟩
        have hhl : h' < 18446744073709551616 := by omega
        have ewsh : IntKind.u64.wrap ((u0 * 4294967296 : Nat) : Int) = ((u0 * 4294967296 : Nat) : Int) := wrap_in (by constructor <;> omega)
        refine d_op (ev_add (by constructor <;> omega)) ?_
        rw [ejk]
        refine d_op (ev_chki (by omega) (by omega) rfl) (d_op (ev_ofs (o := 0) rfl rfl) (d_op (ev_lgetN' (i := j + k) (x := u0) (by simp) (by simp; omega) (by rw [gM k (by omega), e0])) ?_))
        refine d_op (ev_cvt (by constructor <;> omega)) (d_op (ev_shl (y := 32) (p := u0 * 4294967296) rfl (by decide) rfl) ?_)
        rw [ewsh]
        refine d_op (ev_add (by constructor <;> omega)) ?_
        rw [ejk]
        refine d_op (ev_sub (by constructor <;> omega)) ?_
        rw [ejkm]
        refine d_op (ev_chki (by omega) (by omega) rfl) (d_op (ev_ofs (o := 0) rfl rfl) (d_op (ev_lgetN' (i := j + (k - 1)) (x := u1) (by simp) (by simp; omega) (by rw [gM (k - 1) (by omega), e1])) ?_))
        refine d_op (ev_cvt (by constructor <;> omega)) (d_op (ev_or (by constructor <;> omega) (by constructor <;> omega)) ?_)
        rw [or_mul32 l1, ← eh]
        refine d_op (ev_sub (by constructor <;> omega)) ?_
        rw [evk]
        refine d_op (ev_eaddrN (i := k - 1) rfl (by omega)) (d_op (ev_rldN' (x := v1) (by omega) f1.symm) (d_op (ev_cvt (by constructor <;> omega)) (d_op (ev_quo (by omega) (by omega) (by constructor <;> omega)) ?_)))
        refine d_op (ev_sub (by constructor <;> omega)) ?_
        rw [evk]
        refine d_op (ev_eaddrN (i := k - 1) rfl (by omega)) (d_op (ev_rldN' (x := v1) (by omega) f1.symm) (d_op (ev_cvt (by constructor <;> omega)) (d_op (ev_rem (by omega) (by omega)) ?_)))
        have hw' : val B32 M = (h' * 4294967296 + u2) * B32 ^ (k - 2) + wr := by rw [hw, eh]
        have hv' : v = (v1 * 4294967296 + v2) * B32 ^ (k - 2) + vr := hv
        have hfirst := guess_first hv' (by omega) hw' hwr l2
        have hdm := Nat.div_add_mod h' v1
        have hrl := Nat.mod_lt h' (show 0 < v1 by omega)
        have hq0 : h' / v1 ≤ 4294967297 := by
          rw [← Nat.lt_succ_iff, Nat.div_lt_iff_lt_mul (by omega)]
          omega
        refine d_while (fun s : Nat × Nat => [.int .u64 (s.1 : Int), .int .u64 (s.2 : Int)]) (fun s => s.1 * v1 + s.2 = h' ∧ val B32 M < (s.1 + 1) * v ∧ s.2 < 4294967296 ∧ s.1 ≤ 4294967297) (fun s => s.1)
          (h' / v1, h' % v1) ⟨by rw [Nat.mul_comm]; exact hdm, hfirst, by omega, hq0⟩ (by show [AV.int .u64 ((h' : Int) / (v1 : Int)), AV.int .u64 ((h' : Int) % (v1 : Int))] = _; simp) ?_
        rintro ⟨g, r⟩ ⟨hgr, hhi, hrb, hgl⟩
        dsimp only at hgr hhi hrb hgl ⊢
        refine d_op ev_geq (d_if rfl (fun h3 => ?_) (fun h3 => ?_))
        · have hgv : val B32 M < g * v := by
            have : 4294967296 * v ≤ g * v := Nat.mul_le_mul_right _ (by omega)
            have h4 : val B32 M < 4294967296 * v := hwlt
            omega
          obtain ⟨g1, eg1⟩ : ∃ g1, g = g1 + 1 := ⟨g - 1, by omega⟩
          subst eg1
          have eg : ((g1 + 1 : Nat) : Int) - 1 = (g1 : Int) := by omega
          have er : (r : Int) + (v1 : Int) = ((r + v1 : Nat) : Int) := by omega
          have hgr1 : g1 * v1 + (r + v1) = h' := by rw [Nat.succ_mul] at hgr; omega
          refine d_op (ev_sub (by constructor <;> omega)) ?_
          rw [eg]
          refine d_op (ev_sub (by constructor <;> omega)) ?_
          rw [evk]
          refine d_op (ev_eaddrN (i := k - 1) rfl (by omega)) (d_op (ev_rldN' (x := v1) (by omega) f1.symm) (d_op (ev_cvt (by constructor <;> omega)) (d_op (ev_add (by constructor <;> omega)) ?_)))
          rw [er]
          refine d_op ev_geq (d_if rfl (fun h4 => ?_) (fun h4 => ?_))
          · have hgb : g1 < 4294967296 := by
              rcases Nat.lt_or_ge g1 4294967296 with h5 | h5
              · exact h5
              · exfalso
                have h6 : g1 = 4294967296 := by omega
                rw [h6] at hgr1
                omega
            have h7 : g1 * v2 ≤ 4294967296 * 4294967295 := Nat.mul_le_mul (by omega) (by omega)
            have hlow : g1 * v ≤ val B32 M + v := guess_low hv' hvr hgr1 hw' (by omega) (by omega)
            have hhi := hgv
            refine d_op (ev_add (by constructor <;> omega)) ?_
            rw [ejk]
            refine d_op (ev_add (by constructor <;> omega)) ?_
            rw [ejk1]
            refine d_op (ev_chkle (by omega) (by omega)) (d_op (ev_chkle (by omega) (by omega)) (d_op (ev_chkle (by omega) (by omega)) (d_op (ev_chkle (by omega) (by omega)) (d_op (ev_ofs (o := 0) (n := j) rfl rfl) ?_))))
            rw [eofs]
            refine d_op (ev_nsub (by omega) (by omega)) ?_
            rw [en1]
            refine d_op (ev_nsub (by omega) (by omega)) (d_op (ev_cvt (by constructor <;> omega)) ?_)
            refine d_callH (htk Pre M Suf V g1 _ S.mt hVt (by omega) (by omega) hgb (by rw [hVv, S.ml]; omega)) ?_
            rw [hVv, S.ml]
            refine d_op (ev_ext rfl (fun _ => rfl)) (d_op (ev_ext rfl (fun h => by cases h)) (d_if rfl (fun hq => ?_) (fun hq => ?_)))
            · rw [if_pos hq]
              have hg1 : 0 < g1 := by
                rcases Nat.eq_zero_or_pos g1 with h | h
                · rw [h] at hq; simp at hq
                · exact h
              have eg : ((g1 : Nat) : Int) - 1 = ((g1 - 1 : Nat) : Int) := by omega
              have hsucc : g1 * v = (g1 - 1) * v + v := by
                have : g1 = (g1 - 1) + 1 := by omega
                conv => lhs; rw [this]
                rw [Nat.succ_mul]
              refine d_op (ev_sub (by constructor <;> omega)) ?_
              rw [eg]
              refine d_op (ev_add (by constructor <;> omega)) ?_
              rw [ejk]
              refine d_op (ev_add (by constructor <;> omega)) ?_
              rw [ejk1]
              refine d_op (ev_chkle (by omega) (by omega)) (d_op (ev_chkle (by omega) (by omega)) (d_op (ev_chkle (by omega) (by omega)) (d_op (ev_chkle (by omega) (by omega)) (d_op (ev_ofs (o := 0) (n := j) rfl rfl) ?_))))
              rw [eofs]
              refine d_op (ev_nsub (by omega) (by omega)) ?_
              rw [en2]
              refine d_op (ev_nsub (by omega) (by omega)) ?_
              have hgv := hgi Pre (fdigs B32 (k + 1) (val B32 M + B32 ^ (k + 1) - g1 * v)) Suf V (((la + 1 : Nat) : Int) - (j : Int)) (fdigs_lt (by decide) _ _) hVt (by simp; omega) (by simp; omega)
              rw [fdigs_length, val_fdigs_lt (by omega), hVv] at hgv
              refine d_callH hgv ?_
              have hR : fdigs B32 (k + 1) (val B32 M + B32 ^ (k + 1) - g1 * v + v) = fdigs B32 (k + 1) (val B32 M - (g1 - 1) * v) := by
                rw [← fdigs_mod, ← fdigs_mod (n := val B32 M - (g1 - 1) * v)]
                congr 1
                rw [show val B32 M + B32 ^ (k + 1) - g1 * v + v = val B32 M - (g1 - 1) * v + B32 ^ (k + 1) from by omega, Nat.add_mod_right]
              rw [hR]
              have hI := S.next (g1 - 1) (val B32 M - (g1 - 1) * v) (by omega) (by omega) (by show g1 - 1 < 4294967296; omega)
              refine d_op (ev_ext rfl (fun h => by cases h)) (d_op (ev_cvt (by constructor <;> omega)) ?_)
              refine d_op (ev_chki (by omega) (by omega) rfl) (d_op (ev_ofs (o := 0) rfl rfl) (d_op (ev_lsetN (i := j) (by simp) (by omega) rfl) ?_))
              refine d_op (ev_sub (by constructor <;> omega)) ?_
              exact d_back rfl ⟨(j, _, _), rfl, hI, Nat.lt_succ_self j⟩
            · rw [if_neg hq]
              have hI := S.next g1 (val B32 M - g1 * v) (by rw [Nat.succ_mul] at hhi; omega) (by omega) hgb
              refine d_op (ev_cvt (by constructor <;> omega)) ?_
              refine d_op (ev_chki (by omega) (by omega) rfl) (d_op (ev_ofs (o := 0) rfl rfl) (d_op (ev_lsetN (i := j) (by simp) (by omega) rfl) ?_))
              refine d_op (ev_sub (by constructor <;> omega)) ?_
              exact d_back rfl ⟨(j, _, _), rfl, hI, Nat.lt_succ_self j⟩
          · exact d_back rfl ⟨(g1, r + v1), rfl, ⟨hgr1, hgv, by omega, by omega⟩, Nat.lt_succ_self g1⟩
        · have hgb : g < 4294967296 := by omega
          have hgm : g * v2 ≤ 4294967295 * 4294967295 := Nat.mul_le_mul (by omega) (by omega)
          have egm : (g : Int) * (v2 : Int) = ((g * v2 : Nat) : Int) := by simp
          have ewr : IntKind.u64.wrap ((r * 4294967296 : Nat) : Int) = ((r * 4294967296 : Nat) : Int) := wrap_in (by constructor <;> omega)
          refine d_op (ev_sub (by constructor <;> omega)) ?_
          rw [evk2]
          refine d_op (ev_eaddrN (i := k - 2) rfl (by omega)) (d_op (ev_rldN' (x := v2) (by omega) f2.symm) (d_op (ev_cvt (by constructor <;> omega)) (d_op (ev_mul (by rw [egm]; constructor <;> omega)) ?_)))
          rw [egm]
          refine d_op (ev_shl (y := 32) (p := r * 4294967296) rfl (by decide) rfl) ?_
          rw [ewr]
          refine d_op (ev_add (by constructor <;> omega)) ?_
          rw [ejk]
          refine d_op (ev_sub (by constructor <;> omega)) ?_
          rw [ejk2]
          refine d_op (ev_chki (by omega) (by omega) rfl) (d_op (ev_ofs (o := 0) rfl rfl) (d_op (ev_lgetN' (i := j + (k - 2)) (x := u2) (by simp) (by simp; omega) (by rw [gM (k - 2) (by omega), e2])) ?_))
          refine d_op (ev_cvt (by constructor <;> omega)) (d_op (ev_or (by constructor <;> omega) (by constructor <;> omega)) ?_)
          rw [or_mul32 l2]
          refine d_op ev_gtr (d_if rfl (fun h5 => ?_) (fun h5 => ?_))
          · have hgv : val B32 M < g * v := guess_high hv' hgr hw' hwr (by omega)
            have hgpos : 0 < g := by
              rcases Nat.eq_zero_or_pos g with h | h
              · rw [h] at hgv; simp at hgv
              · exact h
            obtain ⟨g1, eg1⟩ : ∃ g1, g = g1 + 1 := ⟨g - 1, by omega⟩
            subst eg1
            have eg : ((g1 + 1 : Nat) : Int) - 1 = (g1 : Int) := by omega
            have er : (r : Int) + (v1 : Int) = ((r + v1 : Nat) : Int) := by omega
            have hgr1 : g1 * v1 + (r + v1) = h' := by rw [Nat.succ_mul] at hgr; omega
            refine d_op (ev_sub (by constructor <;> omega)) ?_
            rw [eg]
            refine d_op (ev_sub (by constructor <;> omega)) ?_
            rw [evk]
            refine d_op (ev_eaddrN (i := k - 1) rfl (by omega)) (d_op (ev_rldN' (x := v1) (by omega) f1.symm) (d_op (ev_cvt (by constructor <;> omega)) (d_op (ev_add (by constructor <;> omega)) ?_)))
            rw [er]
            refine d_op ev_geq (d_if rfl (fun h4 => ?_) (fun h4 => ?_))
            · have hgb : g1 < 4294967296 := by omega
              have h7 : g1 * v2 ≤ 4294967296 * 4294967295 := Nat.mul_le_mul (by omega) (by omega)
              have hlow : g1 * v ≤ val B32 M + v := guess_low hv' hvr hgr1 hw' (by omega) (by omega)
              have hhi := hgv
              refine d_op (ev_add (by constructor <;> omega)) ?_
              rw [ejk]
              refine d_op (ev_add (by constructor <;> omega)) ?_
              rw [ejk1]
              refine d_op (ev_chkle (by omega) (by omega)) (d_op (ev_chkle (by omega) (by omega)) (d_op (ev_chkle (by omega) (by omega)) (d_op (ev_chkle (by omega) (by omega)) (d_op (ev_ofs (o := 0) (n := j) rfl rfl) ?_))))
              rw [eofs]
              refine d_op (ev_nsub (by omega) (by omega)) ?_
              rw [en1]
              refine d_op (ev_nsub (by omega) (by omega)) (d_op (ev_cvt (by constructor <;> omega)) ?_)
              refine d_callH (htk Pre M Suf V g1 _ S.mt hVt (by omega) (by omega) hgb (by rw [hVv, S.ml]; omega)) ?_
              rw [hVv, S.ml]
              refine d_op (ev_ext rfl (fun _ => rfl)) (d_op (ev_ext rfl (fun h => by cases h)) (d_if rfl (fun hq => ?_) (fun hq => ?_)))
              · rw [if_pos hq]
                have hg1 : 0 < g1 := by
                  rcases Nat.eq_zero_or_pos g1 with h | h
                  · rw [h] at hq; simp at hq
                  · exact h
                have eg : ((g1 : Nat) : Int) - 1 = ((g1 - 1 : Nat) : Int) := by omega
                have hsucc : g1 * v = (g1 - 1) * v + v := by
                  have : g1 = (g1 - 1) + 1 := by omega
                  conv => lhs; rw [this]
                  rw [Nat.succ_mul]
                refine d_op (ev_sub (by constructor <;> omega)) ?_
                rw [eg]
                refine d_op (ev_add (by constructor <;> omega)) ?_
                rw [ejk]
                refine d_op (ev_add (by constructor <;> omega)) ?_
                rw [ejk1]
                refine d_op (ev_chkle (by omega) (by omega)) (d_op (ev_chkle (by omega) (by omega)) (d_op (ev_chkle (by omega) (by omega)) (d_op (ev_chkle (by omega) (by omega)) (d_op (ev_ofs (o := 0) (n := j) rfl rfl) ?_))))
                rw [eofs]
                refine d_op (ev_nsub (by omega) (by omega)) ?_
                rw [en2]
                refine d_op (ev_nsub (by omega) (by omega)) ?_
                have hgv := hgi Pre (fdigs B32 (k + 1) (val B32 M + B32 ^ (k + 1) - g1 * v)) Suf V (((la + 1 : Nat) : Int) - (j : Int)) (fdigs_lt (by decide) _ _) hVt (by simp; omega) (by simp; omega)
                rw [fdigs_length, val_fdigs_lt (by omega), hVv] at hgv
                refine d_callH hgv ?_
                have hR : fdigs B32 (k + 1) (val B32 M + B32 ^ (k + 1) - g1 * v + v) = fdigs B32 (k + 1) (val B32 M - (g1 - 1) * v) := by
                  rw [← fdigs_mod, ← fdigs_mod (n := val B32 M - (g1 - 1) * v)]
                  congr 1
                  rw [show val B32 M + B32 ^ (k + 1) - g1 * v + v = val B32 M - (g1 - 1) * v + B32 ^ (k + 1) from by omega, Nat.add_mod_right]
                rw [hR]
                have hI := S.next (g1 - 1) (val B32 M - (g1 - 1) * v) (by omega) (by omega) (by show g1 - 1 < 4294967296; omega)
                refine d_op (ev_ext rfl (fun h => by cases h)) (d_op (ev_cvt (by constructor <;> omega)) ?_)
                refine d_op (ev_chki (by omega) (by omega) rfl) (d_op (ev_ofs (o := 0) rfl rfl) (d_op (ev_lsetN (i := j) (by simp) (by omega) rfl) ?_))
                refine d_op (ev_sub (by constructor <;> omega)) ?_
                exact d_back rfl ⟨(j, _, _), rfl, hI, Nat.lt_succ_self j⟩
              · rw [if_neg hq]
                have hI := S.next g1 (val B32 M - g1 * v) (by rw [Nat.succ_mul] at hhi; omega) (by omega) hgb
                refine d_op (ev_cvt (by constructor <;> omega)) ?_
                refine d_op (ev_chki (by omega) (by omega) rfl) (d_op (ev_ofs (o := 0) rfl rfl) (d_op (ev_lsetN (i := j) (by simp) (by omega) rfl) ?_))
                refine d_op (ev_sub (by constructor <;> omega)) ?_
                exact d_back rfl ⟨(j, _, _), rfl, hI, Nat.lt_succ_self j⟩
            · exact d_back rfl ⟨(g1, r + v1), rfl, ⟨hgr1, hgv, by omega, by omega⟩, Nat.lt_succ_self g1⟩
          · have hlow : g * v ≤ val B32 M + v := guess_low hv' hvr hgr hw' (by omega) (by omega)
            refine d_op (ev_add (by constructor <;> omega)) ?_
            rw [ejk]
            refine d_op (ev_add (by constructor <;> omega)) ?_
            rw [ejk1]
            refine d_op (ev_chkle (by omega) (by omega)) (d_op (ev_chkle (by omega) (by omega)) (d_op (ev_chkle (by omega) (by omega)) (d_op (ev_chkle (by omega) (by omega)) (d_op (ev_ofs (o := 0) (n := j) rfl rfl) ?_))))
            rw [eofs]
            refine d_op (ev_nsub (by omega) (by omega)) ?_
            rw [en1]
            refine d_op (ev_nsub (by omega) (by omega)) (d_op (ev_cvt (by constructor <;> omega)) ?_)
            refine d_callH (htk Pre M Suf V g _ S.mt hVt (by omega) (by omega) hgb (by rw [hVv, S.ml]; omega)) ?_
            rw [hVv, S.ml]
            refine d_op (ev_ext rfl (fun _ => rfl)) (d_op (ev_ext rfl (fun h => by cases h)) (d_if rfl (fun hq => ?_) (fun hq => ?_)))
            · rw [if_pos hq]
              have hg1 : 0 < g := by
                rcases Nat.eq_zero_or_pos g with h | h
                · rw [h] at hq; simp at hq
                · exact h
              have eg : ((g : Nat) : Int) - 1 = ((g - 1 : Nat) : Int) := by omega
              have hsucc : g * v = (g - 1) * v + v := by
                have : g = (g - 1) + 1 := by omega
                conv => lhs; rw [this]
                rw [Nat.succ_mul]
              refine d_op (ev_sub (by constructor <;> omega)) ?_
              rw [eg]
              refine d_op (ev_add (by constructor <;> omega)) ?_
              rw [ejk]
              refine d_op (ev_add (by constructor <;> omega)) ?_
              rw [ejk1]
              refine d_op (ev_chkle (by omega) (by omega)) (d_op (ev_chkle (by omega) (by omega)) (d_op (ev_chkle (by omega) (by omega)) (d_op (ev_chkle (by omega) (by omega)) (d_op (ev_ofs (o := 0) (n := j) rfl rfl) ?_))))
              rw [eofs]
              refine d_op (ev_nsub (by omega) (by omega)) ?_
              rw [en2]
              refine d_op (ev_nsub (by omega) (by omega)) ?_
              have hgv := hgi Pre (fdigs B32 (k + 1) (val B32 M + B32 ^ (k + 1) - g * v)) Suf V (((la + 1 : Nat) : Int) - (j : Int)) (fdigs_lt (by decide) _ _) hVt (by simp; omega) (by simp; omega)
              rw [fdigs_length, val_fdigs_lt (by omega), hVv] at hgv
              refine d_callH hgv ?_
              have hR : fdigs B32 (k + 1) (val B32 M + B32 ^ (k + 1) - g * v + v) = fdigs B32 (k + 1) (val B32 M - (g - 1) * v) := by
                rw [← fdigs_mod, ← fdigs_mod (n := val B32 M - (g - 1) * v)]
                congr 1
                rw [show val B32 M + B32 ^ (k + 1) - g * v + v = val B32 M - (g - 1) * v + B32 ^ (k + 1) from by omega, Nat.add_mod_right]
              rw [hR]
              have hI := S.next (g - 1) (val B32 M - (g - 1) * v) (by omega) (by omega) (by show g - 1 < 4294967296; omega)
              refine d_op (ev_ext rfl (fun h => by cases h)) (d_op (ev_cvt (by constructor <;> omega)) ?_)
              refine d_op (ev_chki (by omega) (by omega) rfl) (d_op (ev_ofs (o := 0) rfl rfl) (d_op (ev_lsetN (i := j) (by simp) (by omega) rfl) ?_))
              refine d_op (ev_sub (by constructor <;> omega)) ?_
              exact d_back rfl ⟨(j, _, _), rfl, hI, Nat.lt_succ_self j⟩
            · rw [if_neg hq]
              have hI := S.next g (val B32 M - g * v) (by rw [Nat.succ_mul] at hhi; omega) (by omega) hgb
              refine d_op (ev_cvt (by constructor <;> omega)) ?_
              refine d_op (ev_chki (by omega) (by omega) rfl) (d_op (ev_ofs (o := 0) rfl rfl) (d_op (ev_lsetN (i := j) (by simp) (by omega) rfl) ?_))
              refine d_op (ev_sub (by constructor <;> omega)) ?_
              exact d_back rfl ⟨(j, _, _), rfl, hI, Nat.lt_succ_self j⟩
      · have : J = 0 := by omega
        subst this
        obtain ⟨hr1, hq1⟩ := div_end hI
        have hvr : a' % v = val B32 A % val B32 B * 2 ^ n := by rw [ea, ev, Nat.mul_mod_mul_right]
        have hvq : a' / v = val B32 A / val B32 B := by rw [ea, ev, Nat.mul_div_mul_right _ _ (Nat.two_pow_pos n)]
        have hUl := hI.ul
        have hUt := hI.ut
        have hQl := hI.ql
        have hQt := hI.qt
        have htU := htH U hUt (by omega)
        rw [hUl] at htU
        refine d_callH htU ?_
        refine d_op (ev_ext rfl (fun _ => rfl)) (d_op (ev_ext rfl (fun _ => rfl)) (d_op (ev_ext rfl (fun _ => rfl)) (d_op (ev_ext rfl (fun h => by cases h)) ?_)))
        have hlr0 := nrm_len hUt
        obtain ⟨lr, elr⟩ : ∃ lr, lr = (nrm U).length := ⟨_, rfl⟩
        rw [← elr] at hlr0 ⊢
        have hUlt : val B32 U < B32 ^ lr := by
          have := val_lt (b := B32) (by decide) (nrm_lt (L := U))
          rw [nrm_val, ← elr] at this
          exact this
        obtain ⟨w, ew⟩ : ∃ w, w = val B32 U / 2 ^ n := ⟨_, rfl⟩
        have hwr : w = val B32 A % val B32 B := by rw [ew, hr1, hvr, Nat.mul_div_cancel _ (Nat.two_pow_pos n)]
        refine d_while (fun i : Nat => [.int .i64 (i : Int), .lst (CN .u32 (fdigs B32 i w ++ U.drop i))]) (fun i => i ≤ lr) (fun i => lr - i) 0 (Nat.zero_le _) rfl ?_
        intro i hi
        refine d_op ev_lss (d_if rfl (fun h3 => ?_) (fun h3 => ?_))
        · have hiU : i < U.length := by omega
          obtain ⟨o, eo⟩ : ∃ o, o = U.getD i 0 := ⟨_, rfl⟩
          have ho : o < 4294967296 := eo ▸ hUt.getD (by decide) i
          obtain ⟨F, eF⟩ : ∃ F, F = fdigs B32 i w := ⟨_, rfl⟩
          have hFl : F.length = i := by rw [eF]; simp
          have hcutU : U.drop i = o :: U.drop (i + 1) := by rw [dropN_cons hiU, eo]
          have hvo : val B32 U / B32 ^ i = o + B32 * val B32 (U.drop (i + 1)) := by rw [← val_drop (by decide) hUt, hcutU, val_cons]
          have hos : o / 2 ^ n < 2 ^ (32 - n) := by
            rw [Nat.div_lt_iff_lt_mul (Nat.two_pow_pos n), ← Nat.pow_add, show 32 - n + n = 32 from by omega]
            exact ho
          have hosl : o / 2 ^ n ≤ o := Nat.div_le_self _ _
          obtain ⟨q, eq⟩ : ∃ q, q = o / 2 ^ n := ⟨_, rfl⟩
          rw [← eq] at hos hosl
          have hdig : ∀ z, val B32 (U.drop (i + 1)) % B32 = z % B32 → w / B32 ^ i % B32 = q + z * 2 ^ (32 - n) % 4294967296 := fun z hz => by
            have hBs : B32 = 2 ^ n * 2 ^ (32 - n) := by rw [← Nat.pow_add, show n + (32 - n) = 32 from by omega]
            obtain ⟨y, ey'⟩ : ∃ y, y = val B32 (U.drop (i + 1)) := ⟨_, rfl⟩
            have hvo' : val B32 U / B32 ^ i = o + 2 ^ n * (2 ^ (32 - n) * y) := by rw [hvo, ← ey', ← Nat.mul_assoc, ← hBs]
            rw [← ey'] at hz
            have h4 : w / B32 ^ i = q + 2 ^ (32 - n) * y := by
              rw [ew, Nat.div_div_eq_div_mul, Nat.mul_comm, ← Nat.div_div_eq_div_mul, hvo', eq, Nat.add_mul_div_left _ _ (Nat.two_pow_pos n)]
            have h5 : z * 2 ^ (32 - n) % 4294967296 = 2 ^ (32 - n) * y % B32 := by
              show z * 2 ^ (32 - n) % B32 = _
              rw [Nat.mul_comm z, Nat.mul_mod, ← hz, ← Nat.mul_mod]
            rw [h4, h5]
            have h6 : 2 ^ (32 - n) * y % B32 = 2 ^ (32 - n) * (y % 2 ^ n) := by
              rw [show B32 = 2 ^ (32 - n) * 2 ^ n from by rw [hBs, Nat.mul_comm], Nat.mul_mod_mul_left]
            have h7 : y % 2 ^ n + 1 ≤ 2 ^ n := Nat.mod_lt _ (Nat.two_pow_pos n)
            have h8 := Nat.mul_le_mul_left (2 ^ (32 - n)) h7
            rw [Nat.mul_add, Nat.mul_one, Nat.mul_comm (2 ^ (32 - n)) (2 ^ n), ← hBs, ← h6] at h8
            have h9 := Nat.mod_add_div (2 ^ (32 - n) * y) B32
            have h10 : (q + 2 ^ (32 - n) * y) % B32 = (q + 2 ^ (32 - n) * y % B32) % B32 := by rw [Nat.add_mod_mod]
            rw [h10, Nat.mod_eq_of_lt (by omega)]
          rw [hcutU, ← eF]
          have lgetA : ∀ (S : List Nat) (y : Nat), (F ++ y :: S).getD i 0 = y := fun S y => by rw [← hFl, List.getD_eq_getElem?_getD, List.getElem?_append_right (by omega)]; simp
          have lgetB : ∀ (S : List Nat) (y z : Nat), (F ++ y :: z :: S).getD (i + 1) 0 = z := fun S y z => by rw [← hFl, List.getD_eq_getElem?_getD, List.getElem?_append_right (by omega), show F.length + 1 - F.length = 1 from by omega]; simp
          have lset : ∀ (S : List Nat) (y z : Nat), (F ++ y :: S).set i z = F ++ z :: S := fun S y z => by rw [← hFl, List.set_append_right _ _ (by omega)]; simp
          have hil : ∀ (S : List Nat) (y : Nat), i < (F ++ y :: S).length := fun S y => by simp; omega
          refine d_op (ev_chki (by omega) (by omega) rfl) (d_op (ev_ofs (o := 0) rfl rfl) (d_op (ev_lgetN' (i := i) (x := o) (by simp) (hil _ _) (lgetA _ _)) ?_))
          refine d_op (ev_shr (y := n) rfl (by show n ≤ 32; omega) eq.symm) ?_
          refine d_op (ev_chki (by omega) (by omega) rfl) (d_op (ev_ofs (o := 0) rfl rfl) (d_op (ev_lsetN (i := i) (x := q) (by simp) (hil _ _) rfl) ?_))
          rw [lset]
          have ei1 : (i : Int) + 1 = ((i + 1 : Nat) : Int) := by omega
          refine d_op (ev_add (by constructor <;> omega)) ?_
          rw [ei1]
          refine d_op ev_lss (d_if rfl (fun h4 => ?_) (fun h4 => ?_))
          · obtain ⟨z, ez⟩ : ∃ z, z = U.getD (i + 1) 0 := ⟨_, rfl⟩
            have hz : z < 4294967296 := ez ▸ hUt.getD (by decide) _
            have hcut2 : U.drop (i + 1) = z :: U.drop (i + 1 + 1) := by rw [dropN_cons (by omega), ez]
            have hd := hdig z (by rw [hcut2, val_cons, Nat.add_mul_mod_self_left])
            have hz2 : z * 2 ^ (32 - n) < 18446744073709551616 := by
              have h5 : 2 ^ (32 - n) ≤ 2 ^ 32 := Nat.pow_le_pow_right (by omega) (by omega)
              have h6 : z * 2 ^ (32 - n) ≤ 4294967295 * 2 ^ 32 := Nat.mul_le_mul (by omega) h5
              omega
            obtain ⟨y, ey⟩ : ∃ y, y = z * 2 ^ (32 - n) := ⟨_, rfl⟩
            rw [← ey] at hz2 hd
            have hdv : 2 ^ (32 - n) ∣ y % 4294967296 := by
              have g1 : 2 ^ (32 - n) ∣ y := by rw [ey]; exact Nat.dvd_mul_left _ _
              have g2 : 2 ^ (32 - n) ∣ 4294967296 := Nat.pow_dvd_pow 2 (show 32 - n ≤ 32 by omega)
              exact (Nat.dvd_mod_iff g2).2 g1
            have hor := or_low hos hdv
            have esn : (32 : Int) - (n : Int) = ((32 - n : Nat) : Int) := by omega
            have ew2 : IntKind.u64.wrap (y : Int) = (y : Int) := wrap_in (by constructor <;> omega)
            have ew3 : IntKind.u32.wrap (y : Int) = ((y % 4294967296 : Nat) : Int) := by rw [wrap_u rfl]; rfl
            have hql : q < 4294967296 := by omega
            rw [hcut2]
            refine d_op (ev_chki (by omega) (by omega) rfl) (d_op (ev_ofs (o := 0) rfl rfl) (d_op (ev_lgetN' (i := i) (x := q) (by simp) (hil _ _) (lgetA _ _)) ?_))
            refine d_op (ev_add (by constructor <;> omega)) ?_
            rw [ei1]
            refine d_op (ev_chki (by omega) (by omega) rfl) (d_op (ev_ofs (o := 0) rfl rfl) (d_op (ev_lgetN' (i := i + 1) (x := z) (by simp) (by simp; omega) (lgetB _ _ _)) ?_))
            refine d_op (ev_cvt (by constructor <;> omega)) (d_op (ev_sub (by constructor <;> omega)) ?_)
            rw [esn]
            refine d_op (ev_shl (y := 32 - n) rfl (by show 32 - n ≤ 64; omega) ey.symm) ?_
            rw [ew2]
            refine d_op ev_cvtw ?_
            rw [ew3]
            refine d_op (ev_or (by constructor <;> omega) (by constructor <;> omega)) ?_
            rw [hor]
            refine d_op (ev_chki (by omega) (by omega) rfl) (d_op (ev_ofs (o := 0) rfl rfl) (d_op (ev_lsetN (i := i) (x := q + y % 4294967296) (by simp) (hil _ _) rfl) ?_))
            rw [lset]
            refine d_op (ev_add (by constructor <;> omega)) ?_
            refine d_back rfl ⟨i + 1, ?_, by omega, by omega⟩
            show [AV.int .i64 ((i : Int) + 1), AV.lst (CN .u32 (F ++ (q + y % 4294967296) :: z :: U.drop (i + 1 + 1)))] = [AV.int .i64 ((i + 1 : Nat) : Int), AV.lst (CN .u32 (fdigs B32 (i + 1) w ++ U.drop (i + 1)))]
            rw [fdigs_succ, ← eF, hd, hcut2, List.append_assoc]
            rfl
          · have hy0 : val B32 (U.drop (i + 1)) = 0 := by
              rw [val_drop (by decide) hUt, show i + 1 = lr from by omega, Nat.div_eq_of_lt hUlt]
            have hd := hdig 0 (by rw [hy0])
            rw [Nat.zero_mul, Nat.zero_mod, Nat.add_zero] at hd
            refine d_op (ev_add (by constructor <;> omega)) ?_
            refine d_back rfl ⟨i + 1, ?_, by omega, by omega⟩
            show [AV.int .i64 ((i : Int) + 1), AV.lst (CN .u32 (F ++ q :: U.drop (i + 1)))] = [AV.int .i64 ((i + 1 : Nat) : Int), AV.lst (CN .u32 (fdigs B32 (i + 1) w ++ U.drop (i + 1)))]
            rw [fdigs_succ, ← eF, hd, List.append_assoc]
            rfl
        · have : i = lr := by omega
          subst this
          have htk2 : (fdigs B32 i w ++ U.drop i).take i = fdigs B32 i w := by
            have : (fdigs B32 i w).length = i := by simp
            rw [List.take_append_of_le_length (by omega), List.take_of_length_le (by omega)]
          refine d_op (ev_mkslN rfl (by rw [hQl])) (d_call (ht Q hQt (by omega)) (fun _ => rfl) ?_)
          refine d_op (ev_mkslTake rfl rfl (by simp)) ?_
          rw [htk2]
          refine d_call (ht _ (fdigs_lt (by decide) _ _) (by simp; omega)) (fun _ => rfl) (d_op ev_mktup (d_ret ⟨_, rfl, ?_⟩))
          have hwl : w < B32 ^ i := Nat.lt_of_le_of_lt (by rw [ew]; exact Nat.div_le_self _ _) hUlt
          show Sub (.tup [W (nrm Q), W (nrm (fdigs B32 i w))]) _
          unfold nrm resD
          rw [hq1, hvq, val_fdigs_lt hwl, hwr]
          exact Sub.refl _

end Go.SE
