/- Nothing of the statement is proved here: this text lays generic laws: FM; no conditions. -/
import Derived.Test.YtdpcehjiicfpdaaFK

set_option linter.all false
set_option autoImplicit false
set_option maxRecDepth 8000
set_option maxHeartbeats 2000000
set_option exponentiation.threshold 5000
namespace Go.SE
open Go

variable {P : Program} {R : AEnd → Prop}

theorem aSqrt_lt {m a : Nat} (h0 : 0 < m) : (aSqrt m a).1 < m := by
  unfold aSqrt
  split
  · split
    · exact Nat.mod_lt _ h0
    · exact h0
  · exact h0

def t_fieldRoots (fields sqrt neg mul ofF lives : FuncId) : T :=
  .node (.op (.cell 4 0) [.v 0]) <| -- 1
  .node (.op (.cell 4 1) [.v 0]) <| -- 2
  .node (.op (.cell 4 2) [.v 0]) <| -- 3
  .node (.op (.cell 4 3) [.v 0]) <| -- 4
  .node (.call fields [] true) <| -- 5
  .node (.op .len [.v 5]) <| -- 6
  .node (.op (.bin .neq) [.v 6, .c (.int .i64 3)]) <| -- 7
  .br (.v 7) (
    .ret (.c (.bool false))) (
    .loop [.c (.int .i64 0)] [true] <| -- 8 to 8
      .node (.op (.bin .lss) [.v 8, .c (.int .i64 3)]) <| -- 9
      .br (.v 9) (
        .node (.op (.eaddr 1) [.v 5, .v 8]) <| -- 10
        .node (.op (.rld false 1) [.v 10]) <| -- 11
        .node (.op .mkagg [.v 1, .v 2, .v 3, .v 4]) <| -- 12
        .node (.call sqrt [.v 11, .v 12] false) <| -- 13
        .node (.op (.ext 0 false) [.v 13]) <| -- 14
        .node (.op (.ext 1 true) [.v 13]) <| -- 15
        .node (.op (.cell 4 0) [.v 14]) <| -- 16
        .node (.op (.cell 4 1) [.v 14]) <| -- 17
        .node (.op (.cell 4 2) [.v 14]) <| -- 18
        .node (.op (.cell 4 3) [.v 14]) <| -- 19
        .node (.op (.eaddr 1) [.v 5, .v 8]) <| -- 20
        .node (.op (.rld false 1) [.v 20]) <| -- 21
        .node (.op (.eaddr 1) [.v 5, .v 8]) <| -- 22
        .node (.op (.rld false 1) [.v 22]) <| -- 23
        .node (.op .mkagg [.v 1, .v 2, .v 3, .v 4]) <| -- 24
        .node (.call neg [.v 23, .v 24] false) <| -- 25
        .node (.call sqrt [.v 21, .v 25] false) <| -- 26
        .node (.op (.ext 0 false) [.v 26]) <| -- 27
        .node (.op (.ext 1 true) [.v 26]) <| -- 28
        .node (.op (.cell 4 0) [.v 27]) <| -- 29
        .node (.op (.cell 4 1) [.v 27]) <| -- 30
        .node (.op (.cell 4 2) [.v 27]) <| -- 31
        .node (.op (.cell 4 3) [.v 27]) <| -- 32
        .br (.v 15) (
          .node (.op (.eaddr 1) [.v 5, .v 8]) <| -- 33
          .node (.op (.rld false 1) [.v 33]) <| -- 34
          .node (.op .mkagg [.v 16, .v 17, .v 18, .v 19]) <| -- 35
          .node (.op .mkagg [.v 16, .v 17, .v 18, .v 19]) <| -- 36
          .node (.call mul [.v 34, .v 35, .v 36] false) <| -- 37
          .node (.op (.eaddr 1) [.v 5, .v 8]) <| -- 38
          .node (.op (.rld false 1) [.v 38]) <| -- 39
          .node (.op .mkagg [.v 1, .v 2, .v 3, .v 4]) <| -- 40
          .node (.call ofF [.v 39, .v 40] false) <| -- 41
          .node (.op (.eqv true [.int .u64, .int .u64, .int .u64, .int .u64]) [.v 37, .v 41]) <| -- 42
          .br (.v 42) (
            .fail) (
            .br (.v 28) (
              .node (.op (.eaddr 1) [.v 5, .v 8]) <| -- 43
              .node (.op (.rld false 1) [.v 43]) <| -- 44
              .node (.op .mkagg [.v 29, .v 30, .v 31, .v 32]) <| -- 45
              .node (.op .mkagg [.v 29, .v 30, .v 31, .v 32]) <| -- 46
              .node (.call mul [.v 44, .v 45, .v 46] false) <| -- 47
              .node (.op (.eaddr 1) [.v 5, .v 8]) <| -- 48
              .node (.op (.rld false 1) [.v 48]) <| -- 49
              .node (.op .mkagg [.v 1, .v 2, .v 3, .v 4]) <| -- 50
              .node (.call neg [.v 49, .v 50] false) <| -- 51
              .node (.op (.eqv true [.int .u64, .int .u64, .int .u64, .int .u64]) [.v 47, .v 51]) <| -- 52
              .br (.v 52) (
                .ret (.c (.bool false))) (
                .node (.op (.bb false) [.v 15, .v 28]) <| -- 53
                .br (.v 53) (
                  .node (.op (.eaddr 1) [.v 5, .v 8]) <| -- 54
                  .node (.op (.rld false 1) [.v 54]) <| -- 55
                  .node (.op .mkagg [.v 1, .v 2, .v 3, .v 4]) <| -- 56
                  .node (.call ofF [.v 55, .v 56] false) <| -- 57
                  .node (.op (.eqv true [.int .u64, .int .u64, .int .u64, .int .u64]) [.v 57, .c (.agg [.int .u64 0, .int .u64 0, .int .u64 0, .int .u64 0])]) <| -- 58
                  .br (.v 58) (
                    .ret (.c (.bool false))) (
                    .node (.op (.bin .add) [.v 8, .c (.int .i64 2)]) <| -- 59
                    .back 0 [.v 59])) (
                  .node (.op (.bin .add) [.v 8, .c (.int .i64 2)]) <| -- 54
                  .back 0 [.v 54]))) (
              .node (.op (.bb false) [.v 15, .v 28]) <| -- 43
              .br (.v 43) (
                .node (.op (.eaddr 1) [.v 5, .v 8]) <| -- 44
                .node (.op (.rld false 1) [.v 44]) <| -- 45
                .node (.op .mkagg [.v 1, .v 2, .v 3, .v 4]) <| -- 46
                .node (.call ofF [.v 45, .v 46] false) <| -- 47
                .node (.op (.eqv true [.int .u64, .int .u64, .int .u64, .int .u64]) [.v 47, .c (.agg [.int .u64 0, .int .u64 0, .int .u64 0, .int .u64 0])]) <| -- 48
                .br (.v 48) (
                  .ret (.c (.bool false))) (
                  .node (.op (.bin .add) [.v 8, .c (.int .i64 2)]) <| -- 49
                  .back 0 [.v 49])) (
                .node (.op (.bin .add) [.v 8, .c (.int .i64 2)]) <| -- 44
                .back 0 [.v 44])))) (
          .br (.v 28) (
            .node (.op (.eaddr 1) [.v 5, .v 8]) <| -- 33
            .node (.op (.rld false 1) [.v 33]) <| -- 34
            .node (.op .mkagg [.v 29, .v 30, .v 31, .v 32]) <| -- 35
            .node (.op .mkagg [.v 29, .v 30, .v 31, .v 32]) <| -- 36
            .node (.call mul [.v 34, .v 35, .v 36] false) <| -- 37
            .node (.op (.eaddr 1) [.v 5, .v 8]) <| -- 38
            .node (.op (.rld false 1) [.v 38]) <| -- 39
            .node (.op .mkagg [.v 1, .v 2, .v 3, .v 4]) <| -- 40
            .node (.call neg [.v 39, .v 40] false) <| -- 41
            .node (.op (.eqv true [.int .u64, .int .u64, .int .u64, .int .u64]) [.v 37, .v 41]) <| -- 42
            .br (.v 42) (
              .ret (.c (.bool false))) (
              .node (.op (.bb false) [.v 15, .v 28]) <| -- 43
              .br (.v 43) (
                .node (.op (.eaddr 1) [.v 5, .v 8]) <| -- 44
                .node (.op (.rld false 1) [.v 44]) <| -- 45
                .node (.op .mkagg [.v 1, .v 2, .v 3, .v 4]) <| -- 46
                .node (.call ofF [.v 45, .v 46] false) <| -- 47
                .node (.op (.eqv true [.int .u64, .int .u64, .int .u64, .int .u64]) [.v 47, .c (.agg [.int .u64 0, .int .u64 0, .int .u64 0, .int .u64 0])]) <| -- 48
                .br (.v 48) (
                  .ret (.c (.bool false))) (
                  .node (.op (.bin .add) [.v 8, .c (.int .i64 2)]) <| -- 49
                  .back 0 [.v 49])) (
                .node (.op (.bin .add) [.v 8, .c (.int .i64 2)]) <| -- 44
                .back 0 [.v 44]))) (
            .node (.op (.bb false) [.v 15, .v 28]) <| -- 33
            .br (.v 33) (
              .node (.op (.eaddr 1) [.v 5, .v 8]) <| -- 34
              .node (.op (.rld false 1) [.v 34]) <| -- 35
              .node (.op .mkagg [.v 1, .v 2, .v 3, .v 4]) <| -- 36
              .node (.call ofF [.v 35, .v 36] false) <| -- 37
              .node (.op (.eqv true [.int .u64, .int .u64, .int .u64, .int .u64]) [.v 37, .c (.agg [.int .u64 0, .int .u64 0, .int .u64 0, .int .u64 0])]) <| -- 38
              .br (.v 38) (
                .ret (.c (.bool false))) (
                .node (.op (.bin .add) [.v 8, .c (.int .i64 2)]) <| -- 39
                .back 0 [.v 39])) (
              .node (.op (.bin .add) [.v 8, .c (.int .i64 2)]) <| -- 34
              .back 0 [.v 34])))) (
        .node (.call lives [] true) <| -- 10
        .ret (.v 10)))
theorem fieldRoots_den {fields sqrt neg mul ofF lives : FuncId} (hf : Fields P fields) (hs : FSqrtC P sqrt) (hn : FW1 P neg aNeg) (hm : FWC P mul aMul) (ho : FW1 P ofF aOf) (hv : Ct P lives [] (fun e => e = .ret (.bool true))) {a : Nat} (ha : a < W256) :
    D P (fun e => e = .ret (.bool true)) [] 1 [WV a] (t_fieldRoots fields sqrt neg mul ofF lives) := by
  refine d_cells rfl rfl rfl rfl (d_call hf (fun _ => rfl) (d_op ev_len (d_op ev_neq (f_no (by decide) rfl ?_))))
  refine d_while (fun i : Nat => [.int .i64 (i : Int)]) (fun i => i ≤ 4 ∧ i % 2 = 0) (fun i => 4 - i) 0 (by decide) rfl ?_
  intro i ⟨hi4, hi2⟩
  refine d_op ev_lss (d_if rfl (fun h1 => ?_) (fun h1 => d_call hv (fun _ => rfl) (d_ret rfl)))
  obtain ⟨m, iv, sq, rest, hF, h3, hp, h43, hat⟩ := field_at (i := i) (by omega)
  have h4 := h43 (by omega)
  have hm0 : 0 < m := by omega
  have hmW := hF.2.1
  have lt : ∀ x, x % m < W256 := fun x => Nat.lt_trans (Nat.mod_lt _ hm0) hmW
  have hS := hs m iv sq a hF ha
  have hN : Ct P neg [FP m iv sq, WV a] (fun e => e = .ret (WV (aNeg m a))) := hn m iv sq a hF ha
  have hnl : aNeg m a < W256 := lt _
  have hnm : aNeg m a % m = aNeg m a := Nat.mod_mod _ _
  have hT := hs m iv sq (aNeg m a) hF hnl
  have told1 := root_told (m := m) (a := a)
  have told2 := root_told (m := m) (a := aNeg m a)
  have l1 := Nat.lt_trans (aSqrt_lt (a := a) hm0) hmW
  have l2 := Nat.lt_trans (aSqrt_lt (a := aNeg m a) hm0) hmW
  have zero : a % m = 0 → (aSqrt m a).2 = true ∧ (aSqrt m (aNeg m a)).2 = true := fun h => by
    have : aNeg m a % m = 0 := by unfold aNeg; rw [Nat.mod_mod, h, Nat.zero_add, Nat.sub_zero, Nat.mod_self]
    rw [sqrt_zero h4 h, sqrt_zero h4 this]; exact ⟨rfl, rfl⟩
  have one := root_one (a := a) hp h4
  generalize aSqrt m a = p at *
  generalize aSqrt m (aNeg m a) = q at *
  obtain ⟨r, is⟩ := p
  obtain ⟨s, was⟩ := q
  dsimp only at told1 told2 l1 l2 zero one
  have hMr : Ct P mul [FP m iv sq, WV r, WV r] (fun e => e = .ret (WV (r * r % m))) := hm m iv sq r r hF l1 l1
  have hMs : Ct P mul [FP m iv sq, WV s, WV s] (fun e => e = .ret (WV (s * s % m))) := hm m iv sq s s hF l2 l2
  have hO : Ct P ofF [FP m iv sq, WV a] (fun e => e = .ret (WV (a % m))) := ho m iv sq a hF ha
  have hz : evalO (.eqv true [.int .u64, .int .u64, .int .u64, .int .u64]) [WV (a % m), .agg [.int .u64 0, .int .u64 0, .int .u64 0, .int .u64 0]] = some (.bool (decide (a % m ≠ 0))) := ev_wne (lt _) (b := 0) (by decide)
  refine d_op (hat rfl) (d_op (ev_rld1 rfl) (d_op (v := WV a) ev_wl (d_call hS (fun h => by cases h) (d_op (ev_ext rfl (fun h => by cases h)) (d_op (ev_ext rfl (fun _ => rfl)) (d_cells rfl rfl rfl rfl ?_))))))
  refine d_op (hat rfl) (d_op (ev_rld1 rfl) (d_op (hat rfl) (d_op (ev_rld1 rfl) (d_op (v := WV a) ev_wl (d_call hN (fun h => by cases h) (d_call hT (fun h => by cases h) (d_op (ev_ext rfl (fun h => by cases h)) (d_op (ev_ext rfl (fun _ => rfl)) (d_cells rfl rfl rfl rfl ?_)))))))))
  cases is with
  | true =>
    refine d_br true rfl (fun _ => ?_) (fun h => by cases h)
    have t1 := told1 rfl
    refine d_op (hat rfl) (d_op (ev_rld1 rfl) (d_op (v := WV r) ev_wl (d_op (v := WV r) ev_wl (d_call hMr (fun h => by cases h) ?_))))
    refine d_op (hat rfl) (d_op (ev_rld1 rfl) (d_op (v := WV a) ev_wl (d_call hO (fun h => by cases h) (d_op (ev_wne (lt _) (lt _)) (f_no (fun h => h t1) rfl ?_)))))
    cases was with
    | true =>
      refine d_br true rfl (fun _ => ?_) (fun h => by cases h)
      have t2 := told2 rfl
      rw [hnm] at t2
      have ha0 : a % m = 0 := Classical.byContradiction fun h => one h rfl
      refine d_op (hat rfl) (d_op (ev_rld1 rfl) (d_op (v := WV s) ev_wl (d_op (v := WV s) ev_wl (d_call hMs (fun h => by cases h) ?_))))
      refine d_op (hat rfl) (d_op (ev_rld1 rfl) (d_op (v := WV a) ev_wl (d_call hN (fun h => by cases h) (d_op (ev_wne (lt _) hnl) (f_no (fun h => h t2) rfl ?_)))))
      refine d_op (v := .bool true) rfl (d_br true rfl (fun _ => ?_) (fun h => by cases h))
      refine d_op (hat rfl) (d_op (ev_rld1 rfl) (d_op (v := WV a) ev_wl (d_call hO (fun h => by cases h) (d_op hz (f_no (fun h => h ha0) rfl ?_)))))
      exact d_op (ev_add (by constructor <;> omega)) (d_back rfl ⟨i + 2, rfl, by omega, by omega⟩)
    | false =>
      refine d_br false rfl (fun h => by cases h) (fun _ => ?_)
      refine d_op (v := .bool false) rfl (d_br false rfl (fun h => by cases h) (fun _ => ?_))
      exact d_op (ev_add (by constructor <;> omega)) (d_back rfl ⟨i + 2, rfl, by omega, by omega⟩)
  | false =>
    refine d_br false rfl (fun h => by cases h) (fun _ => ?_)
    cases was with
    | true =>
      refine d_br true rfl (fun _ => ?_) (fun h => by cases h)
      have t2 := told2 rfl
      rw [hnm] at t2
      refine d_op (hat rfl) (d_op (ev_rld1 rfl) (d_op (v := WV s) ev_wl (d_op (v := WV s) ev_wl (d_call hMs (fun h => by cases h) ?_))))
      refine d_op (hat rfl) (d_op (ev_rld1 rfl) (d_op (v := WV a) ev_wl (d_call hN (fun h => by cases h) (d_op (ev_wne (lt _) hnl) (f_no (fun h => h t2) rfl ?_)))))
      refine d_op (v := .bool false) rfl (d_br false rfl (fun h => by cases h) (fun _ => ?_))
      exact d_op (ev_add (by constructor <;> omega)) (d_back rfl ⟨i + 2, rfl, by omega, by omega⟩)
    | false =>
      exfalso
      by_cases h0 : a % m = 0
      · exact absurd (zero h0).1 (by simp)
      · exact one h0 rfl

end Go.SE
