/- Nothing of the statement is proved here: this text lays generic laws: NAdds; no conditions. -/
import Derived.Test.YtdgpkmphhjmdeaaNG

set_option linter.all false
set_option autoImplicit false
set_option exponentiation.threshold 5000
namespace Go.SE
open Go

variable {P : Program} {R : AEnd → Prop} {L A B X Y : List Nat}

theorem told_short (n : Nat) : (told n).1.length ≤ 1024 := by
  unfold told
  split
  · simp
  · rename_i h; exact long_false (by simpa using h)
theorem addS_short (a b : Nat) : (addS a b).1.length ≤ 35184372088832 := by
  unfold addS
  split
  · simp
  · exact Nat.le_trans (told_short _) (by decide)
theorem mulS_short (a b : Nat) : (mulS a b).1.length ≤ 35184372088832 := by
  unfold mulS
  split
  · simp
  · exact Nat.le_trans (told_short _) (by decide)
theorem subS_short (a b : Nat) : (subS a b).1.length ≤ 35184372088832 := by
  unfold subS
  split
  · simp
  · split
    · simp
    · exact Nat.le_trans (told_short _) (by decide)

/-- a test that goes one way -/
theorem d_yes {P : Program} {R : AEnd → Prop} {H : List (List AV → Prop)} {n : Nat} {ρ : List AV} {a : Atom} {t e : T} {p : Prop} [Decidable p] (hp : p) (h : a.at n ρ = .bool (decide p)) (ht : D P R H n ρ t) : D P R H n ρ (.br a t e) :=
  d_if h (fun _ => ht) (fun hn => absurd hp hn)
theorem d_no {P : Program} {R : AEnd → Prop} {H : List (List AV → Prop)} {n : Nat} {ρ : List AV} {a : Atom} {t e : T} {p : Prop} [Decidable p] (hp : ¬ p) (h : a.at n ρ = .bool (decide p)) (he : D P R H n ρ e) : D P R H n ρ (.br a t e) :=
  d_if h (fun h => absurd h hp) (fun _ => he)
/-- 'if !p' where p holds -/
theorem d_not {P : Program} {R : AEnd → Prop} {H : List (List AV → Prop)} {n : Nat} {ρ : List AV} {a : Atom} {t e : T} {p : Prop} [Decidable p] (hp : p) (h : a.at n ρ = .bool (!decide p)) (he : D P R H n ρ e) : D P R H n ρ (.br a t e) :=
  d_br false (by rw [h, decide_eq_true hp]; rfl) (fun h => by cases h) (fun _ => he)

def t_natAdds (own add radd sub rsub same few mul rmul lives : FuncId) : T :=
  .node (.call own [.v 0] true) <| -- 2
  .node (.call own [.v 1] true) <| -- 3
  .node (.call add [.v 2, .v 3] false) <| -- 4
  .node (.op (.ext 0 true) [.v 4]) <| -- 5
  .node (.op (.ext 1 true) [.v 4]) <| -- 6
  .node (.call radd [.v 0, .v 1] false) <| -- 7
  .node (.op (.ext 0 true) [.v 7]) <| -- 8
  .node (.op (.ext 1 true) [.v 7]) <| -- 9
  .node (.call own [.v 0] true) <| -- 10
  .node (.call own [.v 1] true) <| -- 11
  .node (.call sub [.v 10, .v 11] false) <| -- 12
  .node (.op (.ext 0 true) [.v 12]) <| -- 13
  .node (.op (.ext 1 true) [.v 12]) <| -- 14
  .node (.call rsub [.v 0, .v 1] false) <| -- 15
  .node (.op (.ext 0 true) [.v 15]) <| -- 16
  .node (.op (.ext 1 true) [.v 15]) <| -- 17
  .node (.call same [.v 5, .v 8] true) <| -- 18
  .node (.op (.un .not) [.v 18]) <| -- 19
  .br (.v 19) (
    .ret (.c (.bool false))) (
    .node (.op (.bin .neq) [.v 6, .v 9]) <| -- 20
    .br (.v 20) (
      .ret (.c (.bool false))) (
      .node (.call same [.v 13, .v 16] true) <| -- 21
      .node (.op (.un .not) [.v 21]) <| -- 22
      .br (.v 22) (
        .ret (.c (.bool false))) (
        .node (.op (.bin .neq) [.v 14, .v 17]) <| -- 23
        .br (.v 23) (
          .ret (.c (.bool false))) (
          .node (.call few [.v 0, .c (.int .i64 60)] true) <| -- 24
          .node (.call few [.v 1, .c (.int .i64 60)] true) <| -- 25
          .node (.call own [.v 24] true) <| -- 26
          .node (.call own [.v 25] true) <| -- 27
          .node (.call mul [.v 26, .v 27] false) <| -- 28
          .node (.op (.ext 0 true) [.v 28]) <| -- 29
          .node (.op (.ext 1 true) [.v 28]) <| -- 30
          .node (.call rmul [.v 24, .v 25] false) <| -- 31
          .node (.op (.ext 0 true) [.v 31]) <| -- 32
          .node (.op (.ext 1 true) [.v 31]) <| -- 33
          .node (.call same [.v 29, .v 32] true) <| -- 34
          .br (.v 34) (
            .node (.op (.bin .eql) [.v 30, .v 33]) <| -- 35
            .br (.v 35) (
              .node (.call lives [] true) <| -- 36
              .ret (.v 36)) (
              .ret (.c (.bool false)))) (
            .ret (.c (.bool false)))))))
theorem natAdds_den {own add radd sub rsub same few mul rmul lives : FuncId} (ho : OwnC P own) (ha : Bin P add addS) (hra : Bin P radd addS) (hsb : Bin P sub subS) (hrs : Bin P rsub subS) (hs : SameC P same) (hf : FewC P few)
    (hm : Bin P mul mulS) (hrm : Bin P rmul mulS) (hv : LivesC P lives) (hA : OkN A) (hB : OkN B) : D P (fun e => e = .ret (.bool true)) [] 2 [W B, W A] (t_natAdds own add radd sub rsub same few mul rmul lives) := by
  have own1 : ∀ {L : List Nat}, OkN L → Ct P own [W L] (fun e => e = .ret (W L)) := fun {L} h => ho L h.2
  refine d_call (own1 hA) (fun _ => rfl) (d_call (own1 hB) (fun _ => rfl) (d_call (ha A B hA hB) (fun h => by cases h) (d_op (ev_ext rfl (fun _ => rfl)) (d_op (ev_ext rfl (fun _ => rfl)) ?_))))
  refine d_call (hra A B hA hB) (fun h => by cases h) (d_op (ev_ext rfl (fun _ => rfl)) (d_op (ev_ext rfl (fun _ => rfl)) ?_))
  refine d_call (own1 hA) (fun _ => rfl) (d_call (own1 hB) (fun _ => rfl) (d_call (hsb A B hA hB) (fun h => by cases h) (d_op (ev_ext rfl (fun _ => rfl)) (d_op (ev_ext rfl (fun _ => rfl)) ?_))))
  refine d_call (hrs A B hA hB) (fun h => by cases h) (d_op (ev_ext rfl (fun _ => rfl)) (d_op (ev_ext rfl (fun _ => rfl)) ?_))
  refine d_call (hs _ _ (addS_short _ _)) (fun _ => rfl) (d_op ev_not (d_not rfl rfl (d_op ev_neq (d_no (fun h => h rfl) rfl ?_))))
  refine d_call (hs _ _ (subS_short _ _)) (fun _ => rfl) (d_op ev_not (d_not rfl rfl (d_op ev_neq (d_no (fun h => h rfl) rfl ?_))))
  refine d_call (hf A 60 hA.2) (fun _ => rfl) (d_call (hf B 60 hB.2) (fun _ => rfl) ?_)
  refine d_call (own1 (hA.take 60)) (fun _ => rfl) (d_call (own1 (hB.take 60)) (fun _ => rfl) (d_call (hm _ _ (hA.take 60) (hB.take 60)) (fun h => by cases h) (d_op (ev_ext rfl (fun _ => rfl)) (d_op (ev_ext rfl (fun _ => rfl)) ?_))))
  refine d_call (hrm _ _ (hA.take 60) (hB.take 60)) (fun h => by cases h) (d_op (ev_ext rfl (fun _ => rfl)) (d_op (ev_ext rfl (fun _ => rfl)) ?_))
  exact d_call (hs _ _ (mulS_short _ _)) (fun _ => rfl) (d_yes rfl rfl (d_op ev_eql (d_yes rfl rfl (d_call hv (fun _ => rfl) (d_ret rfl)))))

end Go.SE
