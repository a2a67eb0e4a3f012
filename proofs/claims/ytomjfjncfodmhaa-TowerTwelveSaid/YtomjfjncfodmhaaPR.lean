/- Nothing of the statement is proved here: this text lays generic laws: PR; no conditions. -/
import Derived.Test.YtomjfjncfodmhaaFG
set_option linter.all false
set_option autoImplicit false
namespace Go.PR
def Prime (p : Nat) : Prop := 2 ≤ p ∧ ∀ d, d ∣ p → d = 1 ∨ d = p
theorem Prime.pos {p : Nat} (h : Prime p) : 0 < p := by have := h.1; omega
theorem Prime.dvd_mul {p a b : Nat} (hp : Prime p) (h : p ∣ a * b) : p ∣ a ∨ p ∣ b := by
  rcases hp.2 (Nat.gcd p a) (Nat.gcd_dvd_left p a) with h1 | h1
  · exact .inr (Nat.Coprime.dvd_of_dvd_mul_left h1 h)
  · exact .inl (h1 ▸ Nat.gcd_dvd_right p a)
theorem exists_prime {n : Nat} (h : 2 ≤ n) : ∃ p, Prime p ∧ p ∣ n := by
  induction n using Nat.strongRecOn with
  | ind n ih =>
    by_cases hp : Prime n
    · exact ⟨n, hp, Nat.dvd_refl n⟩
    · have : ∃ d, d ∣ n ∧ d ≠ 1 ∧ d ≠ n := by
        refine Classical.byContradiction fun hc => hp ⟨h, fun d hd => ?_⟩
        refine Classical.byContradiction fun hd2 => hc ⟨d, hd, ?_, ?_⟩
        · intro e; exact hd2 (.inl e)
        · intro e; exact hd2 (.inr e)
      obtain ⟨d, hd, h1, h2⟩ := this
      have hle := Nat.le_of_dvd (by omega) hd
      have h0 : d ≠ 0 := fun e => by subst e; have := Nat.eq_zero_of_zero_dvd hd; omega
      obtain ⟨p, hp, hpd⟩ := ih d (by omega) (by omega)
      exact ⟨p, hp, Nat.dvd_trans hpd hd⟩
theorem small_prime {n : Nat} (h : 2 ≤ n) (hn : ¬ Prime n) : ∃ p, Prime p ∧ p ∣ n ∧ p * p ≤ n := by
  have : ∃ d, d ∣ n ∧ d ≠ 1 ∧ d ≠ n := by
    refine Classical.byContradiction fun hc => hn ⟨h, fun d hd => ?_⟩
    refine Classical.byContradiction fun hd2 => hc ⟨d, hd, ?_, ?_⟩
    · intro e; exact hd2 (.inl e)
    · intro e; exact hd2 (.inr e)
  obtain ⟨d, ⟨c, hc⟩, h1, h2⟩ := this
  have h0 : d ≠ 0 := fun e => by subst e; simp at hc; omega
  have c0 : c ≠ 0 := fun e => by subst e; simp at hc; omega
  have c1 : c ≠ 1 := fun e => by subst e; simp at hc; omega
  rcases Nat.le_total d c with hdc | hdc
  · obtain ⟨p, hp, hpd⟩ := exists_prime (n := d) (by omega)
    have := Nat.le_of_dvd (by omega) hpd
    refine ⟨p, hp, Nat.dvd_trans hpd ⟨c, hc⟩, ?_⟩
    rw [hc]; exact Nat.mul_le_mul this (Nat.le_trans this hdc)
  · obtain ⟨p, hp, hpd⟩ := exists_prime (n := c) (by omega)
    have := Nat.le_of_dvd (by omega) hpd
    refine ⟨p, hp, Nat.dvd_trans hpd ⟨d, by rw [hc, Nat.mul_comm]⟩, ?_⟩
    rw [hc]; exact Nat.mul_le_mul (Nat.le_trans this hdc) this
def prod (f : Nat → Nat) : Nat → Nat
  | 0 => 1
  | n + 1 => prod f n * f (n + 1)
theorem prod_congr {f g : Nat → Nat} {n : Nat} (h : ∀ i, 1 ≤ i → i ≤ n → f i = g i) : prod f n = prod g n := by
  induction n with
  | zero => rfl
  | succ n ih => rw [prod, prod, ih (fun i h1 h2 => h i h1 (by omega)), h (n + 1) (by omega) (Nat.le_refl _)]
theorem prod_swap {f g : Nat → Nat} {n k : Nat} (hk : 1 ≤ k) (hkn : k ≤ n) (h : ∀ i, 1 ≤ i → i ≤ n → i ≠ k → f i = g i) : prod f n * g k = prod g n * f k := by
  induction n with
  | zero => omega
  | succ n ih =>
    by_cases e : k = n + 1
    · subst e
      rw [prod, prod, prod_congr (f := f) (g := g) (fun i h1 h2 => h i h1 (by omega) (by omega))]
      rw [Nat.mul_assoc, Nat.mul_assoc, Nat.mul_comm (f (n + 1))]
    · rw [prod, prod, h (n + 1) (by omega) (Nat.le_refl _) (fun e' => e e'.symm)]
      have := ih (by omega) (fun i h1 h2 h3 => h i h1 (by omega) h3)
      rw [Nat.mul_right_comm, this, Nat.mul_right_comm]
theorem perm_prod : ∀ (n : Nat) (f : Nat → Nat), (∀ i, 1 ≤ i → i ≤ n → 1 ≤ f i ∧ f i ≤ n) → (∀ i j, 1 ≤ i → i ≤ n → 1 ≤ j → j ≤ n → f i = f j → i = j) →
    (∀ y, 1 ≤ y → y ≤ n → ∃ i, 1 ≤ i ∧ i ≤ n ∧ f i = y) ∧ prod f n = prod (fun i => i) n := by
  intro n
  induction n with
  | zero => exact fun f _ _ => ⟨fun y h1 h2 => by omega, rfl⟩
  | succ n ih =>
    intro f hr hi
    by_cases e : f (n + 1) = n + 1
    · have hr' : ∀ i, 1 ≤ i → i ≤ n → 1 ≤ f i ∧ f i ≤ n := fun i h1 h2 => by
        have a := hr i h1 (by omega)
        have : f i ≠ n + 1 := fun h => by have := hi i (n + 1) h1 (by omega) (by omega) (Nat.le_refl _) (by rw [h, e]); omega
        omega
      obtain ⟨s, p⟩ := ih f hr' (fun i j a b c d h => hi i j a (by omega) c (by omega) h)
      refine ⟨fun y h1 h2 => ?_, by rw [prod, prod, p, e]⟩
      by_cases hy : y = n + 1
      · exact ⟨n + 1, by omega, Nat.le_refl _, by rw [e, hy]⟩
      · obtain ⟨i, a, b, c⟩ := s y h1 (by omega)
        exact ⟨i, a, by omega, c⟩
    · have hz := hr (n + 1) (by omega) (Nat.le_refl _)
      have hg : ∀ i, 1 ≤ i → i ≤ n → 1 ≤ (if f i = n + 1 then f (n + 1) else f i) ∧ (if f i = n + 1 then f (n + 1) else f i) ≤ n := fun i h1 h2 => by
        have a := hr i h1 (by omega)
        split <;> omega
      have hgi : ∀ i j, 1 ≤ i → i ≤ n → 1 ≤ j → j ≤ n → (if f i = n + 1 then f (n + 1) else f i) = (if f j = n + 1 then f (n + 1) else f j) → i = j := fun i j a b c d h => by
        split at h <;> split at h
        · rename_i h1 h2; exact hi i j a (by omega) c (by omega) (by rw [h1, h2])
        · have := hi (n + 1) j (by omega) (Nat.le_refl _) c (by omega) h; omega
        · have := hi i (n + 1) a (by omega) (by omega) (Nat.le_refl _) h; omega
        · exact hi i j a (by omega) c (by omega) h
      obtain ⟨s, p⟩ := ih (fun i => if f i = n + 1 then f (n + 1) else f i) hg hgi
      obtain ⟨k, k1, k2, k3⟩ := s (f (n + 1)) hz.1 (by omega)
      have hk : f k = n + 1 := by
        refine Classical.byContradiction fun hk => ?_
        rw [if_neg hk] at k3
        have := hi k (n + 1) k1 (by omega) (by omega) (Nat.le_refl _) k3
        omega
      refine ⟨fun y h1 h2 => ?_, ?_⟩
      · by_cases hy : y = n + 1
        · exact ⟨k, k1, by omega, by rw [hk, hy]⟩
        · by_cases hy2 : y = f (n + 1)
          · exact ⟨n + 1, by omega, Nat.le_refl _, hy2.symm⟩
          · obtain ⟨i, a, b, c⟩ := s y h1 (by omega)
            split at c
            · exact absurd c.symm hy2
            · exact ⟨i, a, by omega, c⟩
      · have := prod_swap (f := f) (g := fun i => if f i = n + 1 then f (n + 1) else f i) k1 k2 (fun i a b c => by
          have : f i ≠ n + 1 := fun h => c (hi i k a (by omega) k1 (by omega) (by rw [h, hk]))
          simp only [if_neg this])
        simp only [if_pos hk] at this
        rw [p, hk] at this
        rw [prod, prod, this]
theorem prod_mod {f g : Nat → Nat} {n p : Nat} (h : ∀ i, f i % p = g i % p) : prod f n % p = prod g n % p := by
  induction n with
  | zero => rfl
  | succ n ih => rw [prod, prod, Nat.mul_mod, ih, h, ← Nat.mul_mod]
theorem prod_mul {a n : Nat} : prod (fun i => a * i) n = a ^ n * prod (fun i => i) n := by
  induction n with
  | zero => rfl
  | succ n ih =>
    rw [prod, prod, ih, Nat.pow_succ, Nat.mul_assoc, Nat.mul_assoc]
    congr 1
    rw [← Nat.mul_assoc, ← Nat.mul_assoc, Nat.mul_comm (prod _ n)]
theorem not_dvd_fact {p n : Nat} (hp : Prime p) (h : n < p) : ¬ p ∣ prod (fun i => i) n := by
  induction n with
  | zero => intro hd; have h1 : p ∣ 1 := hd; have := Nat.le_of_dvd (by decide) h1; have := hp.1; omega
  | succ n ih =>
    intro hd
    rcases hp.dvd_mul hd with h1 | h1
    · exact ih (by omega) h1
    · have h1 : p ∣ n + 1 := h1
      have := Nat.le_of_dvd (by omega) h1; omega
theorem sub_dvd_of_mod_eq {a b p : Nat} (h : a % p = b % p) (_ : b ≤ a) : p ∣ a - b := (Nat.dvd_iff_mod_eq_zero).2 (by rw [Nat.sub_mod_eq_zero_of_mod_eq h])
theorem fermat {p a : Nat} (hp : Prime p) (ha : ¬ p ∣ a) : a ^ (p - 1) % p = 1 := by
  have h2 := hp.1
  have hmod : ∀ i, 1 ≤ i → i ≤ p - 1 → 1 ≤ a * i % p ∧ a * i % p ≤ p - 1 := fun i h1 h3 => by
    have hlt := Nat.mod_lt (a * i) hp.pos
    refine ⟨Nat.pos_of_ne_zero fun h0 => ?_, by omega⟩
    rcases hp.dvd_mul (Nat.dvd_of_mod_eq_zero h0) with h | h
    · exact ha h
    · have := Nat.le_of_dvd (by omega) h; omega
  have hinj : ∀ i j, 1 ≤ i → i ≤ p - 1 → 1 ≤ j → j ≤ p - 1 → a * i % p = a * j % p → i = j := by
    have one : ∀ i j, i ≤ j → 1 ≤ i → j ≤ p - 1 → a * i % p = a * j % p → i = j := fun i j hij h1 h3 h => by
      have hd := sub_dvd_of_mod_eq h.symm (Nat.mul_le_mul_left a hij)
      rw [← Nat.mul_sub] at hd
      rcases hp.dvd_mul hd with h4 | h4
      · exact absurd h4 ha
      · rcases Nat.eq_zero_or_pos (j - i) with h5 | h5
        · omega
        · have := Nat.le_of_dvd h5 h4; omega
    intro i j a1 a2 b1 b2 h
    rcases Nat.le_total i j with hij | hij
    · exact one i j hij a1 b2 h
    · exact (one j i hij b1 a2 h.symm).symm
  have hperm := (perm_prod (p - 1) (fun i => a * i % p) hmod hinj).2
  have h3 : prod (fun i => a * i % p) (p - 1) % p = prod (fun i => a * i) (p - 1) % p := prod_mod fun i => Nat.mod_mod _ _
  rw [hperm, prod_mul] at h3
  have hF := not_dvd_fact hp (n := p - 1) (by omega)
  have hpos : 0 < a := Nat.pos_of_ne_zero fun e => ha (e ▸ Nat.dvd_zero p)
  have hle : prod (fun i => i) (p - 1) ≤ a ^ (p - 1) * prod (fun i => i) (p - 1) := Nat.le_mul_of_pos_left _ (Nat.pow_pos hpos)
  have hd := sub_dvd_of_mod_eq h3.symm hle
  have e : a ^ (p - 1) * prod (fun i => i) (p - 1) - prod (fun i => i) (p - 1) = (a ^ (p - 1) - 1) * prod (fun i => i) (p - 1) := by rw [Nat.sub_mul, Nat.one_mul]
  rw [e] at hd
  rcases hp.dvd_mul hd with h4 | h4
  · obtain ⟨c, hc⟩ := h4
    have : a ^ (p - 1) = 1 + p * c := by have := Nat.pow_pos (n := p - 1) hpos; omega
    rw [this, Nat.add_mul_mod_self_left, Nat.mod_eq_of_lt (by omega)]
  · exact absurd h4 hF
def pw (m : Nat) : Nat → Nat → Nat → Nat
  | 0, _, _ => 1 % m
  | k + 1, a, e => if e = 0 then 1 % m else if e % 2 = 1 then a * pw m k (a * a % m) (e / 2) % m else pw m k (a * a % m) (e / 2)
theorem pw_eq {m k a e : Nat} (h : e < 2 ^ k) : pw m k a e = a ^ e % m := by
  induction k generalizing a e with
  | zero => have : e = 0 := by simp at h; exact h
            subst this; rfl
  | succ k ih =>
    unfold pw
    by_cases h0 : e = 0
    · subst h0; simp
    · have h2 : e / 2 < 2 ^ k := by rw [Nat.pow_succ] at h; omega
      have hsq : (a * a % m) ^ (e / 2) % m = a ^ (2 * (e / 2)) % m := by rw [← Nat.pow_mod, ← Nat.pow_two, ← Nat.pow_mul]
      rw [if_neg h0, ih h2]
      split
      · rename_i h1
        rw [hsq, Nat.mul_mod, Nat.mod_mod, ← Nat.mul_mod, ← Nat.pow_succ']
        congr 2; omega
      · rw [hsq]; congr 2; omega
theorem dvd_pow_pred {q e m g : Nat} (hq : Prime q) : g ∣ q ^ (e + 1) * m → ¬ q ^ (e + 1) ∣ g → g ∣ q ^ e * m := by
  induction e generalizing g with
  | zero =>
    intro h hn
    rw [Nat.pow_zero, Nat.one_mul]
    rw [Nat.zero_add, Nat.pow_one] at h hn
    refine Nat.Coprime.dvd_of_dvd_mul_left ?_ h
    rcases hq.2 (Nat.gcd q g) (Nat.gcd_dvd_left q g) with h1 | h1
    · rw [Nat.coprime_comm]; exact h1
    · exact absurd (h1 ▸ Nat.gcd_dvd_right q g) hn
  | succ e ih =>
    intro h hn
    by_cases hd : q ∣ g
    · obtain ⟨c, rfl⟩ := hd
      have hq0 := hq.pos
      have h1 : c ∣ q ^ (e + 1) * m := by
        rw [Nat.pow_succ, Nat.mul_comm (q ^ (e + 1)) q, Nat.mul_assoc] at h
        exact Nat.dvd_of_mul_dvd_mul_left hq0 h
      have h2 : ¬ q ^ (e + 1) ∣ c := fun h3 => hn (by rw [Nat.pow_succ, Nat.mul_comm]; exact Nat.mul_dvd_mul_left q h3)
      have := ih h1 h2
      rw [Nat.pow_succ, Nat.mul_comm (q ^ e) q, Nat.mul_assoc]
      exact Nat.mul_dvd_mul_left q this
    · have hc : Nat.Coprime g q := by
        rcases hq.2 (Nat.gcd q g) (Nat.gcd_dvd_left q g) with h1 | h1
        · rw [Nat.coprime_comm]; exact h1
        · exact absurd (h1 ▸ Nat.gcd_dvd_right q g) hd
      rw [Nat.pow_succ, Nat.mul_comm (q ^ (e + 1)) q, Nat.mul_assoc] at h
      exact Nat.Coprime.dvd_of_dvd_mul_left hc h
theorem pow_gcd {a r : Nat} (hr : 1 < r) : ∀ (x y : Nat), a ^ x % r = 1 → a ^ y % r = 1 → a ^ Nat.gcd x y % r = 1 := by
  intro x y
  induction x, y using Nat.gcd.induction with
  | H0 y => intro _ h; rw [Nat.gcd_zero_left]; exact h
  | H1 x y hx ih =>
    intro h1 h2
    rw [Nat.gcd_rec]
    refine ih ?_ h1
    have e : y = x * (y / x) + y % x := (Nat.div_add_mod y x).symm
    rw [e, Nat.pow_add, Nat.mul_mod, Nat.pow_mul, Nat.pow_mod (a ^ x), h1, Nat.one_pow, Nat.mod_eq_of_lt hr, Nat.one_mul, Nat.mod_mod] at h2
    exact h2
theorem pow_one_mul {a r x k : Nat} (hr : 1 < r) (h : a ^ x % r = 1) : a ^ (x * k) % r = 1 := by
  rw [Nat.pow_mul, Nat.pow_mod, h, Nat.one_pow, Nat.mod_eq_of_lt hr]
theorem pock_step {n q a r m : Nat} (hq : Prime q) (hr : Prime r) (hrn : r ∣ n) (hn : n - 1 = q * m) (h1 : a ^ (n - 1) % n = 1) (h2 : Nat.gcd (a ^ m - 1) n = 1) (ha : 0 < a) : q ∣ r - 1 := by
  have hr1 : 1 < r := hr.1
  have g1 : a ^ (n - 1) % r = 1 := by
    have := Nat.mod_mod_of_dvd (a ^ (n - 1)) hrn
    rw [h1, Nat.mod_eq_of_lt hr1] at this
    exact this.symm
  have hm0 : n - 1 ≠ 0 := fun e => by
    have : n ≠ 0 := fun e0 => by subst e0; rw [Nat.mod_zero] at h1; simp at h1; rw [Nat.gcd_zero_right] at h2
                                 have : m = 0 := by
                                   rcases Nat.mul_eq_zero.1 hn.symm with h | h
                                   · have := hq.pos; omega
                                   · exact h
                                 subst this; simp at h2
    have : n = 1 := by omega
    subst this
    have := Nat.le_of_dvd (by decide) hrn; omega
  have hra : ¬ r ∣ a := fun hd => by
    have : r ∣ a ^ (n - 1) := Nat.dvd_trans hd (by obtain ⟨c, hc⟩ := Nat.exists_eq_succ_of_ne_zero hm0; rw [hc, Nat.pow_succ]; exact Nat.dvd_mul_left a _)
    have := Nat.mod_eq_zero_of_dvd this
    omega
  have g2 := fermat hr hra
  have g3 := pow_gcd hr1 _ _ g1 g2
  refine Classical.byContradiction fun hnd => ?_
  have hg : Nat.gcd (n - 1) (r - 1) ∣ m := by
    have hd : Nat.gcd (n - 1) (r - 1) ∣ q ^ (0 + 1) * m := by rw [Nat.zero_add, Nat.pow_one, ← hn]; exact Nat.gcd_dvd_left _ _
    have := dvd_pow_pred hq hd (fun h => hnd (by rw [Nat.zero_add, Nat.pow_one] at h; exact Nat.dvd_trans h (Nat.gcd_dvd_right _ _)))
    rwa [Nat.pow_zero, Nat.one_mul] at this
  obtain ⟨k, hk⟩ := hg
  have g4 : a ^ m % r = 1 := by rw [hk]; exact pow_one_mul hr1 g3
  have g5 : r ∣ a ^ m - 1 := sub_dvd_of_mod_eq (by rw [g4, Nat.mod_eq_of_lt hr1]) (Nat.pow_pos ha)
  have := Nat.dvd_gcd g5 hrn
  rw [h2] at this
  have := Nat.le_of_dvd (by decide) this
  omega
theorem gcd_pred {a m n w : Nat} (hw : a ^ m % n = w) (h1 : 1 ≤ w) : Nat.gcd (a ^ m - 1) n = Nat.gcd (w - 1) n := by
  have e : a ^ m - 1 = n * (a ^ m / n) + (w - 1) := by have := Nat.div_add_mod (a ^ m) n; omega
  rw [e, Nat.gcd_comm, Nat.gcd_mul_left_add_right, Nat.gcd_comm]
def chk (n : Nat) (x : Nat × Nat) : Bool :=
  decide (x.1 * ((n - 1) / x.1) = n - 1) && decide (pw n 300 x.2 (n - 1) = 1) && decide (1 ≤ pw n 300 x.2 ((n - 1) / x.1)) && decide (Nat.gcd (pw n 300 x.2 ((n - 1) / x.1) - 1) n = 1) && decide (0 < x.2)
def prods : List (Nat × Nat) → Nat
  | [] => 1
  | x :: l => x.1 * prods l
def apart : List (Nat × Nat) → Bool
  | [] => true
  | x :: l => l.all (fun y => decide (x.1 ≠ y.1)) && apart l
def cert (n : Nat) (qs : List (Nat × Nat)) : Bool := decide (2 ≤ n) && decide (n < 2 ^ 300) && decide (n ≤ prods qs * prods qs) && apart qs && qs.all (chk n)
theorem coprime_prods {q : Nat} (hq : Prime q) : ∀ {l : List (Nat × Nat)}, (∀ y ∈ l, Prime y.1) → (∀ y ∈ l, q ≠ y.1) → Nat.Coprime q (prods l)
  | [], _, _ => Nat.coprime_one_right q
  | y :: l, hp, hne => by
    refine Nat.Coprime.mul_right ?_ (coprime_prods hq (fun z hz => hp z (by simp [hz])) (fun z hz => hne z (by simp [hz])))
    rcases hq.2 (Nat.gcd q y.1) (Nat.gcd_dvd_left q _) with h | h
    · exact h
    · have h2 : q ∣ y.1 := h ▸ Nat.gcd_dvd_right q y.1
      rcases (hp y (by simp)).2 q h2 with h3 | h3
      · have := hq.1; omega
      · exact absurd h3 (hne y (by simp))
theorem prods_dvd {k : Nat} : ∀ {l : List (Nat × Nat)}, apart l = true → (∀ y ∈ l, Prime y.1 ∧ y.1 ∣ k) → prods l ∣ k
  | [], _, _ => Nat.one_dvd k
  | x :: l, ha, h => by
    simp only [apart, Bool.and_eq_true, List.all_eq_true, decide_eq_true_eq] at ha
    exact Nat.Coprime.mul_dvd_of_dvd_of_dvd (coprime_prods (h x (by simp)).1 (fun y hy => (h y (by simp [hy])).1) ha.1) (h x (by simp)).2 (prods_dvd ha.2 fun y hy => h y (by simp [hy]))
theorem prime_of_cert {n : Nat} {qs : List (Nat × Nat)} (h : cert n qs = true) (hp : ∀ x ∈ qs, Prime x.1) : Prime n := by
  simp only [cert, Bool.and_eq_true, List.all_eq_true, decide_eq_true_eq] at h
  obtain ⟨⟨⟨⟨h2, hlt⟩, hF⟩, hap⟩, hall⟩ := h
  refine Classical.byContradiction fun hn => ?_
  obtain ⟨r, hr, hrn, hrr⟩ := small_prime h2 hn
  have hd : prods qs ∣ r - 1 := by
    refine prods_dvd hap fun y hy => ⟨hp y hy, ?_⟩
    have hc := hall y hy
    simp only [chk, Bool.and_eq_true, decide_eq_true_eq] at hc
    obtain ⟨⟨⟨⟨c1, c2⟩, c3⟩, c4⟩, c5⟩ := hc
    rw [pw_eq (by omega)] at c2
    have hlt2 : (n - 1) / y.1 < 2 ^ 300 := Nat.lt_of_le_of_lt (Nat.div_le_self _ _) (by omega)
    rw [pw_eq hlt2] at c3 c4
    exact pock_step (hp y hy) hr hrn c1.symm c2 (by rw [gcd_pred rfl c3]; exact c4) c5
  have hr1 := hr.1
  have := Nat.le_of_dvd (by omega) hd
  have h3 : (prods qs + 1) * (prods qs + 1) ≤ r * r := Nat.mul_le_mul (by omega) (by omega)
  have h4 : (prods qs + 1) * (prods qs + 1) = prods qs * prods qs + prods qs + prods qs + 1 := by
    rw [Nat.add_mul, Nat.mul_add, Nat.one_mul, Nat.mul_one]; omega
  omega
def trial (n : Nat) : Nat → Bool
  | 0 => true
  | 1 => true
  | d + 2 => decide (n % (d + 2) ≠ 0) && trial n (d + 1)
theorem trial_spec {n : Nat} : ∀ {k : Nat}, trial n k = true → ∀ d, 2 ≤ d → d ≤ k → ¬ d ∣ n
  | 0, _, d, h1, h2 => by omega
  | 1, _, d, h1, h2 => by omega
  | k + 2, h, d, h1, h2 => by
    simp only [trial, Bool.and_eq_true, decide_eq_true_eq] at h
    by_cases e : d = k + 2
    · subst e; exact fun hd => h.1 (Nat.mod_eq_zero_of_dvd hd)
    · exact trial_spec h.2 d h1 (by omega)
theorem prime_of_trial {n k : Nat} (h : (decide (2 ≤ n) && decide (n < (k + 1) * (k + 1)) && trial n k) = true) : Prime n := by
  simp only [Bool.and_eq_true, decide_eq_true_eq] at h
  refine Classical.byContradiction fun hn => ?_
  obtain ⟨r, hr, hrn, hrr⟩ := small_prime h.1.1 hn
  have hrk : r ≤ k := by
    refine Nat.le_of_not_lt fun hlt => ?_
    have := Nat.mul_le_mul (show k + 1 ≤ r from hlt) (show k + 1 ≤ r from hlt)
    omega
  exact trial_spec h.2 r hr.1 hrk hrn
end Go.PR
set_option autoImplicit false
set_option maxRecDepth 100000
set_option exponentiation.threshold 5000
namespace Go.PR
theorem pr_19 : Prime 19 := prime_of_trial (k := 5) (by decide +kernel)
theorem pr_3557 : Prime 3557 := prime_of_trial (k := 60) (by decide +kernel)
theorem pr_911 : Prime 911 := prime_of_trial (k := 31) (by decide +kernel)
theorem pr_1263766531 : Prime 1263766531 := prime_of_cert (qs := [(3557, 2), (911, 2)]) (by decide +kernel) (by
  intro x hx
  simp only [List.mem_cons, List.not_mem_nil, or_false] at hx
  rcases hx with rfl | rfl
  · exact pr_3557
  · exact pr_911)
theorem pr_35385462869 : Prime 35385462869 := prime_of_cert (qs := [(1263766531, 2)]) (by decide +kernel) (by
  intro x hx
  simp only [List.mem_cons, List.not_mem_nil, or_false] at hx
  rcases hx with rfl
  · exact pr_1263766531)
theorem pr_2480874801745591 : Prime 2480874801745591 := prime_of_cert (qs := [(35385462869, 2)]) (by decide +kernel) (by
  intro x hx
  simp only [List.mem_cons, List.not_mem_nil, or_false] at hx
  rcases hx with rfl
  · exact pr_35385462869)
theorem pr_271 : Prime 271 := prime_of_trial (k := 17) (by decide +kernel)
theorem pr_1853641 : Prime 1853641 := prime_of_cert (qs := [(271, 2), (19, 2)]) (by decide +kernel) (by
  intro x hx
  simp only [List.mem_cons, List.not_mem_nil, or_false] at hx
  rcases hx with rfl | rfl
  · exact pr_271
  · exact pr_19)
theorem pr_13427688667394608761327070753331941386769 : Prime 13427688667394608761327070753331941386769 := prime_of_cert (qs := [(2480874801745591, 2), (1853641, 2)]) (by decide +kernel) (by
  intro x hx
  simp only [List.mem_cons, List.not_mem_nil, or_false] at hx
  rcases hx with rfl | rfl
  · exact pr_2480874801745591
  · exact pr_1853641)
theorem prime_base : Prime 21888242871839275222246405745257275088696311157297823662689037894645226208583 := prime_of_cert (qs := [(13427688667394608761327070753331941386769, 2)]) (by decide +kernel) (by
  intro x hx
  simp only [List.mem_cons, List.not_mem_nil, or_false] at hx
  rcases hx with rfl
  · exact pr_13427688667394608761327070753331941386769)
end Go.PR
set_option autoImplicit false
set_option maxRecDepth 8000
set_option maxHeartbeats 2000000
set_option exponentiation.threshold 5000
namespace Go.SE
open Go
variable {P : Program} {R : AEnd → Prop}
abbrev pBase : Nat := 21888242871839275222246405745257275088696311157297823662689037894645226208583
def fBase : AV := FP pBase 9786893198990664585 (W256 * W256 % pBase)
theorem ok_base : Fok pBase 9786893198990664585 (W256 * W256 % pBase) := ⟨by decide, by decide, by decide, by decide, rfl⟩
section
variable {m a b : Nat}
theorem not_dvd_mod (h : a % m ≠ 0) : ¬ m ∣ a % m := fun hd => h (by rw [← Nat.mod_eq_zero_of_dvd hd, Nat.mod_mod])
theorem inv_ok (hp : PR.Prime m) (h3 : 3 ≤ m) (h : a % m ≠ 0) : a % m * invM m a % m = 1 := by
  have := PR.fermat hp (not_dvd_mod h)
  unfold invM
  rw [Nat.mul_mod, Nat.mod_mod, Nat.mod_mod, Nat.mul_mod_mod, ← Nat.pow_succ', show (m - 2).succ = m - 1 by omega]
  exact this
theorem aInv_ne (hp : PR.Prime m) (h3 : 3 ≤ m) (h : a % m ≠ 0) : aInv m a = (invM m a, true) := by unfold aInv; rw [if_pos (inv_ok hp h3 h)]
theorem aInv_zero (h : a % m = 0) : aInv m a = (0, false) := by
  unfold aInv
  rw [if_neg]
  rw [h, Nat.zero_mul, Nat.zero_mod]; decide
end
theorem odd_pow {a b m : Nat} (h : (a + b) % m = 0) : ∀ k, (a ^ (2 * k + 1) + b ^ (2 * k + 1)) % m = 0
  | 0 => by simpa using h
  | k + 1 => by
    have ih := odd_pow h k
    obtain ⟨c, hc⟩ := Nat.dvd_of_mod_eq_zero h
    obtain ⟨d, hd⟩ := Nat.dvd_of_mod_eq_zero ih
    have key : ((a : Int) ^ (2 * (k + 1) + 1) + (b : Int) ^ (2 * (k + 1) + 1)) = (m : Int) * ((c : Int) * ((a : Int) ^ (2 * k + 2) + (b : Int) ^ (2 * k + 2)) - (a : Int) * (b : Int) * (d : Int)) := by
      have hc' : (a : Int) + (b : Int) = (m : Int) * (c : Int) := by exact_mod_cast hc
      have hd' : (a : Int) ^ (2 * k + 1) + (b : Int) ^ (2 * k + 1) = (m : Int) * (d : Int) := by exact_mod_cast hd
      have e1 : ∀ x : Int, x ^ (2 * (k + 1) + 1) = x ^ (2 * k + 1) * x * x := fun x => by rw [show 2 * (k + 1) + 1 = 2 * k + 1 + 1 + 1 by omega, Int.pow_succ, Int.pow_succ]
      have e2 : ∀ x : Int, x ^ (2 * k + 2) = x ^ (2 * k + 1) * x := fun x => by rw [show 2 * k + 2 = 2 * k + 1 + 1 by omega, Int.pow_succ]
      rw [e1, e1, e2, e2]
      generalize (a : Int) ^ (2 * k + 1) = p at *
      generalize (b : Int) ^ (2 * k + 1) = q at *
      grind
    have : ((a ^ (2 * (k + 1) + 1) + b ^ (2 * (k + 1) + 1) : Nat) : Int) % (m : Int) = 0 := by
      have e : ((a ^ (2 * (k + 1) + 1) + b ^ (2 * (k + 1) + 1) : Nat) : Int) = (a : Int) ^ (2 * (k + 1) + 1) + (b : Int) ^ (2 * (k + 1) + 1) := by simp
      rw [e, key, Int.mul_emod_right]
    exact_mod_cast this
section
variable {m a : Nat}
end
end Go.SE
