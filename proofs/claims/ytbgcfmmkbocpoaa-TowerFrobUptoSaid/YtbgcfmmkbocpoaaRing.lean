/- Commutative rings, powers, and that the power of a prime goes over sums, but for multiples of the prime. Plain mathematics. -/
import Derived.KernelRfl
namespace Go.Alg

class CR (α : Type) extends Add α, Mul α, Neg α, Zero α, One α where
  add_assoc : ∀ a b c : α, a + b + c = a + (b + c)
  add_comm : ∀ a b : α, a + b = b + a
  zero_add : ∀ a : α, 0 + a = a
  neg_add : ∀ a : α, -a + a = 0
  mul_assoc : ∀ a b c : α, a * b * c = a * (b * c)
  mul_comm : ∀ a b : α, a * b = b * a
  one_mul : ∀ a : α, 1 * a = a
  mul_add : ∀ a b c : α, a * (b + c) = a * b + a * c

instance : CR Int where
  add_assoc := Int.add_assoc
  add_comm := Int.add_comm
  zero_add := Int.zero_add
  neg_add := Int.add_left_neg
  mul_assoc := Int.mul_assoc
  mul_comm := Int.mul_comm
  one_mul := Int.one_mul
  mul_add := Int.mul_add

section
variable {α : Type} [CR α]
open CR

theorem add_zero (a : α) : a + 0 = a := by rw [add_comm, zero_add]
theorem add_mul (a b c : α) : (a + b) * c = a * c + b * c := by rw [mul_comm, mul_add, mul_comm c, mul_comm c]
theorem mul_one (a : α) : a * 1 = a := by rw [mul_comm, one_mul]
theorem add_left_cancel {a b c : α} (h : a + b = a + c) : b = c := by
  have h1 : -a + (a + b) = -a + (a + c) := by rw [h]
  rwa [← add_assoc, ← add_assoc, neg_add, zero_add, zero_add] at h1
theorem mul_zero (a : α) : a * 0 = 0 := by
  have h : a * 0 + a * 0 = a * 0 + 0 := by rw [← mul_add, zero_add, add_zero]
  exact add_left_cancel h
theorem zero_mul (a : α) : 0 * a = 0 := by rw [mul_comm, mul_zero]
theorem add_left_comm (a b c : α) : a + (b + c) = b + (a + c) := by rw [← add_assoc, add_comm a, add_assoc]
theorem mul_left_comm (a b c : α) : a * (b * c) = b * (a * c) := by rw [← mul_assoc, mul_comm a, mul_assoc]
theorem mul_right_comm (a b c : α) : a * b * c = a * c * b := by rw [mul_assoc, mul_comm b, ← mul_assoc]
theorem add_add_comm (a b c d : α) : (a + b) + (c + d) = (a + c) + (b + d) := by rw [add_assoc, add_assoc, add_left_comm b]
theorem mul_mul_comm (a b c d : α) : (a * b) * (c * d) = (a * c) * (b * d) := by rw [mul_assoc, mul_assoc, mul_left_comm b]

def pw (x : α) : Nat → α
  | 0 => 1
  | n + 1 => pw x n * x

def ns : Nat → α → α
  | 0, _ => 0
  | n + 1, x => ns n x + x

theorem ns_add (m n : Nat) (x : α) : ns (m + n) x = ns m x + ns n x := by
  induction n with
  | zero => rw [ns, add_zero, Nat.add_zero]
  | succ n ih => rw [← Nat.add_assoc, ns, ih, ns, add_assoc]
theorem ns_mul (n : Nat) (x y : α) : ns n x * y = ns n (x * y) := by
  induction n with
  | zero => rw [ns, ns, zero_mul]
  | succ n ih => rw [ns, ns, add_mul, ih]
theorem mul_ns (n : Nat) (x y : α) : x * ns n y = ns n (x * y) := by rw [mul_comm, ns_mul, mul_comm]
theorem ns_zero (n : Nat) : ns n (0 : α) = 0 := by
  induction n with
  | zero => rfl
  | succ n ih => rw [ns, ih, zero_add]
theorem ns_sum (n : Nat) (x y : α) : ns n (x + y) = ns n x + ns n y := by
  induction n with
  | zero => rw [ns, ns, ns, zero_add]
  | succ n ih => rw [ns, ns, ns, ih, add_add_comm]
theorem ns_ns (m n : Nat) (x : α) : ns (m * n) x = ns m (ns n x) := by
  induction m with
  | zero => rw [Nat.zero_mul]; rfl
  | succ m ih => rw [Nat.succ_mul, ns_add, ih, ns]
theorem ns_one (x : α) : ns 1 x = x := by rw [ns, ns, zero_add]

theorem pw_add (x : α) (m n : Nat) : pw x (m + n) = pw x m * pw x n := by
  induction n with
  | zero => rw [pw, mul_one, Nat.add_zero]
  | succ n ih => rw [← Nat.add_assoc, pw, ih, pw, mul_assoc]
theorem mul_pw (x y : α) (n : Nat) : pw (x * y) n = pw x n * pw y n := by
  induction n with
  | zero => rw [pw, pw, pw, mul_one]
  | succ n ih => rw [pw, pw, pw, ih, mul_mul_comm]
theorem pw_pw (x : α) (m n : Nat) : pw x (m * n) = pw (pw x m) n := by
  induction n with
  | zero => rw [Nat.mul_zero]; rfl
  | succ n ih => rw [Nat.mul_succ, pw_add, ih, pw]
theorem one_pw (n : Nat) : pw (1 : α) n = 1 := by
  induction n with
  | zero => rfl
  | succ n ih => rw [pw, ih, mul_one]
theorem pw_one (x : α) : pw x 1 = x := by rw [pw, pw, one_mul]
theorem zero_pw {n : Nat} (h : 0 < n) : pw (0 : α) n = 0 := by
  cases n with
  | zero => cases h
  | succ n => rw [pw, mul_zero]

/-! Binomials -/

def ch : Nat → Nat → Nat
  | _, 0 => 1
  | 0, _ + 1 => 0
  | n + 1, k + 1 => ch n k + ch n (k + 1)

theorem ch_succ (n k : Nat) : ch (n + 1) (k + 1) = ch n k + ch n (k + 1) := by rw [ch]

theorem ch_above : ∀ {n k : Nat}, n < k → ch n k = 0
  | 0, k + 1, _ => by rw [ch]
  | n + 1, k + 1, h => by rw [ch, ch_above (by omega), ch_above (by omega)]

theorem ch_self : ∀ n : Nat, ch n n = 1
  | 0 => by rw [ch]
  | n + 1 => by rw [ch, ch_self n, ch_above (Nat.lt_succ_self n)]

/-- (k + 1) of them is n + 1 of those with one less. -/
theorem ch_mul : ∀ (n k : Nat), (k + 1) * ch (n + 1) (k + 1) = (n + 1) * ch n k
  | 0, 0 => by simp [ch]
  | 0, k + 1 => by
    have h1 : ch (0 + 1) (k + 1 + 1) = ch 0 (k + 1) + ch 0 (k + 1 + 1) := ch_succ 0 (k + 1)
    rw [h1, ch_above (show 0 < k + 1 by omega), ch_above (show 0 < k + 1 + 1 by omega)]
    omega
  | n + 1, 0 => by
    have ih := ch_mul n 0
    have h0 : ch (n + 1 + 1) (0 + 1) = ch (n + 1) 0 + ch (n + 1) (0 + 1) := ch_succ (n + 1) 0
    have h1 : ch (n + 1) 0 = 1 := by rw [ch]
    have h2 : ch n 0 = 1 := by cases n <;> rw [ch]
    rw [h0, h1]
    rw [h2] at ih
    omega
  | n + 1, k + 1 => by
    have i1 := ch_mul n k
    have i2 := ch_mul n (k + 1)
    have h0 : ch (n + 1 + 1) (k + 1 + 1) = ch (n + 1) (k + 1) + ch (n + 1) (k + 1 + 1) := ch_succ (n + 1) (k + 1)
    rw [h0]
    have e : ch (n + 1) (k + 1) = ch n k + ch n (k + 1) := by rw [ch]
    generalize ch (n + 1) (k + 1 + 1) = u at *
    generalize ch (n + 1) (k + 1) = v at *
    rw [Nat.mul_add, i2]
    have h3 : (k + 1 + 1) * v = (k + 1) * v + v := by rw [Nat.add_mul, Nat.one_mul]
    rw [h3, i1]
    have h4 : (n + 1 + 1) * v = (n + 1) * v + v := by rw [Nat.add_mul, Nat.one_mul]
    rw [h4, e, Nat.mul_add]
    omega

def S (g : Nat → α) : Nat → α
  | 0 => 0
  | n + 1 => S g n + g n

theorem S_congr {g h : Nat → α} : ∀ {n : Nat}, (∀ k, k < n → g k = h k) → S g n = S h n
  | 0, _ => rfl
  | n + 1, e => by rw [S, S, S_congr fun k hk => e k (Nat.lt_succ_of_lt hk), e n (Nat.lt_succ_self n)]
theorem S_add (g h : Nat → α) : ∀ n, S (fun k => g k + h k) n = S g n + S h n
  | 0 => by rw [S, S, S, zero_add]
  | n + 1 => by rw [S, S, S, S_add g h n, add_add_comm]
theorem S_mul (g : Nat → α) (x : α) : ∀ n, S g n * x = S (fun k => g k * x) n
  | 0 => by rw [S, S, zero_mul]
  | n + 1 => by rw [S, S, add_mul, S_mul g x n]
theorem S_first (g : Nat → α) : ∀ n, S g (n + 1) = g 0 + S (fun k => g (k + 1)) n
  | 0 => by rw [S, S, S, zero_add, add_zero]
  | n + 1 => by rw [S, S_first g n, S, add_assoc]
theorem S_ns (m : Nat) (g : Nat → α) : ∀ n, S (fun k => ns m (g k)) n = ns m (S g n)
  | 0 => by rw [S, S, ns_zero]
  | n + 1 => by rw [S, S, S_ns m g n, ns_sum]

def term (x y : α) (n k : Nat) : α := ns (ch n k) (pw x k * pw y (n - k))

theorem binomial (x y : α) : ∀ n, pw (x + y) n = S (term x y n) (n + 1)
  | 0 => by
    rw [pw, S, S, zero_add, term, ch, ns_one, pw, pw, mul_one]
  | n + 1 => by
    have e1 : ∀ k, k < n + 1 → term x y n k * y = ns (ch n k) (pw x k * pw y (n + 1 - k)) := by
      intro k hk
      rw [term, ns_mul, mul_assoc, show n + 1 - k = (n - k) + 1 from by omega, pw]
    have e2 : ∀ k, k < n + 1 → term x y n k * x = ns (ch n k) (pw x (k + 1) * pw y (n - k)) := by
      intro k _
      rw [term, ns_mul, pw, mul_right_comm]
    have e3 : S (fun k => ns (ch n k) (pw x k * pw y (n + 1 - k))) (n + 1) = pw y (n + 1) + S (fun k => ns (ch n (k + 1)) (pw x (k + 1) * pw y (n - k))) (n + 1) := by
      rw [S_first]
      congr 1
      · have : ch n 0 = 1 := by cases n <;> rw [ch]
        rw [this, ns_one, pw, one_mul]
        rfl
      · rw [S, ch_above (Nat.lt_succ_self n), ns, add_zero]
        exact S_congr fun k _ => by rw [show n + 1 - (k + 1) = n - k from by omega]
    rw [pw, binomial x y n, mul_add, S_mul, S_mul, S_congr e1, S_congr e2, e3]
    rw [S_first (term x y (n + 1))]
    have e4 : term x y (n + 1) 0 = pw y (n + 1) := by rw [term, ch, ns_one, pw, one_mul]; rfl
    have e5 : S (fun k => term x y (n + 1) (k + 1)) (n + 1) = S (fun k => ns (ch n k) (pw x (k + 1) * pw y (n - k)) + ns (ch n (k + 1)) (pw x (k + 1) * pw y (n - k))) (n + 1) :=
      S_congr fun k _ => by rw [term, ch, ns_add, show n + 1 - (k + 1) = n - k from by omega]
    rw [e4, e5, S_add, add_left_comm]

/-! Primes -/

def Pr (p : Nat) : Prop := 2 ≤ p ∧ ∀ d, d ∣ p → d = 1 ∨ d = p

theorem Pr.coprime {p a : Nat} (hp : Pr p) (h : ¬ p ∣ a) : Nat.gcd p a = 1 := by
  rcases hp.2 _ (Nat.gcd_dvd_left p a) with h1 | h1
  · exact h1
  · exact (h (by rw [← h1]; exact Nat.gcd_dvd_right p a)).elim

theorem Pr.dvd_mul {p a b : Nat} (hp : Pr p) (h : p ∣ a * b) : p ∣ a ∨ p ∣ b := by
  by_cases ha : p ∣ a
  · exact .inl ha
  · exact .inr ((Nat.Coprime.dvd_of_dvd_mul_left (hp.coprime ha) h))

theorem Pr.ch_dvd {p k : Nat} (hp : Pr p) (hk : 0 < k) (hkp : k < p) : p ∣ ch p k := by
  obtain ⟨q, rfl⟩ : ∃ q, p = q + 1 := ⟨p - 1, by omega⟩
  obtain ⟨j, rfl⟩ : ∃ j, k = j + 1 := ⟨k - 1, by omega⟩
  have h : (q + 1) ∣ (j + 1) * ch (q + 1) (j + 1) := ⟨ch q j, ch_mul q j⟩
  rcases hp.dvd_mul h with h1 | h1
  · exact absurd (Nat.le_of_dvd (by omega) h1) (by omega)
  · exact h1

/-- The power of a prime goes over sums, but for a multiple of the prime. -/
theorem frob (x y : α) {p : Nat} (hp : Pr p) : ∃ z, pw (x + y) p = pw x p + pw y p + ns p z := by
  obtain ⟨q, hq⟩ : ∃ q, p = q + 2 := ⟨p - 2, by have := hp.1; omega⟩
  have h1 := binomial x y p
  rw [S] at h1
  have e1 : term x y p p = pw x p := by rw [term, ch_self, ns_one, Nat.sub_self, pw, mul_one]
  have e2 : S (term x y p) p = pw y p + S (fun k => term x y p (k + 1)) (p - 1) := by
    have : p = (p - 1) + 1 := by omega
    rw [this, S_first, ← this]
    congr 1
    rw [term]
    have : ch p 0 = 1 := by cases p <;> rw [ch]
    rw [this, ns_one, pw, one_mul]
    rfl
  have e3 : S (fun k => term x y p (k + 1)) (p - 1) = ns p (S (fun k => ns (ch p (k + 1) / p) (pw x (k + 1) * pw y (p - (k + 1)))) (p - 1)) := by
    rw [← S_ns]
    refine S_congr fun k hk => ?_
    rw [term, ← ns_ns, Nat.mul_div_cancel' (hp.ch_dvd (by omega) (by omega))]
  refine ⟨S (fun k => ns (ch p (k + 1) / p) (pw x (k + 1) * pw y (p - (k + 1)))) (p - 1), ?_⟩
  rw [h1, e1, e2, e3]
  generalize ns p (S (fun k => ns (ch p (k + 1) / p) (pw x (k + 1) * pw y (p - (k + 1)))) (p - 1)) = u
  rw [add_comm, add_assoc]

end
end Go.Alg
