/- Fermat's theorem, and that a number is prime by a certificate. Plain mathematics. -/
import Derived.Test.YtbgcfmmkbocpoaaRing
namespace Go.Alg

theorem pw_int (x : Int) : ∀ n, pw x n = x ^ n
  | 0 => by rw [pw, Int.pow_zero]
  | n + 1 => by rw [pw, pw_int x n, Int.pow_succ]

theorem ns_int (n : Nat) (x : Int) : ns n x = n * x := by
  induction n with
  | zero => simp [ns]
  | succ n ih =>
    rw [ns, ih]
    rw [show ((n + 1 : Nat) : Int) = (n : Int) + 1 from by omega, Int.add_mul, Int.one_mul]

theorem frob_int (x y : Int) {p : Nat} (hp : Pr p) : ∃ z : Int, (x + y) ^ p = x ^ p + y ^ p + p * z := by
  obtain ⟨z, h⟩ := frob x y hp
  rw [pw_int, pw_int, pw_int, ns_int] at h
  exact ⟨z, h⟩

theorem fermat_nat {p : Nat} (hp : Pr p) : ∀ a : Nat, ∃ z : Int, ((a : Int)) ^ p = a + p * z
  | 0 => ⟨0, by
    have := hp.1
    rw [show ((0 : Nat) : Int) = 0 from rfl, Int.zero_pow (by omega)]
    omega⟩
  | a + 1 => by
    obtain ⟨z, hz⟩ := fermat_nat hp a
    obtain ⟨u, hu⟩ := frob_int (a : Int) 1 hp
    refine ⟨z + u, ?_⟩
    rw [show ((a + 1 : Nat) : Int) = (a : Int) + 1 from by omega, hu, hz, Int.one_pow, Int.mul_add]
    omega

/-- Congruent numbers. -/
def Cg (m a b : Int) : Prop := a % m = b % m

theorem Cg.refl (m a : Int) : Cg m a a := rfl
theorem Cg.symm {m a b : Int} (h : Cg m a b) : Cg m b a := Eq.symm h
theorem Cg.trans {m a b c : Int} (h : Cg m a b) (k : Cg m b c) : Cg m a c := Eq.trans h k
theorem cg_iff {m a b : Int} : Cg m a b ↔ ∃ k, a = b + m * k := by
  constructor
  · intro h
    refine ⟨a / m - b / m, ?_⟩
    have h1 := Int.emod_add_mul_ediv a m
    have h2 := Int.emod_add_mul_ediv b m
    rw [show a % m = b % m from h] at h1
    rw [Int.mul_sub]
    omega
  · rintro ⟨k, rfl⟩
    exact Int.add_mul_emod_self_left ..
theorem Cg.add {m a b c d : Int} (h : Cg m a b) (k : Cg m c d) : Cg m (a + c) (b + d) := by
  obtain ⟨x, rfl⟩ := cg_iff.1 h
  obtain ⟨y, rfl⟩ := cg_iff.1 k
  refine cg_iff.2 ⟨x + y, ?_⟩
  rw [Int.mul_add]
  omega
theorem Cg.mul {m a b c d : Int} (h : Cg m a b) (k : Cg m c d) : Cg m (a * c) (b * d) := by
  obtain ⟨x, rfl⟩ := cg_iff.1 h
  obtain ⟨y, rfl⟩ := cg_iff.1 k
  refine cg_iff.2 ⟨x * d + b * y + m * x * y, ?_⟩
  grind
theorem Cg.neg {m a b : Int} (h : Cg m a b) : Cg m (-a) (-b) := by
  obtain ⟨x, rfl⟩ := cg_iff.1 h
  exact cg_iff.2 ⟨-x, by grind⟩
theorem Cg.sub {m a b c d : Int} (h : Cg m a b) (k : Cg m c d) : Cg m (a - c) (b - d) := by
  rw [Int.sub_eq_add_neg, Int.sub_eq_add_neg]
  exact h.add k.neg
theorem Cg.pow {m a b : Int} (h : Cg m a b) : ∀ n : Nat, Cg m (a ^ n) (b ^ n)
  | 0 => by rw [Int.pow_zero, Int.pow_zero]; exact Cg.refl _ _
  | n + 1 => by rw [Int.pow_succ, Int.pow_succ]; exact (h.pow n).mul h
theorem cg_mod (m a : Int) : Cg m (a % m) a := Int.emod_emod ..
theorem cg_zero {m a : Int} : Cg m a 0 ↔ m ∣ a := by
  constructor
  · intro h
    obtain ⟨k, hk⟩ := cg_iff.1 h
    exact ⟨k, by omega⟩
  · rintro ⟨k, rfl⟩
    exact cg_iff.2 ⟨k, by omega⟩
theorem cg_sub {m a b : Int} : Cg m a b ↔ m ∣ a - b := by
  rw [← cg_zero]
  constructor
  · intro h
    have := h.sub (Cg.refl m b)
    rwa [Int.sub_self] at this
  · intro h
    have := h.add (Cg.refl m b)
    rwa [Int.sub_add_cancel, Int.zero_add] at this

theorem fermat {p : Nat} (hp : Pr p) (a : Int) : Cg p (a ^ p) a := by
  have hp2 := hp.1
  have h0 : 0 ≤ a % p := Int.emod_nonneg _ (by omega)
  obtain ⟨b, hb⟩ := Int.eq_ofNat_of_zero_le h0
  obtain ⟨z, hz⟩ := fermat_nat hp b
  have h1 : Cg p a b := by rw [← hb]; exact (cg_mod _ _).symm
  exact (h1.pow p).trans ((cg_iff.2 ⟨z, hz⟩ : Cg p ((b : Int) ^ p) b).trans h1.symm)

theorem Pr.int_dvd {p : Nat} (hp : Pr p) {a b : Int} (h : (p : Int) ∣ a * b) : (p : Int) ∣ a ∨ (p : Int) ∣ b := by
  have h1 : p ∣ a.natAbs * b.natAbs := by
    rw [← Int.natAbs_mul]
    exact Int.ofNat_dvd_left.1 h
  rcases hp.dvd_mul h1 with h2 | h2
  · exact .inl (Int.ofNat_dvd_left.2 h2)
  · exact .inr (Int.ofNat_dvd_left.2 h2)

/-- Fermat's theorem for what isn't nought. -/
theorem fermat1 {p : Nat} (hp : Pr p) {a : Int} (ha : ¬ Cg p a 0) : Cg p (a ^ (p - 1)) 1 := by
  have h := cg_sub.1 (fermat hp a)
  have hp2 := hp.1
  have e : a ^ p - a = a * (a ^ (p - 1) - 1) := by
    have : a ^ p = a ^ (p - 1) * a := by rw [← Int.pow_succ, show (p - 1).succ = p from by omega]
    rw [this, Int.mul_sub, Int.mul_one, Int.mul_comm]
  rw [e] at h
  rcases hp.int_dvd h with h1 | h1
  · exact (ha (cg_zero.2 h1)).elim
  · exact cg_sub.2 h1

theorem Pr.cg_mul {p : Nat} (hp : Pr p) {a b : Int} (h : Cg p (a * b) 0) : Cg p a 0 ∨ Cg p b 0 := by
  rcases hp.int_dvd (cg_zero.1 h) with h1 | h1
  · exact .inl (cg_zero.2 h1)
  · exact .inr (cg_zero.2 h1)

/-- What is not nought may be taken out of a product. -/
theorem Pr.cancel {p : Nat} (hp : Pr p) {a b c : Int} (ha : ¬ Cg p a 0) (h : Cg p (a * b) (a * c)) : Cg p b c := by
  have h1 := cg_sub.1 h
  rw [← Int.mul_sub] at h1
  rcases hp.int_dvd h1 with h2 | h2
  · exact (ha (cg_zero.2 h2)).elim
  · exact cg_sub.2 h2

/-! Certificates -/

theorem has_prime : ∀ n : Nat, 2 ≤ n → ∃ q, Pr q ∧ q ∣ n := by
  intro n
  induction n using Nat.strongRecOn with
  | _ n ih =>
    intro hn
    by_cases h : Pr n
    · exact ⟨n, h, Nat.dvd_refl n⟩
    · have : ∃ d, d ∣ n ∧ d ≠ 1 ∧ d ≠ n := Classical.byContradiction fun hne => h ⟨hn, fun d hd => Classical.byContradiction fun h2 => hne ⟨d, hd, fun e => h2 (.inl e), fun e => h2 (.inr e)⟩⟩
      obtain ⟨d, hd, h1, h2⟩ := this
      have hle := Nat.le_of_dvd (by omega) hd
      have h0 : d ≠ 0 := by
        intro e
        subst e
        have := Nat.eq_zero_of_zero_dvd hd
        omega
      obtain ⟨q, hq, hqd⟩ := ih d (by omega) (by omega)
      exact ⟨q, hq, Nat.dvd_trans hqd hd⟩

/-- Where each prime that goes into n is above its root, n is prime. -/
theorem prime_of_large {n B : Nat} (hn : 2 ≤ n) (hB : n < B * B) (h : ∀ q, Pr q → q ∣ n → B ≤ q) : Pr n := by
  refine ⟨hn, fun d hd => ?_⟩
  obtain ⟨e, he⟩ := hd
  by_cases h1 : d = 1
  · exact .inl h1
  by_cases h2 : e = 1
  · right
    rw [he, h2, Nat.mul_one]
  exfalso
  have hd0 : d ≠ 0 := fun e => by subst e; rw [Nat.zero_mul] at he; omega
  have he0 : e ≠ 0 := fun e' => by subst e'; rw [Nat.mul_zero] at he; omega
  obtain ⟨q, hq, hqd⟩ := has_prime d (by omega)
  obtain ⟨r, hr, hre⟩ := has_prime e (by omega)
  have b1 := h q hq (Nat.dvd_trans hqd ⟨e, he⟩)
  have b2 := h r hr (Nat.dvd_trans hre ⟨d, by rw [he, Nat.mul_comm]⟩)
  have c1 := Nat.le_of_dvd (by omega) hqd
  have c2 := Nat.le_of_dvd (by omega) hre
  have : B * B ≤ d * e := Nat.mul_le_mul (by omega) (by omega)
  omega

/-- Powers modulo n, by the bits of the exponent. -/
def pm (n : Nat) : Nat → Nat → Nat → Nat
  | 0, _, _ => Nat.mod 1 n
  | k + 1, b, e => bif Nat.beq e 0 then Nat.mod 1 n else bif Nat.beq (Nat.mod e 2) 1 then Nat.mod (Nat.mul (pm n k (Nat.mod (Nat.mul b b) n) (Nat.div e 2)) b) n else pm n k (Nat.mod (Nat.mul b b) n) (Nat.div e 2)

theorem pm_spec (n : Nat) : ∀ (k b e : Nat), e < 2 ^ k → pm n k b e = b ^ e % n
  | 0, b, e, h => by
    have : e = 0 := by omega
    subst this
    rfl
  | k + 1, b, e, h => by
    rw [pm]
    have he : e = 2 * (e / 2) + e % 2 := by omega
    have ih := pm_spec n k (b * b % n) (e / 2) (by rw [Nat.pow_succ] at h; omega)
    have e1 : pm n k (Nat.mod (Nat.mul b b) n) (Nat.div e 2) = (b * b) ^ (e / 2) % n := by
      show pm n k (b * b % n) (e / 2) = _
      rw [ih, ← Nat.pow_mod]
    rw [e1]
    have e2 : (b * b) ^ (e / 2) = b ^ (2 * (e / 2)) := by rw [Nat.pow_mul, Nat.pow_two]
    cases h0 : Nat.beq e 0
    · cases h1 : Nat.beq (Nat.mod e 2) 1
      · have h2 : e % 2 ≠ 1 := fun e' => by
          have : Nat.beq (e % 2) 1 = true := by rw [e']; rfl
          rw [show Nat.beq (e % 2) 1 = false from h1] at this
          cases this
        show (b * b) ^ (e / 2) % n = _
        rw [e2, show 2 * (e / 2) = e from by omega]
      · have h2 : e % 2 = 1 := Nat.eq_of_beq_eq_true h1
        show (b * b) ^ (e / 2) % n * b % n = _
        rw [e2, Nat.mod_mul_mod, ← Nat.pow_succ, show (2 * (e / 2)).succ = e from by omega]
    · have : e = 0 := Nat.eq_of_beq_eq_true h0
      subst this
      rfl

theorem gcd_mod_add (x c n : Nat) : Nat.gcd (x % n + c) n = Nat.gcd (x + c) n := by
  have e : x + c = x % n + c + n * (x / n) := by
    have := Nat.div_add_mod x n
    omega
  apply Nat.dvd_antisymm
  · refine Nat.dvd_gcd ?_ (Nat.gcd_dvd_right _ _)
    rw [e]
    exact Nat.dvd_add (Nat.gcd_dvd_left _ _) (Nat.dvd_trans (Nat.gcd_dvd_right _ _) ⟨_, rfl⟩)
  · refine Nat.dvd_gcd ?_ (Nat.gcd_dvd_right _ _)
    have h1 : Nat.gcd (x + c) n ∣ x % n + c + n * (x / n) := by rw [← e]; exact Nat.gcd_dvd_left _ _
    exact (Nat.dvd_add_iff_left (Nat.dvd_trans (Nat.gcd_dvd_right _ _) ⟨_, rfl⟩)).2 h1

/-- One prime of a certificate: f to the power e goes into q - 1, for each prime q that goes into n. -/
theorem pock1 {n f e a M : Nat} (hn1 : 1 < n) (hf : Pr f) (he : 0 < e) (hM : n - 1 = f ^ e * M) (h1 : a ^ (n - 1) % n = 1) (hg : Nat.gcd (a ^ ((n - 1) / f) + (n - 1)) n = 1) {q : Nat} (hq : Pr q) (hqn : q ∣ n) : f ^ e ∣ q - 1 := by
  have hq2 := hq.1
  -- modulo q
  have hq1 : ∀ k, a ^ k % n = 1 → a ^ k % q = 1 := by
    intro k hk
    have : a ^ k % n % q = a ^ k % q := Nat.mod_mod_of_dvd _ hqn
    rw [← this, hk]
    exact Nat.mod_eq_of_lt (by omega)
  have ha1 := hq1 _ h1
  have hane : a ^ ((n - 1) / f) % q ≠ 1 := by
    intro h
    have hd : q ∣ a ^ ((n - 1) / f) + (n - 1) := by
      obtain ⟨c, hc⟩ := hqn
      have h2 : a ^ ((n - 1) / f) = q * (a ^ ((n - 1) / f) / q) + 1 := by
        have := Nat.div_add_mod (a ^ ((n - 1) / f)) q
        omega
      refine ⟨a ^ ((n - 1) / f) / q + c, ?_⟩
      rw [Nat.mul_add, ← hc]
      omega
    have := Nat.dvd_gcd hd hqn
    rw [hg] at this
    have := Nat.dvd_one.1 this
    omega
  have hqa : ¬ q ∣ a := by
    intro hd
    have h0 : a % q = 0 := Nat.mod_eq_zero_of_dvd hd
    have hk : n - 1 ≠ 0 := by omega
    have : a ^ (n - 1) % q = 0 := by
      rw [Nat.pow_mod, h0, Nat.zero_pow (by omega)]
      exact Nat.zero_mod _
    omega
  have hfer : a ^ (q - 1) % q = 1 := by
    have hne : ¬ Cg q (a : Int) 0 := fun h => hqa (Int.natCast_dvd_natCast.1 (cg_zero.1 h))
    have h2 := fermat1 hq hne
    have h3 : ((a ^ (q - 1) % q : Nat) : Int) = ((1 % q : Nat) : Int) := by
      rw [Int.natCast_emod, Int.natCast_emod, Int.natCast_pow]
      exact h2
    have h4 := Int.ofNat.inj h3
    rw [h4]
    exact Nat.mod_eq_of_lt (by omega)
  -- c: the power whose order is f ^ e
  have hone : ∀ x k, x % q = 1 → x ^ k % q = 1 := by
    intro x k hx
    rw [Nat.pow_mod, hx, Nat.one_pow]
    exact Nat.mod_eq_of_lt (by omega)
  have hgcd : ∀ (m k : Nat), (a ^ M) ^ m % q = 1 → (a ^ M) ^ k % q = 1 → (a ^ M) ^ (Nat.gcd m k) % q = 1 := by
    intro m k
    induction m, k using Nat.gcd.induction with
    | H0 k => intro _ h; rw [Nat.gcd_zero_left]; exact h
    | H1 m k hm ih =>
      intro hm1 hk1
      rw [Nat.gcd_rec]
      refine ih ?_ hm1
      have hdm := Nat.div_add_mod k m
      have e1 : (a ^ M) ^ k = ((a ^ M) ^ m) ^ (k / m) * (a ^ M) ^ (k % m) := by
        have e0 : (a ^ M) ^ k = (a ^ M) ^ (m * (k / m) + k % m) := by rw [hdm]
        rw [e0, Nat.pow_add, Nat.pow_mul]
      rw [e1, Nat.mul_mod, hone _ _ hm1, Nat.one_mul, Nat.mod_mod] at hk1
      exact hk1
  have hc1 : (a ^ M) ^ (f ^ e) % q = 1 := by rw [← Nat.pow_mul, Nat.mul_comm, ← hM]; exact ha1
  have hc2 : (a ^ M) ^ (q - 1) % q = 1 := by rw [← Nat.pow_mul, Nat.mul_comm, Nat.pow_mul]; exact hone _ _ hfer
  have hc3 := hgcd _ _ hc1 hc2
  have hf0 : 0 < f := by have := hf.1; omega
  obtain ⟨h, hh⟩ := Nat.gcd_dvd_left (f ^ e) (q - 1)
  by_cases hh1 : h = 1
  · rw [hh1, Nat.mul_one] at hh
    rw [hh]
    exact Nat.gcd_dvd_right _ _
  exfalso
  have hfh : f ∣ h := by
    refine Classical.byContradiction fun hnd => hh1 ?_
    have hcop : Nat.Coprime f h := hf.coprime hnd
    have hcop2 : Nat.Coprime (f ^ e) h := Nat.Coprime.pow_left e hcop
    have : h ∣ f ^ e := ⟨_, by rw [Nat.mul_comm]; exact hh⟩
    have h5 : Nat.gcd (f ^ e) h = h := Nat.gcd_eq_right this
    rw [← h5]
    exact hcop2
  obtain ⟨h', rfl⟩ := hfh
  obtain ⟨e', rfl⟩ : ∃ e', e = e' + 1 := ⟨e - 1, by omega⟩
  have e3 : f ^ e' = Nat.gcd (f ^ (e' + 1)) (q - 1) * h' := by
    have h6 : f * f ^ e' = f * (Nat.gcd (f ^ (e' + 1)) (q - 1) * h') := by
      rw [Nat.mul_comm f, ← Nat.pow_succ]
      rw [Nat.mul_left_comm]
      exact hh
    exact Nat.eq_of_mul_eq_mul_left hf0 h6
  apply hane
  have e4 : (n - 1) / f = M * f ^ e' := by
    rw [hM, Nat.pow_succ, Nat.mul_right_comm, Nat.mul_div_cancel _ hf0, Nat.mul_comm]
  rw [e4, Nat.pow_mul, e3, Nat.pow_mul]
  exact hone _ _ hc3

/-- A certificate: primes, their powers, and a number for each. -/
def pockB (n B k : Nat) (F : Nat) (c : List (Nat × Nat × Nat)) : Bool :=
  match c with
  | [] => Nat.ble B (F + 1)
  | (f, e, a) :: r => Nat.ble 1 e && (Nat.beq (Nat.mod (n - 1) (f ^ e)) 0 && (Nat.beq (pm n k a (n - 1)) 1 && (Nat.beq (Nat.gcd (pm n k a (Nat.div (n - 1) f) + (n - 1)) n) 1 && (Nat.beq (Nat.gcd (f ^ e) F) 1 && pockB n B k (F * f ^ e) r))))

theorem pockB_spec {n B k : Nat} (hn1 : 1 < n) (hk : n < 2 ^ k) : ∀ {c : List (Nat × Nat × Nat)} {F : Nat}, (∀ x ∈ c, Pr x.1) → pockB n B k F c = true → (∀ q, Pr q → q ∣ n → F ∣ q - 1) → ∀ q, Pr q → q ∣ n → B ≤ q
  | [], F, _, h, hF, q, hq, hqn => by
    have hb : B ≤ F + 1 := Nat.le_of_ble_eq_true h
    have hq2 := hq.1
    have := Nat.le_of_dvd (by omega) (hF q hq hqn)
    omega
  | (f, e, a) :: r, F, hc, h, hF, q, hq, hqn => by
    simp only [pockB, Bool.and_eq_true] at h
    obtain ⟨h1, h2, h3, h4, h5, h6⟩ := h
    have hf : Pr f := hc (f, e, a) (List.mem_cons_self ..)
    have h2' : (n - 1) % f ^ e = 0 := Nat.eq_of_beq_eq_true h2
    have h3' := Nat.eq_of_beq_eq_true h3
    rw [pm_spec n k a (n - 1) (by omega)] at h3'
    have h4' := Nat.eq_of_beq_eq_true h4
    have hlt : Nat.div (n - 1) f < 2 ^ k := Nat.lt_of_le_of_lt (Nat.div_le_self _ _) (by omega)
    rw [pm_spec n k a _ hlt] at h4'
    obtain ⟨M, hM⟩ := Nat.dvd_of_mod_eq_zero h2'
    have h4'' : Nat.gcd (a ^ ((n - 1) / f) + (n - 1)) n = 1 := by
      exact Eq.trans (gcd_mod_add _ _ _).symm h4'
    refine pockB_spec hn1 hk (fun x hx => hc x (List.mem_cons_of_mem _ hx)) h6 (fun q' hq' hqn' => ?_) q hq hqn
    have d1 := hF q' hq' hqn'
    have d2 := pock1 hn1 hf (Nat.le_of_ble_eq_true h1) hM h3' h4'' hq' hqn'
    have hcop : Nat.Coprime F (f ^ e) := by
      have : Nat.gcd (f ^ e) F = 1 := Nat.eq_of_beq_eq_true h5
      rw [Nat.gcd_comm] at this
      exact this
    exact Nat.Coprime.mul_dvd_of_dvd_of_dvd hcop d1 d2

theorem prime_pock {n B k : Nat} {c : List (Nat × Nat × Nat)} (hc : ∀ x ∈ c, Pr x.1) (h : (Nat.ble 2 n && (Nat.blt n (B * B) && (Nat.blt n (2 ^ k) && pockB n B k 1 c))) = true) : Pr n := by
  simp only [Bool.and_eq_true] at h
  obtain ⟨h1, h2, h3, h4⟩ := h
  have h2' : n < B * B := Nat.le_of_ble_eq_true h2
  have h3' : n < 2 ^ k := Nat.le_of_ble_eq_true h3
  exact prime_of_large (Nat.le_of_ble_eq_true h1) h2' (pockB_spec (Nat.le_of_ble_eq_true h1) h3' hc h4 fun _ _ _ => Nat.one_dvd _)

/-- Small primes, by trial. -/
def trial (n : Nat) : Nat → Nat → Bool
  | 0, _ => true
  | k + 1, d => bif Nat.beq (Nat.mod n d) 0 then false else trial n k (d + 1)

theorem trial_spec {n : Nat} : ∀ {k d : Nat}, trial n k d = true → ∀ x, d ≤ x → x < d + k → ¬ x ∣ n
  | 0, d, _, x, h1, h2 => by omega
  | k + 1, d, h, x, h1, h2 => by
    rw [trial] at h
    cases hb : Nat.beq (Nat.mod n d) 0
    · rw [hb] at h
      by_cases hx : x = d
      · subst hx
        intro hd
        have : n % x = 0 := Nat.mod_eq_zero_of_dvd hd
        have h3 : Nat.beq (n % x) 0 = true := by rw [this]; rfl
        rw [show Nat.beq (n % x) 0 = false from hb] at h3
        cases h3
      · exact trial_spec (k := k) (d := d + 1) h x (by omega) (by omega)
    · rw [hb] at h
      cases h

theorem prime_trial {n k : Nat} (h : (Nat.ble 2 n && (Nat.blt n ((k + 2) * (k + 2)) && trial n k 2)) = true) : Pr n := by
  simp only [Bool.and_eq_true] at h
  obtain ⟨h1, h2, h3⟩ := h
  have h2' : n < (k + 2) * (k + 2) := Nat.le_of_ble_eq_true h2
  refine prime_of_large (Nat.le_of_ble_eq_true h1) h2' fun q hq hqn => ?_
  have := hq.1
  rcases Nat.lt_or_ge q (k + 2) with h4 | h4
  · exact (trial_spec h3 q (by omega) (by omega) hqn).elim
  · exact h4

end Go.Alg
