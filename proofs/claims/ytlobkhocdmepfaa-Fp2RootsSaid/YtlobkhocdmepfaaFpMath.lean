/- Which numbers have roots. Plain mathematics over the field's modulus. -/
import Derived.Test.YtlobkhocdmepfaaLawM
import Derived.Test.YtlobkhocdmepfaaFpSq
namespace Go.Num
open Go.Abs Go.Proofs Go.Alg

def hN : Nat := (4002409555221667393417789825735904156556882819939007885332058136124031650490837864442687629129015664037894272559787 - 1) / 2
def chi (a : Int) : Int := a ^ hN

theorem sq_pow (a : Int) : sqOf a * sqOf a = chi a * a := by
  unfold sqOf chi
  rw [← Int.pow_add, ← Int.pow_succ]
  congr 1

theorem sqOf_sq (b : Int) : sqOf (b * b) = chi b * b := by
  rw [← sq_pow]
  unfold sqOf
  exact Int.mul_pow ..

theorem prm : Pr 4002409555221667393417789825735904156556882819939007885332058136124031650490837864442687629129015664037894272559787 := fieldPr
theorem ne_cg {a : Int} (h : a % fld.m ≠ 0) : ¬ Cg ((4002409555221667393417789825735904156556882819939007885332058136124031650490837864442687629129015664037894272559787 : Nat) : Int) a 0 := by
  intro e
  apply h
  rw [m_nat, show a % ((4002409555221667393417789825735904156556882819939007885332058136124031650490837864442687629129015664037894272559787 : Nat) : Int) = 0 % ((4002409555221667393417789825735904156556882819939007885332058136124031650490837864442687629129015664037894272559787 : Nat) : Int) from e]
  exact Int.zero_emod _

theorem cg_m {a b : Int} : Cg ((4002409555221667393417789825735904156556882819939007885332058136124031650490837864442687629129015664037894272559787 : Nat) : Int) a b ↔ a % fld.m = b % fld.m := by rw [m_nat]; exact Iff.rfl

theorem chi_sq {a : Int} (h : a % fld.m ≠ 0) : Cg ((4002409555221667393417789825735904156556882819939007885332058136124031650490837864442687629129015664037894272559787 : Nat) : Int) (chi a * chi a) 1 := by
  have h1 := fermat1 prm (ne_cg h)
  have e : chi a * chi a = a ^ (4002409555221667393417789825735904156556882819939007885332058136124031650490837864442687629129015664037894272559787 - 1 : Nat) := by
    unfold chi
    rw [← Int.pow_add]
    congr 1
  rw [e]
  exact h1

theorem chi_pm {a : Int} (h : a % fld.m ≠ 0) : Cg ((4002409555221667393417789825735904156556882819939007885332058136124031650490837864442687629129015664037894272559787 : Nat) : Int) (chi a) 1 ∨ Cg ((4002409555221667393417789825735904156556882819939007885332058136124031650490837864442687629129015664037894272559787 : Nat) : Int) (chi a) (-1) := by
  have h1 := cg_sub.1 (chi_sq h)
  have e : chi a * chi a - 1 = (chi a - 1) * (chi a - -1) := by grind
  rw [e] at h1
  rcases prm.int_dvd h1 with h2 | h2
  · exact .inl (cg_sub.2 h2)
  · exact .inr (cg_sub.2 h2)

theorem one_ne : ¬ Cg ((4002409555221667393417789825735904156556882819939007885332058136124031650490837864442687629129015664037894272559787 : Nat) : Int) 1 (-1) := by
  intro h
  have : (1 : Int) % ((4002409555221667393417789825735904156556882819939007885332058136124031650490837864442687629129015664037894272559787 : Nat) : Int) = (-1) % ((4002409555221667393417789825735904156556882819939007885332058136124031650490837864442687629129015664037894272559787 : Nat) : Int) := h
  exact absurd this (by decide)

theorem hasSq_iff {a : Int} (h : a % fld.m ≠ 0) : hasSq a = true ↔ Cg ((4002409555221667393417789825735904156556882819939007885332058136124031650490837864442687629129015664037894272559787 : Nat) : Int) (chi a) 1 := by
  unfold hasSq
  rw [decide_eq_true_iff, sq_pow, ← cg_m]
  constructor
  · intro h1
    refine prm.cancel (ne_cg h) (b := chi a) (c := 1) ?_
    rw [Int.mul_comm, Int.mul_one]
    exact h1
  · intro h1
    have := h1.mul (Cg.refl _ a)
    rw [Int.one_mul] at this
    exact this

theorem hasSq_zero {a : Int} (h : a % fld.m = 0) : hasSq a = true := by
  unfold hasSq
  rw [decide_eq_true_iff, sq_pow, Int.mul_emod, h, Int.mul_zero, Int.zero_emod]

theorem chi_mul (a b : Int) : chi (a * b) = chi a * chi b := by unfold chi; exact Int.mul_pow ..

theorem chi_neg (a : Int) : chi (0 - a) = -chi a := by
  have e : (0 - a) = -1 * a := by omega
  rw [e, chi_mul]
  have h1 : chi (-1) = -1 := by
    unfold chi
    have h2 : hN = 2 * (hN / 2) + 1 := by decide
    rw [h2, Int.pow_succ, Int.pow_mul]
    rw [show (-1 : Int) ^ 2 = 1 from rfl, Int.one_pow]
    rfl
  rw [h1]
  omega

theorem hasSq_mul_self (b : Int) : hasSq (b * b) = true := by
  by_cases h : b % fld.m = 0
  · exact hasSq_zero (by rw [Int.mul_emod, h, Int.mul_zero, Int.zero_emod])
  · have hb : b * b % fld.m ≠ 0 := by
      intro h0
      rcases prm.cg_mul (cg_m.2 (by rw [h0, Int.zero_emod]) : Cg ((4002409555221667393417789825735904156556882819939007885332058136124031650490837864442687629129015664037894272559787 : Nat) : Int) (b * b) 0) with h1 | h1
      · exact ne_cg h h1
      · exact ne_cg h h1
    rw [hasSq_iff hb, chi_mul]
    exact chi_sq h

/-- A square's root is the number or its negative. -/
theorem root_pm (b : Int) : sqOf (b * b) % fld.m = b % fld.m ∨ sqOf (b * b) % fld.m = (0 - b) % fld.m := by
  rw [sqOf_sq]
  by_cases h : b % fld.m = 0
  · left
    rw [Int.mul_emod, h, Int.mul_zero, Int.zero_emod]
  · rcases chi_pm h with h1 | h1
    · left
      have := h1.mul (Cg.refl _ b)
      rw [Int.one_mul] at this
      exact cg_m.1 this
    · right
      have := h1.mul (Cg.refl _ b)
      rw [show -1 * b = 0 - b from by omega] at this
      exact cg_m.1 this

theorem neg_ne {b : Int} (h : b % fld.m ≠ 0) : (0 - b) % fld.m ≠ 0 := by
  intro h0
  apply h
  have : (0 - (0 - b)) % fld.m = 0 := by
    rw [Int.sub_emod, h0]
    rfl
  rwa [show 0 - (0 - b) = b from by omega] at this

/-- Of a number and its negative just one has a root. -/
theorem one_root {b : Int} (h : b % fld.m ≠ 0) : (!(hasSq b == hasSq (0 - b))) = true := by
  have i1 := hasSq_iff h
  have i2 := hasSq_iff (neg_ne h)
  rw [chi_neg] at i2
  rcases chi_pm h with h1 | h1
  · have e1 : hasSq b = true := i1.2 h1
    have e2 : hasSq (0 - b) = false := by
      cases hh : hasSq (0 - b)
      · rfl
      · have h2 := i2.1 hh
        exact (one_ne (h2.symm.trans h1.neg)).elim
    rw [e1, e2]
    rfl
  · have e2 : hasSq (0 - b) = true := i2.2 h1.neg
    have e1 : hasSq b = false := by
      cases hh : hasSq b
      · rfl
      · have h2 := i1.1 hh
        exact (one_ne (h2.symm.trans h1)).elim
    rw [e1, e2]
    rfl

theorem neg_mod {b : Int} (h : b % fld.m ≠ 0) : (0 - b) % fld.m = fld.m - b % fld.m := by
  have h1 := mod_m b
  have : (0 - b) % fld.m = (fld.m - b % fld.m) % fld.m := by
    rw [Int.sub_emod, Int.zero_emod]
    have : (fld.m - b % fld.m) = (0 - b % fld.m) + fld.m := by omega
    rw [this, Int.add_emod_right]
  rw [this, Int.emod_eq_of_lt (by omega) (by omega)]

theorem m_odd : fld.m % 2 = 1 := by decide

theorem odd_neg {b : Int} (h : b % fld.m ≠ 0) : (!(decide (b % fld.m % 2 = 1) == decide ((0 - b) % fld.m % 2 = 1))) = true := by
  rw [neg_mod h]
  have := m_odd
  generalize b % fld.m = x at *
  generalize fld.m = m at *
  rcases Int.emod_two_eq x with h1 | h1
  · have h2 : (m - x) % 2 = 1 := by omega
    rw [h1, h2]
    rfl
  · have h2 : (m - x) % 2 = 0 := by omega
    rw [h1, h2]
    rfl

theorem large_neg {b : Int} (h : b % fld.m ≠ 0) : (!(decide ((0 - b) % fld.m < b % fld.m) == decide ((0 - (0 - b)) % fld.m < (0 - b) % fld.m))) = true := by
  rw [show 0 - (0 - b) = b from by omega, neg_mod h]
  have := m_odd
  generalize b % fld.m = x at *
  generalize fld.m = m at *
  by_cases hc : m - x < x
  · rw [decide_eq_true hc, decide_eq_false (by omega)]
    rfl
  · rw [decide_eq_false hc, decide_eq_true (by omega)]
    rfl

/-- A product has a root just if both have one, or neither. -/
theorem root_mul {a b : Int} (ha : a % fld.m ≠ 0) (hb : b % fld.m ≠ 0) : (hasSq (a * b) == (hasSq a == hasSq b)) = true := by
  have hab : a * b % fld.m ≠ 0 := by
    intro h0
    rcases prm.cg_mul (cg_m.2 (by rw [h0, Int.zero_emod]) : Cg ((4002409555221667393417789825735904156556882819939007885332058136124031650490837864442687629129015664037894272559787 : Nat) : Int) (a * b) 0) with h1 | h1
    · exact ne_cg ha h1
    · exact ne_cg hb h1
  have i1 := hasSq_iff ha
  have i2 := hasSq_iff hb
  have i3 := hasSq_iff hab
  rw [chi_mul] at i3
  have no : ∀ {x : Int}, Cg ((4002409555221667393417789825735904156556882819939007885332058136124031650490837864442687629129015664037894272559787 : Nat) : Int) x (-1) → ¬ Cg ((4002409555221667393417789825735904156556882819939007885332058136124031650490837864442687629129015664037894272559787 : Nat) : Int) x 1 := fun h k => one_ne (k.symm.trans h)
  have fls : ∀ {x : Int}, x % fld.m ≠ 0 → Cg ((4002409555221667393417789825735904156556882819939007885332058136124031650490837864442687629129015664037894272559787 : Nat) : Int) (chi x) (-1) → hasSq x = false := by
    intro x hx h
    cases hh : hasSq x
    · rfl
    · exact (no h ((hasSq_iff hx).1 hh)).elim
  rcases chi_pm ha with h1 | h1 <;> rcases chi_pm hb with h2 | h2
  · rw [i1.2 h1, i2.2 h2, i3.2 (h1.mul h2)]
    rfl
  · have h3 := h1.mul h2
    rw [Int.one_mul] at h3
    rw [i1.2 h1, fls hb h2, fls hab (by rw [chi_mul]; exact h3)]
    rfl
  · have h3 := h1.mul h2
    rw [Int.mul_one] at h3
    rw [fls ha h1, i2.2 h2, fls hab (by rw [chi_mul]; exact h3)]
    rfl
  · have h3 := h1.mul h2
    rw [show (-1 : Int) * -1 = 1 from rfl] at h3
    rw [fls ha h1, fls hb h2, i3.2 h3]
    rfl

end Go.Num
