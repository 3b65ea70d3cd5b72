/- A field's numbers in words, after Montgomery. Plain mathematics, and the words for them. -/
import Derived.Test.YtbgcfmmkbocpoaaNum
import Derived.Test.YtbgcfmmkbocpoaaAbsL
namespace Go.Num
open Go.Abs

/-- A modulus, how many words it has, and what else a product after Montgomery wants. -/
structure Fld where
  n : Nat
  m : Int
  ca : Int
  ri : Int
  hn : 0 < n
  hm : 1 < m
  hm2 : 2 * m < B ^ n
  hri : (B ^ n * ri) % m = 1
  hca : ∀ t, (((t * ca) % B) * m + t) % B = 0

variable (F : Fld)

abbrev Fld.R : Int := B ^ F.n

theorem Fld.pos : 0 < F.m := by have := F.hm; omega

/-- The number whose words are kept for a number of the field. -/
def Fld.enc (a : Int) : Int := a * F.R % F.m

theorem Fld.enc_range (a : Int) : 0 ≤ F.enc a ∧ F.enc a < F.m := ⟨Int.emod_nonneg _ (by have := F.hm; omega), Int.emod_lt_of_pos _ F.pos⟩

/-- The product over the number that the words begin anew at. -/
def Fld.mont (x y : Int) : Int := x * y * F.ri % F.m

theorem emod_eq_iff {a b m : Int} : a % m = b % m ↔ ∃ k, a = b + m * k := by
  constructor
  · intro h
    refine ⟨a / m - b / m, ?_⟩
    have h1 := Int.emod_add_mul_ediv a m
    have h2 := Int.emod_add_mul_ediv b m
    rw [h] at h1
    rw [Int.mul_sub]
    omega
  · rintro ⟨k, rfl⟩
    exact Int.add_mul_emod_self_left ..

theorem emod_congr {a b m : Int} (k : Int) (h : a = b + m * k) : a % m = b % m := emod_eq_iff.2 ⟨k, h⟩

theorem Fld.ri_eq : ∃ k, F.R * F.ri = 1 + F.m * k := by
  have h := F.hri
  have h1 : (1 : Int) % F.m = 1 := Int.emod_eq_of_lt (by decide) F.hm
  rw [← h1] at h
  exact emod_eq_iff.1 h

theorem Fld.enc_eq {a b : Int} : F.enc a = F.enc b ↔ a % F.m = b % F.m := by
  obtain ⟨k, hk⟩ := F.ri_eq
  unfold Fld.enc
  constructor
  · intro h
    obtain ⟨j, hj⟩ := emod_eq_iff.1 h
    refine emod_congr (j * F.ri - a * k + b * k) ?_
    generalize F.R = R at *
    generalize F.ri = ri at *
    generalize F.m = m at *
    have h1 : a * R * ri = (b * R + m * j) * ri := by rw [hj]
    grind
  · intro h
    obtain ⟨j, hj⟩ := emod_eq_iff.1 h
    refine emod_congr (j * F.R) ?_
    rw [hj]
    grind

theorem Fld.mont_enc (a y : Int) : F.mont (F.enc a) y = a * y % F.m := by
  obtain ⟨k, hk⟩ := F.ri_eq
  unfold Fld.mont Fld.enc
  have h1 := Int.emod_add_mul_ediv (a * F.R) F.m
  refine emod_congr (a * y * k - a * F.R / F.m * y * F.ri) ?_
  generalize a * F.R / F.m = q at *
  generalize a * F.R % F.m = s at *
  generalize F.R = R at *
  generalize F.ri = ri at *
  generalize F.m = m at *
  have h2 : s = a * R - m * q := by omega
  rw [h2]
  grind

theorem Fld.mont_enc_enc (a b : Int) : F.mont (F.enc a) (F.enc b) = F.enc (a * b) := by
  rw [F.mont_enc]
  unfold Fld.enc
  have h1 := Int.emod_add_mul_ediv (b * F.R) F.m
  refine emod_congr (- (a * (b * F.R / F.m))) ?_
  generalize b * F.R / F.m = q at *
  generalize b * F.R % F.m = s at *
  have h2 : s = b * F.R - F.m * q := by omega
  rw [h2]
  grind

/-- One round: t is laid down by a word. -/
def Fld.step (x t v : Int) : Int := (t + v * x + ((t + v * x) % B * F.ca % B) * F.m) / B

theorem Fld.step_spec {x t v : Int} (hx : 0 ≤ x ∧ x < F.m) (ht : 0 ≤ t ∧ t < 2 * F.m) (hv : 0 ≤ v ∧ v < B) :
    (0 ≤ F.step x t v ∧ F.step x t v < 2 * F.m) ∧ B * F.step x t v = t + v * x + ((t + v * x) % B * F.ca % B) * F.m := by
  have hz : (t + v * x + ((t + v * x) % B * F.ca % B) * F.m) % B = 0 := by
    have h := F.hca ((t + v * x) % B)
    rw [Int.add_comm] at h
    rw [← h, Int.emod_add_emod]
  have he := Int.emod_add_mul_ediv (t + v * x + ((t + v * x) % B * F.ca % B) * F.m) B
  rw [hz, Int.zero_add] at he
  have hm0 : 0 ≤ (t + v * x) % B * F.ca % B ∧ (t + v * x) % B * F.ca % B < B := ⟨Int.emod_nonneg _ (by decide), Int.emod_lt_of_pos _ (by decide)⟩
  refine ⟨?_, he⟩
  show 0 ≤ (t + v * x + ((t + v * x) % B * F.ca % B) * F.m) / B ∧ (t + v * x + ((t + v * x) % B * F.ca % B) * F.m) / B < 2 * F.m
  generalize (t + v * x) % B * F.ca % B = q at *
  have hp := F.pos
  have a1 : 0 ≤ v * x := Int.mul_nonneg hv.1 hx.1
  have a2 : v * x ≤ (B - 1) * F.m := Int.mul_le_mul (by omega) (by omega) hx.1 (by decide)
  have a3 : 0 ≤ q * F.m := Int.mul_nonneg hm0.1 (by omega)
  have a4 : q * F.m ≤ (B - 1) * F.m := Int.mul_le_mul_of_nonneg_right (by omega) (by omega)
  have a5 : (B - 1) * F.m = B * F.m - F.m := by rw [Int.sub_mul, Int.one_mul]
  constructor
  · exact Int.ediv_nonneg (by omega) (by decide)
  · refine Int.ediv_lt_of_lt_mul (by decide) ?_
    have : 2 * F.m * B = B * F.m + B * F.m := by grind
    omega

/-- The number behind k rounds. -/
def Fld.rnd (x : Int) : List Int → Int → Int
  | [], t => t
  | v :: vs, t => Fld.rnd x vs (F.step x t v)

theorem Fld.rnd_snoc (x : Int) : ∀ (vs : List Int) (v t : Int), F.rnd x (vs ++ [v]) t = F.step x (F.rnd x vs t) v
  | [], _, _ => rfl
  | u :: vs, v, t => Fld.rnd_snoc x vs v (F.step x t u)

theorem Fld.rnd_spec {x : Int} (hx : 0 ≤ x ∧ x < F.m) : ∀ {vs : List Int} {t : Int}, (0 ≤ t ∧ t < 2 * F.m) → InR vs →
    (0 ≤ F.rnd x vs t ∧ F.rnd x vs t < 2 * F.m) ∧ ∃ k, B ^ vs.length * F.rnd x vs t = t + x * val vs + F.m * k
  | [], t, ht, _ => ⟨ht, 0, by simp [Fld.rnd, val]⟩
  | v :: vs, t, ht, hv => by
    obtain ⟨hv1, hv2⟩ := hv.cons
    obtain ⟨h1, h2⟩ := F.step_spec hx ht hv1
    obtain ⟨i1, k, i2⟩ := Fld.rnd_spec hx h1 hv2
    refine ⟨i1, ((t + v * x) % B * F.ca % B) + B * k, ?_⟩
    simp only [Fld.rnd, List.length_cons, val]
    have hs : B ^ (vs.length + 1) = B * B ^ vs.length := by rw [Int.pow_succ, Int.mul_comm]
    rw [hs, Int.mul_assoc, i2]
    generalize (t + v * x) % B * F.ca % B = q at *
    generalize F.step x t v = s at *
    generalize val vs = y at *
    generalize F.m = m at *
    generalize B = b at *
    grind

/-- What the rounds come to, the modulus taken off. -/
theorem Fld.rnd_mont {x y : Int} (hx : 0 ≤ x ∧ x < F.m) : F.rnd x (limbs F.n y) 0 % F.m = F.mont x (y % F.R) := by
  obtain ⟨_, k, hk⟩ := F.rnd_spec hx (t := 0) ⟨by decide, by have := F.pos; omega⟩ (limbs_inR F.n y)
  rw [limbs_len, val_limbs, Int.zero_add] at hk
  obtain ⟨j, hj⟩ := F.ri_eq
  unfold Fld.mont
  refine emod_congr (k * F.ri - F.rnd x (limbs F.n y) 0 * j) ?_
  have hk' : F.R * F.rnd x (limbs F.n y) 0 = x * (y % F.R) + F.m * k := hk
  generalize F.rnd x (limbs F.n y) 0 = t at *
  generalize y % F.R = z at *
  generalize F.R = R at *
  generalize F.ri = ri at *
  generalize F.m = m at *
  have h1 : R * t * ri = (x * z + m * k) * ri := by rw [hk']
  grind

end Go.Num
