/- Towers of rings: pairs with a square root, triples with a cube root of a number. Plain mathematics. -/
import Derived.Test.YtbgcfmmkbocpoaaNorm
namespace Go.Alg
open CR

/-- An unknown. -/
abbrev u (i : Nat) : Ex := .v i

/-- Pairs: a number and a multiple of a square root of ν. -/
structure Quad {R : Type} (ν : R) where
  a : R
  b : R

/-- Triples: a number and multiples of a cube root of ξ and of its square. -/
structure Cub {R : Type} (ξ : R) where
  a : R
  b : R
  c : R

section
variable {R : Type}

theorem Quad.eq {ν : R} : ∀ {x y : Quad ν}, x.a = y.a → x.b = y.b → x = y
  | ⟨_, _⟩, ⟨_, _⟩, rfl, rfl => rfl
theorem Cub.eq {ξ : R} : ∀ {x y : Cub ξ}, x.a = y.a → x.b = y.b → x.c = y.c → x = y
  | ⟨_, _, _⟩, ⟨_, _, _⟩, rfl, rfl, rfl => rfl

variable [CR R]

instance (ν : R) : Add (Quad ν) := ⟨fun x y => ⟨x.a + y.a, x.b + y.b⟩⟩
instance (ν : R) : Mul (Quad ν) := ⟨fun x y => ⟨x.a * y.a + ν * (x.b * y.b), x.a * y.b + x.b * y.a⟩⟩
instance (ν : R) : Neg (Quad ν) := ⟨fun x => ⟨-x.a, -x.b⟩⟩
instance (ν : R) : Zero (Quad ν) := ⟨⟨0, 0⟩⟩
instance (ν : R) : One (Quad ν) := ⟨⟨1, 0⟩⟩
instance (ξ : R) : Add (Cub ξ) := ⟨fun x y => ⟨x.a + y.a, x.b + y.b, x.c + y.c⟩⟩
instance (ξ : R) : Mul (Cub ξ) := ⟨fun x y => ⟨x.a * y.a + ξ * (x.b * y.c + x.c * y.b), x.a * y.b + x.b * y.a + ξ * (x.c * y.c), x.a * y.c + x.b * y.b + x.c * y.a⟩⟩
instance (ξ : R) : Neg (Cub ξ) := ⟨fun x => ⟨-x.a, -x.b, -x.c⟩⟩
instance (ξ : R) : Zero (Cub ξ) := ⟨⟨0, 0, 0⟩⟩
instance (ξ : R) : One (Cub ξ) := ⟨⟨1, 0, 0⟩⟩

theorem qadd_a {ν : R} (x y : Quad ν) : (x + y).a = x.a + y.a := rfl
theorem qadd_b {ν : R} (x y : Quad ν) : (x + y).b = x.b + y.b := rfl
theorem qmul_a {ν : R} (x y : Quad ν) : (x * y).a = x.a * y.a + ν * (x.b * y.b) := rfl
theorem qmul_b {ν : R} (x y : Quad ν) : (x * y).b = x.a * y.b + x.b * y.a := rfl
theorem cadd_a {ξ : R} (x y : Cub ξ) : (x + y).a = x.a + y.a := rfl
theorem cadd_b {ξ : R} (x y : Cub ξ) : (x + y).b = x.b + y.b := rfl
theorem cadd_c {ξ : R} (x y : Cub ξ) : (x + y).c = x.c + y.c := rfl
theorem cmul_a {ξ : R} (x y : Cub ξ) : (x * y).a = x.a * y.a + ξ * (x.b * y.c + x.c * y.b) := rfl
theorem cmul_b {ξ : R} (x y : Cub ξ) : (x * y).b = x.a * y.b + x.b * y.a + ξ * (x.c * y.c) := rfl
theorem cmul_c {ξ : R} (x y : Cub ξ) : (x * y).c = x.a * y.c + x.b * y.b + x.c * y.a := rfl

instance (ν : R) : CR (Quad ν) where
  add_assoc x y z := Quad.eq (add_assoc _ _ _) (add_assoc _ _ _)
  add_comm x y := Quad.eq (add_comm _ _) (add_comm _ _)
  zero_add x := Quad.eq (zero_add _) (zero_add _)
  neg_add x := Quad.eq (neg_add _) (neg_add _)
  mul_assoc x y z := by
    refine Quad.eq ?_ ?_ <;> simp only [qmul_a, qmul_b, mul_add, mul_left_comm, mul_comm, add_assoc, add_left_comm, add_comm]
  mul_comm x y := by
    refine Quad.eq ?_ ?_
    · simp only [qmul_a]
      rw [mul_comm x.a, mul_comm x.b]
    · simp only [qmul_b]
      rw [mul_comm x.a, mul_comm x.b, add_comm]
  one_mul x := by
    refine Quad.eq ?_ ?_
    · show (1 : R) * x.a + ν * (0 * x.b) = x.a
      rw [one_mul, zero_mul, mul_zero, add_zero]
    · show (1 : R) * x.b + 0 * x.a = x.b
      rw [one_mul, zero_mul, add_zero]
  mul_add x y z := by
    refine Quad.eq ?_ ?_ <;> simp only [qmul_a, qmul_b, qadd_a, qadd_b, mul_add, add_assoc, add_left_comm]

instance (ξ : R) : CR (Cub ξ) where
  add_assoc x y z := Cub.eq (add_assoc _ _ _) (add_assoc _ _ _) (add_assoc _ _ _)
  add_comm x y := Cub.eq (add_comm _ _) (add_comm _ _) (add_comm _ _)
  zero_add x := Cub.eq (zero_add _) (zero_add _) (zero_add _)
  neg_add x := Cub.eq (neg_add _) (neg_add _) (neg_add _)
  mul_assoc x y z := by
    have k := ring_id (vars [x.a, x.b, x.c, y.a, y.b, y.c, z.a, z.b, z.c, ξ])
    refine Cub.eq ?_ ?_ ?_
    · exact k ((u 0 * u 3 + u 9 * (u 1 * u 5 + u 2 * u 4)) * u 6 + u 9 * ((u 0 * u 4 + u 1 * u 3 + u 9 * (u 2 * u 5)) * u 8 + (u 0 * u 5 + u 1 * u 4 + u 2 * u 3) * u 7))
        (u 0 * (u 3 * u 6 + u 9 * (u 4 * u 8 + u 5 * u 7)) + u 9 * (u 1 * (u 3 * u 8 + u 4 * u 7 + u 5 * u 6) + u 2 * (u 3 * u 7 + u 4 * u 6 + u 9 * (u 5 * u 8)))) (by kernel_rfl)
    · exact k ((u 0 * u 3 + u 9 * (u 1 * u 5 + u 2 * u 4)) * u 7 + (u 0 * u 4 + u 1 * u 3 + u 9 * (u 2 * u 5)) * u 6 + u 9 * ((u 0 * u 5 + u 1 * u 4 + u 2 * u 3) * u 8))
        (u 0 * (u 3 * u 7 + u 4 * u 6 + u 9 * (u 5 * u 8)) + u 1 * (u 3 * u 6 + u 9 * (u 4 * u 8 + u 5 * u 7)) + u 9 * (u 2 * (u 3 * u 8 + u 4 * u 7 + u 5 * u 6))) (by kernel_rfl)
    · exact k ((u 0 * u 3 + u 9 * (u 1 * u 5 + u 2 * u 4)) * u 8 + (u 0 * u 4 + u 1 * u 3 + u 9 * (u 2 * u 5)) * u 7 + (u 0 * u 5 + u 1 * u 4 + u 2 * u 3) * u 6)
        (u 0 * (u 3 * u 8 + u 4 * u 7 + u 5 * u 6) + u 1 * (u 3 * u 7 + u 4 * u 6 + u 9 * (u 5 * u 8)) + u 2 * (u 3 * u 6 + u 9 * (u 4 * u 8 + u 5 * u 7))) (by kernel_rfl)
  mul_comm x y := by
    refine Cub.eq ?_ ?_ ?_
    · simp only [cmul_a]
      rw [mul_comm x.a, mul_comm x.b, mul_comm x.c, add_comm (y.c * x.b)]
    · simp only [cmul_b]
      rw [mul_comm x.a, mul_comm x.b, mul_comm x.c, add_comm (y.b * x.a)]
    · simp only [cmul_c]
      rw [mul_comm x.a, mul_comm x.b, mul_comm x.c, add_comm (y.c * x.a), add_comm _ (y.a * x.c), add_assoc]
  one_mul x := by
    refine Cub.eq ?_ ?_ ?_
    · show (1 : R) * x.a + ξ * (0 * x.c + 0 * x.b) = x.a
      rw [one_mul, zero_mul, zero_mul, add_zero, mul_zero, add_zero]
    · show (1 : R) * x.b + 0 * x.a + ξ * (0 * x.c) = x.b
      rw [one_mul, zero_mul, zero_mul, mul_zero, add_zero, add_zero]
    · show (1 : R) * x.c + 0 * x.b + 0 * x.a = x.c
      rw [one_mul, zero_mul, zero_mul, add_zero, add_zero]
  mul_add x y z := by
    refine Cub.eq ?_ ?_ ?_ <;> simp only [cmul_a, cmul_b, cmul_c, cadd_a, cadd_b, cadd_c, mul_add, add_assoc, add_left_comm]

end

/-- Pairs of whole numbers: the square of the second unit is -1. -/
abbrev K2 := Quad (-1 : Int)
def xi : K2 := ⟨1, 1⟩
abbrev K6 := Cub xi
def vee : K6 := ⟨0, ⟨1, 0⟩, 0⟩
abbrev K12 := Quad vee

/-! The same but for multiples of a modulus. -/

def Q2 (m : Int) (x y : K2) : Prop := x.a % m = y.a % m ∧ x.b % m = y.b % m
def Q6 (m : Int) (x y : K6) : Prop := Q2 m x.a y.a ∧ Q2 m x.b y.b ∧ Q2 m x.c y.c
def Q12 (m : Int) (x y : K12) : Prop := Q6 m x.a y.a ∧ Q6 m x.b y.b
instance (m : Int) (x y : K2) : Decidable (Q2 m x y) := inferInstanceAs (Decidable (_ ∧ _))
instance (m : Int) (x y : K6) : Decidable (Q6 m x y) := inferInstanceAs (Decidable (_ ∧ _))
instance (m : Int) (x y : K12) : Decidable (Q12 m x y) := inferInstanceAs (Decidable (_ ∧ _))

end Go.Alg
