/- Equal but for multiples of a number, in any commutative ring; and in towers of rings. Plain mathematics. -/
import Derived.Test.YtbgcfmmkbocpoaaTow
import Derived.Test.YtbgcfmmkbocpoaaPrime
namespace Go.Alg
open CR

section
variable {R : Type} [CR R]

theorem ns_neg (n : Nat) (x : R) : ns n (-x) = -ns n x := by
  induction n with
  | zero => exact neg_zero.symm
  | succ n ih => rw [ns, ns, ih, neg_sum]

def Md (m : Nat) (x y : R) : Prop := ∃ z, x = y + ns m z

theorem Md.refl (m : Nat) (x : R) : Md m x x := ⟨0, by rw [ns_zero, add_zero]⟩
theorem Md.of {m : Nat} {x y : R} (h : x = y) : Md m x y := h ▸ Md.refl m x
theorem Md.symm {m : Nat} {x y : R} : Md m x y → Md m y x := by
  rintro ⟨z, rfl⟩
  exact ⟨-z, by rw [ns_neg, add_assoc, add_neg, add_zero]⟩
theorem Md.trans {m : Nat} {x y z : R} : Md m x y → Md m y z → Md m x z := by
  rintro ⟨u, rfl⟩ ⟨v, rfl⟩
  exact ⟨v + u, by rw [ns_sum, add_assoc]⟩
theorem Md.add {m : Nat} {x y z w : R} : Md m x y → Md m z w → Md m (x + z) (y + w) := by
  rintro ⟨u, rfl⟩ ⟨v, rfl⟩
  exact ⟨u + v, by rw [ns_sum, add_add_comm]⟩
theorem Md.neg {m : Nat} {x y : R} : Md m x y → Md m (-x) (-y) := by
  rintro ⟨u, rfl⟩
  exact ⟨-u, by rw [ns_neg, neg_sum]⟩
theorem Md.mul {m : Nat} {x y z w : R} : Md m x y → Md m z w → Md m (x * z) (y * w) := by
  rintro ⟨u, rfl⟩ ⟨v, rfl⟩
  exact ⟨y * v + (u * w + u * ns m v), by rw [add_mul, mul_add, mul_add, ns_sum, ns_sum, mul_ns, ns_mul, ns_mul, add_assoc]⟩
theorem Md.pw {m : Nat} {x y : R} (h : Md m x y) : ∀ n, Md m (pw x n) (pw y n)
  | 0 => Md.refl _ _
  | n + 1 => (Md.pw h n).mul h
theorem Md.mul_zero {m : Nat} {x y : R} (h : Md m y 0) : Md m (x * y) 0 := by
  have := (Md.refl m x).mul h
  rwa [Go.Alg.mul_zero] at this
theorem Md.zero_mul {m : Nat} {x y : R} (h : Md m x 0) : Md m (x * y) 0 := by
  have := h.mul (Md.refl m y)
  rwa [Go.Alg.zero_mul] at this
theorem Md.zero_add {m : Nat} {x y z : R} (h : Md m x 0) (k : Md m y z) : Md m (x + y) z := by
  have := h.add k
  rwa [CR.zero_add] at this
theorem Md.frob {p : Nat} (hp : Pr p) (x y : R) : Md p (Go.Alg.pw (x + y) p) (Go.Alg.pw x p + Go.Alg.pw y p) := Go.Alg.frob x y hp
/-- Their difference is nought. -/
theorem Md.sub_zero {m : Nat} {x y : R} : Md m (x + -y) 0 ↔ Md m x y := by
  constructor
  · intro h
    have := h.add (Md.refl m y)
    rwa [add_assoc, neg_add, add_zero, CR.zero_add] at this
  · intro h
    have := h.add (Md.refl m (-y))
    rwa [add_neg] at this

theorem qns_a {ν : R} (n : Nat) (x : Quad ν) : (ns n x).a = ns n x.a := by
  induction n with
  | zero => rfl
  | succ n ih =>
    show (ns n x).a + x.a = ns n x.a + x.a
    rw [ih]
theorem qns_b {ν : R} (n : Nat) (x : Quad ν) : (ns n x).b = ns n x.b := by
  induction n with
  | zero => rfl
  | succ n ih =>
    show (ns n x).b + x.b = ns n x.b + x.b
    rw [ih]
theorem cns_a {ξ : R} (n : Nat) (x : Cub ξ) : (ns n x).a = ns n x.a := by
  induction n with
  | zero => rfl
  | succ n ih =>
    show (ns n x).a + x.a = ns n x.a + x.a
    rw [ih]
theorem cns_b {ξ : R} (n : Nat) (x : Cub ξ) : (ns n x).b = ns n x.b := by
  induction n with
  | zero => rfl
  | succ n ih =>
    show (ns n x).b + x.b = ns n x.b + x.b
    rw [ih]
theorem cns_c {ξ : R} (n : Nat) (x : Cub ξ) : (ns n x).c = ns n x.c := by
  induction n with
  | zero => rfl
  | succ n ih =>
    show (ns n x).c + x.c = ns n x.c + x.c
    rw [ih]

theorem md_quad {ν : R} {m : Nat} {x y : Quad ν} : Md m x y ↔ Md m x.a y.a ∧ Md m x.b y.b := by
  constructor
  · rintro ⟨z, rfl⟩
    exact ⟨⟨z.a, by rw [qadd_a, qns_a]⟩, ⟨z.b, by rw [qadd_b, qns_b]⟩⟩
  · rintro ⟨⟨u, hu⟩, ⟨v, hv⟩⟩
    exact ⟨⟨u, v⟩, Quad.eq (by rw [qadd_a, qns_a, hu]) (by rw [qadd_b, qns_b, hv])⟩

theorem md_cub {ξ : R} {m : Nat} {x y : Cub ξ} : Md m x y ↔ Md m x.a y.a ∧ Md m x.b y.b ∧ Md m x.c y.c := by
  constructor
  · rintro ⟨z, rfl⟩
    exact ⟨⟨z.a, by rw [cadd_a, cns_a]⟩, ⟨z.b, by rw [cadd_b, cns_b]⟩, ⟨z.c, by rw [cadd_c, cns_c]⟩⟩
  · rintro ⟨⟨u, hu⟩, ⟨v, hv⟩, ⟨w, hw⟩⟩
    exact ⟨⟨u, v, w⟩, Cub.eq (by rw [cadd_a, cns_a, hu]) (by rw [cadd_b, cns_b, hv]) (by rw [cadd_c, cns_c, hw])⟩

end

theorem md_int {m : Nat} {x y : Int} : Md m x y ↔ Cg m x y := by
  rw [cg_iff]
  constructor
  · rintro ⟨z, h⟩
    exact ⟨z, by rw [h, ns_int]⟩
  · rintro ⟨z, h⟩
    exact ⟨z, by rw [h, ns_int]⟩

theorem md_q2 {m : Nat} {x y : K2} : Md m x y ↔ Q2 m x y := by
  rw [md_quad, md_int, md_int]
  exact Iff.rfl
theorem md_q6 {m : Nat} {x y : K6} : Md m x y ↔ Q6 m x y := by
  rw [md_cub, md_q2, md_q2, md_q2]
  exact Iff.rfl
theorem md_q12 {m : Nat} {x y : K12} : Md m x y ↔ Q12 m x y := by
  rw [md_quad, md_q6, md_q6]
  exact Iff.rfl

end Go.Alg
