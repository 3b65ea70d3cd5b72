/- The tower's laws: tests of numbers. -/
import Derived.Test.YtbgcfmmkbocpoaaTw13
import Derived.Test.YtbgcfmmkbocpoaaFrame
namespace Go.Num
open Go.Abs Go.Proofs Go.Shelf Go.Alg

theorem q12_of {x y : K12} (h : Md MN x y) : decide (Q12 fld.m x y) = true := decide_eq_true (md_q12m.1 h)
theorem q6_of {x y : K6} (h : Md MN x y) : decide (Q6 fld.m x y) = true := decide_eq_true (md_q6m.1 h)
theorem not_of {b : Bool} (h : b = true) : (!b) = false := by rw [h]; rfl
theorem n12_of {x y : K12} (h : x = y) : (!decide (Q12 fld.m x y)) = false := not_of (q12_of (Md.of h))
theorem n6_of {x y : K6} (h : x = y) : (!decide (Q6 fld.m x y)) = false := not_of (q6_of (Md.of h))

def isZ6 (x : K6) : Bool := (decide (x.a.a % fld.m = 0 % fld.m) && (decide (x.a.b % fld.m = 0 % fld.m) && (decide (x.b.a % fld.m = 0 % fld.m) && (decide (x.b.b % fld.m = 0 % fld.m) && (decide (x.c.a % fld.m = 0 % fld.m) && decide (x.c.b % fld.m = 0 % fld.m))))))
def isZ12 (x : K12) : Bool := (decide (x.a.a.a % fld.m = 0 % fld.m) && (decide (x.a.a.b % fld.m = 0 % fld.m) && (decide (x.a.b.a % fld.m = 0 % fld.m) && (decide (x.a.b.b % fld.m = 0 % fld.m) && (decide (x.a.c.a % fld.m = 0 % fld.m) && (decide (x.a.c.b % fld.m = 0 % fld.m) && (decide (x.b.a.a % fld.m = 0 % fld.m) && (decide (x.b.a.b % fld.m = 0 % fld.m) && (decide (x.b.b.a % fld.m = 0 % fld.m) && (decide (x.b.b.b % fld.m = 0 % fld.m) && (decide (x.b.c.a % fld.m = 0 % fld.m) && decide (x.b.c.b % fld.m = 0 % fld.m))))))))))))

theorem isZ6_iff {x : K6} : isZ6 x = true ↔ Md MN x 0 := by
  rw [md_q6m]
  unfold isZ6
  simp only [Bool.and_eq_true, decide_eq_true_iff]
  constructor
  · rintro ⟨a, b, c, d, e, f⟩
    exact ⟨⟨a, b⟩, ⟨c, d⟩, ⟨e, f⟩⟩
  · rintro ⟨⟨a, b⟩, ⟨c, d⟩, ⟨e, f⟩⟩
    exact ⟨a, b, c, d, e, f⟩

theorem isZ12_iff {x : K12} : isZ12 x = true ↔ Md MN x 0 := by
  rw [md_q12m]
  unfold isZ12
  simp only [Bool.and_eq_true, decide_eq_true_iff]
  constructor
  · rintro ⟨a, b, c, d, e, f, g, h, i, j, k, l⟩
    exact ⟨⟨⟨a, b⟩, ⟨c, d⟩, ⟨e, f⟩⟩, ⟨g, h⟩, ⟨i, j⟩, ⟨k, l⟩⟩
  · rintro ⟨⟨⟨a, b⟩, ⟨c, d⟩, ⟨e, f⟩⟩, ⟨g, h⟩, ⟨i, j⟩, ⟨k, l⟩⟩
    exact ⟨a, b, c, d, e, f, g, h, i, j, k, l⟩

theorem isZ6_not {x : K6} (h : isZ6 x = false) : ¬ Md MN x 0 := fun e => by
  rw [isZ6_iff.2 e] at h
  cases h
theorem isZ12_not {x : K12} (h : isZ12 x = false) : ¬ Md MN x 0 := fun e => by
  rw [isZ12_iff.2 e] at h
  cases h

end Go.Num
