/- Norms. Plain mathematics over the field's modulus. -/
import Derived.Test.YtlobkhocdmepfaaTw4
import Derived.Test.YtlobkhocdmepfaaFpMath
namespace Go.Num
open Go.Abs Go.Proofs Go.Alg

theorem hasSq_cg {a b : Int} (h : a % fld.m = b % fld.m) : hasSq a = hasSq b := by
  have h1 : Cg ((4002409555221667393417789825735904156556882819939007885332058136124031650490837864442687629129015664037894272559787 : Nat) : Int) a b := cg_m.2 h
  have h2 : Cg ((4002409555221667393417789825735904156556882819939007885332058136124031650490837864442687629129015664037894272559787 : Nat) : Int) (sqOf a) (sqOf b) := h1.pow sqrtE
  have h3 := cg_m.1 (h2.mul h2)
  unfold hasSq
  rw [h3, h]

theorem sq_zero {a : Int} (h : a * a % fld.m = 0) : a % fld.m = 0 := by
  rcases prm.cg_mul (cg_m.2 (by rw [h, Int.zero_emod]) : Cg ((4002409555221667393417789825735904156556882819939007885332058136124031650490837864442687629129015664037894272559787 : Nat) : Int) (a * a) 0) with h1 | h1
  · have := cg_m.1 h1
    rwa [Int.zero_emod] at this
  · have := cg_m.1 h1
    rwa [Int.zero_emod] at this

theorem mul_ne {a b : Int} (ha : a % fld.m ≠ 0) (hb : b % fld.m ≠ 0) : a * b % fld.m ≠ 0 := by
  intro h0
  rcases prm.cg_mul (cg_m.2 (by rw [h0, Int.zero_emod]) : Cg ((4002409555221667393417789825735904156556882819939007885332058136124031650490837864442687629129015664037894272559787 : Nat) : Int) (a * b) 0) with h1 | h1
  · exact ne_cg ha h1
  · exact ne_cg hb h1

theorem q2_zero {x : K2} : Q2 fld.m x 0 ↔ x.a % fld.m = 0 ∧ x.b % fld.m = 0 := by
  show x.a % fld.m = 0 % fld.m ∧ x.b % fld.m = 0 % fld.m ↔ _
  rw [Int.zero_emod]

/-- A pair is nought just if its norm is. -/
theorem nrm_zero (x : K2) : nrm x % fld.m = 0 ↔ Q2 fld.m x 0 := by
  rw [q2_zero]
  constructor
  · intro h
    have e : x.a * x.a % fld.m = (0 - x.b * x.b) % fld.m := by
      have h1 : (nrm x - x.b * x.b) % fld.m = (0 - x.b * x.b) % fld.m := by
        rw [Int.sub_emod (nrm x), h, Int.sub_emod 0 (x.b * x.b), Int.zero_emod]
      rw [← h1]
      congr 1
      unfold nrm
      omega
    by_cases hb : x.b % fld.m = 0
    · have hbb : x.b * x.b % fld.m = 0 := by rw [Int.mul_emod, hb]; rfl
      have h0 : x.a * x.a % fld.m = 0 := by
        rw [e, Int.sub_emod, hbb]
        rfl
      exact ⟨sq_zero h0, hb⟩
    · exfalso
      have h1 := one_root (mul_ne hb hb)
      rw [← hasSq_cg e, hasSq_mul_self, hasSq_mul_self] at h1
      cases h1
  · rintro ⟨h1, h2⟩
    unfold nrm
    rw [Int.add_emod, Int.mul_emod x.a, Int.mul_emod x.b, h1, h2]
    rfl

theorem md {x y : Int} (h : x = y) : decide (x % fld.m = y % fld.m) = true := by rw [h]; exact decide_eq_true rfl
theorem md2 {x y u v : Int} (h : x = y) (k : u = v) : (decide (x % fld.m = y % fld.m) && decide (u % fld.m = v % fld.m)) = true := by rw [md h, md k]; rfl
theorem mdq {x y : K2} (h : x = y) : decide (Q2 fld.m x y) = true := by rw [h]; exact decide_eq_true (q2_refl y)
theorem beq_dec {p q : Prop} [Decidable p] [Decidable q] (h : p ↔ q) : (decide p == decide q) = true := by
  rw [decide_eq_decide.2 h]
  exact beq_self_eq_true _
theorem long2 {l m : List Int} (h : ¬ ((l.length : Int) > 64 ∨ (m.length : Int) > 64 ∨ (0 : Int) > 64 ∨ (0 : Int) > 64)) : l.length ≤ 64 ∧ m.length ≤ 64 := by omega

end Go.Num
