/- The tower's numbers but for multiples of the field's modulus: it is a field. Plain mathematics. -/
import Derived.Test.YtbgcfmmkbocpoaaTw1
import Derived.Test.YtbgcfmmkbocpoaaMod
namespace Go.Num
open Go.Abs Go.Proofs Go.Alg

def MN : Nat := 4002409555221667393417789825735904156556882819939007885332058136124031650490837864442687629129015664037894272559787
theorem prm : Pr MN := fieldPr
theorem m_MN : fld.m = ((MN : Nat) : Int) := m_nat

theorem md_q2m {x y : K2} : Md MN x y ↔ Q2 fld.m x y := by rw [m_MN]; exact md_q2
theorem md_q6m {x y : K6} : Md MN x y ↔ Q6 fld.m x y := by rw [m_MN]; exact md_q6
theorem md_q12m {x y : K12} : Md MN x y ↔ Q12 fld.m x y := by rw [m_MN]; exact md_q12

/-! whole numbers -/

theorem dom1 {a b : Int} (h : Md MN (a * b) 0) : Md MN a 0 ∨ Md MN b 0 := by
  rw [md_int, md_int]
  exact prm.cg_mul (md_int.1 h)

theorem fermat_md {a : Int} (h : ¬ Md MN a 0) : Md MN (a ^ (MN - 1)) 1 := md_int.2 (fermat1 prm (fun e => h (md_int.2 e)))

theorem one_md : ¬ Md MN (1 : Int) 0 := by
  rw [md_int]
  show ¬ (1 : Int) % ((MN : Nat) : Int) = 0 % ((MN : Nat) : Int)
  decide

theorem pow_md {a b : Int} (h : Md MN a b) (n : Nat) : Md MN (a ^ n) (b ^ n) := md_int.2 ((md_int.1 h).pow n)

def hN : Nat := (MN - 1) / 2
def tN : Nat := (MN - 1) / 3

/-- Where d to the n-th part of p - 1 isn't 1, no n-th power is d times another one. -/
theorem no_root {d : Int} {n e : Nat} (he : n * e = MN - 1) (hn : 0 < n) (hd0 : ¬ Md MN d 0) (hd : ¬ Md MN (d ^ e) 1) {a b : Int} (h : Md MN (a ^ n) (d * b ^ n)) : Md MN a 0 ∧ Md MN b 0 := by
  have zpow : ∀ {x : Int} {k : Nat}, Md MN (x ^ k) 0 → 0 < k → Md MN x 0 := by
    intro x k
    induction k with
    | zero => intro _ h; cases h
    | succ k ih =>
      intro h _
      rw [Int.pow_succ] at h
      rcases dom1 h with h1 | h1
      · cases k with
        | zero => exact (one_md (by rwa [Int.pow_zero] at h1)).elim
        | succ k => exact ih h1 (Nat.succ_pos _)
      · exact h1
  by_cases hb : Md MN b 0
  · refine ⟨zpow (k := n) (h.trans ?_) hn, hb⟩
    have := pow_md hb n
    rw [Int.zero_pow (by omega)] at this
    exact this.mul_zero
  · exfalso
    have ha : ¬ Md MN a 0 := by
      intro ha
      have h1 := pow_md ha n
      rw [Int.zero_pow (by omega)] at h1
      rcases dom1 (h.symm.trans h1) with h2 | h2
      · exact hd0 h2
      · exact hb (zpow h2 hn)
    have h2 := pow_md h e
    rw [Int.mul_pow, ← Int.pow_mul, ← Int.pow_mul, he] at h2
    have h3 := (Md.refl MN (d ^ e)).mul (fermat_md hb)
    rw [Int.mul_one] at h3
    exact hd (h3.symm.trans (h2.symm.trans (fermat_md ha)))

theorem two_pow_h : ((2 : Nat) ^ hN) % MN = MN - 1 := by
  rw [← pm_spec MN 384 2 hN (Nat.le_of_ble_eq_true (by kernel_rfl))]
  kernel_rfl
theorem two_pow_t : ((2 : Nat) ^ tN) % MN ≠ 1 := by
  rw [← pm_spec MN 384 2 tN (Nat.le_of_ble_eq_true (by kernel_rfl))]
  exact Nat.ne_of_beq_eq_false (by kernel_rfl)

theorem two_h : Md MN ((2 : Int) ^ hN) (-1) := by
  rw [md_int]
  show (2 : Int) ^ hN % ((MN : Nat) : Int) = -1 % ((MN : Nat) : Int)
  rw [show (2 : Int) ^ hN = ((2 ^ hN : Nat) : Int) from (Int.natCast_pow 2 hN).symm, ← Int.natCast_emod, two_pow_h]
  decide
theorem two_t : ¬ Md MN ((2 : Int) ^ tN) 1 := by
  rw [md_int]
  show ¬ (2 : Int) ^ tN % ((MN : Nat) : Int) = 1 % ((MN : Nat) : Int)
  rw [show (2 : Int) ^ tN = ((2 ^ tN : Nat) : Int) from (Int.natCast_pow 2 tN).symm, ← Int.natCast_emod]
  intro h
  have h1 : (2 ^ tN % MN : Nat) = 1 := by
    have e : (1 : Int) % ((MN : Nat) : Int) = ((1 : Nat) : Int) := by decide
    rw [e] at h
    exact Int.ofNat.inj h
  exact two_pow_t h1
theorem neg_one_ne : ¬ Md MN (-1 : Int) 1 := by
  rw [md_int]
  show ¬ (-1 : Int) % ((MN : Nat) : Int) = 1 % ((MN : Nat) : Int)
  decide
theorem two_ne : ¬ Md MN (2 : Int) 0 := by
  rw [md_int]
  show ¬ (2 : Int) % ((MN : Nat) : Int) = 0 % ((MN : Nat) : Int)
  decide
theorem neg_one_h : Md MN ((-1 : Int) ^ hN) (-1) := by
  have h2 : hN = 2 * (hN / 2) + 1 := by decide
  rw [h2, Int.pow_succ, Int.pow_mul, show (-1 : Int) ^ 2 = 1 from rfl, Int.one_pow]
  exact Md.refl _ _

/-! pairs -/

theorem nrm_mul (x y : K2) : nrm (x * y) = nrm x * nrm y := by
  simp only [nrm, qmul_a, qmul_b]
  grind

theorem nrm_md {x y : K2} (h : Md MN x y) : Md MN (nrm x) (nrm y) := by
  rw [md_quad] at h
  exact (h.1.mul h.1).add (h.2.mul h.2)

theorem md2_zero {x : K2} : Md MN x 0 ↔ Md MN x.a 0 ∧ Md MN x.b 0 := md_quad

theorem nrm_zero {x : K2} (h : Md MN (nrm x) 0) : Md MN x 0 := by
  have h1 : Md MN (x.a ^ 2) (-1 * x.b ^ 2) := by
    have := h.add (Md.refl MN (-1 * x.b ^ 2))
    rw [show nrm x + -1 * x.b ^ 2 = x.a ^ 2 from by unfold nrm; grind, CR.zero_add] at this
    exact this
  exact md2_zero.2 (no_root (n := 2) (e := hN) (by decide) (by decide) (by
    intro h0
    have := h0.neg
    rw [show -(-1 : Int) = 1 from rfl, show -(0 : Int) = 0 from rfl] at this
    exact one_md this) (fun h2 => neg_one_ne (neg_one_h.symm.trans h2)) h1)

theorem dom2 {x y : K2} (h : Md MN (x * y) 0) : Md MN x 0 ∨ Md MN y 0 := by
  have h1 := nrm_md h
  rw [nrm_mul] at h1
  rcases dom1 (h1 : Md MN (nrm x * nrm y) 0) with h2 | h2
  · exact .inl (nrm_zero h2)
  · exact .inr (nrm_zero h2)

theorem no_cube {x y : K2} (h : Md MN (x * x * x) (xi * (y * y * y))) : Md MN x 0 ∧ Md MN y 0 := by
  have h1 := nrm_md h
  rw [nrm_mul, nrm_mul, nrm_mul, nrm_mul, nrm_mul] at h1
  have h2 : Md MN (nrm x ^ 3) (2 * nrm y ^ 3) := by
    rw [show nrm x ^ 3 = nrm x * nrm x * nrm x from by grind, show nrm y ^ 3 = nrm y * nrm y * nrm y from by grind]
    exact h1
  have h3 := no_root (n := 3) (e := tN) (by decide) (by decide) two_ne two_t h2
  exact ⟨nrm_zero h3.1, nrm_zero h3.2⟩

/-! triples -/

/-- What a triple is multiplied by to make its norm. -/
def adj (x : K6) : K6 := ⟨x.a * x.a + -(xi * (x.b * x.c)), xi * (x.c * x.c) + -(x.a * x.b), x.b * x.b + -(x.a * x.c)⟩
def nrm6 (x : K6) : K2 := x.a * (adj x).a + xi * (x.c * (adj x).b + x.b * (adj x).c)

theorem mul_adj (x : K6) : x * adj x = ⟨nrm6 x, 0, 0⟩ := by
  have k := ring_id (vars [x.a, x.b, x.c, xi])
  refine Cub.eq ?_ ?_ ?_
  · exact k (u 0 * (u 0 * u 0 + -(u 3 * (u 1 * u 2))) + u 3 * (u 1 * (u 1 * u 1 + -(u 0 * u 2)) + u 2 * (u 3 * (u 2 * u 2) + -(u 0 * u 1))))
      (u 0 * (u 0 * u 0 + -(u 3 * (u 1 * u 2))) + u 3 * (u 2 * (u 3 * (u 2 * u 2) + -(u 0 * u 1)) + u 1 * (u 1 * u 1 + -(u 0 * u 2)))) (by kernel_rfl)
  · exact k (u 0 * (u 3 * (u 2 * u 2) + -(u 0 * u 1)) + u 1 * (u 0 * u 0 + -(u 3 * (u 1 * u 2))) + u 3 * (u 2 * (u 1 * u 1 + -(u 0 * u 2)))) 0 (by kernel_rfl)
  · exact k (u 0 * (u 1 * u 1 + -(u 0 * u 2)) + u 1 * (u 3 * (u 2 * u 2) + -(u 0 * u 1)) + u 2 * (u 0 * u 0 + -(u 3 * (u 1 * u 2)))) 0 (by kernel_rfl)

def nE (a b c x : Alg.Ex) : Alg.Ex := a * (a * a + -(x * (b * c))) + x * (c * (x * (c * c) + -(a * b)) + b * (b * b + -(a * c)))

theorem nrm6_mul (x y : K6) : nrm6 (x * y) = nrm6 x * nrm6 y :=
  ring_id (vars [x.a, x.b, x.c, y.a, y.b, y.c, xi])
    (nE (u 0 * u 3 + u 6 * (u 1 * u 5 + u 2 * u 4)) (u 0 * u 4 + u 1 * u 3 + u 6 * (u 2 * u 5)) (u 0 * u 5 + u 1 * u 4 + u 2 * u 3) (u 6))
    (nE (u 0) (u 1) (u 2) (u 6) * nE (u 3) (u 4) (u 5) (u 6)) (by kernel_rfl)

theorem nrm6_md {x y : K6} (h : Md MN x y) : Md MN (nrm6 x) (nrm6 y) := by
  obtain ⟨ha, hb, hc⟩ := md_cub.1 h
  have hx := Md.refl MN xi
  exact (ha.mul ((ha.mul ha).add (hx.mul (hb.mul hc)).neg)).add (hx.mul ((hc.mul ((hx.mul (hc.mul hc)).add (ha.mul hb).neg)).add (hb.mul ((hb.mul hb).add (ha.mul hc).neg))))

theorem cube_zero {x : K2} (h : Md MN (x * x * x) 0) : Md MN x 0 := by
  rcases dom2 h with h1 | h1
  · rcases dom2 h1 with h2 | h2 <;> exact h2
  · exact h1

theorem nrm6_zero {x : K6} (h : Md MN (nrm6 x) 0) : Md MN x 0 := by
  have k := ring_id (vars [x.a, x.b, x.c, xi])
  have e1 : x * (⟨-x.b, x.c, 0⟩ : K6) = ⟨xi * (x.c * x.c) + -(x.a * x.b), -(x.b * x.b + -(x.a * x.c)), 0⟩ := by
    refine Cub.eq ?_ ?_ ?_
    · exact k (u 0 * -u 1 + u 3 * (u 1 * 0 + u 2 * u 2)) (u 3 * (u 2 * u 2) + -(u 0 * u 1)) (by kernel_rfl)
    · exact k (u 0 * u 2 + u 1 * -u 1 + u 3 * (u 2 * 0)) (-(u 1 * u 1 + -(u 0 * u 2))) (by kernel_rfl)
    · exact k (u 0 * 0 + u 1 * u 2 + u 2 * -u 1) 0 (by kernel_rfl)
  have h1 : Md MN (nrm6 (x * (⟨-x.b, x.c, 0⟩ : K6))) 0 := by
    rw [nrm6_mul]
    exact h.zero_mul
  rw [e1] at h1
  generalize hB : xi * (x.c * x.c) + -(x.a * x.b) = B at h1
  generalize hC : x.b * x.b + -(x.a * x.c) = C at h1
  have e2 : nrm6 (⟨B, -C, 0⟩ : K6) = B * B * B + -(xi * (C * C * C)) :=
    ring_id (vars [B, C, xi]) (nE (u 0) (-u 1) 0 (u 2)) (u 0 * u 0 * u 0 + -(u 2 * (u 1 * u 1 * u 1))) (by kernel_rfl)
  rw [e2] at h1
  obtain ⟨hB0, hC0⟩ := no_cube (Md.sub_zero.1 h1)
  rw [← hB] at hB0
  rw [← hC] at hC0
  have p1 := Md.sub_zero.1 hB0
  have p2 := Md.sub_zero.1 hC0
  have p3 : Md MN (x.b * x.b * x.b) (xi * (x.c * x.c * x.c)) := by
    have q1 := p2.mul (Md.refl MN x.b)
    have q2 := p1.symm.mul (Md.refl MN x.c)
    rw [show x.a * x.c * x.b = x.a * x.b * x.c from mul_right_comm _ _ _] at q1
    refine q1.trans (q2.trans (Md.of ?_))
    rw [CR.mul_assoc]
  obtain ⟨b0, c0⟩ := no_cube p3
  have a3 : Md MN (x.a * x.a * x.a) 0 := by
    have e3 : nrm6 x = x.a * x.a * x.a + (x.b * (-(xi * (x.a * x.c)) + xi * (x.b * x.b + -(x.a * x.c))) + x.c * (xi * (xi * (x.c * x.c) + -(x.a * x.b)))) :=
      k (nE (u 0) (u 1) (u 2) (u 3)) (u 0 * u 0 * u 0 + (u 1 * (-(u 3 * (u 0 * u 2)) + u 3 * (u 1 * u 1 + -(u 0 * u 2))) + u 2 * (u 3 * (u 3 * (u 2 * u 2) + -(u 0 * u 1))))) (by kernel_rfl)
    rw [e3] at h
    have z := (b0.zero_mul (y := -(xi * (x.a * x.c)) + xi * (x.b * x.b + -(x.a * x.c)))).zero_add (c0.zero_mul (y := xi * (xi * (x.c * x.c) + -(x.a * x.b))))
    have q := (Md.refl MN (x.a * x.a * x.a)).add z.symm
    rw [add_zero] at q
    exact q.trans h
  exact md_cub.2 ⟨cube_zero a3, b0, c0⟩

/-! sextuples of pairs -/

def nrm12 (x : K12) : K6 := x.a * x.a + -(vee * (x.b * x.b))

theorem nrm12_zero {x : K12} (h : Md MN (nrm12 x) 0) : Md MN x 0 := by
  have h1 := Md.sub_zero.1 h
  have h2 := nrm_md (nrm6_md h1)
  rw [nrm6_mul, nrm6_mul, nrm6_mul, nrm_mul, nrm_mul, nrm_mul] at h2
  have e : nrm (nrm6 vee) = 2 := by decide
  rw [e] at h2
  have h3 : Md MN (nrm (nrm6 x.a) ^ 2) (2 * nrm (nrm6 x.b) ^ 2) := by
    rw [show nrm (nrm6 x.a) ^ 2 = nrm (nrm6 x.a) * nrm (nrm6 x.a) from by grind, show nrm (nrm6 x.b) ^ 2 = nrm (nrm6 x.b) * nrm (nrm6 x.b) from by grind]
    exact h2
  obtain ⟨a0, b0⟩ := no_root (n := 2) (e := hN) (by decide) (by decide) two_ne (fun h => neg_one_ne (two_h.symm.trans h)) h3
  exact md_quad.2 ⟨nrm6_zero (nrm_zero a0), nrm6_zero (nrm_zero b0)⟩

/-! inverses -/

def scl6 (x : K6) (k : K2) : K6 := ⟨x.a * k, x.b * k, x.c * k⟩
def inv6 (x : K6) : K6 := scl6 (adj x) (inv2 (nrm6 x))
def inv12 (x : K12) : K12 := ⟨x.a * inv6 (nrm12 x), 0 + -(x.b * inv6 (nrm12 x))⟩

theorem inv2_md {x : K2} (h : ¬ Md MN x 0) : Md MN (x * inv2 x) 1 := by
  have hn : nrm x % fld.m ≠ 0 := by
    intro e
    refine h (nrm_zero (md_int.2 ?_))
    show nrm x % ((MN : Nat) : Int) = 0 % ((MN : Nat) : Int)
    rw [← m_MN, e, Int.zero_emod]
  have hi := inv_cg hn
  rw [m_MN] at hi
  refine md_quad.2 ⟨md_int.2 ?_, Md.of ?_⟩
  · have e1 : (x * inv2 x).a = nrm x * invOf (nrm x) := by
      show x.a * (x.a * invOf (nrm x)) + -1 * (x.b * (-x.b * invOf (nrm x))) = (x.a * x.a + x.b * x.b) * invOf (nrm x)
      grind
    rw [e1]
    exact hi
  · show x.a * (-x.b * invOf (nrm x)) + x.b * (x.a * invOf (nrm x)) = 0
    grind

theorem inv6_md {x : K6} (h : ¬ Md MN x 0) : Md MN (x * inv6 x) 1 := by
  have hn : ¬ Md MN (nrm6 x) 0 := fun e => h (nrm6_zero e)
  have e : x * inv6 x = scl6 (x * adj x) (inv2 (nrm6 x)) := by
    have k := ring_id (vars [x.a, x.b, x.c, (adj x).a, (adj x).b, (adj x).c, inv2 (nrm6 x), xi])
    refine Cub.eq ?_ ?_ ?_
    · exact k (u 0 * (u 3 * u 6) + u 7 * (u 1 * (u 5 * u 6) + u 2 * (u 4 * u 6))) ((u 0 * u 3 + u 7 * (u 1 * u 5 + u 2 * u 4)) * u 6) (by kernel_rfl)
    · exact k (u 0 * (u 4 * u 6) + u 1 * (u 3 * u 6) + u 7 * (u 2 * (u 5 * u 6))) ((u 0 * u 4 + u 1 * u 3 + u 7 * (u 2 * u 5)) * u 6) (by kernel_rfl)
    · exact k (u 0 * (u 5 * u 6) + u 1 * (u 4 * u 6) + u 2 * (u 3 * u 6)) ((u 0 * u 5 + u 1 * u 4 + u 2 * u 3) * u 6) (by kernel_rfl)
  rw [e, mul_adj]
  refine md_cub.2 ⟨inv2_md hn, Md.of (zero_mul _), Md.of (zero_mul _)⟩

theorem inv_a {R : Type} [CR R] (a b w v : R) : a * (a * w) + v * (b * (0 + -(b * w))) = (a * a + -(v * (b * b))) * w :=
  ring_id (vars [a, b, w, v]) (u 0 * (u 0 * u 2) + u 3 * (u 1 * (0 + -(u 1 * u 2)))) ((u 0 * u 0 + -(u 3 * (u 1 * u 1))) * u 2) (by kernel_rfl)
theorem inv_b {R : Type} [CR R] (a b w : R) : a * (0 + -(b * w)) + b * (a * w) = 0 :=
  ring_id (vars [a, b, w]) (u 0 * (0 + -(u 1 * u 2)) + u 1 * (u 0 * u 2)) 0 (by kernel_rfl)

theorem inv12_md {x : K12} (h : ¬ Md MN x 0) : Md MN (x * inv12 x) 1 := by
  have hn : ¬ Md MN (nrm12 x) 0 := fun e => h (nrm12_zero e)
  have hi := inv6_md hn
  refine md_quad.2 ⟨?_, ?_⟩
  · rw [qmul_a]
    refine (Md.of ?_).trans hi
    exact inv_a x.a x.b (inv6 (nrm12 x)) vee
  · rw [qmul_b]
    exact Md.of (inv_b x.a x.b (inv6 (nrm12 x)))

end Go.Num
