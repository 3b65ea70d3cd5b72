/- The tower's numbers: the power of the modulus. -/
import Derived.Test.YtbgcfmmkbocpoaaTw8
namespace Go.Num
open Go.Abs Go.Proofs Go.Shelf Go.Alg

/-- The power (p - 1)/6 of 1 + i. -/
def rootK : K2 := ⟨tpow kN, -tpow kN⟩

theorem tpow_el {E : Env} {n : Nat} {r : List (Part FD.τ)} {cs : List Value} (h : PartsRel FD E (.tag (.pow 2 n) :: r) cs) : PartsRel FD E (.tag (.el (tpow n)) :: r) cs := h

theorem root_ok : FnOK Try.prog FD 33 (k0D s2 rootK) := by
  refine fnOK_of gamRt_ok mixed Try.func33 (enters_of Try.func33 (by kernel_rfl) rfl) ?_
  intro xs r ps h hps
  unfold k0D at h
  split at h
  · simp only [Option.some.injEq, Prod.mk.injEq] at h
    obtain ⟨rfl, rfl⟩ := h
    refine ⟨[], 600, _, _, _, fun w vs h => h, root_run, allQ_nil, fun E v hv => ?_⟩
    obtain ⟨cs, e, hp⟩ := hv
    exact ⟨cs, e, e2_cut.2 (tpow_el hp)⟩
  · cases h

def rt2 : K2 := sq2 rootK
def rt3 : K2 := rt2 * rootK
def rt4 : K2 := sq2 rt2
def rt5 : K2 := rt4 * rootK

def frob12 (x : K12) : K12 := ⟨⟨cj x.a.a, cj x.a.b * rt2, cj x.a.c * rt4⟩, ⟨cj x.b.a * rootK, cj x.b.b * rt3, cj x.b.c * rt5⟩⟩

def gamF : Gam FD := (33, k0D s2 rootK) :: gam24
theorem gamF_ok : GamOK Try.prog FD gamF := gam_cons root_ok gam24_ok

theorem frob_run_r (x : K12) : runF Try.prog FD gamF 100 Try.f31 [s12.arg x] [] =
    some ((Go.Abs.AV.v (Go.Abs.A0.agg ((Go.Abs.Part.tag (Go.Num.T.e2 (Go.Num.cj ((x).1).1))) :: ((Go.Abs.Part.tag (Go.Num.T.e2 ((Go.Num.cj ((x).1).2) * (Go.Num.sq2 Go.Num.rootK)))) :: ((Go.Abs.Part.tag (Go.Num.T.e2 ((Go.Num.cj ((x).1).3) * (Go.Num.sq2 (Go.Num.sq2 Go.Num.rootK))))) :: ((Go.Abs.Part.tag (Go.Num.T.e2 ((Go.Num.cj ((x).2).1) * Go.Num.rootK))) :: ((Go.Abs.Part.tag (Go.Num.T.e2 ((Go.Num.cj ((x).2).2) * ((Go.Num.sq2 Go.Num.rootK) * Go.Num.rootK)))) :: ((Go.Abs.Part.tag (Go.Num.T.e2 ((Go.Num.cj ((x).2).3) * ((Go.Num.sq2 (Go.Num.sq2 Go.Num.rootK)) * Go.Num.rootK)))) :: ([] : List (Part FD.τ)))))))))), []) := by kernel_rfl
theorem frob_run (x : K12) :
    ∃ ps, runF Try.prog FD gamF 100 Try.f31 [s12.arg x] [] = some ((Go.Abs.AV.v (Go.Abs.A0.agg ((Go.Abs.Part.tag (Go.Num.T.e2 (Go.Num.cj ((x).1).1))) :: ((Go.Abs.Part.tag (Go.Num.T.e2 ((Go.Num.cj ((x).1).2) * (Go.Num.sq2 Go.Num.rootK)))) :: ((Go.Abs.Part.tag (Go.Num.T.e2 ((Go.Num.cj ((x).1).3) * (Go.Num.sq2 (Go.Num.sq2 Go.Num.rootK))))) :: ((Go.Abs.Part.tag (Go.Num.T.e2 ((Go.Num.cj ((x).2).1) * Go.Num.rootK))) :: ((Go.Abs.Part.tag (Go.Num.T.e2 ((Go.Num.cj ((x).2).2) * ((Go.Num.sq2 Go.Num.rootK) * Go.Num.rootK)))) :: ((Go.Abs.Part.tag (Go.Num.T.e2 ((Go.Num.cj ((x).2).3) * ((Go.Num.sq2 (Go.Num.sq2 Go.Num.rootK)) * Go.Num.rootK)))) :: ([] : List (Part FD.τ)))))))))), ps) ∧ AllQ ps := ⟨_, frob_run_r x, allQ_nil⟩

theorem frob_ok : FnOK Try.prog FD 31 (c1D s12 s12 frob12) := by
  refine c1_ok gamF_ok Try.func31 (enters_of Try.func31 (by kernel_rfl) rfl) (fun x => ?_)
  obtain ⟨ps, h1, h2⟩ := frob_run x
  exact ⟨_, _, _, _, _, h1, h2, rfl, rfl⟩

/-! The power of the modulus: pairs. -/

def iK : K2 := ⟨0, 1⟩
def ofI (a : Int) : K2 := ⟨a, 0⟩

theorem ofI_mul (a b : Int) : ofI a * ofI b = ofI (a * b) := Quad.eq (by show a * b + -1 * (0 * 0) = a * b; omega) (by show a * 0 + 0 * b = 0; omega)

theorem ofI_pw (a : Int) (n : Nat) : pw (ofI a) n = ofI (a ^ n) := by
  induction n with
  | zero =>
    rw [pw, Int.pow_zero]
    rfl
  | succ n ih => rw [pw, ih, ofI_mul, Int.pow_succ]

theorem kN_4 : kN = 4 * (kN / 4) + 3 := by decide
theorem MN_k : MN = 6 * (2 * kN + 1) + 1 := by decide
theorem MN_4 : MN = 4 * (MN / 4) + 3 := by decide
theorem hN_k : hN = (2 * kN + 1) * 3 := by decide

theorem iK_3 {n : Nat} (h : n = 4 * (n / 4) + 3) : pw iK n = ⟨0, -1⟩ := by
  rw [h, pw_add, pw_pw, show pw iK 4 = 1 from rfl, one_pw, CR.one_mul]
  rfl

/-- 1 + i to the power (p - 1)/6. -/
theorem xi_root : pw xi (2 * kN + 1) = rootK := by
  rw [pw_add, pw_pw, pw_one, show pw xi 2 = ofI 2 * iK from rfl, mul_pw, iK_3 kN_4, ofI_pw]
  show ofI (tpow kN) * ⟨0, -1⟩ * xi = ⟨tpow kN, -tpow kN⟩
  generalize tpow kN = t
  exact Quad.eq (by show (t * 0 + -1 * (0 * -1)) * 1 + -1 * ((t * -1 + 0 * 0) * 1) = t; omega) (by show (t * 0 + -1 * (0 * -1)) * 1 + (t * -1 + 0 * 0) * 1 = -t; omega)

theorem cg_fermat (a : Int) : Md MN (a ^ MN) a := by
  by_cases h : Md MN a 0
  · have h1 := pow_md h MN
    rw [Int.zero_pow (by decide)] at h1
    exact h1.trans h.symm
  · have h1 := (fermat_md h).mul (Md.refl MN a)
    rw [← Int.pow_succ, Int.one_mul] at h1
    exact h1

theorem pw_cj (c : K2) : Md MN (pw c MN) (cj c) := by
  have e : c = ofI c.a + ofI c.b * iK := Quad.eq (by show c.a = c.a + (c.b * 0 + -1 * (0 * 1)); omega) (by show c.b = 0 + (c.b * 1 + 0 * 0); omega)
  have h := Md.frob prm (ofI c.a) (ofI c.b * iK)
  rw [← e, mul_pw, ofI_pw, ofI_pw, iK_3 MN_4] at h
  refine h.trans ?_
  have ha := cg_fermat c.a
  have hb := cg_fermat c.b
  have la : Md MN (ofI (c.a ^ MN)) (ofI c.a) := md_quad.2 ⟨ha, Md.refl _ _⟩
  have lb : Md MN (ofI (c.b ^ MN)) (ofI c.b) := md_quad.2 ⟨hb, Md.refl _ _⟩
  refine (la.add (lb.mul (Md.refl MN (⟨0, -1⟩ : K2)))).trans (Md.of ?_)
  exact Quad.eq (by show c.a + (c.b * 0 + -1 * (0 * -1)) = c.a; omega) (by show 0 + (c.b * -1 + 0 * 0) = -c.b; omega)

/-! The power of the modulus: all numbers. -/

def e0 (c : K2) : K12 := ⟨⟨c, 0, 0⟩, 0⟩
def e1 (c : K2) : K12 := ⟨0, ⟨c, 0, 0⟩⟩
def e2' (c : K2) : K12 := ⟨⟨0, c, 0⟩, 0⟩
def e3 (c : K2) : K12 := ⟨0, ⟨0, c, 0⟩⟩
def e4' (c : K2) : K12 := ⟨⟨0, 0, c⟩, 0⟩
def e5 (c : K2) : K12 := ⟨0, ⟨0, 0, c⟩⟩
def wK : K12 := ⟨0, 1⟩

theorem vee_eq (x : K6) : vee * x = ⟨xi * x.c, x.a, x.b⟩ := by
  have k := ring_id (vars [x.a, x.b, x.c, xi])
  refine Cub.eq ?_ ?_ ?_
  · exact k (0 * u 0 + u 3 * (1 * u 2 + 0 * u 1)) (u 3 * u 2) (by kernel_rfl)
  · exact k (0 * u 1 + 1 * u 0 + u 3 * (0 * u 2)) (u 0) (by kernel_rfl)
  · exact k (0 * u 2 + 1 * u 1 + 0 * u 0) (u 1) (by kernel_rfl)

theorem mul_wK (x : K12) : x * wK = ⟨⟨xi * x.b.c, x.b.a, x.b.b⟩, x.a⟩ := by
  refine Quad.eq ?_ ?_
  · rw [← vee_eq]
    exact ring_id (vars [x.a, x.b, vee]) (u 0 * 0 + u 2 * (u 1 * 1)) (u 2 * u 1) (by kernel_rfl)
  · exact ring_id (vars [x.a, x.b]) (u 0 * 1 + u 1 * 0) (u 0) (by kernel_rfl)

theorem e01 (c : K2) : e0 c * wK = e1 c := by
  rw [mul_wK]
  exact Quad.eq (Cub.eq (Alg.mul_zero _) rfl rfl) rfl
theorem e12 (c : K2) : e1 c * wK = e2' c := by
  rw [mul_wK]
  exact Quad.eq (Cub.eq (Alg.mul_zero _) rfl rfl) rfl
theorem e23 (c : K2) : e2' c * wK = e3 c := by
  rw [mul_wK]
  exact Quad.eq (Cub.eq (Alg.mul_zero _) rfl rfl) rfl
theorem e34 (c : K2) : e3 c * wK = e4' c := by
  rw [mul_wK]
  exact Quad.eq (Cub.eq (Alg.mul_zero _) rfl rfl) rfl
theorem e45 (c : K2) : e4' c * wK = e5 c := by
  rw [mul_wK]
  exact Quad.eq (Cub.eq (Alg.mul_zero _) rfl rfl) rfl
theorem e50 (c : K2) : e5 c * wK = e0 (c * xi) := by
  rw [mul_wK]
  exact Quad.eq (Cub.eq (CR.mul_comm _ _) rfl rfl) rfl
theorem e0_mul (c d : K2) : e0 c * e0 d = e0 (c * d) := by
  have h : (⟨c, 0, 0⟩ : K6) * ⟨d, 0, 0⟩ = ⟨c * d, 0, 0⟩ := by
    rw [← scl6_eq]
    exact Cub.eq rfl (Alg.zero_mul _) (Alg.zero_mul _)
  refine Quad.eq ?_ ?_
  · show (⟨c, 0, 0⟩ : K6) * ⟨d, 0, 0⟩ + vee * (0 * 0) = ⟨c * d, 0, 0⟩
    rw [h, Alg.mul_zero, Alg.mul_zero, Alg.add_zero]
  · show (⟨c, 0, 0⟩ : K6) * 0 + 0 * ⟨d, 0, 0⟩ = 0
    rw [Alg.mul_zero, Alg.zero_mul, Alg.add_zero]

theorem sum_a (a : K2) : a = a + (0 + (0 + (0 + (0 + 0)))) := by rw [CR.zero_add, CR.zero_add, CR.zero_add, CR.zero_add, Alg.add_zero]
theorem sum_b (a : K2) : a = 0 + (a + (0 + (0 + (0 + 0)))) := by rw [CR.zero_add, CR.zero_add, CR.zero_add, CR.zero_add, Alg.add_zero]
theorem sum_c (a : K2) : a = 0 + (0 + (a + (0 + (0 + 0)))) := by rw [CR.zero_add, CR.zero_add, CR.zero_add, CR.zero_add, Alg.add_zero]
theorem sum_d (a : K2) : a = 0 + (0 + (0 + (a + (0 + 0)))) := by rw [CR.zero_add, CR.zero_add, CR.zero_add, CR.zero_add, Alg.add_zero]
theorem sum_e (a : K2) : a = 0 + (0 + (0 + (0 + (a + 0)))) := by rw [CR.zero_add, CR.zero_add, CR.zero_add, CR.zero_add, Alg.add_zero]
theorem sum_f (a : K2) : a = 0 + (0 + (0 + (0 + (0 + a)))) := by rw [CR.zero_add, CR.zero_add, CR.zero_add, CR.zero_add, CR.zero_add]

theorem e_sum (x : K12) : x = e0 x.a.a + (e1 x.b.a + (e2' x.a.b + (e3 x.b.b + (e4' x.a.c + e5 x.b.c)))) :=
  Quad.eq (Cub.eq (sum_a _) (sum_c _) (sum_e _)) (Cub.eq (sum_b _) (sum_d _) (sum_f _))

theorem e0_pw (c : K2) (n : Nat) : pw (e0 c) n = e0 (pw c n) := by
  induction n with
  | zero =>
    rw [pw, pw]
    rfl
  | succ n ih => rw [pw, pw, ih, e0_mul]

theorem md_z {R : Type} [CR R] {m : Nat} : Md m (0 : R) 0 := Md.refl _ _
theorem e0_md {c d : K2} (h : Md MN c d) : Md MN (e0 c) (e0 d) := md_quad.2 ⟨md_cub.2 ⟨h, md_z, md_z⟩, md_z⟩

theorem w6 : pw wK 6 = e0 xi := by
  show pw wK (0 + 1 + 1 + 1 + 1 + 1 + 1) = _
  rw [pw, pw, pw, pw, pw, pw, pw, show (1 : K12) = e0 1 from rfl, e01, e12, e23, e34, e45, e50, CR.one_mul]

/-- w to the power of the modulus. -/
theorem w_pw : pw wK MN = wK * e0 rootK := by
  rw [MN_k, pw_add, pw_pw, pw_one, w6, e0_pw, xi_root, CR.mul_comm]

theorem step_pw {a b : K2 → K12} (hab : ∀ c, a c * wK = b c) {c d : K2} (h : Md MN (pw (a c) MN) (a d)) (ha : ∀ c d, a c * e0 d = a (c * d)) : Md MN (pw (b c) MN) (b (d * rootK)) := by
  rw [← hab c, mul_pw, w_pw]
  refine (h.mul (Md.refl _ _)).trans (Md.of ?_)
  rw [← hab, ← ha]
  exact mul_right_comm' _ _ _
where
  mul_right_comm' {R : Type} [CR R] (x y z : R) : x * (y * z) = x * z * y := by rw [← CR.mul_assoc, Alg.mul_right_comm]

theorem e1_mul (c d : K2) : e1 c * e0 d = e1 (c * d) := by rw [← e01, ← e01, ← e0_mul, Alg.mul_right_comm]
theorem e2_mul (c d : K2) : e2' c * e0 d = e2' (c * d) := by rw [← e12, ← e12, ← e1_mul, Alg.mul_right_comm]
theorem e3_mul (c d : K2) : e3 c * e0 d = e3 (c * d) := by rw [← e23, ← e23, ← e2_mul, Alg.mul_right_comm]
theorem e4_mul (c d : K2) : e4' c * e0 d = e4' (c * d) := by rw [← e34, ← e34, ← e3_mul, Alg.mul_right_comm]

theorem pw_frob (x : K12) : Md MN (pw x MN) (frob12 x) := by
  have k0 : ∀ c, Md MN (pw (e0 c) MN) (e0 (cj c)) := fun c => by
    rw [e0_pw]
    exact e0_md (pw_cj c)
  have k1 := fun c => step_pw e01 (k0 c) e0_mul
  have k2 := fun c => step_pw e12 (k1 c) e1_mul
  have k3 := fun c => step_pw e23 (k2 c) e2_mul
  have k4 := fun c => step_pw e34 (k3 c) e3_mul
  have k5 := fun c => step_pw e45 (k4 c) e4_mul
  have f : frob12 x = e0 (cj x.a.a) + (e1 (cj x.b.a * rootK) + (e2' (cj x.a.b * rt2) + (e3 (cj x.b.b * rt3) + (e4' (cj x.a.c * rt4) + e5 (cj x.b.c * rt5))))) := e_sum (frob12 x)
  have a2 : ∀ c : K2, cj c * rootK * rootK = cj c * rt2 := fun c => CR.mul_assoc _ _ _
  have a3 : ∀ c : K2, cj c * rt2 * rootK = cj c * rt3 := fun c => CR.mul_assoc _ _ _
  have a4 : ∀ c : K2, cj c * rt3 * rootK = cj c * rt4 := fun c => by
    rw [CR.mul_assoc, show rt3 * rootK = rt4 from CR.mul_assoc _ _ _]
  have a5 : ∀ c : K2, cj c * rt4 * rootK = cj c * rt5 := fun c => CR.mul_assoc _ _ _
  simp only [a2, a3, a4, a5] at k2 k3 k4 k5
  have s : ∀ {u v u' v' : K12}, Md MN (pw u MN) u' → Md MN (pw v MN) v' → Md MN (pw (u + v) MN) (u' + v') := fun h k => (Md.frob prm _ _).trans (h.add k)
  rw [f]
  have h := s (k0 x.a.a) (s (k1 x.b.a) (s (k2 x.a.b) (s (k3 x.b.b) (s (k4 x.a.c) (k5 x.b.c)))))
  rw [← e_sum] at h
  exact h

/-! Frob goes with products; six times it is the mirror image. -/

theorem frob_md {x y : K12} (h : Md MN x y) : Md MN (frob12 x) (frob12 y) := (pw_frob x).symm.trans ((h.pw MN).trans (pw_frob y))

theorem frob_mul (x y : K12) : Md MN (frob12 (x * y)) (frob12 x * frob12 y) := by
  refine (pw_frob _).symm.trans ?_
  rw [mul_pw]
  exact (pw_frob x).mul (pw_frob y)

theorem root6 : Md MN (1 * rootK * rootK * rootK * rootK * rootK * rootK * xi) (cj xi) := by
  have h : Md MN (pw xi MN) (cj xi) := pw_cj xi
  rw [MN_k, Nat.mul_comm, pw_add, pw_pw, pw_one, xi_root] at h
  exact h

/-- Twice: times a whole number. -/
theorem frob_2 (c r : K2) : cj (cj c * r) * r = scl c (nrm r) := by
  refine Quad.eq ?_ ?_
  · show (c.a * r.a + -1 * (-c.b * r.b)) * r.a + -1 * (-(c.a * r.b + -c.b * r.a) * r.b) = c.a * (r.a * r.a + r.b * r.b)
    grind
  · show (c.a * r.a + -1 * (-c.b * r.b)) * r.b + -(c.a * r.b + -c.b * r.a) * r.a = c.b * (r.a * r.a + r.b * r.b)
    grind

theorem nrm_root : nrm rootK = 2 ^ (2 * kN + 1) := by
  show tpow kN * tpow kN + -tpow kN * -tpow kN = 2 ^ (2 * kN + 1)
  rw [Int.neg_mul_neg, Int.pow_succ, Nat.two_mul, Int.pow_add]
  show 2 ^ kN * 2 ^ kN + 2 ^ kN * 2 ^ kN = 2 ^ kN * 2 ^ kN * 2
  generalize (2 : Int) ^ kN * 2 ^ kN = t
  omega

theorem nrm_3 : Md MN (nrm rootK * nrm rootK * nrm rootK) (-1) := by
  rw [nrm_root]
  have h := two_h
  rw [hN_k, Int.pow_mul] at h
  have e : ∀ t : Int, t ^ 3 = t * t * t := fun t => by grind
  rw [e] at h
  exact h

theorem frob_6a (c r : K2) : cj (cj (cj (cj (cj (cj c * r) * r) * r) * r) * r) * r = scl c (nrm r * nrm r * nrm r) := by
  rw [frob_2, frob_2, frob_2]
  exact Quad.eq (by show c.a * nrm r * nrm r * nrm r = c.a * (nrm r * nrm r * nrm r); grind) (by show c.b * nrm r * nrm r * nrm r = c.b * (nrm r * nrm r * nrm r); grind)

theorem scl_md {c : K2} {a b : Int} (h : Md MN a b) : Md MN (scl c a) (scl c b) := md_quad.2 ⟨(Md.refl _ _).mul h, (Md.refl _ _).mul h⟩

theorem scl_one (c : K2) : scl c 1 = c := Quad.eq (Int.mul_one _) (Int.mul_one _)
theorem scl_neg (c : K2) : scl c (-1) = -c := Quad.eq (by show c.a * -1 = -c.a; omega) (by show c.b * -1 = -c.b; omega)
theorem cj_cj (c : K2) : cj (cj c) = c := Quad.eq rfl (Int.neg_neg _)

theorem frob_6e {c r : K2} (h : Md MN (nrm r * nrm r * nrm r) 1) : Md MN (cj (cj (cj (cj (cj (cj c * r) * r) * r) * r) * r) * r) c := by
  rw [frob_6a]
  have := scl_md (c := c) h
  rwa [scl_one] at this
theorem frob_6o {c r : K2} (h : Md MN (nrm r * nrm r * nrm r) (-1)) : Md MN (cj (cj (cj (cj (cj (cj c * r) * r) * r) * r) * r) * r) (-c) := by
  rw [frob_6a]
  have := scl_md (c := c) h
  rwa [scl_neg] at this

theorem nrm_cube_mul {r s : K2} {a b : Int} (h : Md MN (nrm r * nrm r * nrm r) a) (k : Md MN (nrm s * nrm s * nrm s) b) : Md MN (nrm (r * s) * nrm (r * s) * nrm (r * s)) (a * b) := by
  have := h.mul k
  rw [show nrm r * nrm r * nrm r * (nrm s * nrm s * nrm s) = nrm (r * s) * nrm (r * s) * nrm (r * s) from by rw [nrm_mul]; grind] at this
  exact this

theorem cubes {r : K2} (n1 : Md MN (nrm r * nrm r * nrm r) (-1)) : Md MN (nrm (sq2 r) * nrm (sq2 r) * nrm (sq2 r)) 1 ∧ Md MN (nrm (sq2 r * r) * nrm (sq2 r * r) * nrm (sq2 r * r)) (-1) ∧
    Md MN (nrm (sq2 (sq2 r)) * nrm (sq2 (sq2 r)) * nrm (sq2 (sq2 r))) 1 ∧ Md MN (nrm (sq2 (sq2 r) * r) * nrm (sq2 (sq2 r) * r) * nrm (sq2 (sq2 r) * r)) (-1) := by
  have n2 := nrm_cube_mul n1 n1
  rw [show (-1 : Int) * -1 = 1 from rfl] at n2
  have n3 := nrm_cube_mul n2 n1
  have n4 := nrm_cube_mul n2 n2
  rw [show (1 : Int) * 1 = 1 from rfl] at n4
  have n5 := nrm_cube_mul n4 n1
  rw [show (1 : Int) * -1 = -1 from rfl] at n3 n5
  exact ⟨n2, n3, n4, n5⟩

theorem frob_6 (x : K12) : Md MN (frob12 (frob12 (frob12 (frob12 (frob12 (frob12 x)))))) (cj12 x) := by
  have n1 := nrm_3
  obtain ⟨n2, n3, n4, n5⟩ := cubes n1
  refine md_quad.2 ⟨md_cub.2 ⟨?_, frob_6e n2, frob_6e n4⟩, ?_⟩
  · show Md MN (cj (cj (cj (cj (cj (cj x.a.a)))))) x.a.a
    rw [cj_cj, cj_cj, cj_cj]
    exact Md.refl _ _
  · show Md MN _ (0 + -x.b)
    rw [CR.zero_add]
    exact md_cub.2 ⟨frob_6o n1, frob_6o n3, frob_6o n5⟩

end Go.Num
