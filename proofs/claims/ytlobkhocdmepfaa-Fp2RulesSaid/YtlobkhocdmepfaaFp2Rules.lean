/- Fp2Rules: rules of reckoning. -/
import Derived.Test.YtlobkhocdmepfaaFp2Math
namespace Go.Num
open Go.Abs Go.Proofs Go.Shelf Go.Alg

theorem rules_long_r (a b c d : List Int) : runF Try.prog FD gam12 200 Try.f4 [.one (.words .u8 a), .one (.words .u8 b), .one (.words .u8 c), .one (.words .u8 d)] [.is true] =
    some ((Go.Abs.AV.v (Go.Abs.A0.one (Go.Abs.Part.bool Bool.true Bool.true))), [((decide (((((List.length a) : Nat) : Int) > (64 : Int)) ∨ (((((List.length b) : Nat) : Int) > (64 : Int)) ∨ (((((List.length c) : Nat) : Int) > (64 : Int)) ∨ ((((List.length d) : Nat) : Int) > (64 : Int)))))) = Bool.true)]) := by kernel_rfl
theorem rules_long (a b c d : List Int)
    (h1 : ((decide (((((List.length a) : Nat) : Int) > (64 : Int)) ∨ (((((List.length b) : Nat) : Int) > (64 : Int)) ∨ (((((List.length c) : Nat) : Int) > (64 : Int)) ∨ ((((List.length d) : Nat) : Int) > (64 : Int)))))) = Bool.true)) :
    ∃ ps, runF Try.prog FD gam12 200 Try.f4 [.one (.words .u8 a), .one (.words .u8 b), .one (.words .u8 c), .one (.words .u8 d)] [.is true] = some ((Go.Abs.AV.v (Go.Abs.A0.one (Go.Abs.Part.bool Bool.true Bool.true))), ps) ∧ AllQ ps := ⟨_, rules_long_r a b c d, AllP.all h1⟩

theorem rules_run_r (a b c d : List Int) : runF Try.prog FD gam12 200 Try.f4 [.one (.words .u8 a), .one (.words .u8 b), .one (.words .u8 c), .one (.words .u8 d)] [.is false, .is false, .is false, .is false, .is false, .is true, .is true, .is true, .is true, .is true] =
    some ((Go.Abs.AV.v (Go.Abs.A0.one (Go.Abs.Part.bool Bool.true Bool.true))), [((decide (((((List.length a) : Nat) : Int) > (64 : Int)) ∨ (((((List.length b) : Nat) : Int) > (64 : Int)) ∨ (((((List.length c) : Nat) : Int) > (64 : Int)) ∨ ((((List.length d) : Nat) : Int) > (64 : Int)))))) = Bool.false), ((List.length a) ≤ (281474976710656 : Nat)), (Go.Num.InB a), ((List.length a) ≤ (9223372036854775807 : Nat)), ((List.length b) ≤ (281474976710656 : Nat)), (Go.Num.InB b), ((List.length b) ≤ (9223372036854775807 : Nat)), ((List.length c) ≤ (281474976710656 : Nat)), (Go.Num.InB c), ((List.length c) ≤ (9223372036854775807 : Nat)), ((List.length d) ≤ (281474976710656 : Nat)), (Go.Num.InB d), ((List.length d) ≤ (9223372036854775807 : Nat)), ((!(decide (Go.Alg.Q2 (Go.Num.Fld.m Go.Num.fld) ((@Go.Alg.Quad.mk Int (-(1 : Int)) (Go.Num.be a) (Go.Num.be b)) * (@Go.Alg.Quad.mk Int (-(1 : Int)) (Go.Num.be c) (Go.Num.be d))) ((@Go.Alg.Quad.mk Int (-(1 : Int)) (Go.Num.be c) (Go.Num.be d)) * (@Go.Alg.Quad.mk Int (-(1 : Int)) (Go.Num.be a) (Go.Num.be b)))))) = Bool.false), (Go.Abs.EqT Go.Proofs.Try.prog (32 : Nat)), ((!(decide (Go.Alg.Q2 (Go.Num.Fld.m Go.Num.fld) (((@Go.Alg.Quad.mk Int (-(1 : Int)) (Go.Num.be a) (Go.Num.be b)) * (@Go.Alg.Quad.mk Int (-(1 : Int)) (Go.Num.be c) (Go.Num.be d))) * (@Go.Alg.Quad.mk Int (-(1 : Int)) (Go.Num.be d) (Go.Num.be a))) ((@Go.Alg.Quad.mk Int (-(1 : Int)) (Go.Num.be a) (Go.Num.be b)) * ((@Go.Alg.Quad.mk Int (-(1 : Int)) (Go.Num.be c) (Go.Num.be d)) * (@Go.Alg.Quad.mk Int (-(1 : Int)) (Go.Num.be d) (Go.Num.be a))))))) = Bool.false), (Go.Abs.EqT Go.Proofs.Try.prog (32 : Nat)), ((!(decide (Go.Alg.Q2 (Go.Num.Fld.m Go.Num.fld) (((@Go.Alg.Quad.mk Int (-(1 : Int)) (Go.Num.be a) (Go.Num.be b)) + (@Go.Alg.Quad.mk Int (-(1 : Int)) (Go.Num.be c) (Go.Num.be d))) * (@Go.Alg.Quad.mk Int (-(1 : Int)) (Go.Num.be d) (Go.Num.be a))) (((@Go.Alg.Quad.mk Int (-(1 : Int)) (Go.Num.be a) (Go.Num.be b)) * (@Go.Alg.Quad.mk Int (-(1 : Int)) (Go.Num.be d) (Go.Num.be a))) + ((@Go.Alg.Quad.mk Int (-(1 : Int)) (Go.Num.be c) (Go.Num.be d)) * (@Go.Alg.Quad.mk Int (-(1 : Int)) (Go.Num.be d) (Go.Num.be a))))))) = Bool.false), (Go.Abs.EqT Go.Proofs.Try.prog (32 : Nat)), ((!((decide (((((Go.Num.sub2 (@Go.Alg.Quad.mk Int (-(1 : Int)) (Go.Num.be a) (Go.Num.be b)) (@Go.Alg.Quad.mk Int (-(1 : Int)) (Go.Num.be c) (Go.Num.be d))) + (@Go.Alg.Quad.mk Int (-(1 : Int)) (Go.Num.be c) (Go.Num.be d)))).1 % (Go.Num.Fld.m Go.Num.fld)) = ((Go.Num.be a) % (Go.Num.Fld.m Go.Num.fld)))) && (decide (((((Go.Num.sub2 (@Go.Alg.Quad.mk Int (-(1 : Int)) (Go.Num.be a) (Go.Num.be b)) (@Go.Alg.Quad.mk Int (-(1 : Int)) (Go.Num.be c) (Go.Num.be d))) + (@Go.Alg.Quad.mk Int (-(1 : Int)) (Go.Num.be c) (Go.Num.be d)))).2 % (Go.Num.Fld.m Go.Num.fld)) = ((Go.Num.be b) % (Go.Num.Fld.m Go.Num.fld)))))) = Bool.false), (Go.Abs.EqT Go.Proofs.Try.prog (32 : Nat)), ((decide (Go.Alg.Q2 (Go.Num.Fld.m Go.Num.fld) (Go.Num.cj ((@Go.Alg.Quad.mk Int (-(1 : Int)) (Go.Num.be a) (Go.Num.be b)) * (@Go.Alg.Quad.mk Int (-(1 : Int)) (Go.Num.be c) (Go.Num.be d)))) ((Go.Num.cj (@Go.Alg.Quad.mk Int (-(1 : Int)) (Go.Num.be a) (Go.Num.be b))) * (Go.Num.cj (@Go.Alg.Quad.mk Int (-(1 : Int)) (Go.Num.be c) (Go.Num.be d)))))) = Bool.true), (Go.Abs.EqT Go.Proofs.Try.prog (32 : Nat)), ((decide (((Go.Num.nrm ((@Go.Alg.Quad.mk Int (-(1 : Int)) (Go.Num.be a) (Go.Num.be b)) * (@Go.Alg.Quad.mk Int (-(1 : Int)) (Go.Num.be c) (Go.Num.be d)))) % (Go.Num.Fld.m Go.Num.fld)) = (((Go.Num.nrm (@Go.Alg.Quad.mk Int (-(1 : Int)) (Go.Num.be a) (Go.Num.be b))) * (Go.Num.nrm (@Go.Alg.Quad.mk Int (-(1 : Int)) (Go.Num.be c) (Go.Num.be d)))) % (Go.Num.Fld.m Go.Num.fld)))) = Bool.true), (Go.Abs.EqT Go.Proofs.Try.prog (28 : Nat)), ((decide (Go.Alg.Q2 (Go.Num.Fld.m Go.Num.fld) ((@Go.Alg.Quad.mk Int (-(1 : Int)) (Go.Num.be a) (Go.Num.be b)) * (Go.Num.cj (@Go.Alg.Quad.mk Int (-(1 : Int)) (Go.Num.be a) (Go.Num.be b)))) (@Go.Alg.Quad.mk Int (-(1 : Int)) (Go.Num.nrm (@Go.Alg.Quad.mk Int (-(1 : Int)) (Go.Num.be a) (Go.Num.be b))) (0 : Int)))) = Bool.true), (Go.Abs.EqT Go.Proofs.Try.prog (32 : Nat)), (((decide ((((Go.Num.cj (Go.Num.cj (@Go.Alg.Quad.mk Int (-(1 : Int)) (Go.Num.be a) (Go.Num.be b))))).1 % (Go.Num.Fld.m Go.Num.fld)) = ((Go.Num.be a) % (Go.Num.Fld.m Go.Num.fld)))) && (decide ((((Go.Num.cj (Go.Num.cj (@Go.Alg.Quad.mk Int (-(1 : Int)) (Go.Num.be a) (Go.Num.be b))))).2 % (Go.Num.Fld.m Go.Num.fld)) = ((Go.Num.be b) % (Go.Num.Fld.m Go.Num.fld))))) = Bool.true), (Go.Abs.EqT Go.Proofs.Try.prog (32 : Nat))]) := by kernel_rfl
theorem rules_run (a b c d : List Int)
    (h1 : ((decide (((((List.length a) : Nat) : Int) > (64 : Int)) ∨ (((((List.length b) : Nat) : Int) > (64 : Int)) ∨ (((((List.length c) : Nat) : Int) > (64 : Int)) ∨ ((((List.length d) : Nat) : Int) > (64 : Int)))))) = Bool.false))
    (h2 : ((List.length a) ≤ (281474976710656 : Nat)))
    (h3 : (Go.Num.InB a))
    (h4 : ((List.length a) ≤ (9223372036854775807 : Nat)))
    (h5 : ((List.length b) ≤ (281474976710656 : Nat)))
    (h6 : (Go.Num.InB b))
    (h7 : ((List.length b) ≤ (9223372036854775807 : Nat)))
    (h8 : ((List.length c) ≤ (281474976710656 : Nat)))
    (h9 : (Go.Num.InB c))
    (h10 : ((List.length c) ≤ (9223372036854775807 : Nat)))
    (h11 : ((List.length d) ≤ (281474976710656 : Nat)))
    (h12 : (Go.Num.InB d))
    (h13 : ((List.length d) ≤ (9223372036854775807 : Nat)))
    (h14 : ((!(decide (Go.Alg.Q2 (Go.Num.Fld.m Go.Num.fld) ((@Go.Alg.Quad.mk Int (-(1 : Int)) (Go.Num.be a) (Go.Num.be b)) * (@Go.Alg.Quad.mk Int (-(1 : Int)) (Go.Num.be c) (Go.Num.be d))) ((@Go.Alg.Quad.mk Int (-(1 : Int)) (Go.Num.be c) (Go.Num.be d)) * (@Go.Alg.Quad.mk Int (-(1 : Int)) (Go.Num.be a) (Go.Num.be b)))))) = Bool.false))
    (h15 : (Go.Abs.EqT Go.Proofs.Try.prog (32 : Nat)))
    (h16 : ((!(decide (Go.Alg.Q2 (Go.Num.Fld.m Go.Num.fld) (((@Go.Alg.Quad.mk Int (-(1 : Int)) (Go.Num.be a) (Go.Num.be b)) * (@Go.Alg.Quad.mk Int (-(1 : Int)) (Go.Num.be c) (Go.Num.be d))) * (@Go.Alg.Quad.mk Int (-(1 : Int)) (Go.Num.be d) (Go.Num.be a))) ((@Go.Alg.Quad.mk Int (-(1 : Int)) (Go.Num.be a) (Go.Num.be b)) * ((@Go.Alg.Quad.mk Int (-(1 : Int)) (Go.Num.be c) (Go.Num.be d)) * (@Go.Alg.Quad.mk Int (-(1 : Int)) (Go.Num.be d) (Go.Num.be a))))))) = Bool.false))
    (h17 : ((!(decide (Go.Alg.Q2 (Go.Num.Fld.m Go.Num.fld) (((@Go.Alg.Quad.mk Int (-(1 : Int)) (Go.Num.be a) (Go.Num.be b)) + (@Go.Alg.Quad.mk Int (-(1 : Int)) (Go.Num.be c) (Go.Num.be d))) * (@Go.Alg.Quad.mk Int (-(1 : Int)) (Go.Num.be d) (Go.Num.be a))) (((@Go.Alg.Quad.mk Int (-(1 : Int)) (Go.Num.be a) (Go.Num.be b)) * (@Go.Alg.Quad.mk Int (-(1 : Int)) (Go.Num.be d) (Go.Num.be a))) + ((@Go.Alg.Quad.mk Int (-(1 : Int)) (Go.Num.be c) (Go.Num.be d)) * (@Go.Alg.Quad.mk Int (-(1 : Int)) (Go.Num.be d) (Go.Num.be a))))))) = Bool.false))
    (h18 : ((!((decide (((((Go.Num.sub2 (@Go.Alg.Quad.mk Int (-(1 : Int)) (Go.Num.be a) (Go.Num.be b)) (@Go.Alg.Quad.mk Int (-(1 : Int)) (Go.Num.be c) (Go.Num.be d))) + (@Go.Alg.Quad.mk Int (-(1 : Int)) (Go.Num.be c) (Go.Num.be d)))).1 % (Go.Num.Fld.m Go.Num.fld)) = ((Go.Num.be a) % (Go.Num.Fld.m Go.Num.fld)))) && (decide (((((Go.Num.sub2 (@Go.Alg.Quad.mk Int (-(1 : Int)) (Go.Num.be a) (Go.Num.be b)) (@Go.Alg.Quad.mk Int (-(1 : Int)) (Go.Num.be c) (Go.Num.be d))) + (@Go.Alg.Quad.mk Int (-(1 : Int)) (Go.Num.be c) (Go.Num.be d)))).2 % (Go.Num.Fld.m Go.Num.fld)) = ((Go.Num.be b) % (Go.Num.Fld.m Go.Num.fld)))))) = Bool.false))
    (h19 : ((decide (Go.Alg.Q2 (Go.Num.Fld.m Go.Num.fld) (Go.Num.cj ((@Go.Alg.Quad.mk Int (-(1 : Int)) (Go.Num.be a) (Go.Num.be b)) * (@Go.Alg.Quad.mk Int (-(1 : Int)) (Go.Num.be c) (Go.Num.be d)))) ((Go.Num.cj (@Go.Alg.Quad.mk Int (-(1 : Int)) (Go.Num.be a) (Go.Num.be b))) * (Go.Num.cj (@Go.Alg.Quad.mk Int (-(1 : Int)) (Go.Num.be c) (Go.Num.be d)))))) = Bool.true))
    (h20 : ((decide (((Go.Num.nrm ((@Go.Alg.Quad.mk Int (-(1 : Int)) (Go.Num.be a) (Go.Num.be b)) * (@Go.Alg.Quad.mk Int (-(1 : Int)) (Go.Num.be c) (Go.Num.be d)))) % (Go.Num.Fld.m Go.Num.fld)) = (((Go.Num.nrm (@Go.Alg.Quad.mk Int (-(1 : Int)) (Go.Num.be a) (Go.Num.be b))) * (Go.Num.nrm (@Go.Alg.Quad.mk Int (-(1 : Int)) (Go.Num.be c) (Go.Num.be d)))) % (Go.Num.Fld.m Go.Num.fld)))) = Bool.true))
    (h21 : (Go.Abs.EqT Go.Proofs.Try.prog (28 : Nat)))
    (h22 : ((decide (Go.Alg.Q2 (Go.Num.Fld.m Go.Num.fld) ((@Go.Alg.Quad.mk Int (-(1 : Int)) (Go.Num.be a) (Go.Num.be b)) * (Go.Num.cj (@Go.Alg.Quad.mk Int (-(1 : Int)) (Go.Num.be a) (Go.Num.be b)))) (@Go.Alg.Quad.mk Int (-(1 : Int)) (Go.Num.nrm (@Go.Alg.Quad.mk Int (-(1 : Int)) (Go.Num.be a) (Go.Num.be b))) (0 : Int)))) = Bool.true))
    (h23 : (((decide ((((Go.Num.cj (Go.Num.cj (@Go.Alg.Quad.mk Int (-(1 : Int)) (Go.Num.be a) (Go.Num.be b))))).1 % (Go.Num.Fld.m Go.Num.fld)) = ((Go.Num.be a) % (Go.Num.Fld.m Go.Num.fld)))) && (decide ((((Go.Num.cj (Go.Num.cj (@Go.Alg.Quad.mk Int (-(1 : Int)) (Go.Num.be a) (Go.Num.be b))))).2 % (Go.Num.Fld.m Go.Num.fld)) = ((Go.Num.be b) % (Go.Num.Fld.m Go.Num.fld))))) = Bool.true)) :
    ∃ ps, runF Try.prog FD gam12 200 Try.f4 [.one (.words .u8 a), .one (.words .u8 b), .one (.words .u8 c), .one (.words .u8 d)] [.is false, .is false, .is false, .is false, .is false, .is true, .is true, .is true, .is true, .is true] = some ((Go.Abs.AV.v (Go.Abs.A0.one (Go.Abs.Part.bool Bool.true Bool.true))), ps) ∧ AllQ ps := ⟨_, rules_run_r a b c d, AllP.all ⟨h1, h2, h3, h4, h5, h6, h7, h8, h9, h10, h11, h12, h13, h14, h15, h16, h15, h17, h15, h18, h15, h19, h15, h20, h21, h22, h15, h23, h15⟩⟩

theorem mdqn {x y : K2} (h : x = y) : (!(decide (Q2 fld.m x y))) = false := by rw [mdq h]; rfl
theorem sub2_add (x y : K2) : sub2 x y + y = x := Quad.eq (by show x.a + -y.a + y.a = x.a; omega) (by show x.b + -y.b + y.b = x.b; omega)
theorem cj_mul (x y : K2) : cj (x * y) = cj x * cj y := by
  refine Quad.eq ?_ ?_
  · simp only [cj, qmul_a]
    grind
  · simp only [cj, qmul_b]
    grind
theorem nrm_mul (x y : K2) : nrm (x * y) = nrm x * nrm y := by
  simp only [nrm, qmul_a, qmul_b]
  grind
theorem mul_cj (x : K2) : x * cj x = ⟨nrm x, 0⟩ := by
  refine Quad.eq ?_ ?_
  · simp only [cj, nrm, qmul_a]
    grind
  · simp only [cj, qmul_b]
    grind

theorem lawRules {a b c d : List Int} (ha : InB a) (_la : a.length ≤ 140737488351232) (hb : InB b) (_lb : b.length ≤ 140737488351232) (hc : InB c) (_lc : c.length ≤ 140737488351232) (hd : InB d) (_ld : d.length ≤ 140737488351232) : LawOK Try.f4 [.one (.words .u8 a), .one (.words .u8 b), .one (.words .u8 c), .one (.words .u8 d)] := by
  by_cases h : (a.length : Int) > 64 ∨ (b.length : Int) > 64 ∨ (c.length : Int) > 64 ∨ (d.length : Int) > 64
  · obtain ⟨ps, h1, h2⟩ := rules_long a b c d (decide_eq_true h)
    exact ⟨gam12, gam12_ok, _, ps, h1, h2⟩
  have hs : a.length ≤ 64 ∧ b.length ≤ 64 ∧ c.length ≤ 64 ∧ d.length ≤ 64 := by omega
  obtain ⟨s1, s2, s3, s4⟩ := hs
  have e5 := sub2_add ⟨be a, be b⟩ ⟨be c, be d⟩
  obtain ⟨ps, h1, h2⟩ := rules_run a b c d (decide_eq_false h) (by omega) ha (by omega) (by omega) hb (by omega) (by omega) hc (by omega) (by omega) hd (by omega)
    (mdqn (CR.mul_comm _ _)) e2_eqT (mdqn (CR.mul_assoc _ _ _)) (mdqn (add_mul _ _ _)) (by rw [e5, md2 rfl rfl]; rfl) (mdq (cj_mul _ _)) (md (nrm_mul _ _)) el_eqT (mdq (mul_cj _)) (md2 rfl (Int.neg_neg _))
  exact ⟨gam12, gam12_ok, _, ps, h1, h2⟩

end Go.Num
