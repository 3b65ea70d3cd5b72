/- Fp2Turns: i turns a number by a quarter. -/
import Derived.Test.YtlobkhocdmepfaaFp2Math
namespace Go.Num
open Go.Abs Go.Proofs Go.Shelf Go.Alg

theorem turns_long_r (l m : List Int) : runF Try.prog FD gam12 200 Try.f3 [.one (.words .u8 l), .one (.words .u8 m)] [.is true] =
    some ((Go.Abs.AV.v (Go.Abs.A0.one (Go.Abs.Part.bool Bool.true Bool.true))), [((decide (((((List.length l) : Nat) : Int) > (64 : Int)) ∨ (((((List.length m) : Nat) : Int) > (64 : Int)) ∨ (((((0 : Nat) : Nat) : Int) > (64 : Int)) ∨ ((((0 : Nat) : Nat) : Int) > (64 : Int)))))) = Bool.true)]) := by kernel_rfl
theorem turns_long (l m : List Int)
    (h1 : ((decide (((((List.length l) : Nat) : Int) > (64 : Int)) ∨ (((((List.length m) : Nat) : Int) > (64 : Int)) ∨ (((((0 : Nat) : Nat) : Int) > (64 : Int)) ∨ ((((0 : Nat) : Nat) : Int) > (64 : Int)))))) = Bool.true)) :
    ∃ ps, runF Try.prog FD gam12 200 Try.f3 [.one (.words .u8 l), .one (.words .u8 m)] [.is true] = some ((Go.Abs.AV.v (Go.Abs.A0.one (Go.Abs.Part.bool Bool.true Bool.true))), ps) ∧ AllQ ps := ⟨_, turns_long_r l m, AllP.all h1⟩

theorem turns_run_r (l m : List Int) : runF Try.prog FD gam12 200 Try.f3 [.one (.words .u8 l), .one (.words .u8 m)] [.is false, .is true, .is true, .is true, .is true, .keep, .keep, .is true, .is true] =
    some ((Go.Abs.AV.v (Go.Abs.A0.one (Go.Abs.Part.bool Bool.true Bool.true))), [((decide (((((List.length l) : Nat) : Int) > (64 : Int)) ∨ (((((List.length m) : Nat) : Int) > (64 : Int)) ∨ (((((0 : Nat) : Nat) : Int) > (64 : Int)) ∨ ((((0 : Nat) : Nat) : Int) > (64 : Int)))))) = Bool.false), ((List.length l) ≤ (281474976710656 : Nat)), (Go.Num.InB l), ((List.length l) ≤ (9223372036854775807 : Nat)), ((List.length m) ≤ (281474976710656 : Nat)), (Go.Num.InB m), ((List.length m) ≤ (9223372036854775807 : Nat)), (Go.Num.Rng (0 : Int)), (Go.Num.Rng (1 : Int)), (((decide (((((@Go.Alg.Quad.mk Int (-(1 : Int)) (Go.Num.be l) (Go.Num.be m)) * (@Go.Alg.Quad.mk Int (-(1 : Int)) (0 : Int) (1 : Int)))).1 % (Go.Num.Fld.m Go.Num.fld)) = (((0 : Int) - (Go.Num.be m)) % (Go.Num.Fld.m Go.Num.fld)))) && (decide (((((@Go.Alg.Quad.mk Int (-(1 : Int)) (Go.Num.be l) (Go.Num.be m)) * (@Go.Alg.Quad.mk Int (-(1 : Int)) (0 : Int) (1 : Int)))).2 % (Go.Num.Fld.m Go.Num.fld)) = ((Go.Num.be l) % (Go.Num.Fld.m Go.Num.fld))))) = Bool.true), (Go.Abs.EqT Go.Proofs.Try.prog (32 : Nat)), ((decide (Go.Alg.Q2 (Go.Num.Fld.m Go.Num.fld) (((@Go.Alg.Quad.mk Int (-(1 : Int)) (Go.Num.be l) (Go.Num.be m)) * (@Go.Alg.Quad.mk Int (-(1 : Int)) (0 : Int) (1 : Int))) * (@Go.Alg.Quad.mk Int (-(1 : Int)) (0 : Int) (1 : Int))) (-(@Go.Alg.Quad.mk Int (-(1 : Int)) (Go.Num.be l) (Go.Num.be m))))) = Bool.true), (Go.Abs.EqT Go.Proofs.Try.prog (32 : Nat)), (((decide ((((((((@Go.Alg.Quad.mk Int (-(1 : Int)) (Go.Num.be l) (Go.Num.be m)) * (@Go.Alg.Quad.mk Int (-(1 : Int)) (0 : Int) (1 : Int))) * (@Go.Alg.Quad.mk Int (-(1 : Int)) (0 : Int) (1 : Int))) * (@Go.Alg.Quad.mk Int (-(1 : Int)) (0 : Int) (1 : Int))) * (@Go.Alg.Quad.mk Int (-(1 : Int)) (0 : Int) (1 : Int)))).1 % (Go.Num.Fld.m Go.Num.fld)) = ((Go.Num.be l) % (Go.Num.Fld.m Go.Num.fld)))) && (decide ((((((((@Go.Alg.Quad.mk Int (-(1 : Int)) (Go.Num.be l) (Go.Num.be m)) * (@Go.Alg.Quad.mk Int (-(1 : Int)) (0 : Int) (1 : Int))) * (@Go.Alg.Quad.mk Int (-(1 : Int)) (0 : Int) (1 : Int))) * (@Go.Alg.Quad.mk Int (-(1 : Int)) (0 : Int) (1 : Int))) * (@Go.Alg.Quad.mk Int (-(1 : Int)) (0 : Int) (1 : Int)))).2 % (Go.Num.Fld.m Go.Num.fld)) = ((Go.Num.be m) % (Go.Num.Fld.m Go.Num.fld))))) = Bool.true), (Go.Abs.EqT Go.Proofs.Try.prog (32 : Nat)), ((decide (((Go.Num.nrm ((@Go.Alg.Quad.mk Int (-(1 : Int)) (Go.Num.be l) (Go.Num.be m)) * (@Go.Alg.Quad.mk Int (-(1 : Int)) (0 : Int) (1 : Int)))) % (Go.Num.Fld.m Go.Num.fld)) = ((Go.Num.nrm (@Go.Alg.Quad.mk Int (-(1 : Int)) (Go.Num.be l) (Go.Num.be m))) % (Go.Num.Fld.m Go.Num.fld)))) = Bool.true), (Go.Abs.EqT Go.Proofs.Try.prog (28 : Nat)), (((decide (((Go.Num.nrm (@Go.Alg.Quad.mk Int (-(1 : Int)) (Go.Num.be l) (Go.Num.be m))) % (Go.Num.Fld.m Go.Num.fld)) = ((0 : Int) % (Go.Num.Fld.m Go.Num.fld)))) == (decide (Go.Alg.Q2 (Go.Num.Fld.m Go.Num.fld) (@Go.Alg.Quad.mk Int (-(1 : Int)) (Go.Num.be l) (Go.Num.be m)) (0 : K2)))) = Bool.true)]) := by kernel_rfl
theorem turns_run (l m : List Int)
    (h1 : ((decide (((((List.length l) : Nat) : Int) > (64 : Int)) ∨ (((((List.length m) : Nat) : Int) > (64 : Int)) ∨ (((((0 : Nat) : Nat) : Int) > (64 : Int)) ∨ ((((0 : Nat) : Nat) : Int) > (64 : Int)))))) = Bool.false))
    (h2 : ((List.length l) ≤ (281474976710656 : Nat)))
    (h3 : (Go.Num.InB l))
    (h4 : ((List.length l) ≤ (9223372036854775807 : Nat)))
    (h5 : ((List.length m) ≤ (281474976710656 : Nat)))
    (h6 : (Go.Num.InB m))
    (h7 : ((List.length m) ≤ (9223372036854775807 : Nat)))
    (h8 : (((decide (((((@Go.Alg.Quad.mk Int (-(1 : Int)) (Go.Num.be l) (Go.Num.be m)) * (@Go.Alg.Quad.mk Int (-(1 : Int)) (0 : Int) (1 : Int)))).1 % (Go.Num.Fld.m Go.Num.fld)) = (((0 : Int) - (Go.Num.be m)) % (Go.Num.Fld.m Go.Num.fld)))) && (decide (((((@Go.Alg.Quad.mk Int (-(1 : Int)) (Go.Num.be l) (Go.Num.be m)) * (@Go.Alg.Quad.mk Int (-(1 : Int)) (0 : Int) (1 : Int)))).2 % (Go.Num.Fld.m Go.Num.fld)) = ((Go.Num.be l) % (Go.Num.Fld.m Go.Num.fld))))) = Bool.true))
    (h9 : (Go.Abs.EqT Go.Proofs.Try.prog (32 : Nat)))
    (h10 : ((decide (Go.Alg.Q2 (Go.Num.Fld.m Go.Num.fld) (((@Go.Alg.Quad.mk Int (-(1 : Int)) (Go.Num.be l) (Go.Num.be m)) * (@Go.Alg.Quad.mk Int (-(1 : Int)) (0 : Int) (1 : Int))) * (@Go.Alg.Quad.mk Int (-(1 : Int)) (0 : Int) (1 : Int))) (-(@Go.Alg.Quad.mk Int (-(1 : Int)) (Go.Num.be l) (Go.Num.be m))))) = Bool.true))
    (h11 : (((decide ((((((((@Go.Alg.Quad.mk Int (-(1 : Int)) (Go.Num.be l) (Go.Num.be m)) * (@Go.Alg.Quad.mk Int (-(1 : Int)) (0 : Int) (1 : Int))) * (@Go.Alg.Quad.mk Int (-(1 : Int)) (0 : Int) (1 : Int))) * (@Go.Alg.Quad.mk Int (-(1 : Int)) (0 : Int) (1 : Int))) * (@Go.Alg.Quad.mk Int (-(1 : Int)) (0 : Int) (1 : Int)))).1 % (Go.Num.Fld.m Go.Num.fld)) = ((Go.Num.be l) % (Go.Num.Fld.m Go.Num.fld)))) && (decide ((((((((@Go.Alg.Quad.mk Int (-(1 : Int)) (Go.Num.be l) (Go.Num.be m)) * (@Go.Alg.Quad.mk Int (-(1 : Int)) (0 : Int) (1 : Int))) * (@Go.Alg.Quad.mk Int (-(1 : Int)) (0 : Int) (1 : Int))) * (@Go.Alg.Quad.mk Int (-(1 : Int)) (0 : Int) (1 : Int))) * (@Go.Alg.Quad.mk Int (-(1 : Int)) (0 : Int) (1 : Int)))).2 % (Go.Num.Fld.m Go.Num.fld)) = ((Go.Num.be m) % (Go.Num.Fld.m Go.Num.fld))))) = Bool.true))
    (h12 : ((decide (((Go.Num.nrm ((@Go.Alg.Quad.mk Int (-(1 : Int)) (Go.Num.be l) (Go.Num.be m)) * (@Go.Alg.Quad.mk Int (-(1 : Int)) (0 : Int) (1 : Int)))) % (Go.Num.Fld.m Go.Num.fld)) = ((Go.Num.nrm (@Go.Alg.Quad.mk Int (-(1 : Int)) (Go.Num.be l) (Go.Num.be m))) % (Go.Num.Fld.m Go.Num.fld)))) = Bool.true))
    (h13 : (Go.Abs.EqT Go.Proofs.Try.prog (28 : Nat)))
    (h14 : (((decide (((Go.Num.nrm (@Go.Alg.Quad.mk Int (-(1 : Int)) (Go.Num.be l) (Go.Num.be m))) % (Go.Num.Fld.m Go.Num.fld)) = ((0 : Int) % (Go.Num.Fld.m Go.Num.fld)))) == (decide (Go.Alg.Q2 (Go.Num.Fld.m Go.Num.fld) (@Go.Alg.Quad.mk Int (-(1 : Int)) (Go.Num.be l) (Go.Num.be m)) (0 : K2)))) = Bool.true)) :
    ∃ ps, runF Try.prog FD gam12 200 Try.f3 [.one (.words .u8 l), .one (.words .u8 m)] [.is false, .is true, .is true, .is true, .is true, .keep, .keep, .is true, .is true] = some ((Go.Abs.AV.v (Go.Abs.A0.one (Go.Abs.Part.bool Bool.true Bool.true))), ps) ∧ AllQ ps := ⟨_, turns_run_r l m, AllP.all ⟨h1, h2, h3, h4, h5, h6, h7, (show (Go.Num.Rng (0 : Int)) from by decide), (show (Go.Num.Rng (1 : Int)) from by decide), h8, h9, h10, h9, h11, h9, h12, h13, h14⟩⟩

theorem lawTurns {l m : List Int} (hb : InB l) (_hl : l.length ≤ 140737488351232) (hc : InB m) (_hm : m.length ≤ 140737488351232) : LawOK Try.f3 [.one (.words .u8 l), .one (.words .u8 m)] := by
  by_cases h : (l.length : Int) > 64 ∨ (m.length : Int) > 64 ∨ (0 : Int) > 64 ∨ (0 : Int) > 64
  · obtain ⟨ps, h1, h2⟩ := turns_long l m (decide_eq_true h)
    exact ⟨gam12, gam12_ok, _, ps, h1, h2⟩
  have hs := long2 h
  obtain ⟨ps, h1, h2⟩ := turns_run l m (decide_eq_false h) (by omega) hb (by omega) (by omega) hc (by omega)
    (md2 (by simp only [qmul_a]; omega) (by simp only [qmul_b]; omega)) e2_eqT
    (mdq (Quad.eq (by simp only [qmul_a, qmul_b]; show _ = -be l; omega) (by simp only [qmul_a, qmul_b]; show _ = -be m; omega)))
    (md2 (by simp only [qmul_a, qmul_b]; omega) (by simp only [qmul_a, qmul_b]; omega))
    (md (by unfold nrm; simp only [qmul_a, qmul_b]; grind)) el_eqT (beq_dec (by rw [Int.zero_emod]; exact nrm_zero _))
  exact ⟨gam12, gam12_ok, _, ps, h1, h2⟩

end Go.Num
