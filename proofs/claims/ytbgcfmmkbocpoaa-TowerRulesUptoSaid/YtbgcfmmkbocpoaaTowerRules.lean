/- TowerRules. -/
import Derived.Test.YtbgcfmmkbocpoaaTw14
namespace Go.Num
open Go.Abs Go.Proofs Go.Shelf Go.Alg

theorem rules_long_r (a b c : List Int) : runF Try.prog FD gam29 200 Try.f7 [.one (.words .u8 a), .one (.words .u8 b), .one (.words .u8 c)] [.is true] =
    some ((Go.Abs.AV.v (Go.Abs.A0.one (Go.Abs.Part.bool Bool.true Bool.true))), [((decide (((((List.length a) : Nat) : Int) > (2000 : Int)) ∨ ((((List.length b) : Nat) : Int) > (2000 : Int)))) = Bool.true)]) := by kernel_rfl
theorem rules_long (a b c : List Int)
    (h1 : ((decide (((((List.length a) : Nat) : Int) > (2000 : Int)) ∨ ((((List.length b) : Nat) : Int) > (2000 : Int)))) = Bool.true)) :
    ∃ ps, runF Try.prog FD gam29 200 Try.f7 [.one (.words .u8 a), .one (.words .u8 b), .one (.words .u8 c)] [.is true] = some ((Go.Abs.AV.v (Go.Abs.A0.one (Go.Abs.Part.bool Bool.true Bool.true))), ps) ∧ AllQ ps := ⟨_, rules_long_r a b c, AllP.all h1⟩

theorem rules_long2_r (a b c : List Int) : runF Try.prog FD gam29 200 Try.f7 [.one (.words .u8 a), .one (.words .u8 b), .one (.words .u8 c)] [.is false, .is true] =
    some ((Go.Abs.AV.v (Go.Abs.A0.one (Go.Abs.Part.bool Bool.true Bool.true))), [((decide (((((List.length a) : Nat) : Int) > (2000 : Int)) ∨ ((((List.length b) : Nat) : Int) > (2000 : Int)))) = Bool.false), ((decide ((((List.length c) : Nat) : Int) > (2000 : Int))) = Bool.true)]) := by kernel_rfl
theorem rules_long2 (a b c : List Int)
    (h1 : ((decide (((((List.length a) : Nat) : Int) > (2000 : Int)) ∨ ((((List.length b) : Nat) : Int) > (2000 : Int)))) = Bool.false))
    (h2 : ((decide ((((List.length c) : Nat) : Int) > (2000 : Int))) = Bool.true)) :
    ∃ ps, runF Try.prog FD gam29 200 Try.f7 [.one (.words .u8 a), .one (.words .u8 b), .one (.words .u8 c)] [.is false, .is true] = some ((Go.Abs.AV.v (Go.Abs.A0.one (Go.Abs.Part.bool Bool.true Bool.true))), ps) ∧ AllQ ps := ⟨_, rules_long2_r a b c, AllP.all ⟨h1, h2⟩⟩

theorem rules_nought_r (a b c : List Int) : runF Try.prog FD gam29 200 Try.f7 [.one (.words .u8 a), .one (.words .u8 b), .one (.words .u8 c)] [.is false, .is false, .is false, .is false, .is false, .is false, .is false, .is true, .is true] =
    some ((Go.Abs.AV.v (Go.Abs.A0.one (Go.Abs.Part.bool Bool.true Bool.true))), [((decide (((((List.length a) : Nat) : Int) > (2000 : Int)) ∨ ((((List.length b) : Nat) : Int) > (2000 : Int)))) = Bool.false), ((decide ((((List.length c) : Nat) : Int) > (2000 : Int))) = Bool.false), (Go.Num.InB a), ((List.length a) ≤ (1000000 : Nat)), (Go.Num.InB b), ((List.length b) ≤ (1000000 : Nat)), (Go.Num.InB c), ((List.length c) ≤ (1000000 : Nat)), ((!(decide (Go.Alg.Q12 (Go.Num.Fld.m Go.Num.fld) (Go.Num.mul12 (Go.Num.numK a) (Go.Num.numK b)) (Go.Num.mul12 (Go.Num.numK b) (Go.Num.numK a))))) = Bool.false), (Go.Abs.EqT Go.Proofs.Try.prog (40 : Nat)), ((!(decide (Go.Alg.Q12 (Go.Num.Fld.m Go.Num.fld) (Go.Num.mul12 (Go.Num.mul12 (Go.Num.numK a) (Go.Num.numK b)) (Go.Num.numK c)) (Go.Num.mul12 (Go.Num.numK a) (Go.Num.mul12 (Go.Num.numK b) (Go.Num.numK c)))))) = Bool.false), (Go.Abs.EqT Go.Proofs.Try.prog (40 : Nat)), ((!(decide (Go.Alg.Q12 (Go.Num.Fld.m Go.Num.fld) (Go.Num.sq12 (Go.Num.numK a)) (Go.Num.mul12 (Go.Num.numK a) (Go.Num.numK a))))) = Bool.false), (Go.Abs.EqT Go.Proofs.Try.prog (40 : Nat)), ((!(decide (Go.Alg.Q12 (Go.Num.Fld.m Go.Num.fld) (Go.Num.mul12 (Go.Num.numK a) (1 : K12)) (Go.Num.numK a)))) = Bool.false), (Go.Abs.EqT Go.Proofs.Try.prog (40 : Nat)), ((!(decide (Go.Alg.Q12 (Go.Num.Fld.m Go.Num.fld) (Go.Num.cj12 (Go.Num.mul12 (Go.Num.numK a) (Go.Num.numK b))) (Go.Num.mul12 (Go.Num.cj12 (Go.Num.numK a)) (Go.Num.cj12 (Go.Num.numK b)))))) = Bool.false), (Go.Abs.EqT Go.Proofs.Try.prog (40 : Nat)), (((decide ((((((Go.Num.numK a)).1).1).1 % (Go.Num.Fld.m Go.Num.fld)) = ((0 : Int) % (Go.Num.Fld.m Go.Num.fld)))) && ((decide ((((((Go.Num.numK a)).1).1).2 % (Go.Num.Fld.m Go.Num.fld)) = ((0 : Int) % (Go.Num.Fld.m Go.Num.fld)))) && ((decide ((((((Go.Num.numK a)).1).2).1 % (Go.Num.Fld.m Go.Num.fld)) = ((0 : Int) % (Go.Num.Fld.m Go.Num.fld)))) && ((decide ((((((Go.Num.numK a)).1).2).2 % (Go.Num.Fld.m Go.Num.fld)) = ((0 : Int) % (Go.Num.Fld.m Go.Num.fld)))) && ((decide ((((((Go.Num.numK a)).1).3).1 % (Go.Num.Fld.m Go.Num.fld)) = ((0 : Int) % (Go.Num.Fld.m Go.Num.fld)))) && ((decide ((((((Go.Num.numK a)).1).3).2 % (Go.Num.Fld.m Go.Num.fld)) = ((0 : Int) % (Go.Num.Fld.m Go.Num.fld)))) && ((decide ((((((Go.Num.numK a)).2).1).1 % (Go.Num.Fld.m Go.Num.fld)) = ((0 : Int) % (Go.Num.Fld.m Go.Num.fld)))) && ((decide ((((((Go.Num.numK a)).2).1).2 % (Go.Num.Fld.m Go.Num.fld)) = ((0 : Int) % (Go.Num.Fld.m Go.Num.fld)))) && ((decide ((((((Go.Num.numK a)).2).2).1 % (Go.Num.Fld.m Go.Num.fld)) = ((0 : Int) % (Go.Num.Fld.m Go.Num.fld)))) && ((decide ((((((Go.Num.numK a)).2).2).2 % (Go.Num.Fld.m Go.Num.fld)) = ((0 : Int) % (Go.Num.Fld.m Go.Num.fld)))) && ((decide ((((((Go.Num.numK a)).2).3).1 % (Go.Num.Fld.m Go.Num.fld)) = ((0 : Int) % (Go.Num.Fld.m Go.Num.fld)))) && (decide ((((((Go.Num.numK a)).2).3).2 % (Go.Num.Fld.m Go.Num.fld)) = ((0 : Int) % (Go.Num.Fld.m Go.Num.fld))))))))))))))) = Bool.true), (Go.Abs.EqT Go.Proofs.Try.prog (40 : Nat)), ((decide (Go.Alg.Q12 (Go.Num.Fld.m Go.Num.fld) (Go.Num.inv12 (Go.Num.numK a)) (Go.Num.numK a))) = Bool.true), (Go.Abs.EqT Go.Proofs.Try.prog (40 : Nat))]) := by kernel_rfl
theorem rules_nought (a b c : List Int)
    (h1 : ((decide (((((List.length a) : Nat) : Int) > (2000 : Int)) ∨ ((((List.length b) : Nat) : Int) > (2000 : Int)))) = Bool.false))
    (h2 : ((decide ((((List.length c) : Nat) : Int) > (2000 : Int))) = Bool.false))
    (h3 : (Go.Num.InB a))
    (h4 : ((List.length a) ≤ (1000000 : Nat)))
    (h5 : (Go.Num.InB b))
    (h6 : ((List.length b) ≤ (1000000 : Nat)))
    (h7 : (Go.Num.InB c))
    (h8 : ((List.length c) ≤ (1000000 : Nat)))
    (h9 : ((!(decide (Go.Alg.Q12 (Go.Num.Fld.m Go.Num.fld) (Go.Num.mul12 (Go.Num.numK a) (Go.Num.numK b)) (Go.Num.mul12 (Go.Num.numK b) (Go.Num.numK a))))) = Bool.false))
    (h10 : (Go.Abs.EqT Go.Proofs.Try.prog (40 : Nat)))
    (h11 : ((!(decide (Go.Alg.Q12 (Go.Num.Fld.m Go.Num.fld) (Go.Num.mul12 (Go.Num.mul12 (Go.Num.numK a) (Go.Num.numK b)) (Go.Num.numK c)) (Go.Num.mul12 (Go.Num.numK a) (Go.Num.mul12 (Go.Num.numK b) (Go.Num.numK c)))))) = Bool.false))
    (h12 : ((!(decide (Go.Alg.Q12 (Go.Num.Fld.m Go.Num.fld) (Go.Num.sq12 (Go.Num.numK a)) (Go.Num.mul12 (Go.Num.numK a) (Go.Num.numK a))))) = Bool.false))
    (h13 : ((!(decide (Go.Alg.Q12 (Go.Num.Fld.m Go.Num.fld) (Go.Num.mul12 (Go.Num.numK a) (1 : K12)) (Go.Num.numK a)))) = Bool.false))
    (h14 : ((!(decide (Go.Alg.Q12 (Go.Num.Fld.m Go.Num.fld) (Go.Num.cj12 (Go.Num.mul12 (Go.Num.numK a) (Go.Num.numK b))) (Go.Num.mul12 (Go.Num.cj12 (Go.Num.numK a)) (Go.Num.cj12 (Go.Num.numK b)))))) = Bool.false))
    (h15 : (((decide ((((((Go.Num.numK a)).1).1).1 % (Go.Num.Fld.m Go.Num.fld)) = ((0 : Int) % (Go.Num.Fld.m Go.Num.fld)))) && ((decide ((((((Go.Num.numK a)).1).1).2 % (Go.Num.Fld.m Go.Num.fld)) = ((0 : Int) % (Go.Num.Fld.m Go.Num.fld)))) && ((decide ((((((Go.Num.numK a)).1).2).1 % (Go.Num.Fld.m Go.Num.fld)) = ((0 : Int) % (Go.Num.Fld.m Go.Num.fld)))) && ((decide ((((((Go.Num.numK a)).1).2).2 % (Go.Num.Fld.m Go.Num.fld)) = ((0 : Int) % (Go.Num.Fld.m Go.Num.fld)))) && ((decide ((((((Go.Num.numK a)).1).3).1 % (Go.Num.Fld.m Go.Num.fld)) = ((0 : Int) % (Go.Num.Fld.m Go.Num.fld)))) && ((decide ((((((Go.Num.numK a)).1).3).2 % (Go.Num.Fld.m Go.Num.fld)) = ((0 : Int) % (Go.Num.Fld.m Go.Num.fld)))) && ((decide ((((((Go.Num.numK a)).2).1).1 % (Go.Num.Fld.m Go.Num.fld)) = ((0 : Int) % (Go.Num.Fld.m Go.Num.fld)))) && ((decide ((((((Go.Num.numK a)).2).1).2 % (Go.Num.Fld.m Go.Num.fld)) = ((0 : Int) % (Go.Num.Fld.m Go.Num.fld)))) && ((decide ((((((Go.Num.numK a)).2).2).1 % (Go.Num.Fld.m Go.Num.fld)) = ((0 : Int) % (Go.Num.Fld.m Go.Num.fld)))) && ((decide ((((((Go.Num.numK a)).2).2).2 % (Go.Num.Fld.m Go.Num.fld)) = ((0 : Int) % (Go.Num.Fld.m Go.Num.fld)))) && ((decide ((((((Go.Num.numK a)).2).3).1 % (Go.Num.Fld.m Go.Num.fld)) = ((0 : Int) % (Go.Num.Fld.m Go.Num.fld)))) && (decide ((((((Go.Num.numK a)).2).3).2 % (Go.Num.Fld.m Go.Num.fld)) = ((0 : Int) % (Go.Num.Fld.m Go.Num.fld))))))))))))))) = Bool.true))
    (h16 : ((decide (Go.Alg.Q12 (Go.Num.Fld.m Go.Num.fld) (Go.Num.inv12 (Go.Num.numK a)) (Go.Num.numK a))) = Bool.true)) :
    ∃ ps, runF Try.prog FD gam29 200 Try.f7 [.one (.words .u8 a), .one (.words .u8 b), .one (.words .u8 c)] [.is false, .is false, .is false, .is false, .is false, .is false, .is false, .is true, .is true] = some ((Go.Abs.AV.v (Go.Abs.A0.one (Go.Abs.Part.bool Bool.true Bool.true))), ps) ∧ AllQ ps := ⟨_, rules_nought_r a b c, AllP.all ⟨h1, h2, h3, h4, h5, h6, h7, h8, h9, h10, h11, h10, h12, h10, h13, h10, h14, h10, h15, h10, h16, h10⟩⟩

theorem rules_run_r (a b c : List Int) : runF Try.prog FD gam29 200 Try.f7 [.one (.words .u8 a), .one (.words .u8 b), .one (.words .u8 c)] [.is false, .is false, .is false, .is false, .is false, .is false, .is false, .is false, .is true] =
    some ((Go.Abs.AV.v (Go.Abs.A0.one (Go.Abs.Part.bool Bool.true Bool.true))), [((decide (((((List.length a) : Nat) : Int) > (2000 : Int)) ∨ ((((List.length b) : Nat) : Int) > (2000 : Int)))) = Bool.false), ((decide ((((List.length c) : Nat) : Int) > (2000 : Int))) = Bool.false), (Go.Num.InB a), ((List.length a) ≤ (1000000 : Nat)), (Go.Num.InB b), ((List.length b) ≤ (1000000 : Nat)), (Go.Num.InB c), ((List.length c) ≤ (1000000 : Nat)), ((!(decide (Go.Alg.Q12 (Go.Num.Fld.m Go.Num.fld) (Go.Num.mul12 (Go.Num.numK a) (Go.Num.numK b)) (Go.Num.mul12 (Go.Num.numK b) (Go.Num.numK a))))) = Bool.false), (Go.Abs.EqT Go.Proofs.Try.prog (40 : Nat)), ((!(decide (Go.Alg.Q12 (Go.Num.Fld.m Go.Num.fld) (Go.Num.mul12 (Go.Num.mul12 (Go.Num.numK a) (Go.Num.numK b)) (Go.Num.numK c)) (Go.Num.mul12 (Go.Num.numK a) (Go.Num.mul12 (Go.Num.numK b) (Go.Num.numK c)))))) = Bool.false), (Go.Abs.EqT Go.Proofs.Try.prog (40 : Nat)), ((!(decide (Go.Alg.Q12 (Go.Num.Fld.m Go.Num.fld) (Go.Num.sq12 (Go.Num.numK a)) (Go.Num.mul12 (Go.Num.numK a) (Go.Num.numK a))))) = Bool.false), (Go.Abs.EqT Go.Proofs.Try.prog (40 : Nat)), ((!(decide (Go.Alg.Q12 (Go.Num.Fld.m Go.Num.fld) (Go.Num.mul12 (Go.Num.numK a) (1 : K12)) (Go.Num.numK a)))) = Bool.false), (Go.Abs.EqT Go.Proofs.Try.prog (40 : Nat)), ((!(decide (Go.Alg.Q12 (Go.Num.Fld.m Go.Num.fld) (Go.Num.cj12 (Go.Num.mul12 (Go.Num.numK a) (Go.Num.numK b))) (Go.Num.mul12 (Go.Num.cj12 (Go.Num.numK a)) (Go.Num.cj12 (Go.Num.numK b)))))) = Bool.false), (Go.Abs.EqT Go.Proofs.Try.prog (40 : Nat)), (((decide ((((((Go.Num.numK a)).1).1).1 % (Go.Num.Fld.m Go.Num.fld)) = ((0 : Int) % (Go.Num.Fld.m Go.Num.fld)))) && ((decide ((((((Go.Num.numK a)).1).1).2 % (Go.Num.Fld.m Go.Num.fld)) = ((0 : Int) % (Go.Num.Fld.m Go.Num.fld)))) && ((decide ((((((Go.Num.numK a)).1).2).1 % (Go.Num.Fld.m Go.Num.fld)) = ((0 : Int) % (Go.Num.Fld.m Go.Num.fld)))) && ((decide ((((((Go.Num.numK a)).1).2).2 % (Go.Num.Fld.m Go.Num.fld)) = ((0 : Int) % (Go.Num.Fld.m Go.Num.fld)))) && ((decide ((((((Go.Num.numK a)).1).3).1 % (Go.Num.Fld.m Go.Num.fld)) = ((0 : Int) % (Go.Num.Fld.m Go.Num.fld)))) && ((decide ((((((Go.Num.numK a)).1).3).2 % (Go.Num.Fld.m Go.Num.fld)) = ((0 : Int) % (Go.Num.Fld.m Go.Num.fld)))) && ((decide ((((((Go.Num.numK a)).2).1).1 % (Go.Num.Fld.m Go.Num.fld)) = ((0 : Int) % (Go.Num.Fld.m Go.Num.fld)))) && ((decide ((((((Go.Num.numK a)).2).1).2 % (Go.Num.Fld.m Go.Num.fld)) = ((0 : Int) % (Go.Num.Fld.m Go.Num.fld)))) && ((decide ((((((Go.Num.numK a)).2).2).1 % (Go.Num.Fld.m Go.Num.fld)) = ((0 : Int) % (Go.Num.Fld.m Go.Num.fld)))) && ((decide ((((((Go.Num.numK a)).2).2).2 % (Go.Num.Fld.m Go.Num.fld)) = ((0 : Int) % (Go.Num.Fld.m Go.Num.fld)))) && ((decide ((((((Go.Num.numK a)).2).3).1 % (Go.Num.Fld.m Go.Num.fld)) = ((0 : Int) % (Go.Num.Fld.m Go.Num.fld)))) && (decide ((((((Go.Num.numK a)).2).3).2 % (Go.Num.Fld.m Go.Num.fld)) = ((0 : Int) % (Go.Num.Fld.m Go.Num.fld))))))))))))))) = Bool.false), (Go.Abs.EqT Go.Proofs.Try.prog (40 : Nat)), ((decide (Go.Alg.Q12 (Go.Num.Fld.m Go.Num.fld) (Go.Num.mul12 (Go.Num.numK a) (Go.Num.inv12 (Go.Num.numK a))) (1 : K12))) = Bool.true), (Go.Abs.EqT Go.Proofs.Try.prog (40 : Nat))]) := by kernel_rfl
theorem rules_run (a b c : List Int)
    (h1 : ((decide (((((List.length a) : Nat) : Int) > (2000 : Int)) ∨ ((((List.length b) : Nat) : Int) > (2000 : Int)))) = Bool.false))
    (h2 : ((decide ((((List.length c) : Nat) : Int) > (2000 : Int))) = Bool.false))
    (h3 : (Go.Num.InB a))
    (h4 : ((List.length a) ≤ (1000000 : Nat)))
    (h5 : (Go.Num.InB b))
    (h6 : ((List.length b) ≤ (1000000 : Nat)))
    (h7 : (Go.Num.InB c))
    (h8 : ((List.length c) ≤ (1000000 : Nat)))
    (h9 : ((!(decide (Go.Alg.Q12 (Go.Num.Fld.m Go.Num.fld) (Go.Num.mul12 (Go.Num.numK a) (Go.Num.numK b)) (Go.Num.mul12 (Go.Num.numK b) (Go.Num.numK a))))) = Bool.false))
    (h10 : (Go.Abs.EqT Go.Proofs.Try.prog (40 : Nat)))
    (h11 : ((!(decide (Go.Alg.Q12 (Go.Num.Fld.m Go.Num.fld) (Go.Num.mul12 (Go.Num.mul12 (Go.Num.numK a) (Go.Num.numK b)) (Go.Num.numK c)) (Go.Num.mul12 (Go.Num.numK a) (Go.Num.mul12 (Go.Num.numK b) (Go.Num.numK c)))))) = Bool.false))
    (h12 : ((!(decide (Go.Alg.Q12 (Go.Num.Fld.m Go.Num.fld) (Go.Num.sq12 (Go.Num.numK a)) (Go.Num.mul12 (Go.Num.numK a) (Go.Num.numK a))))) = Bool.false))
    (h13 : ((!(decide (Go.Alg.Q12 (Go.Num.Fld.m Go.Num.fld) (Go.Num.mul12 (Go.Num.numK a) (1 : K12)) (Go.Num.numK a)))) = Bool.false))
    (h14 : ((!(decide (Go.Alg.Q12 (Go.Num.Fld.m Go.Num.fld) (Go.Num.cj12 (Go.Num.mul12 (Go.Num.numK a) (Go.Num.numK b))) (Go.Num.mul12 (Go.Num.cj12 (Go.Num.numK a)) (Go.Num.cj12 (Go.Num.numK b)))))) = Bool.false))
    (h15 : (((decide ((((((Go.Num.numK a)).1).1).1 % (Go.Num.Fld.m Go.Num.fld)) = ((0 : Int) % (Go.Num.Fld.m Go.Num.fld)))) && ((decide ((((((Go.Num.numK a)).1).1).2 % (Go.Num.Fld.m Go.Num.fld)) = ((0 : Int) % (Go.Num.Fld.m Go.Num.fld)))) && ((decide ((((((Go.Num.numK a)).1).2).1 % (Go.Num.Fld.m Go.Num.fld)) = ((0 : Int) % (Go.Num.Fld.m Go.Num.fld)))) && ((decide ((((((Go.Num.numK a)).1).2).2 % (Go.Num.Fld.m Go.Num.fld)) = ((0 : Int) % (Go.Num.Fld.m Go.Num.fld)))) && ((decide ((((((Go.Num.numK a)).1).3).1 % (Go.Num.Fld.m Go.Num.fld)) = ((0 : Int) % (Go.Num.Fld.m Go.Num.fld)))) && ((decide ((((((Go.Num.numK a)).1).3).2 % (Go.Num.Fld.m Go.Num.fld)) = ((0 : Int) % (Go.Num.Fld.m Go.Num.fld)))) && ((decide ((((((Go.Num.numK a)).2).1).1 % (Go.Num.Fld.m Go.Num.fld)) = ((0 : Int) % (Go.Num.Fld.m Go.Num.fld)))) && ((decide ((((((Go.Num.numK a)).2).1).2 % (Go.Num.Fld.m Go.Num.fld)) = ((0 : Int) % (Go.Num.Fld.m Go.Num.fld)))) && ((decide ((((((Go.Num.numK a)).2).2).1 % (Go.Num.Fld.m Go.Num.fld)) = ((0 : Int) % (Go.Num.Fld.m Go.Num.fld)))) && ((decide ((((((Go.Num.numK a)).2).2).2 % (Go.Num.Fld.m Go.Num.fld)) = ((0 : Int) % (Go.Num.Fld.m Go.Num.fld)))) && ((decide ((((((Go.Num.numK a)).2).3).1 % (Go.Num.Fld.m Go.Num.fld)) = ((0 : Int) % (Go.Num.Fld.m Go.Num.fld)))) && (decide ((((((Go.Num.numK a)).2).3).2 % (Go.Num.Fld.m Go.Num.fld)) = ((0 : Int) % (Go.Num.Fld.m Go.Num.fld))))))))))))))) = Bool.false))
    (h16 : ((decide (Go.Alg.Q12 (Go.Num.Fld.m Go.Num.fld) (Go.Num.mul12 (Go.Num.numK a) (Go.Num.inv12 (Go.Num.numK a))) (1 : K12))) = Bool.true)) :
    ∃ ps, runF Try.prog FD gam29 200 Try.f7 [.one (.words .u8 a), .one (.words .u8 b), .one (.words .u8 c)] [.is false, .is false, .is false, .is false, .is false, .is false, .is false, .is false, .is true] = some ((Go.Abs.AV.v (Go.Abs.A0.one (Go.Abs.Part.bool Bool.true Bool.true))), ps) ∧ AllQ ps := ⟨_, rules_run_r a b c, AllP.all ⟨h1, h2, h3, h4, h5, h6, h7, h8, h9, h10, h11, h10, h12, h10, h13, h10, h14, h10, h15, h10, h16, h10⟩⟩

/-! proof -/

theorem cj_mul (x y : K12) : cj12 (mul12 x y) = mul12 (cj12 x) (cj12 y) := by
  refine Quad.eq ?_ ?_
  · exact ring_id (vars [x.a, x.b, y.a, y.b, vee]) (u 0 * u 2 + u 4 * (u 1 * u 3)) (u 0 * u 2 + u 4 * ((0 + -u 1) * (0 + -u 3))) (by kernel_rfl)
  · exact ring_id (vars [x.a, x.b, y.a, y.b]) (0 + -(u 0 * u 3 + u 1 * u 2)) (u 0 * (0 + -u 3) + (0 + -u 1) * u 2) (by kernel_rfl)

theorem inv12_nought {x : K12} (h : Md MN x 0) : Md MN (inv12 x) x := by
  obtain ⟨h1, h2⟩ := md_quad.1 h
  refine Md.trans ?_ h.symm
  refine md_quad.2 ⟨h1.zero_mul, ?_⟩
  show Md MN (0 + -(x.b * inv6 (nrm12 x))) 0
  rw [CR.zero_add]
  have := (h2.zero_mul (y := inv6 (nrm12 x))).neg
  rwa [neg_zero] at this

theorem lawRules {a b c : List Int} (ha : InB a) (_la : a.length ≤ 140737488351232) (hb : InB b) (_lb : b.length ≤ 140737488351232) (hc : InB c) (_lc : c.length ≤ 140737488351232) : LawOK Try.f7 [.one (.words .u8 a), .one (.words .u8 b), .one (.words .u8 c)] := by
  by_cases h : (a.length : Int) > 2000 ∨ (b.length : Int) > 2000
  · obtain ⟨ps, h1, h2⟩ := rules_long a b c (decide_eq_true h)
    exact ⟨gam29, gam29_ok, _, ps, h1, h2⟩
  by_cases hc' : (c.length : Int) > 2000
  · obtain ⟨ps, h1, h2⟩ := rules_long2 a b c (decide_eq_false h) (decide_eq_true hc')
    exact ⟨gam29, gam29_ok, _, ps, h1, h2⟩
  have hl : a.length ≤ 2000 ∧ b.length ≤ 2000 := by omega
  have e1 : mul12 (numK a) (numK b) = mul12 (numK b) (numK a) := CR.mul_comm _ _
  have e2 : mul12 (mul12 (numK a) (numK b)) (numK c) = mul12 (numK a) (mul12 (numK b) (numK c)) := CR.mul_assoc _ _ _
  have e4 : mul12 (numK a) (1 : K12) = numK a := Alg.mul_one _
  cases hz : isZ12 (numK a)
  · obtain ⟨ps, h1, h2⟩ := rules_run a b c (decide_eq_false h) (decide_eq_false hc') ha (by omega) hb (by omega) hc (by omega) (n12_of e1) e12_eqT (n12_of e2) (n12_of rfl) (n12_of e4) (n12_of (cj_mul _ _)) hz (q12_of (inv12_md (isZ12_not hz)))
    exact ⟨gam29, gam29_ok, _, ps, h1, h2⟩
  · obtain ⟨ps, h1, h2⟩ := rules_nought a b c (decide_eq_false h) (decide_eq_false hc') ha (by omega) hb (by omega) hc (by omega) (n12_of e1) e12_eqT (n12_of e2) (n12_of rfl) (n12_of e4) (n12_of (cj_mul _ _)) hz (q12_of (inv12_nought (isZ12_iff.1 hz)))
    exact ⟨gam29, gam29_ok, _, ps, h1, h2⟩

end Go.Num
