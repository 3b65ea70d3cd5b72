/- Fp2Squares: every square has a root. -/
import Derived.Test.YtlobkhocdmepfaaTw5
namespace Go.Num
open Go.Abs Go.Proofs Go.Shelf Go.Alg

theorem squares_long_r (l m : List Int) : runF Try.prog FD gamR2 200 Try.f7 [.one (.words .u8 l), .one (.words .u8 m)] [.is true] =
    some ((Go.Abs.AV.v (Go.Abs.A0.one (Go.Abs.Part.bool Bool.true Bool.true))), [((decide (((((List.length l) : Nat) : Int) > (64 : Int)) ∨ (((((List.length m) : Nat) : Int) > (64 : Int)) ∨ (((((0 : Nat) : Nat) : Int) > (64 : Int)) ∨ ((((0 : Nat) : Nat) : Int) > (64 : Int)))))) = Bool.true)]) := by kernel_rfl
theorem squares_long (l m : List Int)
    (h1 : ((decide (((((List.length l) : Nat) : Int) > (64 : Int)) ∨ (((((List.length m) : Nat) : Int) > (64 : Int)) ∨ (((((0 : Nat) : Nat) : Int) > (64 : Int)) ∨ ((((0 : Nat) : Nat) : Int) > (64 : Int)))))) = Bool.true)) :
    ∃ ps, runF Try.prog FD gamR2 200 Try.f7 [.one (.words .u8 l), .one (.words .u8 m)] [.is true] = some ((Go.Abs.AV.v (Go.Abs.A0.one (Go.Abs.Part.bool Bool.true Bool.true))), ps) ∧ AllQ ps := ⟨_, squares_long_r l m, AllP.all h1⟩

theorem squares_posZ_r (l m : List Int) : runF Try.prog FD gamR2 200 Try.f7 [.one (.words .u8 l), .one (.words .u8 m)] [.is false, .is true, .is false, .is true, .is false, .is false, .is true] =
    some ((Go.Abs.AV.v (Go.Abs.A0.one (Go.Abs.Part.bool Bool.true Bool.true))), [((decide (((((List.length l) : Nat) : Int) > (64 : Int)) ∨ (((((List.length m) : Nat) : Int) > (64 : Int)) ∨ (((((0 : Nat) : Nat) : Int) > (64 : Int)) ∨ ((((0 : Nat) : Nat) : Int) > (64 : Int)))))) = Bool.false), ((List.length l) ≤ (281474976710656 : Nat)), (Go.Num.InB l), ((List.length l) ≤ (9223372036854775807 : Nat)), ((List.length m) ≤ (281474976710656 : Nat)), (Go.Num.InB m), ((List.length m) ≤ (9223372036854775807 : Nat)), ((Go.Num.hasSq (Go.Num.nrm (Go.Num.sq2 (@Go.Alg.Quad.mk Int (-(1 : Int)) (Go.Num.be l) (Go.Num.be m))))) = Bool.true), ((!((decide ((((Go.Num.rt2 (Go.Num.sq2 (@Go.Alg.Quad.mk Int (-(1 : Int)) (Go.Num.be l) (Go.Num.be m))))).1 % (Go.Num.Fld.m Go.Num.fld)) = ((Go.Num.be l) % (Go.Num.Fld.m Go.Num.fld)))) && (decide ((((Go.Num.rt2 (Go.Num.sq2 (@Go.Alg.Quad.mk Int (-(1 : Int)) (Go.Num.be l) (Go.Num.be m))))).2 % (Go.Num.Fld.m Go.Num.fld)) = ((Go.Num.be m) % (Go.Num.Fld.m Go.Num.fld)))))) = Bool.false), (Go.Abs.EqT Go.Proofs.Try.prog (32 : Nat)), ((decide (Go.Alg.Q2 (Go.Num.Fld.m Go.Num.fld) (@Go.Alg.Quad.mk Int (-(1 : Int)) (Go.Num.be l) (Go.Num.be m)) (0 : K2))) = Bool.true), ((Go.Num.od2 (@Go.Alg.Quad.mk Int (-(1 : Int)) (Go.Num.be l) (Go.Num.be m))) = Bool.false), ((Go.Num.lg2 (@Go.Alg.Quad.mk Int (-(1 : Int)) (Go.Num.be l) (Go.Num.be m))) = Bool.false), ((decide (Go.Alg.Q2 (Go.Num.Fld.m Go.Num.fld) (Go.Num.inv2 (@Go.Alg.Quad.mk Int (-(1 : Int)) (Go.Num.be l) (Go.Num.be m))) (0 : K2))) = Bool.true)]) := by kernel_rfl
theorem squares_posZ (l m : List Int)
    (h1 : ((decide (((((List.length l) : Nat) : Int) > (64 : Int)) ∨ (((((List.length m) : Nat) : Int) > (64 : Int)) ∨ (((((0 : Nat) : Nat) : Int) > (64 : Int)) ∨ ((((0 : Nat) : Nat) : Int) > (64 : Int)))))) = Bool.false))
    (h2 : ((List.length l) ≤ (281474976710656 : Nat)))
    (h3 : (Go.Num.InB l))
    (h4 : ((List.length l) ≤ (9223372036854775807 : Nat)))
    (h5 : ((List.length m) ≤ (281474976710656 : Nat)))
    (h6 : (Go.Num.InB m))
    (h7 : ((List.length m) ≤ (9223372036854775807 : Nat)))
    (h8 : ((Go.Num.hasSq (Go.Num.nrm (Go.Num.sq2 (@Go.Alg.Quad.mk Int (-(1 : Int)) (Go.Num.be l) (Go.Num.be m))))) = Bool.true))
    (h9 : ((!((decide ((((Go.Num.rt2 (Go.Num.sq2 (@Go.Alg.Quad.mk Int (-(1 : Int)) (Go.Num.be l) (Go.Num.be m))))).1 % (Go.Num.Fld.m Go.Num.fld)) = ((Go.Num.be l) % (Go.Num.Fld.m Go.Num.fld)))) && (decide ((((Go.Num.rt2 (Go.Num.sq2 (@Go.Alg.Quad.mk Int (-(1 : Int)) (Go.Num.be l) (Go.Num.be m))))).2 % (Go.Num.Fld.m Go.Num.fld)) = ((Go.Num.be m) % (Go.Num.Fld.m Go.Num.fld)))))) = Bool.false))
    (h10 : (Go.Abs.EqT Go.Proofs.Try.prog (32 : Nat)))
    (h11 : ((decide (Go.Alg.Q2 (Go.Num.Fld.m Go.Num.fld) (@Go.Alg.Quad.mk Int (-(1 : Int)) (Go.Num.be l) (Go.Num.be m)) (0 : K2))) = Bool.true))
    (h12 : ((Go.Num.od2 (@Go.Alg.Quad.mk Int (-(1 : Int)) (Go.Num.be l) (Go.Num.be m))) = Bool.false))
    (h13 : ((Go.Num.lg2 (@Go.Alg.Quad.mk Int (-(1 : Int)) (Go.Num.be l) (Go.Num.be m))) = Bool.false))
    (h14 : ((decide (Go.Alg.Q2 (Go.Num.Fld.m Go.Num.fld) (Go.Num.inv2 (@Go.Alg.Quad.mk Int (-(1 : Int)) (Go.Num.be l) (Go.Num.be m))) (0 : K2))) = Bool.true)) :
    ∃ ps, runF Try.prog FD gamR2 200 Try.f7 [.one (.words .u8 l), .one (.words .u8 m)] [.is false, .is true, .is false, .is true, .is false, .is false, .is true] = some ((Go.Abs.AV.v (Go.Abs.A0.one (Go.Abs.Part.bool Bool.true Bool.true))), ps) ∧ AllQ ps := ⟨_, squares_posZ_r l m, AllP.all ⟨h1, h2, h3, h4, h5, h6, h7, h8, h9, h10, h11, h12, h13, h14⟩⟩

theorem squares_negZ_r (l m : List Int) : runF Try.prog FD gamR2 200 Try.f7 [.one (.words .u8 l), .one (.words .u8 m)] [.is false, .is true, .is true, .is false, .is true, .is false, .is false, .is true] =
    some ((Go.Abs.AV.v (Go.Abs.A0.one (Go.Abs.Part.bool Bool.true Bool.true))), [((decide (((((List.length l) : Nat) : Int) > (64 : Int)) ∨ (((((List.length m) : Nat) : Int) > (64 : Int)) ∨ (((((0 : Nat) : Nat) : Int) > (64 : Int)) ∨ ((((0 : Nat) : Nat) : Int) > (64 : Int)))))) = Bool.false), ((List.length l) ≤ (281474976710656 : Nat)), (Go.Num.InB l), ((List.length l) ≤ (9223372036854775807 : Nat)), ((List.length m) ≤ (281474976710656 : Nat)), (Go.Num.InB m), ((List.length m) ≤ (9223372036854775807 : Nat)), ((Go.Num.hasSq (Go.Num.nrm (Go.Num.sq2 (@Go.Alg.Quad.mk Int (-(1 : Int)) (Go.Num.be l) (Go.Num.be m))))) = Bool.true), ((!((decide ((((Go.Num.rt2 (Go.Num.sq2 (@Go.Alg.Quad.mk Int (-(1 : Int)) (Go.Num.be l) (Go.Num.be m))))).1 % (Go.Num.Fld.m Go.Num.fld)) = ((Go.Num.be l) % (Go.Num.Fld.m Go.Num.fld)))) && (decide ((((Go.Num.rt2 (Go.Num.sq2 (@Go.Alg.Quad.mk Int (-(1 : Int)) (Go.Num.be l) (Go.Num.be m))))).2 % (Go.Num.Fld.m Go.Num.fld)) = ((Go.Num.be m) % (Go.Num.Fld.m Go.Num.fld)))))) = Bool.true), (Go.Abs.EqT Go.Proofs.Try.prog (32 : Nat)), ((!(decide (Go.Alg.Q2 (Go.Num.Fld.m Go.Num.fld) (Go.Num.rt2 (Go.Num.sq2 (@Go.Alg.Quad.mk Int (-(1 : Int)) (Go.Num.be l) (Go.Num.be m)))) (-(@Go.Alg.Quad.mk Int (-(1 : Int)) (Go.Num.be l) (Go.Num.be m)))))) = Bool.false), (Go.Abs.EqT Go.Proofs.Try.prog (32 : Nat)), ((decide (Go.Alg.Q2 (Go.Num.Fld.m Go.Num.fld) (@Go.Alg.Quad.mk Int (-(1 : Int)) (Go.Num.be l) (Go.Num.be m)) (0 : K2))) = Bool.true), ((Go.Num.od2 (@Go.Alg.Quad.mk Int (-(1 : Int)) (Go.Num.be l) (Go.Num.be m))) = Bool.false), ((Go.Num.lg2 (@Go.Alg.Quad.mk Int (-(1 : Int)) (Go.Num.be l) (Go.Num.be m))) = Bool.false), ((decide (Go.Alg.Q2 (Go.Num.Fld.m Go.Num.fld) (Go.Num.inv2 (@Go.Alg.Quad.mk Int (-(1 : Int)) (Go.Num.be l) (Go.Num.be m))) (0 : K2))) = Bool.true)]) := by kernel_rfl
theorem squares_negZ (l m : List Int)
    (h1 : ((decide (((((List.length l) : Nat) : Int) > (64 : Int)) ∨ (((((List.length m) : Nat) : Int) > (64 : Int)) ∨ (((((0 : Nat) : Nat) : Int) > (64 : Int)) ∨ ((((0 : Nat) : Nat) : Int) > (64 : Int)))))) = Bool.false))
    (h2 : ((List.length l) ≤ (281474976710656 : Nat)))
    (h3 : (Go.Num.InB l))
    (h4 : ((List.length l) ≤ (9223372036854775807 : Nat)))
    (h5 : ((List.length m) ≤ (281474976710656 : Nat)))
    (h6 : (Go.Num.InB m))
    (h7 : ((List.length m) ≤ (9223372036854775807 : Nat)))
    (h8 : ((Go.Num.hasSq (Go.Num.nrm (Go.Num.sq2 (@Go.Alg.Quad.mk Int (-(1 : Int)) (Go.Num.be l) (Go.Num.be m))))) = Bool.true))
    (h9 : ((!((decide ((((Go.Num.rt2 (Go.Num.sq2 (@Go.Alg.Quad.mk Int (-(1 : Int)) (Go.Num.be l) (Go.Num.be m))))).1 % (Go.Num.Fld.m Go.Num.fld)) = ((Go.Num.be l) % (Go.Num.Fld.m Go.Num.fld)))) && (decide ((((Go.Num.rt2 (Go.Num.sq2 (@Go.Alg.Quad.mk Int (-(1 : Int)) (Go.Num.be l) (Go.Num.be m))))).2 % (Go.Num.Fld.m Go.Num.fld)) = ((Go.Num.be m) % (Go.Num.Fld.m Go.Num.fld)))))) = Bool.true))
    (h10 : (Go.Abs.EqT Go.Proofs.Try.prog (32 : Nat)))
    (h11 : ((!(decide (Go.Alg.Q2 (Go.Num.Fld.m Go.Num.fld) (Go.Num.rt2 (Go.Num.sq2 (@Go.Alg.Quad.mk Int (-(1 : Int)) (Go.Num.be l) (Go.Num.be m)))) (-(@Go.Alg.Quad.mk Int (-(1 : Int)) (Go.Num.be l) (Go.Num.be m)))))) = Bool.false))
    (h12 : ((decide (Go.Alg.Q2 (Go.Num.Fld.m Go.Num.fld) (@Go.Alg.Quad.mk Int (-(1 : Int)) (Go.Num.be l) (Go.Num.be m)) (0 : K2))) = Bool.true))
    (h13 : ((Go.Num.od2 (@Go.Alg.Quad.mk Int (-(1 : Int)) (Go.Num.be l) (Go.Num.be m))) = Bool.false))
    (h14 : ((Go.Num.lg2 (@Go.Alg.Quad.mk Int (-(1 : Int)) (Go.Num.be l) (Go.Num.be m))) = Bool.false))
    (h15 : ((decide (Go.Alg.Q2 (Go.Num.Fld.m Go.Num.fld) (Go.Num.inv2 (@Go.Alg.Quad.mk Int (-(1 : Int)) (Go.Num.be l) (Go.Num.be m))) (0 : K2))) = Bool.true)) :
    ∃ ps, runF Try.prog FD gamR2 200 Try.f7 [.one (.words .u8 l), .one (.words .u8 m)] [.is false, .is true, .is true, .is false, .is true, .is false, .is false, .is true] = some ((Go.Abs.AV.v (Go.Abs.A0.one (Go.Abs.Part.bool Bool.true Bool.true))), ps) ∧ AllQ ps := ⟨_, squares_negZ_r l m, AllP.all ⟨h1, h2, h3, h4, h5, h6, h7, h8, h9, h10, h11, h10, h12, h13, h14, h15⟩⟩

theorem squares_pos_r (l m : List Int) : runF Try.prog FD gamR2 200 Try.f7 [.one (.words .u8 l), .one (.words .u8 m)] [.is false, .is true, .is false, .is false, .keep, .keep, .is true, .keep, .keep, .is true, .is true] =
    some ((Go.Abs.AV.v (Go.Abs.A0.one (Go.Abs.Part.bool Bool.true Bool.true))), [((decide (((((List.length l) : Nat) : Int) > (64 : Int)) ∨ (((((List.length m) : Nat) : Int) > (64 : Int)) ∨ (((((0 : Nat) : Nat) : Int) > (64 : Int)) ∨ ((((0 : Nat) : Nat) : Int) > (64 : Int)))))) = Bool.false), ((List.length l) ≤ (281474976710656 : Nat)), (Go.Num.InB l), ((List.length l) ≤ (9223372036854775807 : Nat)), ((List.length m) ≤ (281474976710656 : Nat)), (Go.Num.InB m), ((List.length m) ≤ (9223372036854775807 : Nat)), ((Go.Num.hasSq (Go.Num.nrm (Go.Num.sq2 (@Go.Alg.Quad.mk Int (-(1 : Int)) (Go.Num.be l) (Go.Num.be m))))) = Bool.true), ((!((decide ((((Go.Num.rt2 (Go.Num.sq2 (@Go.Alg.Quad.mk Int (-(1 : Int)) (Go.Num.be l) (Go.Num.be m))))).1 % (Go.Num.Fld.m Go.Num.fld)) = ((Go.Num.be l) % (Go.Num.Fld.m Go.Num.fld)))) && (decide ((((Go.Num.rt2 (Go.Num.sq2 (@Go.Alg.Quad.mk Int (-(1 : Int)) (Go.Num.be l) (Go.Num.be m))))).2 % (Go.Num.Fld.m Go.Num.fld)) = ((Go.Num.be m) % (Go.Num.Fld.m Go.Num.fld)))))) = Bool.false), (Go.Abs.EqT Go.Proofs.Try.prog (32 : Nat)), ((decide (Go.Alg.Q2 (Go.Num.Fld.m Go.Num.fld) (@Go.Alg.Quad.mk Int (-(1 : Int)) (Go.Num.be l) (Go.Num.be m)) (0 : K2))) = Bool.false), ((!((Go.Num.od2 (@Go.Alg.Quad.mk Int (-(1 : Int)) (Go.Num.be l) (Go.Num.be m))) == (Go.Num.od2 (-(@Go.Alg.Quad.mk Int (-(1 : Int)) (Go.Num.be l) (Go.Num.be m)))))) = Bool.true), ((!((Go.Num.lg2 (@Go.Alg.Quad.mk Int (-(1 : Int)) (Go.Num.be l) (Go.Num.be m))) == (Go.Num.lg2 (-(@Go.Alg.Quad.mk Int (-(1 : Int)) (Go.Num.be l) (Go.Num.be m)))))) = Bool.true), (Go.Num.Rng (1 : Int)), (Go.Num.Rng (0 : Int)), ((decide (Go.Alg.Q2 (Go.Num.Fld.m Go.Num.fld) ((@Go.Alg.Quad.mk Int (-(1 : Int)) (Go.Num.be l) (Go.Num.be m)) * (Go.Num.inv2 (@Go.Alg.Quad.mk Int (-(1 : Int)) (Go.Num.be l) (Go.Num.be m)))) (@Go.Alg.Quad.mk Int (-(1 : Int)) (1 : Int) (0 : Int)))) = Bool.true), (Go.Abs.EqT Go.Proofs.Try.prog (32 : Nat))]) := by kernel_rfl
theorem squares_pos (l m : List Int)
    (h1 : ((decide (((((List.length l) : Nat) : Int) > (64 : Int)) ∨ (((((List.length m) : Nat) : Int) > (64 : Int)) ∨ (((((0 : Nat) : Nat) : Int) > (64 : Int)) ∨ ((((0 : Nat) : Nat) : Int) > (64 : Int)))))) = Bool.false))
    (h2 : ((List.length l) ≤ (281474976710656 : Nat)))
    (h3 : (Go.Num.InB l))
    (h4 : ((List.length l) ≤ (9223372036854775807 : Nat)))
    (h5 : ((List.length m) ≤ (281474976710656 : Nat)))
    (h6 : (Go.Num.InB m))
    (h7 : ((List.length m) ≤ (9223372036854775807 : Nat)))
    (h8 : ((Go.Num.hasSq (Go.Num.nrm (Go.Num.sq2 (@Go.Alg.Quad.mk Int (-(1 : Int)) (Go.Num.be l) (Go.Num.be m))))) = Bool.true))
    (h9 : ((!((decide ((((Go.Num.rt2 (Go.Num.sq2 (@Go.Alg.Quad.mk Int (-(1 : Int)) (Go.Num.be l) (Go.Num.be m))))).1 % (Go.Num.Fld.m Go.Num.fld)) = ((Go.Num.be l) % (Go.Num.Fld.m Go.Num.fld)))) && (decide ((((Go.Num.rt2 (Go.Num.sq2 (@Go.Alg.Quad.mk Int (-(1 : Int)) (Go.Num.be l) (Go.Num.be m))))).2 % (Go.Num.Fld.m Go.Num.fld)) = ((Go.Num.be m) % (Go.Num.Fld.m Go.Num.fld)))))) = Bool.false))
    (h10 : (Go.Abs.EqT Go.Proofs.Try.prog (32 : Nat)))
    (h11 : ((decide (Go.Alg.Q2 (Go.Num.Fld.m Go.Num.fld) (@Go.Alg.Quad.mk Int (-(1 : Int)) (Go.Num.be l) (Go.Num.be m)) (0 : K2))) = Bool.false))
    (h12 : ((!((Go.Num.od2 (@Go.Alg.Quad.mk Int (-(1 : Int)) (Go.Num.be l) (Go.Num.be m))) == (Go.Num.od2 (-(@Go.Alg.Quad.mk Int (-(1 : Int)) (Go.Num.be l) (Go.Num.be m)))))) = Bool.true))
    (h13 : ((!((Go.Num.lg2 (@Go.Alg.Quad.mk Int (-(1 : Int)) (Go.Num.be l) (Go.Num.be m))) == (Go.Num.lg2 (-(@Go.Alg.Quad.mk Int (-(1 : Int)) (Go.Num.be l) (Go.Num.be m)))))) = Bool.true))
    (h14 : ((decide (Go.Alg.Q2 (Go.Num.Fld.m Go.Num.fld) ((@Go.Alg.Quad.mk Int (-(1 : Int)) (Go.Num.be l) (Go.Num.be m)) * (Go.Num.inv2 (@Go.Alg.Quad.mk Int (-(1 : Int)) (Go.Num.be l) (Go.Num.be m)))) (@Go.Alg.Quad.mk Int (-(1 : Int)) (1 : Int) (0 : Int)))) = Bool.true)) :
    ∃ ps, runF Try.prog FD gamR2 200 Try.f7 [.one (.words .u8 l), .one (.words .u8 m)] [.is false, .is true, .is false, .is false, .keep, .keep, .is true, .keep, .keep, .is true, .is true] = some ((Go.Abs.AV.v (Go.Abs.A0.one (Go.Abs.Part.bool Bool.true Bool.true))), ps) ∧ AllQ ps := ⟨_, squares_pos_r l m, AllP.all ⟨h1, h2, h3, h4, h5, h6, h7, h8, h9, h10, h11, h12, h13, (show (Go.Num.Rng (1 : Int)) from by decide), (show (Go.Num.Rng (0 : Int)) from by decide), h14, h10⟩⟩

theorem squares_neg_r (l m : List Int) : runF Try.prog FD gamR2 200 Try.f7 [.one (.words .u8 l), .one (.words .u8 m)] [.is false, .is true, .is true, .is false, .is false, .keep, .keep, .is true, .keep, .keep, .is true, .is true] =
    some ((Go.Abs.AV.v (Go.Abs.A0.one (Go.Abs.Part.bool Bool.true Bool.true))), [((decide (((((List.length l) : Nat) : Int) > (64 : Int)) ∨ (((((List.length m) : Nat) : Int) > (64 : Int)) ∨ (((((0 : Nat) : Nat) : Int) > (64 : Int)) ∨ ((((0 : Nat) : Nat) : Int) > (64 : Int)))))) = Bool.false), ((List.length l) ≤ (281474976710656 : Nat)), (Go.Num.InB l), ((List.length l) ≤ (9223372036854775807 : Nat)), ((List.length m) ≤ (281474976710656 : Nat)), (Go.Num.InB m), ((List.length m) ≤ (9223372036854775807 : Nat)), ((Go.Num.hasSq (Go.Num.nrm (Go.Num.sq2 (@Go.Alg.Quad.mk Int (-(1 : Int)) (Go.Num.be l) (Go.Num.be m))))) = Bool.true), ((!((decide ((((Go.Num.rt2 (Go.Num.sq2 (@Go.Alg.Quad.mk Int (-(1 : Int)) (Go.Num.be l) (Go.Num.be m))))).1 % (Go.Num.Fld.m Go.Num.fld)) = ((Go.Num.be l) % (Go.Num.Fld.m Go.Num.fld)))) && (decide ((((Go.Num.rt2 (Go.Num.sq2 (@Go.Alg.Quad.mk Int (-(1 : Int)) (Go.Num.be l) (Go.Num.be m))))).2 % (Go.Num.Fld.m Go.Num.fld)) = ((Go.Num.be m) % (Go.Num.Fld.m Go.Num.fld)))))) = Bool.true), (Go.Abs.EqT Go.Proofs.Try.prog (32 : Nat)), ((!(decide (Go.Alg.Q2 (Go.Num.Fld.m Go.Num.fld) (Go.Num.rt2 (Go.Num.sq2 (@Go.Alg.Quad.mk Int (-(1 : Int)) (Go.Num.be l) (Go.Num.be m)))) (-(@Go.Alg.Quad.mk Int (-(1 : Int)) (Go.Num.be l) (Go.Num.be m)))))) = Bool.false), (Go.Abs.EqT Go.Proofs.Try.prog (32 : Nat)), ((decide (Go.Alg.Q2 (Go.Num.Fld.m Go.Num.fld) (@Go.Alg.Quad.mk Int (-(1 : Int)) (Go.Num.be l) (Go.Num.be m)) (0 : K2))) = Bool.false), ((!((Go.Num.od2 (@Go.Alg.Quad.mk Int (-(1 : Int)) (Go.Num.be l) (Go.Num.be m))) == (Go.Num.od2 (-(@Go.Alg.Quad.mk Int (-(1 : Int)) (Go.Num.be l) (Go.Num.be m)))))) = Bool.true), ((!((Go.Num.lg2 (@Go.Alg.Quad.mk Int (-(1 : Int)) (Go.Num.be l) (Go.Num.be m))) == (Go.Num.lg2 (-(@Go.Alg.Quad.mk Int (-(1 : Int)) (Go.Num.be l) (Go.Num.be m)))))) = Bool.true), (Go.Num.Rng (1 : Int)), (Go.Num.Rng (0 : Int)), ((decide (Go.Alg.Q2 (Go.Num.Fld.m Go.Num.fld) ((@Go.Alg.Quad.mk Int (-(1 : Int)) (Go.Num.be l) (Go.Num.be m)) * (Go.Num.inv2 (@Go.Alg.Quad.mk Int (-(1 : Int)) (Go.Num.be l) (Go.Num.be m)))) (@Go.Alg.Quad.mk Int (-(1 : Int)) (1 : Int) (0 : Int)))) = Bool.true), (Go.Abs.EqT Go.Proofs.Try.prog (32 : Nat))]) := by kernel_rfl
theorem squares_neg (l m : List Int)
    (h1 : ((decide (((((List.length l) : Nat) : Int) > (64 : Int)) ∨ (((((List.length m) : Nat) : Int) > (64 : Int)) ∨ (((((0 : Nat) : Nat) : Int) > (64 : Int)) ∨ ((((0 : Nat) : Nat) : Int) > (64 : Int)))))) = Bool.false))
    (h2 : ((List.length l) ≤ (281474976710656 : Nat)))
    (h3 : (Go.Num.InB l))
    (h4 : ((List.length l) ≤ (9223372036854775807 : Nat)))
    (h5 : ((List.length m) ≤ (281474976710656 : Nat)))
    (h6 : (Go.Num.InB m))
    (h7 : ((List.length m) ≤ (9223372036854775807 : Nat)))
    (h8 : ((Go.Num.hasSq (Go.Num.nrm (Go.Num.sq2 (@Go.Alg.Quad.mk Int (-(1 : Int)) (Go.Num.be l) (Go.Num.be m))))) = Bool.true))
    (h9 : ((!((decide ((((Go.Num.rt2 (Go.Num.sq2 (@Go.Alg.Quad.mk Int (-(1 : Int)) (Go.Num.be l) (Go.Num.be m))))).1 % (Go.Num.Fld.m Go.Num.fld)) = ((Go.Num.be l) % (Go.Num.Fld.m Go.Num.fld)))) && (decide ((((Go.Num.rt2 (Go.Num.sq2 (@Go.Alg.Quad.mk Int (-(1 : Int)) (Go.Num.be l) (Go.Num.be m))))).2 % (Go.Num.Fld.m Go.Num.fld)) = ((Go.Num.be m) % (Go.Num.Fld.m Go.Num.fld)))))) = Bool.true))
    (h10 : (Go.Abs.EqT Go.Proofs.Try.prog (32 : Nat)))
    (h11 : ((!(decide (Go.Alg.Q2 (Go.Num.Fld.m Go.Num.fld) (Go.Num.rt2 (Go.Num.sq2 (@Go.Alg.Quad.mk Int (-(1 : Int)) (Go.Num.be l) (Go.Num.be m)))) (-(@Go.Alg.Quad.mk Int (-(1 : Int)) (Go.Num.be l) (Go.Num.be m)))))) = Bool.false))
    (h12 : ((decide (Go.Alg.Q2 (Go.Num.Fld.m Go.Num.fld) (@Go.Alg.Quad.mk Int (-(1 : Int)) (Go.Num.be l) (Go.Num.be m)) (0 : K2))) = Bool.false))
    (h13 : ((!((Go.Num.od2 (@Go.Alg.Quad.mk Int (-(1 : Int)) (Go.Num.be l) (Go.Num.be m))) == (Go.Num.od2 (-(@Go.Alg.Quad.mk Int (-(1 : Int)) (Go.Num.be l) (Go.Num.be m)))))) = Bool.true))
    (h14 : ((!((Go.Num.lg2 (@Go.Alg.Quad.mk Int (-(1 : Int)) (Go.Num.be l) (Go.Num.be m))) == (Go.Num.lg2 (-(@Go.Alg.Quad.mk Int (-(1 : Int)) (Go.Num.be l) (Go.Num.be m)))))) = Bool.true))
    (h15 : ((decide (Go.Alg.Q2 (Go.Num.Fld.m Go.Num.fld) ((@Go.Alg.Quad.mk Int (-(1 : Int)) (Go.Num.be l) (Go.Num.be m)) * (Go.Num.inv2 (@Go.Alg.Quad.mk Int (-(1 : Int)) (Go.Num.be l) (Go.Num.be m)))) (@Go.Alg.Quad.mk Int (-(1 : Int)) (1 : Int) (0 : Int)))) = Bool.true)) :
    ∃ ps, runF Try.prog FD gamR2 200 Try.f7 [.one (.words .u8 l), .one (.words .u8 m)] [.is false, .is true, .is true, .is false, .is false, .keep, .keep, .is true, .keep, .keep, .is true, .is true] = some ((Go.Abs.AV.v (Go.Abs.A0.one (Go.Abs.Part.bool Bool.true Bool.true))), ps) ∧ AllQ ps := ⟨_, squares_neg_r l m, AllP.all ⟨h1, h2, h3, h4, h5, h6, h7, h8, h9, h10, h11, h10, h12, h13, h14, (show (Go.Num.Rng (1 : Int)) from by decide), (show (Go.Num.Rng (0 : Int)) from by decide), h15, h10⟩⟩

theorem nrm_mul (x y : K2) : nrm (x * y) = nrm x * nrm y := by
  simp only [nrm, qmul_a, qmul_b]
  grind

theorem q2_sym {x y : K2} (h : Q2 fld.m x y) : Q2 fld.m y x := ⟨h.1.symm, h.2.symm⟩
theorem q2_trans {x y z : K2} (h : Q2 fld.m x y) (k : Q2 fld.m y z) : Q2 fld.m x z := ⟨h.1.trans k.1, h.2.trans k.2⟩
theorem q2_add {x y z w : K2} (h : Q2 fld.m x y) (k : Q2 fld.m z w) : Q2 fld.m (x + z) (y + w) := ⟨Cg.add (cgm h.1) (cgm k.1), Cg.add (cgm h.2) (cgm k.2)⟩

/-- A root of a square is the number or its negative. -/
theorem rt2_pm (x : K2) : Q2 fld.m (rt2 (sq2 x)) x ∨ Q2 fld.m (rt2 (sq2 x)) (-x) := by
  have hs : hasSq (nrm (sq2 x)) = true := by rw [sq2, nrm_mul]; exact hasSq_mul_self _
  have h := rt2_sq hs
  generalize rt2 (sq2 x) = y at *
  have k := q2_add h (q2_refl (-(x * x)))
  have e1 : sq2 x + -(x * x) = 0 := by rw [sq2, CR.add_comm, CR.neg_add]
  have e2 : y * y + -(x * x) = (y + -x) * (y + x) := ring_id (vars [y, x]) (u 0 * u 0 + -(u 1 * u 1)) ((u 0 + -u 1) * (u 0 + u 1)) (by kernel_rfl)
  rw [e1, e2] at k
  have k2 := (nrm_zero _).2 k
  rw [nrm_mul] at k2
  have fin : ∀ z w : K2, nrm (z + w) % fld.m = 0 → Q2 fld.m z (-w) := by
    intro z w h0
    have h1 := q2_add ((nrm_zero _).1 h0) (q2_refl (-w))
    have e : z + w + -w = z := ring_id (vars [z, w]) (u 0 + u 1 + -u 1) (u 0) (by kernel_rfl)
    rw [e, CR.zero_add] at h1
    exact h1
  by_cases h1 : nrm (y + -x) % fld.m = 0
  · left
    have := fin _ _ h1
    rwa [neg_neg] at this
  · right
    refine fin _ _ ?_
    by_cases h2 : nrm (y + x) % fld.m = 0
    · exact h2
    · exact (mul_ne h1 h2 k2).elim

theorem od2_neg {x : K2} (h : ¬ Q2 fld.m x 0) : (!(od2 x == od2 (-x))) = true := by
  rw [q2_zero] at h
  unfold od2
  have hc : ∀ y : K2, (y.a % fld.m = 0 % fld.m) = (y.a % fld.m = 0) := fun y => by rw [Int.zero_emod]
  have ea : (-x).a = 0 - x.a := (Int.zero_sub _).symm
  have eb : (-x).b = 0 - x.b := (Int.zero_sub _).symm
  simp only [hc]
  by_cases ha : x.a % fld.m = 0
  · have ha2 : (-x).a % fld.m = 0 := by rw [ea, Int.sub_emod, ha]; rfl
    rw [if_pos ha, if_pos ha2, eb]
    exact odd_neg (fun hb => h ⟨ha, hb⟩)
  · have ha2 : ¬ (-x).a % fld.m = 0 := by rw [ea]; exact neg_ne ha
    rw [if_neg ha, if_neg ha2, ea]
    exact odd_neg ha

theorem lg2_neg {x : K2} (h : ¬ Q2 fld.m x 0) : (!(lg2 x == lg2 (-x))) = true := by
  rw [q2_zero] at h
  unfold lg2
  have hc : ∀ y : K2, (y.b % fld.m = 0 % fld.m) = (y.b % fld.m = 0) := fun y => by rw [Int.zero_emod]
  have ea : (-x).a = 0 - x.a := (Int.zero_sub _).symm
  have eb : (-x).b = 0 - x.b := (Int.zero_sub _).symm
  simp only [hc]
  by_cases hb : x.b % fld.m = 0
  · have hb2 : (-x).b % fld.m = 0 := by rw [eb, Int.sub_emod, hb]; rfl
    rw [if_pos hb, if_pos hb2, ea]
    exact large_neg (fun ha => h ⟨ha, hb⟩)
  · have hb2 : ¬ (-x).b % fld.m = 0 := by rw [eb]; exact neg_ne hb
    rw [if_neg hb, if_neg hb2, eb]
    exact large_neg hb

theorem od2_zero {x : K2} (h : Q2 fld.m x 0) : od2 x = false := by
  rw [q2_zero] at h
  rw [od2, if_pos (by rw [h.1, Int.zero_emod]), h.2]
  rfl

theorem lg2_zero {x : K2} (h : Q2 fld.m x 0) : lg2 x = false := by
  rw [q2_zero] at h
  have e : (0 - x.a) % fld.m = 0 := by rw [Int.sub_emod, h.1]; rfl
  rw [lg2, if_pos (by rw [h.2, Int.zero_emod]), h.1, e]
  rfl

theorem inv2_zero {x : K2} (h : Q2 fld.m x 0) : Q2 fld.m (inv2 x) 0 := by
  rw [q2_zero] at h ⊢
  constructor
  · show x.a * invOf (nrm x) % fld.m = 0
    rw [Int.mul_emod, h.1, Int.zero_mul, Int.zero_emod]
  · show -x.b * invOf (nrm x) % fld.m = 0
    rw [← Int.zero_sub, Int.mul_emod, show (0 - x.b) % fld.m = 0 from by rw [Int.sub_emod, h.2]; rfl, Int.zero_mul, Int.zero_emod]

theorem inv2_mul {x : K2} (h : ¬ Q2 fld.m x 0) : Q2 fld.m (x * inv2 x) ⟨1, 0⟩ := by
  have hn : nrm x % fld.m ≠ 0 := fun e => h ((nrm_zero x).1 e)
  have hi := inv_cg hn
  have e1 : (x * inv2 x).a = nrm x * invOf (nrm x) := by
    show x.a * (x.a * invOf (nrm x)) + -1 * (x.b * (-x.b * invOf (nrm x))) = (x.a * x.a + x.b * x.b) * invOf (nrm x)
    grind
  have e2 : (x * inv2 x).b = 0 := by
    show x.a * (-x.b * invOf (nrm x)) + x.b * (x.a * invOf (nrm x)) = 0
    grind
  exact ⟨by rw [e1]; exact hi, by rw [e2]⟩

theorem lawSquares {l m : List Int} (hb : InB l) (_hl : l.length ≤ 140737488351232) (hc : InB m) (_hm : m.length ≤ 140737488351232) : LawOK Try.f7 [.one (.words .u8 l), .one (.words .u8 m)] := by
  by_cases h : (l.length : Int) > 64 ∨ (m.length : Int) > 64 ∨ (0 : Int) > 64 ∨ (0 : Int) > 64
  · obtain ⟨ps, h1, h2⟩ := squares_long l m (decide_eq_true h)
    exact ⟨gamR2, gamR2_ok, _, ps, h1, h2⟩
  have hs := long2 h
  have h8 : hasSq (nrm (sq2 (⟨be l, be m⟩ : K2))) = true := by rw [sq2, nrm_mul]; exact hasSq_mul_self _
  have hd : ∀ y : K2, (decide (y.a % fld.m = be l % fld.m) && decide (y.b % fld.m = be m % fld.m)) = decide (Q2 fld.m y ⟨be l, be m⟩) := by
    intro y
    rw [Bool.eq_iff_iff]
    simp only [Bool.and_eq_true, decide_eq_true_iff]
    exact Iff.rfl
  have hpm := rt2_pm ⟨be l, be m⟩
  by_cases hz : Q2 fld.m (⟨be l, be m⟩ : K2) 0
  · by_cases hp : Q2 fld.m (rt2 (sq2 ⟨be l, be m⟩)) ⟨be l, be m⟩
    · obtain ⟨ps, h1, h2⟩ := squares_posZ l m (decide_eq_false h) (by omega) hb (by omega) (by omega) hc (by omega) h8 (by rw [hd, decide_eq_true hp]; rfl) e2_eqT (decide_eq_true hz) (od2_zero hz) (lg2_zero hz) (decide_eq_true (inv2_zero hz))
      exact ⟨gamR2, gamR2_ok, _, ps, h1, h2⟩
    · have hn := hpm.resolve_left hp
      obtain ⟨ps, h1, h2⟩ := squares_negZ l m (decide_eq_false h) (by omega) hb (by omega) (by omega) hc (by omega) h8 (by rw [hd, decide_eq_false hp]; rfl) e2_eqT (by rw [decide_eq_true hn]; rfl) (decide_eq_true hz) (od2_zero hz) (lg2_zero hz) (decide_eq_true (inv2_zero hz))
      exact ⟨gamR2, gamR2_ok, _, ps, h1, h2⟩
  · by_cases hp : Q2 fld.m (rt2 (sq2 ⟨be l, be m⟩)) ⟨be l, be m⟩
    · obtain ⟨ps, h1, h2⟩ := squares_pos l m (decide_eq_false h) (by omega) hb (by omega) (by omega) hc (by omega) h8 (by rw [hd, decide_eq_true hp]; rfl) e2_eqT (decide_eq_false hz) (od2_neg hz) (lg2_neg hz) (decide_eq_true (inv2_mul hz))
      exact ⟨gamR2, gamR2_ok, _, ps, h1, h2⟩
    · have hn := hpm.resolve_left hp
      obtain ⟨ps, h1, h2⟩ := squares_neg l m (decide_eq_false h) (by omega) hb (by omega) (by omega) hc (by omega) h8 (by rw [hd, decide_eq_false hp]; rfl) e2_eqT (by rw [decide_eq_true hn]; rfl) (decide_eq_false hz) (od2_neg hz) (lg2_neg hz) (decide_eq_true (inv2_mul hz))
      exact ⟨gamR2, gamR2_ok, _, ps, h1, h2⟩

end Go.Num
