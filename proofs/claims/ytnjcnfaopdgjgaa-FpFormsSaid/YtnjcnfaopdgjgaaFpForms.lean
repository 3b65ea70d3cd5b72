/- FpForms: unlike numbers have unlike bytes; squares times squares are squares. -/
import Derived.Test.YtnjcnfaopdgjgaaLawB
namespace Go.Num
open Go.Abs Go.Proofs Go.Shelf Go.Alg

theorem forms_longA_r (l m : List Int) : runF Try.prog FD gamZ 200 Try.f10 [.one (.words .u8 l), .one (.words .u8 m)] [.is true] =
    some ((Go.Abs.AV.v (Go.Abs.A0.one (Go.Abs.Part.bool Bool.true Bool.true))), [((decide ((((List.length l) : Nat) : Int) > (400 : Int))) = Bool.true)]) := by kernel_rfl
theorem forms_longA (l m : List Int)
    (h1 : ((decide ((((List.length l) : Nat) : Int) > (400 : Int))) = Bool.true)) :
    ∃ ps, runF Try.prog FD gamZ 200 Try.f10 [.one (.words .u8 l), .one (.words .u8 m)] [.is true] = some ((Go.Abs.AV.v (Go.Abs.A0.one (Go.Abs.Part.bool Bool.true Bool.true))), ps) ∧ AllQ ps := ⟨_, forms_longA_r l m, AllP.all h1⟩

theorem forms_longB_r (l m : List Int) : runF Try.prog FD gamZ 200 Try.f10 [.one (.words .u8 l), .one (.words .u8 m)] [.is false, .is true] =
    some ((Go.Abs.AV.v (Go.Abs.A0.one (Go.Abs.Part.bool Bool.true Bool.true))), [((decide ((((List.length l) : Nat) : Int) > (400 : Int))) = Bool.false), ((decide ((((List.length m) : Nat) : Int) > (400 : Int))) = Bool.true)]) := by kernel_rfl
theorem forms_longB (l m : List Int)
    (h1 : ((decide ((((List.length l) : Nat) : Int) > (400 : Int))) = Bool.false))
    (h2 : ((decide ((((List.length m) : Nat) : Int) > (400 : Int))) = Bool.true)) :
    ∃ ps, runF Try.prog FD gamZ 200 Try.f10 [.one (.words .u8 l), .one (.words .u8 m)] [.is false, .is true] = some ((Go.Abs.AV.v (Go.Abs.A0.one (Go.Abs.Part.bool Bool.true Bool.true))), ps) ∧ AllQ ps := ⟨_, forms_longB_r l m, AllP.all ⟨h1, h2⟩⟩

theorem forms_eqX_r (l m : List Int) : runF Try.prog FD gamZ 200 Try.f10 [.one (.words .u8 l), .one (.words .u8 m)] [.is false, .is false, .is false, .is false, .is true, .is true, .keep, .keep, .keep, .keep, .keep, .keep, .is true] =
    some ((Go.Abs.AV.v (Go.Abs.A0.one (Go.Abs.Part.bool Bool.true Bool.true))), [((decide ((((List.length l) : Nat) : Int) > (400 : Int))) = Bool.false), ((decide ((((List.length m) : Nat) : Int) > (400 : Int))) = Bool.false), ((List.length l) ≤ (281474976710656 : Nat)), (Go.Num.InB l), ((List.length l) ≤ (9223372036854775807 : Nat)), ((List.length m) ≤ (281474976710656 : Nat)), (Go.Num.InB m), ((List.length m) ≤ (9223372036854775807 : Nat)), (Go.Num.InB (Go.Num.beB (48 : Nat) ((Go.Num.be l) % (Go.Num.Fld.m Go.Num.fld)))), ((List.length (Go.Num.beB (48 : Nat) ((Go.Num.be l) % (Go.Num.Fld.m Go.Num.fld)))) ≤ (9223372036854775807 : Nat)), (((Go.Num.readE (Go.Num.beB (48 : Nat) ((Go.Num.be l) % (Go.Num.Fld.m Go.Num.fld)))) != (0 : Int)) = Bool.false), ((!(decide (((Go.Num.readN (Go.Num.beB (48 : Nat) ((Go.Num.be l) % (Go.Num.Fld.m Go.Num.fld)))) % (Go.Num.Fld.m Go.Num.fld)) = ((Go.Num.be l) % (Go.Num.Fld.m Go.Num.fld))))) = Bool.false), (Go.Abs.EqT Go.Proofs.Try.prog (27 : Nat)), ((List.length (Go.Num.beB (48 : Nat) ((Go.Num.be l) % (Go.Num.Fld.m Go.Num.fld)))) = (48 : Nat)), ((List.length (Go.Num.beB (48 : Nat) ((Go.Num.be m) % (Go.Num.Fld.m Go.Num.fld)))) = (48 : Nat)), ((decide ((Go.Num.beB (48 : Nat) ((Go.Num.be l) % (Go.Num.Fld.m Go.Num.fld))) = (Go.Num.beB (48 : Nat) ((Go.Num.be m) % (Go.Num.Fld.m Go.Num.fld))))) = Bool.true), (Go.Abs.EqT Go.Proofs.Try.prog (56 : Nat)), ((List.length (Go.Num.beB (48 : Nat) ((Go.Num.be l) % (Go.Num.Fld.m Go.Num.fld)))) = (List.length (Go.Num.beB (48 : Nat) ((Go.Num.be m) % (Go.Num.Fld.m Go.Num.fld))))), ((List.length (Go.Num.beB (48 : Nat) ((Go.Num.be l) % (Go.Num.Fld.m Go.Num.fld)))) = (48 : Nat)), ((decide (((Go.Num.be l) % (Go.Num.Fld.m Go.Num.fld)) = ((Go.Num.be m) % (Go.Num.Fld.m Go.Num.fld)))) = Bool.true), (Go.Abs.EqT Go.Proofs.Try.prog (27 : Nat)), ((decide (((Go.Num.be l) % (Go.Num.Fld.m Go.Num.fld)) = ((0 : Int) % (Go.Num.Fld.m Go.Num.fld)))) = Bool.true)]) := by kernel_rfl
theorem forms_eqX (l m : List Int)
    (h1 : ((decide ((((List.length l) : Nat) : Int) > (400 : Int))) = Bool.false))
    (h2 : ((decide ((((List.length m) : Nat) : Int) > (400 : Int))) = Bool.false))
    (h3 : ((List.length l) ≤ (281474976710656 : Nat)))
    (h4 : (Go.Num.InB l))
    (h5 : ((List.length l) ≤ (9223372036854775807 : Nat)))
    (h6 : ((List.length m) ≤ (281474976710656 : Nat)))
    (h7 : (Go.Num.InB m))
    (h8 : ((List.length m) ≤ (9223372036854775807 : Nat)))
    (h9 : (Go.Num.InB (Go.Num.beB (48 : Nat) ((Go.Num.be l) % (Go.Num.Fld.m Go.Num.fld)))))
    (h10 : ((List.length (Go.Num.beB (48 : Nat) ((Go.Num.be l) % (Go.Num.Fld.m Go.Num.fld)))) ≤ (9223372036854775807 : Nat)))
    (h11 : (((Go.Num.readE (Go.Num.beB (48 : Nat) ((Go.Num.be l) % (Go.Num.Fld.m Go.Num.fld)))) != (0 : Int)) = Bool.false))
    (h12 : ((!(decide (((Go.Num.readN (Go.Num.beB (48 : Nat) ((Go.Num.be l) % (Go.Num.Fld.m Go.Num.fld)))) % (Go.Num.Fld.m Go.Num.fld)) = ((Go.Num.be l) % (Go.Num.Fld.m Go.Num.fld))))) = Bool.false))
    (h13 : (Go.Abs.EqT Go.Proofs.Try.prog (27 : Nat)))
    (h14 : ((List.length (Go.Num.beB (48 : Nat) ((Go.Num.be l) % (Go.Num.Fld.m Go.Num.fld)))) = (48 : Nat)))
    (h15 : ((List.length (Go.Num.beB (48 : Nat) ((Go.Num.be m) % (Go.Num.Fld.m Go.Num.fld)))) = (48 : Nat)))
    (h16 : ((decide ((Go.Num.beB (48 : Nat) ((Go.Num.be l) % (Go.Num.Fld.m Go.Num.fld))) = (Go.Num.beB (48 : Nat) ((Go.Num.be m) % (Go.Num.Fld.m Go.Num.fld))))) = Bool.true))
    (h17 : (Go.Abs.EqT Go.Proofs.Try.prog (56 : Nat)))
    (h18 : ((List.length (Go.Num.beB (48 : Nat) ((Go.Num.be l) % (Go.Num.Fld.m Go.Num.fld)))) = (List.length (Go.Num.beB (48 : Nat) ((Go.Num.be m) % (Go.Num.Fld.m Go.Num.fld))))))
    (h19 : ((decide (((Go.Num.be l) % (Go.Num.Fld.m Go.Num.fld)) = ((Go.Num.be m) % (Go.Num.Fld.m Go.Num.fld)))) = Bool.true))
    (h20 : ((decide (((Go.Num.be l) % (Go.Num.Fld.m Go.Num.fld)) = ((0 : Int) % (Go.Num.Fld.m Go.Num.fld)))) = Bool.true)) :
    ∃ ps, runF Try.prog FD gamZ 200 Try.f10 [.one (.words .u8 l), .one (.words .u8 m)] [.is false, .is false, .is false, .is false, .is true, .is true, .keep, .keep, .keep, .keep, .keep, .keep, .is true] = some ((Go.Abs.AV.v (Go.Abs.A0.one (Go.Abs.Part.bool Bool.true Bool.true))), ps) ∧ AllQ ps := ⟨_, forms_eqX_r l m, AllP.all ⟨h1, h2, h3, h4, h5, h6, h7, h8, h9, h10, h11, h12, h13, h14, h15, h16, h17, h18, h14, h19, h13, h20⟩⟩

theorem forms_eqY_r (l m : List Int) : runF Try.prog FD gamZ 200 Try.f10 [.one (.words .u8 l), .one (.words .u8 m)] [.is false, .is false, .is false, .is false, .is true, .is true, .keep, .keep, .keep, .keep, .keep, .keep, .is false, .is true] =
    some ((Go.Abs.AV.v (Go.Abs.A0.one (Go.Abs.Part.bool Bool.true Bool.true))), [((decide ((((List.length l) : Nat) : Int) > (400 : Int))) = Bool.false), ((decide ((((List.length m) : Nat) : Int) > (400 : Int))) = Bool.false), ((List.length l) ≤ (281474976710656 : Nat)), (Go.Num.InB l), ((List.length l) ≤ (9223372036854775807 : Nat)), ((List.length m) ≤ (281474976710656 : Nat)), (Go.Num.InB m), ((List.length m) ≤ (9223372036854775807 : Nat)), (Go.Num.InB (Go.Num.beB (48 : Nat) ((Go.Num.be l) % (Go.Num.Fld.m Go.Num.fld)))), ((List.length (Go.Num.beB (48 : Nat) ((Go.Num.be l) % (Go.Num.Fld.m Go.Num.fld)))) ≤ (9223372036854775807 : Nat)), (((Go.Num.readE (Go.Num.beB (48 : Nat) ((Go.Num.be l) % (Go.Num.Fld.m Go.Num.fld)))) != (0 : Int)) = Bool.false), ((!(decide (((Go.Num.readN (Go.Num.beB (48 : Nat) ((Go.Num.be l) % (Go.Num.Fld.m Go.Num.fld)))) % (Go.Num.Fld.m Go.Num.fld)) = ((Go.Num.be l) % (Go.Num.Fld.m Go.Num.fld))))) = Bool.false), (Go.Abs.EqT Go.Proofs.Try.prog (27 : Nat)), ((List.length (Go.Num.beB (48 : Nat) ((Go.Num.be l) % (Go.Num.Fld.m Go.Num.fld)))) = (48 : Nat)), ((List.length (Go.Num.beB (48 : Nat) ((Go.Num.be m) % (Go.Num.Fld.m Go.Num.fld)))) = (48 : Nat)), ((decide ((Go.Num.beB (48 : Nat) ((Go.Num.be l) % (Go.Num.Fld.m Go.Num.fld))) = (Go.Num.beB (48 : Nat) ((Go.Num.be m) % (Go.Num.Fld.m Go.Num.fld))))) = Bool.true), (Go.Abs.EqT Go.Proofs.Try.prog (56 : Nat)), ((List.length (Go.Num.beB (48 : Nat) ((Go.Num.be l) % (Go.Num.Fld.m Go.Num.fld)))) = (List.length (Go.Num.beB (48 : Nat) ((Go.Num.be m) % (Go.Num.Fld.m Go.Num.fld))))), ((List.length (Go.Num.beB (48 : Nat) ((Go.Num.be l) % (Go.Num.Fld.m Go.Num.fld)))) = (48 : Nat)), ((decide (((Go.Num.be l) % (Go.Num.Fld.m Go.Num.fld)) = ((Go.Num.be m) % (Go.Num.Fld.m Go.Num.fld)))) = Bool.true), (Go.Abs.EqT Go.Proofs.Try.prog (27 : Nat)), ((decide (((Go.Num.be l) % (Go.Num.Fld.m Go.Num.fld)) = ((0 : Int) % (Go.Num.Fld.m Go.Num.fld)))) = Bool.false), ((decide (((Go.Num.be m) % (Go.Num.Fld.m Go.Num.fld)) = ((0 : Int) % (Go.Num.Fld.m Go.Num.fld)))) = Bool.true)]) := by kernel_rfl
theorem forms_eqY (l m : List Int)
    (h1 : ((decide ((((List.length l) : Nat) : Int) > (400 : Int))) = Bool.false))
    (h2 : ((decide ((((List.length m) : Nat) : Int) > (400 : Int))) = Bool.false))
    (h3 : ((List.length l) ≤ (281474976710656 : Nat)))
    (h4 : (Go.Num.InB l))
    (h5 : ((List.length l) ≤ (9223372036854775807 : Nat)))
    (h6 : ((List.length m) ≤ (281474976710656 : Nat)))
    (h7 : (Go.Num.InB m))
    (h8 : ((List.length m) ≤ (9223372036854775807 : Nat)))
    (h9 : (Go.Num.InB (Go.Num.beB (48 : Nat) ((Go.Num.be l) % (Go.Num.Fld.m Go.Num.fld)))))
    (h10 : ((List.length (Go.Num.beB (48 : Nat) ((Go.Num.be l) % (Go.Num.Fld.m Go.Num.fld)))) ≤ (9223372036854775807 : Nat)))
    (h11 : (((Go.Num.readE (Go.Num.beB (48 : Nat) ((Go.Num.be l) % (Go.Num.Fld.m Go.Num.fld)))) != (0 : Int)) = Bool.false))
    (h12 : ((!(decide (((Go.Num.readN (Go.Num.beB (48 : Nat) ((Go.Num.be l) % (Go.Num.Fld.m Go.Num.fld)))) % (Go.Num.Fld.m Go.Num.fld)) = ((Go.Num.be l) % (Go.Num.Fld.m Go.Num.fld))))) = Bool.false))
    (h13 : (Go.Abs.EqT Go.Proofs.Try.prog (27 : Nat)))
    (h14 : ((List.length (Go.Num.beB (48 : Nat) ((Go.Num.be l) % (Go.Num.Fld.m Go.Num.fld)))) = (48 : Nat)))
    (h15 : ((List.length (Go.Num.beB (48 : Nat) ((Go.Num.be m) % (Go.Num.Fld.m Go.Num.fld)))) = (48 : Nat)))
    (h16 : ((decide ((Go.Num.beB (48 : Nat) ((Go.Num.be l) % (Go.Num.Fld.m Go.Num.fld))) = (Go.Num.beB (48 : Nat) ((Go.Num.be m) % (Go.Num.Fld.m Go.Num.fld))))) = Bool.true))
    (h17 : (Go.Abs.EqT Go.Proofs.Try.prog (56 : Nat)))
    (h18 : ((List.length (Go.Num.beB (48 : Nat) ((Go.Num.be l) % (Go.Num.Fld.m Go.Num.fld)))) = (List.length (Go.Num.beB (48 : Nat) ((Go.Num.be m) % (Go.Num.Fld.m Go.Num.fld))))))
    (h19 : ((decide (((Go.Num.be l) % (Go.Num.Fld.m Go.Num.fld)) = ((Go.Num.be m) % (Go.Num.Fld.m Go.Num.fld)))) = Bool.true))
    (h20 : ((decide (((Go.Num.be l) % (Go.Num.Fld.m Go.Num.fld)) = ((0 : Int) % (Go.Num.Fld.m Go.Num.fld)))) = Bool.false))
    (h21 : ((decide (((Go.Num.be m) % (Go.Num.Fld.m Go.Num.fld)) = ((0 : Int) % (Go.Num.Fld.m Go.Num.fld)))) = Bool.true)) :
    ∃ ps, runF Try.prog FD gamZ 200 Try.f10 [.one (.words .u8 l), .one (.words .u8 m)] [.is false, .is false, .is false, .is false, .is true, .is true, .keep, .keep, .keep, .keep, .keep, .keep, .is false, .is true] = some ((Go.Abs.AV.v (Go.Abs.A0.one (Go.Abs.Part.bool Bool.true Bool.true))), ps) ∧ AllQ ps := ⟨_, forms_eqY_r l m, AllP.all ⟨h1, h2, h3, h4, h5, h6, h7, h8, h9, h10, h11, h12, h13, h14, h15, h16, h17, h18, h14, h19, h13, h20, h21⟩⟩

theorem forms_eqN_r (l m : List Int) : runF Try.prog FD gamZ 200 Try.f10 [.one (.words .u8 l), .one (.words .u8 m)] [.is false, .is false, .is false, .is false, .is true, .is true, .keep, .keep, .keep, .keep, .keep, .keep, .is false, .is false, .keep, .keep, .keep, .keep, .is true] =
    some ((Go.Abs.AV.v (Go.Abs.A0.one (Go.Abs.Part.bool Bool.true Bool.true))), [((decide ((((List.length l) : Nat) : Int) > (400 : Int))) = Bool.false), ((decide ((((List.length m) : Nat) : Int) > (400 : Int))) = Bool.false), ((List.length l) ≤ (281474976710656 : Nat)), (Go.Num.InB l), ((List.length l) ≤ (9223372036854775807 : Nat)), ((List.length m) ≤ (281474976710656 : Nat)), (Go.Num.InB m), ((List.length m) ≤ (9223372036854775807 : Nat)), (Go.Num.InB (Go.Num.beB (48 : Nat) ((Go.Num.be l) % (Go.Num.Fld.m Go.Num.fld)))), ((List.length (Go.Num.beB (48 : Nat) ((Go.Num.be l) % (Go.Num.Fld.m Go.Num.fld)))) ≤ (9223372036854775807 : Nat)), (((Go.Num.readE (Go.Num.beB (48 : Nat) ((Go.Num.be l) % (Go.Num.Fld.m Go.Num.fld)))) != (0 : Int)) = Bool.false), ((!(decide (((Go.Num.readN (Go.Num.beB (48 : Nat) ((Go.Num.be l) % (Go.Num.Fld.m Go.Num.fld)))) % (Go.Num.Fld.m Go.Num.fld)) = ((Go.Num.be l) % (Go.Num.Fld.m Go.Num.fld))))) = Bool.false), (Go.Abs.EqT Go.Proofs.Try.prog (27 : Nat)), ((List.length (Go.Num.beB (48 : Nat) ((Go.Num.be l) % (Go.Num.Fld.m Go.Num.fld)))) = (48 : Nat)), ((List.length (Go.Num.beB (48 : Nat) ((Go.Num.be m) % (Go.Num.Fld.m Go.Num.fld)))) = (48 : Nat)), ((decide ((Go.Num.beB (48 : Nat) ((Go.Num.be l) % (Go.Num.Fld.m Go.Num.fld))) = (Go.Num.beB (48 : Nat) ((Go.Num.be m) % (Go.Num.Fld.m Go.Num.fld))))) = Bool.true), (Go.Abs.EqT Go.Proofs.Try.prog (56 : Nat)), ((List.length (Go.Num.beB (48 : Nat) ((Go.Num.be l) % (Go.Num.Fld.m Go.Num.fld)))) = (List.length (Go.Num.beB (48 : Nat) ((Go.Num.be m) % (Go.Num.Fld.m Go.Num.fld))))), ((List.length (Go.Num.beB (48 : Nat) ((Go.Num.be l) % (Go.Num.Fld.m Go.Num.fld)))) = (48 : Nat)), ((decide (((Go.Num.be l) % (Go.Num.Fld.m Go.Num.fld)) = ((Go.Num.be m) % (Go.Num.Fld.m Go.Num.fld)))) = Bool.true), (Go.Abs.EqT Go.Proofs.Try.prog (27 : Nat)), ((decide (((Go.Num.be l) % (Go.Num.Fld.m Go.Num.fld)) = ((0 : Int) % (Go.Num.Fld.m Go.Num.fld)))) = Bool.false), ((decide (((Go.Num.be m) % (Go.Num.Fld.m Go.Num.fld)) = ((0 : Int) % (Go.Num.Fld.m Go.Num.fld)))) = Bool.false), (((Go.Num.hasSq ((Go.Num.be l) * (Go.Num.be m))) == ((Go.Num.hasSq (Go.Num.be l)) == (Go.Num.hasSq (Go.Num.be m)))) = Bool.true)]) := by kernel_rfl
theorem forms_eqN (l m : List Int)
    (h1 : ((decide ((((List.length l) : Nat) : Int) > (400 : Int))) = Bool.false))
    (h2 : ((decide ((((List.length m) : Nat) : Int) > (400 : Int))) = Bool.false))
    (h3 : ((List.length l) ≤ (281474976710656 : Nat)))
    (h4 : (Go.Num.InB l))
    (h5 : ((List.length l) ≤ (9223372036854775807 : Nat)))
    (h6 : ((List.length m) ≤ (281474976710656 : Nat)))
    (h7 : (Go.Num.InB m))
    (h8 : ((List.length m) ≤ (9223372036854775807 : Nat)))
    (h9 : (Go.Num.InB (Go.Num.beB (48 : Nat) ((Go.Num.be l) % (Go.Num.Fld.m Go.Num.fld)))))
    (h10 : ((List.length (Go.Num.beB (48 : Nat) ((Go.Num.be l) % (Go.Num.Fld.m Go.Num.fld)))) ≤ (9223372036854775807 : Nat)))
    (h11 : (((Go.Num.readE (Go.Num.beB (48 : Nat) ((Go.Num.be l) % (Go.Num.Fld.m Go.Num.fld)))) != (0 : Int)) = Bool.false))
    (h12 : ((!(decide (((Go.Num.readN (Go.Num.beB (48 : Nat) ((Go.Num.be l) % (Go.Num.Fld.m Go.Num.fld)))) % (Go.Num.Fld.m Go.Num.fld)) = ((Go.Num.be l) % (Go.Num.Fld.m Go.Num.fld))))) = Bool.false))
    (h13 : (Go.Abs.EqT Go.Proofs.Try.prog (27 : Nat)))
    (h14 : ((List.length (Go.Num.beB (48 : Nat) ((Go.Num.be l) % (Go.Num.Fld.m Go.Num.fld)))) = (48 : Nat)))
    (h15 : ((List.length (Go.Num.beB (48 : Nat) ((Go.Num.be m) % (Go.Num.Fld.m Go.Num.fld)))) = (48 : Nat)))
    (h16 : ((decide ((Go.Num.beB (48 : Nat) ((Go.Num.be l) % (Go.Num.Fld.m Go.Num.fld))) = (Go.Num.beB (48 : Nat) ((Go.Num.be m) % (Go.Num.Fld.m Go.Num.fld))))) = Bool.true))
    (h17 : (Go.Abs.EqT Go.Proofs.Try.prog (56 : Nat)))
    (h18 : ((List.length (Go.Num.beB (48 : Nat) ((Go.Num.be l) % (Go.Num.Fld.m Go.Num.fld)))) = (List.length (Go.Num.beB (48 : Nat) ((Go.Num.be m) % (Go.Num.Fld.m Go.Num.fld))))))
    (h19 : ((decide (((Go.Num.be l) % (Go.Num.Fld.m Go.Num.fld)) = ((Go.Num.be m) % (Go.Num.Fld.m Go.Num.fld)))) = Bool.true))
    (h20 : ((decide (((Go.Num.be l) % (Go.Num.Fld.m Go.Num.fld)) = ((0 : Int) % (Go.Num.Fld.m Go.Num.fld)))) = Bool.false))
    (h21 : ((decide (((Go.Num.be m) % (Go.Num.Fld.m Go.Num.fld)) = ((0 : Int) % (Go.Num.Fld.m Go.Num.fld)))) = Bool.false))
    (h22 : (((Go.Num.hasSq ((Go.Num.be l) * (Go.Num.be m))) == ((Go.Num.hasSq (Go.Num.be l)) == (Go.Num.hasSq (Go.Num.be m)))) = Bool.true)) :
    ∃ ps, runF Try.prog FD gamZ 200 Try.f10 [.one (.words .u8 l), .one (.words .u8 m)] [.is false, .is false, .is false, .is false, .is true, .is true, .keep, .keep, .keep, .keep, .keep, .keep, .is false, .is false, .keep, .keep, .keep, .keep, .is true] = some ((Go.Abs.AV.v (Go.Abs.A0.one (Go.Abs.Part.bool Bool.true Bool.true))), ps) ∧ AllQ ps := ⟨_, forms_eqN_r l m, AllP.all ⟨h1, h2, h3, h4, h5, h6, h7, h8, h9, h10, h11, h12, h13, h14, h15, h16, h17, h18, h14, h19, h13, h20, h21, h22⟩⟩

theorem forms_neX_r (l m : List Int) : runF Try.prog FD gamZ 200 Try.f10 [.one (.words .u8 l), .one (.words .u8 m)] [.is false, .is false, .is false, .is false, .is false, .is false, .keep, .keep, .keep, .keep, .keep, .keep, .is true] =
    some ((Go.Abs.AV.v (Go.Abs.A0.one (Go.Abs.Part.bool Bool.true Bool.true))), [((decide ((((List.length l) : Nat) : Int) > (400 : Int))) = Bool.false), ((decide ((((List.length m) : Nat) : Int) > (400 : Int))) = Bool.false), ((List.length l) ≤ (281474976710656 : Nat)), (Go.Num.InB l), ((List.length l) ≤ (9223372036854775807 : Nat)), ((List.length m) ≤ (281474976710656 : Nat)), (Go.Num.InB m), ((List.length m) ≤ (9223372036854775807 : Nat)), (Go.Num.InB (Go.Num.beB (48 : Nat) ((Go.Num.be l) % (Go.Num.Fld.m Go.Num.fld)))), ((List.length (Go.Num.beB (48 : Nat) ((Go.Num.be l) % (Go.Num.Fld.m Go.Num.fld)))) ≤ (9223372036854775807 : Nat)), (((Go.Num.readE (Go.Num.beB (48 : Nat) ((Go.Num.be l) % (Go.Num.Fld.m Go.Num.fld)))) != (0 : Int)) = Bool.false), ((!(decide (((Go.Num.readN (Go.Num.beB (48 : Nat) ((Go.Num.be l) % (Go.Num.Fld.m Go.Num.fld)))) % (Go.Num.Fld.m Go.Num.fld)) = ((Go.Num.be l) % (Go.Num.Fld.m Go.Num.fld))))) = Bool.false), (Go.Abs.EqT Go.Proofs.Try.prog (27 : Nat)), ((List.length (Go.Num.beB (48 : Nat) ((Go.Num.be l) % (Go.Num.Fld.m Go.Num.fld)))) = (48 : Nat)), ((List.length (Go.Num.beB (48 : Nat) ((Go.Num.be m) % (Go.Num.Fld.m Go.Num.fld)))) = (48 : Nat)), ((decide ((Go.Num.beB (48 : Nat) ((Go.Num.be l) % (Go.Num.Fld.m Go.Num.fld))) = (Go.Num.beB (48 : Nat) ((Go.Num.be m) % (Go.Num.Fld.m Go.Num.fld))))) = Bool.false), (Go.Abs.EqT Go.Proofs.Try.prog (56 : Nat)), ((List.length (Go.Num.beB (48 : Nat) ((Go.Num.be l) % (Go.Num.Fld.m Go.Num.fld)))) = (List.length (Go.Num.beB (48 : Nat) ((Go.Num.be m) % (Go.Num.Fld.m Go.Num.fld))))), ((List.length (Go.Num.beB (48 : Nat) ((Go.Num.be l) % (Go.Num.Fld.m Go.Num.fld)))) = (48 : Nat)), ((decide (((Go.Num.be l) % (Go.Num.Fld.m Go.Num.fld)) = ((Go.Num.be m) % (Go.Num.Fld.m Go.Num.fld)))) = Bool.false), (Go.Abs.EqT Go.Proofs.Try.prog (27 : Nat)), ((decide (((Go.Num.be l) % (Go.Num.Fld.m Go.Num.fld)) = ((0 : Int) % (Go.Num.Fld.m Go.Num.fld)))) = Bool.true)]) := by kernel_rfl
theorem forms_neX (l m : List Int)
    (h1 : ((decide ((((List.length l) : Nat) : Int) > (400 : Int))) = Bool.false))
    (h2 : ((decide ((((List.length m) : Nat) : Int) > (400 : Int))) = Bool.false))
    (h3 : ((List.length l) ≤ (281474976710656 : Nat)))
    (h4 : (Go.Num.InB l))
    (h5 : ((List.length l) ≤ (9223372036854775807 : Nat)))
    (h6 : ((List.length m) ≤ (281474976710656 : Nat)))
    (h7 : (Go.Num.InB m))
    (h8 : ((List.length m) ≤ (9223372036854775807 : Nat)))
    (h9 : (Go.Num.InB (Go.Num.beB (48 : Nat) ((Go.Num.be l) % (Go.Num.Fld.m Go.Num.fld)))))
    (h10 : ((List.length (Go.Num.beB (48 : Nat) ((Go.Num.be l) % (Go.Num.Fld.m Go.Num.fld)))) ≤ (9223372036854775807 : Nat)))
    (h11 : (((Go.Num.readE (Go.Num.beB (48 : Nat) ((Go.Num.be l) % (Go.Num.Fld.m Go.Num.fld)))) != (0 : Int)) = Bool.false))
    (h12 : ((!(decide (((Go.Num.readN (Go.Num.beB (48 : Nat) ((Go.Num.be l) % (Go.Num.Fld.m Go.Num.fld)))) % (Go.Num.Fld.m Go.Num.fld)) = ((Go.Num.be l) % (Go.Num.Fld.m Go.Num.fld))))) = Bool.false))
    (h13 : (Go.Abs.EqT Go.Proofs.Try.prog (27 : Nat)))
    (h14 : ((List.length (Go.Num.beB (48 : Nat) ((Go.Num.be l) % (Go.Num.Fld.m Go.Num.fld)))) = (48 : Nat)))
    (h15 : ((List.length (Go.Num.beB (48 : Nat) ((Go.Num.be m) % (Go.Num.Fld.m Go.Num.fld)))) = (48 : Nat)))
    (h16 : ((decide ((Go.Num.beB (48 : Nat) ((Go.Num.be l) % (Go.Num.Fld.m Go.Num.fld))) = (Go.Num.beB (48 : Nat) ((Go.Num.be m) % (Go.Num.Fld.m Go.Num.fld))))) = Bool.false))
    (h17 : (Go.Abs.EqT Go.Proofs.Try.prog (56 : Nat)))
    (h18 : ((List.length (Go.Num.beB (48 : Nat) ((Go.Num.be l) % (Go.Num.Fld.m Go.Num.fld)))) = (List.length (Go.Num.beB (48 : Nat) ((Go.Num.be m) % (Go.Num.Fld.m Go.Num.fld))))))
    (h19 : ((decide (((Go.Num.be l) % (Go.Num.Fld.m Go.Num.fld)) = ((Go.Num.be m) % (Go.Num.Fld.m Go.Num.fld)))) = Bool.false))
    (h20 : ((decide (((Go.Num.be l) % (Go.Num.Fld.m Go.Num.fld)) = ((0 : Int) % (Go.Num.Fld.m Go.Num.fld)))) = Bool.true)) :
    ∃ ps, runF Try.prog FD gamZ 200 Try.f10 [.one (.words .u8 l), .one (.words .u8 m)] [.is false, .is false, .is false, .is false, .is false, .is false, .keep, .keep, .keep, .keep, .keep, .keep, .is true] = some ((Go.Abs.AV.v (Go.Abs.A0.one (Go.Abs.Part.bool Bool.true Bool.true))), ps) ∧ AllQ ps := ⟨_, forms_neX_r l m, AllP.all ⟨h1, h2, h3, h4, h5, h6, h7, h8, h9, h10, h11, h12, h13, h14, h15, h16, h17, h18, h14, h19, h13, h20⟩⟩

theorem forms_neY_r (l m : List Int) : runF Try.prog FD gamZ 200 Try.f10 [.one (.words .u8 l), .one (.words .u8 m)] [.is false, .is false, .is false, .is false, .is false, .is false, .keep, .keep, .keep, .keep, .keep, .keep, .is false, .is true] =
    some ((Go.Abs.AV.v (Go.Abs.A0.one (Go.Abs.Part.bool Bool.true Bool.true))), [((decide ((((List.length l) : Nat) : Int) > (400 : Int))) = Bool.false), ((decide ((((List.length m) : Nat) : Int) > (400 : Int))) = Bool.false), ((List.length l) ≤ (281474976710656 : Nat)), (Go.Num.InB l), ((List.length l) ≤ (9223372036854775807 : Nat)), ((List.length m) ≤ (281474976710656 : Nat)), (Go.Num.InB m), ((List.length m) ≤ (9223372036854775807 : Nat)), (Go.Num.InB (Go.Num.beB (48 : Nat) ((Go.Num.be l) % (Go.Num.Fld.m Go.Num.fld)))), ((List.length (Go.Num.beB (48 : Nat) ((Go.Num.be l) % (Go.Num.Fld.m Go.Num.fld)))) ≤ (9223372036854775807 : Nat)), (((Go.Num.readE (Go.Num.beB (48 : Nat) ((Go.Num.be l) % (Go.Num.Fld.m Go.Num.fld)))) != (0 : Int)) = Bool.false), ((!(decide (((Go.Num.readN (Go.Num.beB (48 : Nat) ((Go.Num.be l) % (Go.Num.Fld.m Go.Num.fld)))) % (Go.Num.Fld.m Go.Num.fld)) = ((Go.Num.be l) % (Go.Num.Fld.m Go.Num.fld))))) = Bool.false), (Go.Abs.EqT Go.Proofs.Try.prog (27 : Nat)), ((List.length (Go.Num.beB (48 : Nat) ((Go.Num.be l) % (Go.Num.Fld.m Go.Num.fld)))) = (48 : Nat)), ((List.length (Go.Num.beB (48 : Nat) ((Go.Num.be m) % (Go.Num.Fld.m Go.Num.fld)))) = (48 : Nat)), ((decide ((Go.Num.beB (48 : Nat) ((Go.Num.be l) % (Go.Num.Fld.m Go.Num.fld))) = (Go.Num.beB (48 : Nat) ((Go.Num.be m) % (Go.Num.Fld.m Go.Num.fld))))) = Bool.false), (Go.Abs.EqT Go.Proofs.Try.prog (56 : Nat)), ((List.length (Go.Num.beB (48 : Nat) ((Go.Num.be l) % (Go.Num.Fld.m Go.Num.fld)))) = (List.length (Go.Num.beB (48 : Nat) ((Go.Num.be m) % (Go.Num.Fld.m Go.Num.fld))))), ((List.length (Go.Num.beB (48 : Nat) ((Go.Num.be l) % (Go.Num.Fld.m Go.Num.fld)))) = (48 : Nat)), ((decide (((Go.Num.be l) % (Go.Num.Fld.m Go.Num.fld)) = ((Go.Num.be m) % (Go.Num.Fld.m Go.Num.fld)))) = Bool.false), (Go.Abs.EqT Go.Proofs.Try.prog (27 : Nat)), ((decide (((Go.Num.be l) % (Go.Num.Fld.m Go.Num.fld)) = ((0 : Int) % (Go.Num.Fld.m Go.Num.fld)))) = Bool.false), ((decide (((Go.Num.be m) % (Go.Num.Fld.m Go.Num.fld)) = ((0 : Int) % (Go.Num.Fld.m Go.Num.fld)))) = Bool.true)]) := by kernel_rfl
theorem forms_neY (l m : List Int)
    (h1 : ((decide ((((List.length l) : Nat) : Int) > (400 : Int))) = Bool.false))
    (h2 : ((decide ((((List.length m) : Nat) : Int) > (400 : Int))) = Bool.false))
    (h3 : ((List.length l) ≤ (281474976710656 : Nat)))
    (h4 : (Go.Num.InB l))
    (h5 : ((List.length l) ≤ (9223372036854775807 : Nat)))
    (h6 : ((List.length m) ≤ (281474976710656 : Nat)))
    (h7 : (Go.Num.InB m))
    (h8 : ((List.length m) ≤ (9223372036854775807 : Nat)))
    (h9 : (Go.Num.InB (Go.Num.beB (48 : Nat) ((Go.Num.be l) % (Go.Num.Fld.m Go.Num.fld)))))
    (h10 : ((List.length (Go.Num.beB (48 : Nat) ((Go.Num.be l) % (Go.Num.Fld.m Go.Num.fld)))) ≤ (9223372036854775807 : Nat)))
    (h11 : (((Go.Num.readE (Go.Num.beB (48 : Nat) ((Go.Num.be l) % (Go.Num.Fld.m Go.Num.fld)))) != (0 : Int)) = Bool.false))
    (h12 : ((!(decide (((Go.Num.readN (Go.Num.beB (48 : Nat) ((Go.Num.be l) % (Go.Num.Fld.m Go.Num.fld)))) % (Go.Num.Fld.m Go.Num.fld)) = ((Go.Num.be l) % (Go.Num.Fld.m Go.Num.fld))))) = Bool.false))
    (h13 : (Go.Abs.EqT Go.Proofs.Try.prog (27 : Nat)))
    (h14 : ((List.length (Go.Num.beB (48 : Nat) ((Go.Num.be l) % (Go.Num.Fld.m Go.Num.fld)))) = (48 : Nat)))
    (h15 : ((List.length (Go.Num.beB (48 : Nat) ((Go.Num.be m) % (Go.Num.Fld.m Go.Num.fld)))) = (48 : Nat)))
    (h16 : ((decide ((Go.Num.beB (48 : Nat) ((Go.Num.be l) % (Go.Num.Fld.m Go.Num.fld))) = (Go.Num.beB (48 : Nat) ((Go.Num.be m) % (Go.Num.Fld.m Go.Num.fld))))) = Bool.false))
    (h17 : (Go.Abs.EqT Go.Proofs.Try.prog (56 : Nat)))
    (h18 : ((List.length (Go.Num.beB (48 : Nat) ((Go.Num.be l) % (Go.Num.Fld.m Go.Num.fld)))) = (List.length (Go.Num.beB (48 : Nat) ((Go.Num.be m) % (Go.Num.Fld.m Go.Num.fld))))))
    (h19 : ((decide (((Go.Num.be l) % (Go.Num.Fld.m Go.Num.fld)) = ((Go.Num.be m) % (Go.Num.Fld.m Go.Num.fld)))) = Bool.false))
    (h20 : ((decide (((Go.Num.be l) % (Go.Num.Fld.m Go.Num.fld)) = ((0 : Int) % (Go.Num.Fld.m Go.Num.fld)))) = Bool.false))
    (h21 : ((decide (((Go.Num.be m) % (Go.Num.Fld.m Go.Num.fld)) = ((0 : Int) % (Go.Num.Fld.m Go.Num.fld)))) = Bool.true)) :
    ∃ ps, runF Try.prog FD gamZ 200 Try.f10 [.one (.words .u8 l), .one (.words .u8 m)] [.is false, .is false, .is false, .is false, .is false, .is false, .keep, .keep, .keep, .keep, .keep, .keep, .is false, .is true] = some ((Go.Abs.AV.v (Go.Abs.A0.one (Go.Abs.Part.bool Bool.true Bool.true))), ps) ∧ AllQ ps := ⟨_, forms_neY_r l m, AllP.all ⟨h1, h2, h3, h4, h5, h6, h7, h8, h9, h10, h11, h12, h13, h14, h15, h16, h17, h18, h14, h19, h13, h20, h21⟩⟩

theorem forms_neN_r (l m : List Int) : runF Try.prog FD gamZ 200 Try.f10 [.one (.words .u8 l), .one (.words .u8 m)] [.is false, .is false, .is false, .is false, .is false, .is false, .keep, .keep, .keep, .keep, .keep, .keep, .is false, .is false, .keep, .keep, .keep, .keep, .is true] =
    some ((Go.Abs.AV.v (Go.Abs.A0.one (Go.Abs.Part.bool Bool.true Bool.true))), [((decide ((((List.length l) : Nat) : Int) > (400 : Int))) = Bool.false), ((decide ((((List.length m) : Nat) : Int) > (400 : Int))) = Bool.false), ((List.length l) ≤ (281474976710656 : Nat)), (Go.Num.InB l), ((List.length l) ≤ (9223372036854775807 : Nat)), ((List.length m) ≤ (281474976710656 : Nat)), (Go.Num.InB m), ((List.length m) ≤ (9223372036854775807 : Nat)), (Go.Num.InB (Go.Num.beB (48 : Nat) ((Go.Num.be l) % (Go.Num.Fld.m Go.Num.fld)))), ((List.length (Go.Num.beB (48 : Nat) ((Go.Num.be l) % (Go.Num.Fld.m Go.Num.fld)))) ≤ (9223372036854775807 : Nat)), (((Go.Num.readE (Go.Num.beB (48 : Nat) ((Go.Num.be l) % (Go.Num.Fld.m Go.Num.fld)))) != (0 : Int)) = Bool.false), ((!(decide (((Go.Num.readN (Go.Num.beB (48 : Nat) ((Go.Num.be l) % (Go.Num.Fld.m Go.Num.fld)))) % (Go.Num.Fld.m Go.Num.fld)) = ((Go.Num.be l) % (Go.Num.Fld.m Go.Num.fld))))) = Bool.false), (Go.Abs.EqT Go.Proofs.Try.prog (27 : Nat)), ((List.length (Go.Num.beB (48 : Nat) ((Go.Num.be l) % (Go.Num.Fld.m Go.Num.fld)))) = (48 : Nat)), ((List.length (Go.Num.beB (48 : Nat) ((Go.Num.be m) % (Go.Num.Fld.m Go.Num.fld)))) = (48 : Nat)), ((decide ((Go.Num.beB (48 : Nat) ((Go.Num.be l) % (Go.Num.Fld.m Go.Num.fld))) = (Go.Num.beB (48 : Nat) ((Go.Num.be m) % (Go.Num.Fld.m Go.Num.fld))))) = Bool.false), (Go.Abs.EqT Go.Proofs.Try.prog (56 : Nat)), ((List.length (Go.Num.beB (48 : Nat) ((Go.Num.be l) % (Go.Num.Fld.m Go.Num.fld)))) = (List.length (Go.Num.beB (48 : Nat) ((Go.Num.be m) % (Go.Num.Fld.m Go.Num.fld))))), ((List.length (Go.Num.beB (48 : Nat) ((Go.Num.be l) % (Go.Num.Fld.m Go.Num.fld)))) = (48 : Nat)), ((decide (((Go.Num.be l) % (Go.Num.Fld.m Go.Num.fld)) = ((Go.Num.be m) % (Go.Num.Fld.m Go.Num.fld)))) = Bool.false), (Go.Abs.EqT Go.Proofs.Try.prog (27 : Nat)), ((decide (((Go.Num.be l) % (Go.Num.Fld.m Go.Num.fld)) = ((0 : Int) % (Go.Num.Fld.m Go.Num.fld)))) = Bool.false), ((decide (((Go.Num.be m) % (Go.Num.Fld.m Go.Num.fld)) = ((0 : Int) % (Go.Num.Fld.m Go.Num.fld)))) = Bool.false), (((Go.Num.hasSq ((Go.Num.be l) * (Go.Num.be m))) == ((Go.Num.hasSq (Go.Num.be l)) == (Go.Num.hasSq (Go.Num.be m)))) = Bool.true)]) := by kernel_rfl
theorem forms_neN (l m : List Int)
    (h1 : ((decide ((((List.length l) : Nat) : Int) > (400 : Int))) = Bool.false))
    (h2 : ((decide ((((List.length m) : Nat) : Int) > (400 : Int))) = Bool.false))
    (h3 : ((List.length l) ≤ (281474976710656 : Nat)))
    (h4 : (Go.Num.InB l))
    (h5 : ((List.length l) ≤ (9223372036854775807 : Nat)))
    (h6 : ((List.length m) ≤ (281474976710656 : Nat)))
    (h7 : (Go.Num.InB m))
    (h8 : ((List.length m) ≤ (9223372036854775807 : Nat)))
    (h9 : (Go.Num.InB (Go.Num.beB (48 : Nat) ((Go.Num.be l) % (Go.Num.Fld.m Go.Num.fld)))))
    (h10 : ((List.length (Go.Num.beB (48 : Nat) ((Go.Num.be l) % (Go.Num.Fld.m Go.Num.fld)))) ≤ (9223372036854775807 : Nat)))
    (h11 : (((Go.Num.readE (Go.Num.beB (48 : Nat) ((Go.Num.be l) % (Go.Num.Fld.m Go.Num.fld)))) != (0 : Int)) = Bool.false))
    (h12 : ((!(decide (((Go.Num.readN (Go.Num.beB (48 : Nat) ((Go.Num.be l) % (Go.Num.Fld.m Go.Num.fld)))) % (Go.Num.Fld.m Go.Num.fld)) = ((Go.Num.be l) % (Go.Num.Fld.m Go.Num.fld))))) = Bool.false))
    (h13 : (Go.Abs.EqT Go.Proofs.Try.prog (27 : Nat)))
    (h14 : ((List.length (Go.Num.beB (48 : Nat) ((Go.Num.be l) % (Go.Num.Fld.m Go.Num.fld)))) = (48 : Nat)))
    (h15 : ((List.length (Go.Num.beB (48 : Nat) ((Go.Num.be m) % (Go.Num.Fld.m Go.Num.fld)))) = (48 : Nat)))
    (h16 : ((decide ((Go.Num.beB (48 : Nat) ((Go.Num.be l) % (Go.Num.Fld.m Go.Num.fld))) = (Go.Num.beB (48 : Nat) ((Go.Num.be m) % (Go.Num.Fld.m Go.Num.fld))))) = Bool.false))
    (h17 : (Go.Abs.EqT Go.Proofs.Try.prog (56 : Nat)))
    (h18 : ((List.length (Go.Num.beB (48 : Nat) ((Go.Num.be l) % (Go.Num.Fld.m Go.Num.fld)))) = (List.length (Go.Num.beB (48 : Nat) ((Go.Num.be m) % (Go.Num.Fld.m Go.Num.fld))))))
    (h19 : ((decide (((Go.Num.be l) % (Go.Num.Fld.m Go.Num.fld)) = ((Go.Num.be m) % (Go.Num.Fld.m Go.Num.fld)))) = Bool.false))
    (h20 : ((decide (((Go.Num.be l) % (Go.Num.Fld.m Go.Num.fld)) = ((0 : Int) % (Go.Num.Fld.m Go.Num.fld)))) = Bool.false))
    (h21 : ((decide (((Go.Num.be m) % (Go.Num.Fld.m Go.Num.fld)) = ((0 : Int) % (Go.Num.Fld.m Go.Num.fld)))) = Bool.false))
    (h22 : (((Go.Num.hasSq ((Go.Num.be l) * (Go.Num.be m))) == ((Go.Num.hasSq (Go.Num.be l)) == (Go.Num.hasSq (Go.Num.be m)))) = Bool.true)) :
    ∃ ps, runF Try.prog FD gamZ 200 Try.f10 [.one (.words .u8 l), .one (.words .u8 m)] [.is false, .is false, .is false, .is false, .is false, .is false, .keep, .keep, .keep, .keep, .keep, .keep, .is false, .is false, .keep, .keep, .keep, .keep, .is true] = some ((Go.Abs.AV.v (Go.Abs.A0.one (Go.Abs.Part.bool Bool.true Bool.true))), ps) ∧ AllQ ps := ⟨_, forms_neN_r l m, AllP.all ⟨h1, h2, h3, h4, h5, h6, h7, h8, h9, h10, h11, h12, h13, h14, h15, h16, h17, h18, h14, h19, h13, h20, h21, h22⟩⟩

theorem be_bytes (x : Int) : be (beB 48 (x % fld.m)) = x % fld.m := by
  rw [be_beB]
  exact pX x

theorem bytes_same (x y : Int) : beB 48 (x % fld.m) = beB 48 (y % fld.m) ↔ x % fld.m = y % fld.m := by rw [beB_inj, pX, pX]

theorem readE_bytes (x : Int) : readE (beB 48 (x % fld.m)) = 0 := by rw [readE, if_pos (beB_len _ _), be_bytes, if_pos (mod_m x).2]
theorem readN_bytes (x : Int) : readN (beB 48 (x % fld.m)) = x % fld.m := by rw [readN, be_bytes, if_pos ⟨beB_len _ _, (mod_m x).2⟩]

theorem lawForms {l m : List Int} (hb : InB l) (_hl : l.length ≤ 140737488351232) (hc : InB m) (_hm : m.length ≤ 140737488351232) : LawOK Try.f10 [.one (.words .u8 l), .one (.words .u8 m)] := by
  by_cases h : (l.length : Int) > 400
  · obtain ⟨ps, h1, h2⟩ := forms_longA l m (decide_eq_true h)
    exact ⟨gamZ, gamZ_ok, _, ps, h1, h2⟩
  by_cases k : (m.length : Int) > 400
  · obtain ⟨ps, h1, h2⟩ := forms_longB l m (decide_eq_false h) (decide_eq_true k)
    exact ⟨gamZ, gamZ_ok, _, ps, h1, h2⟩
  have e0 : (readE (beB 48 (be l % fld.m)) != 0) = false := by rw [readE_bytes]; rfl
  have e1 : (!(decide (readN (beB 48 (be l % fld.m)) % fld.m = be l % fld.m))) = false := by rw [readN_bytes, Int.emod_emod, decide_eq_true rfl]; rfl
  have zt : ∀ {x : Int}, x % fld.m = 0 → decide (x % fld.m = 0 % fld.m) = true := fun h => decide_eq_true (by rw [h, Int.zero_emod])
  have zf : ∀ {x : Int}, ¬ x % fld.m = 0 → decide (x % fld.m = 0 % fld.m) = false := fun h => decide_eq_false (by rw [Int.zero_emod]; exact h)
  by_cases hs : be l % fld.m = be m % fld.m
  · by_cases hx : be l % fld.m = 0
    · obtain ⟨ps, h1, h2⟩ := forms_eqX l m (decide_eq_false h) (decide_eq_false k) (by omega) hb (by omega) (by omega) hc (by omega) (beB_inB _ _) (by rw [beB_len]; omega) e0 e1 el_eqT (beB_len _ _) (beB_len _ _)
        (decide_eq_true ((bytes_same _ _).2 hs)) bytes_eqT (by rw [beB_len, beB_len]) (decide_eq_true hs) (zt hx)
      exact ⟨gamZ, gamZ_ok, _, ps, h1, h2⟩
    by_cases hy : be m % fld.m = 0
    · obtain ⟨ps, h1, h2⟩ := forms_eqY l m (decide_eq_false h) (decide_eq_false k) (by omega) hb (by omega) (by omega) hc (by omega) (beB_inB _ _) (by rw [beB_len]; omega) e0 e1 el_eqT (beB_len _ _) (beB_len _ _)
        (decide_eq_true ((bytes_same _ _).2 hs)) bytes_eqT (by rw [beB_len, beB_len]) (decide_eq_true hs) (zf hx) (zt hy)
      exact ⟨gamZ, gamZ_ok, _, ps, h1, h2⟩
    · obtain ⟨ps, h1, h2⟩ := forms_eqN l m (decide_eq_false h) (decide_eq_false k) (by omega) hb (by omega) (by omega) hc (by omega) (beB_inB _ _) (by rw [beB_len]; omega) e0 e1 el_eqT (beB_len _ _) (beB_len _ _)
        (decide_eq_true ((bytes_same _ _).2 hs)) bytes_eqT (by rw [beB_len, beB_len]) (decide_eq_true hs) (zf hx) (zf hy) (root_mul hx hy)
      exact ⟨gamZ, gamZ_ok, _, ps, h1, h2⟩
  · by_cases hx : be l % fld.m = 0
    · obtain ⟨ps, h1, h2⟩ := forms_neX l m (decide_eq_false h) (decide_eq_false k) (by omega) hb (by omega) (by omega) hc (by omega) (beB_inB _ _) (by rw [beB_len]; omega) e0 e1 el_eqT (beB_len _ _) (beB_len _ _)
        (decide_eq_false fun e => hs ((bytes_same _ _).1 e)) bytes_eqT (by rw [beB_len, beB_len]) (decide_eq_false hs) (zt hx)
      exact ⟨gamZ, gamZ_ok, _, ps, h1, h2⟩
    by_cases hy : be m % fld.m = 0
    · obtain ⟨ps, h1, h2⟩ := forms_neY l m (decide_eq_false h) (decide_eq_false k) (by omega) hb (by omega) (by omega) hc (by omega) (beB_inB _ _) (by rw [beB_len]; omega) e0 e1 el_eqT (beB_len _ _) (beB_len _ _)
        (decide_eq_false fun e => hs ((bytes_same _ _).1 e)) bytes_eqT (by rw [beB_len, beB_len]) (decide_eq_false hs) (zf hx) (zt hy)
      exact ⟨gamZ, gamZ_ok, _, ps, h1, h2⟩
    · obtain ⟨ps, h1, h2⟩ := forms_neN l m (decide_eq_false h) (decide_eq_false k) (by omega) hb (by omega) (by omega) hc (by omega) (beB_inB _ _) (by rw [beB_len]; omega) e0 e1 el_eqT (beB_len _ _) (beB_len _ _)
        (decide_eq_false fun e => hs ((bytes_same _ _).1 e)) bytes_eqT (by rw [beB_len, beB_len]) (decide_eq_false hs) (zf hx) (zf hy) (root_mul hx hy)
      exact ⟨gamZ, gamZ_ok, _, ps, h1, h2⟩

end Go.Num
