/- Fp2Reads: which bytes are numbers. -/
import Derived.Test.YtlobkhocdmepfaaFp2Math
namespace Go.Num
open Go.Abs Go.Proofs Go.Shelf Go.Alg

theorem reads_len_r (l : List Int) : runF Try.prog FD gam12 200 Try.f5 [.one (.words .u8 l)] [.is true, .is true, .is true, .is true, .is true] =
    some ((Go.Abs.AV.v (Go.Abs.A0.one (Go.Abs.Part.bool Bool.true Bool.true))), [((List.length l) ≤ (281474976710656 : Nat)), (Go.Num.InB l), ((List.length l) ≤ (9223372036854775807 : Nat)), ((decide (l = l)) = Bool.true), ((List.length l) ≤ (9223372036854775807 : Nat)), ((List.length l) ≤ (9223372036854775807 : Nat)), (((((List.length l) : Nat) : Int) != (96 : Int)) = Bool.true), (((Go.Num.read2E l) == (10 : Int)) = Bool.true), ((decide (Go.Alg.Q2 (Go.Num.Fld.m Go.Num.fld) (Go.Num.read2N l) (0 : K2))) = Bool.true)]) := by kernel_rfl
theorem reads_len (l : List Int)
    (h1 : ((List.length l) ≤ (281474976710656 : Nat)))
    (h2 : (Go.Num.InB l))
    (h3 : ((List.length l) ≤ (9223372036854775807 : Nat)))
    (h4 : ((decide (l = l)) = Bool.true))
    (h5 : (((((List.length l) : Nat) : Int) != (96 : Int)) = Bool.true))
    (h6 : (((Go.Num.read2E l) == (10 : Int)) = Bool.true))
    (h7 : ((decide (Go.Alg.Q2 (Go.Num.Fld.m Go.Num.fld) (Go.Num.read2N l) (0 : K2))) = Bool.true)) :
    ∃ ps, runF Try.prog FD gam12 200 Try.f5 [.one (.words .u8 l)] [.is true, .is true, .is true, .is true, .is true] = some ((Go.Abs.AV.v (Go.Abs.A0.one (Go.Abs.Part.bool Bool.true Bool.true))), ps) ∧ AllQ ps := ⟨_, reads_len_r l, AllP.all ⟨h1, h2, h3, h4, h3, h3, h5, h6, h7⟩⟩

theorem reads_high_r (l : List Int) : runF Try.prog FD gam12 200 Try.f5 [.one (.words .u8 l)] [.is true, .is false, .is false, .is true, .is true] =
    some ((Go.Abs.AV.v (Go.Abs.A0.one (Go.Abs.Part.bool Bool.true Bool.true))), [((List.length l) ≤ (281474976710656 : Nat)), (Go.Num.InB l), ((List.length l) ≤ (9223372036854775807 : Nat)), ((decide (l = l)) = Bool.true), ((List.length l) ≤ (9223372036854775807 : Nat)), ((List.length l) ≤ (9223372036854775807 : Nat)), (((((List.length l) : Nat) : Int) != (96 : Int)) = Bool.false), ((0 : Int) ≤ (0 : Int)), ((0 : Int) ≤ (48 : Int)), ((48 : Int) ≤ (((List.length l) : Nat) : Int)), (Go.Num.InB (List.drop (0 : Nat) (List.take (48 : Nat) l))), ((List.length (List.drop (0 : Nat) (List.take (48 : Nat) l))) ≤ (140737488351232 : Nat)), ((decide ((Go.Num.v16 (Go.Num.W (((List.length (List.drop (0 : Nat) (List.take (48 : Nat) l))) + (1 : Nat)) / (2 : Nat)) (Go.Num.be (List.drop (0 : Nat) (List.take (48 : Nat) l))))) < (Go.Num.v16 (Go.Num.W (24 : Nat) (Go.Num.Fld.m Go.Num.fld))))) = Bool.false), (Go.Num.In16 (Go.Num.W (((List.length (List.drop (0 : Nat) (List.take (48 : Nat) l))) + (1 : Nat)) / (2 : Nat)) (Go.Num.be (List.drop (0 : Nat) (List.take (48 : Nat) l))))), (Go.Num.In16 (Go.Num.W (24 : Nat) (Go.Num.Fld.m Go.Num.fld))), ((List.length (Go.Num.W (((List.length (List.drop (0 : Nat) (List.take (48 : Nat) l))) + (1 : Nat)) / (2 : Nat)) (Go.Num.be (List.drop (0 : Nat) (List.take (48 : Nat) l))))) ≤ (281474976710656 : Nat)), ((List.length (Go.Num.W (24 : Nat) (Go.Num.Fld.m Go.Num.fld))) ≤ (281474976710656 : Nat)), (((Go.Num.read2E l) == (12 : Int)) = Bool.true), ((decide (Go.Alg.Q2 (Go.Num.Fld.m Go.Num.fld) (Go.Num.read2N l) (0 : K2))) = Bool.true)]) := by kernel_rfl
theorem reads_high (l : List Int)
    (h1 : ((List.length l) ≤ (281474976710656 : Nat)))
    (h2 : (Go.Num.InB l))
    (h3 : ((List.length l) ≤ (9223372036854775807 : Nat)))
    (h4 : ((decide (l = l)) = Bool.true))
    (h5 : (((((List.length l) : Nat) : Int) != (96 : Int)) = Bool.false))
    (h6 : ((48 : Int) ≤ (((List.length l) : Nat) : Int)))
    (h7 : (Go.Num.InB (List.drop (0 : Nat) (List.take (48 : Nat) l))))
    (h8 : ((List.length (List.drop (0 : Nat) (List.take (48 : Nat) l))) ≤ (140737488351232 : Nat)))
    (h9 : ((decide ((Go.Num.v16 (Go.Num.W (((List.length (List.drop (0 : Nat) (List.take (48 : Nat) l))) + (1 : Nat)) / (2 : Nat)) (Go.Num.be (List.drop (0 : Nat) (List.take (48 : Nat) l))))) < (Go.Num.v16 (Go.Num.W (24 : Nat) (Go.Num.Fld.m Go.Num.fld))))) = Bool.false))
    (h10 : (Go.Num.In16 (Go.Num.W (((List.length (List.drop (0 : Nat) (List.take (48 : Nat) l))) + (1 : Nat)) / (2 : Nat)) (Go.Num.be (List.drop (0 : Nat) (List.take (48 : Nat) l))))))
    (h11 : (Go.Num.In16 (Go.Num.W (24 : Nat) (Go.Num.Fld.m Go.Num.fld))))
    (h12 : ((List.length (Go.Num.W (((List.length (List.drop (0 : Nat) (List.take (48 : Nat) l))) + (1 : Nat)) / (2 : Nat)) (Go.Num.be (List.drop (0 : Nat) (List.take (48 : Nat) l))))) ≤ (281474976710656 : Nat)))
    (h13 : (((Go.Num.read2E l) == (12 : Int)) = Bool.true))
    (h14 : ((decide (Go.Alg.Q2 (Go.Num.Fld.m Go.Num.fld) (Go.Num.read2N l) (0 : K2))) = Bool.true)) :
    ∃ ps, runF Try.prog FD gam12 200 Try.f5 [.one (.words .u8 l)] [.is true, .is false, .is false, .is true, .is true] = some ((Go.Abs.AV.v (Go.Abs.A0.one (Go.Abs.Part.bool Bool.true Bool.true))), ps) ∧ AllQ ps := ⟨_, reads_high_r l, AllP.all ⟨h1, h2, h3, h4, h3, h3, h5, (show ((0 : Int) ≤ (0 : Int)) from by decide), (show ((0 : Int) ≤ (48 : Int)) from by decide), h6, h7, h8, h9, h10, h11, h12, (show ((List.length (Go.Num.W (24 : Nat) (Go.Num.Fld.m Go.Num.fld))) ≤ (281474976710656 : Nat)) from by decide), h13, h14⟩⟩

theorem reads_low_r (l : List Int) : runF Try.prog FD gam12 200 Try.f5 [.one (.words .u8 l)] [.is true, .is false, .is true, .is false, .is true, .is true] =
    some ((Go.Abs.AV.v (Go.Abs.A0.one (Go.Abs.Part.bool Bool.true Bool.true))), [((List.length l) ≤ (281474976710656 : Nat)), (Go.Num.InB l), ((List.length l) ≤ (9223372036854775807 : Nat)), ((decide (l = l)) = Bool.true), ((List.length l) ≤ (9223372036854775807 : Nat)), ((List.length l) ≤ (9223372036854775807 : Nat)), (((((List.length l) : Nat) : Int) != (96 : Int)) = Bool.false), ((0 : Int) ≤ (0 : Int)), ((0 : Int) ≤ (48 : Int)), ((48 : Int) ≤ (((List.length l) : Nat) : Int)), (Go.Num.InB (List.drop (0 : Nat) (List.take (48 : Nat) l))), ((List.length (List.drop (0 : Nat) (List.take (48 : Nat) l))) ≤ (140737488351232 : Nat)), ((decide ((Go.Num.v16 (Go.Num.W (((List.length (List.drop (0 : Nat) (List.take (48 : Nat) l))) + (1 : Nat)) / (2 : Nat)) (Go.Num.be (List.drop (0 : Nat) (List.take (48 : Nat) l))))) < (Go.Num.v16 (Go.Num.W (24 : Nat) (Go.Num.Fld.m Go.Num.fld))))) = Bool.true), (Go.Num.In16 (Go.Num.W (((List.length (List.drop (0 : Nat) (List.take (48 : Nat) l))) + (1 : Nat)) / (2 : Nat)) (Go.Num.be (List.drop (0 : Nat) (List.take (48 : Nat) l))))), (Go.Num.In16 (Go.Num.W (24 : Nat) (Go.Num.Fld.m Go.Num.fld))), ((List.length (Go.Num.W (((List.length (List.drop (0 : Nat) (List.take (48 : Nat) l))) + (1 : Nat)) / (2 : Nat)) (Go.Num.be (List.drop (0 : Nat) (List.take (48 : Nat) l))))) ≤ (281474976710656 : Nat)), ((List.length (Go.Num.W (24 : Nat) (Go.Num.Fld.m Go.Num.fld))) ≤ (281474976710656 : Nat)), ((0 : Int) ≤ (48 : Int)), ((48 : Int) ≤ (((List.length l) : Nat) : Int)), ((((List.length l) : Nat) : Int) ≤ (((List.length l) : Nat) : Int)), (Go.Num.InB (List.drop (48 : Nat) (List.take (Int.toNat (((List.length l) : Nat) : Int)) l))), ((List.length (List.drop (48 : Nat) (List.take (Int.toNat (((List.length l) : Nat) : Int)) l))) ≤ (140737488351232 : Nat)), ((decide ((Go.Num.v16 (Go.Num.W (((List.length (List.drop (48 : Nat) (List.take (Int.toNat (((List.length l) : Nat) : Int)) l))) + (1 : Nat)) / (2 : Nat)) (Go.Num.be (List.drop (48 : Nat) (List.take (Int.toNat (((List.length l) : Nat) : Int)) l))))) < (Go.Num.v16 (Go.Num.W (24 : Nat) (Go.Num.Fld.m Go.Num.fld))))) = Bool.false), (Go.Num.In16 (Go.Num.W (((List.length (List.drop (48 : Nat) (List.take (Int.toNat (((List.length l) : Nat) : Int)) l))) + (1 : Nat)) / (2 : Nat)) (Go.Num.be (List.drop (48 : Nat) (List.take (Int.toNat (((List.length l) : Nat) : Int)) l))))), (Go.Num.In16 (Go.Num.W (24 : Nat) (Go.Num.Fld.m Go.Num.fld))), ((List.length (Go.Num.W (((List.length (List.drop (48 : Nat) (List.take (Int.toNat (((List.length l) : Nat) : Int)) l))) + (1 : Nat)) / (2 : Nat)) (Go.Num.be (List.drop (48 : Nat) (List.take (Int.toNat (((List.length l) : Nat) : Int)) l))))) ≤ (281474976710656 : Nat)), ((List.length (Go.Num.W (24 : Nat) (Go.Num.Fld.m Go.Num.fld))) ≤ (281474976710656 : Nat)), (((Go.Num.read2E l) == (12 : Int)) = Bool.true), ((decide (Go.Alg.Q2 (Go.Num.Fld.m Go.Num.fld) (Go.Num.read2N l) (0 : K2))) = Bool.true)]) := by kernel_rfl
theorem reads_low (l : List Int)
    (h1 : ((List.length l) ≤ (281474976710656 : Nat)))
    (h2 : (Go.Num.InB l))
    (h3 : ((List.length l) ≤ (9223372036854775807 : Nat)))
    (h4 : ((decide (l = l)) = Bool.true))
    (h5 : (((((List.length l) : Nat) : Int) != (96 : Int)) = Bool.false))
    (h6 : ((48 : Int) ≤ (((List.length l) : Nat) : Int)))
    (h7 : (Go.Num.InB (List.drop (0 : Nat) (List.take (48 : Nat) l))))
    (h8 : ((List.length (List.drop (0 : Nat) (List.take (48 : Nat) l))) ≤ (140737488351232 : Nat)))
    (h9 : ((decide ((Go.Num.v16 (Go.Num.W (((List.length (List.drop (0 : Nat) (List.take (48 : Nat) l))) + (1 : Nat)) / (2 : Nat)) (Go.Num.be (List.drop (0 : Nat) (List.take (48 : Nat) l))))) < (Go.Num.v16 (Go.Num.W (24 : Nat) (Go.Num.Fld.m Go.Num.fld))))) = Bool.true))
    (h10 : (Go.Num.In16 (Go.Num.W (((List.length (List.drop (0 : Nat) (List.take (48 : Nat) l))) + (1 : Nat)) / (2 : Nat)) (Go.Num.be (List.drop (0 : Nat) (List.take (48 : Nat) l))))))
    (h11 : (Go.Num.In16 (Go.Num.W (24 : Nat) (Go.Num.Fld.m Go.Num.fld))))
    (h12 : ((List.length (Go.Num.W (((List.length (List.drop (0 : Nat) (List.take (48 : Nat) l))) + (1 : Nat)) / (2 : Nat)) (Go.Num.be (List.drop (0 : Nat) (List.take (48 : Nat) l))))) ≤ (281474976710656 : Nat)))
    (h13 : ((((List.length l) : Nat) : Int) ≤ (((List.length l) : Nat) : Int)))
    (h14 : (Go.Num.InB (List.drop (48 : Nat) (List.take (Int.toNat (((List.length l) : Nat) : Int)) l))))
    (h15 : ((List.length (List.drop (48 : Nat) (List.take (Int.toNat (((List.length l) : Nat) : Int)) l))) ≤ (140737488351232 : Nat)))
    (h16 : ((decide ((Go.Num.v16 (Go.Num.W (((List.length (List.drop (48 : Nat) (List.take (Int.toNat (((List.length l) : Nat) : Int)) l))) + (1 : Nat)) / (2 : Nat)) (Go.Num.be (List.drop (48 : Nat) (List.take (Int.toNat (((List.length l) : Nat) : Int)) l))))) < (Go.Num.v16 (Go.Num.W (24 : Nat) (Go.Num.Fld.m Go.Num.fld))))) = Bool.false))
    (h17 : (Go.Num.In16 (Go.Num.W (((List.length (List.drop (48 : Nat) (List.take (Int.toNat (((List.length l) : Nat) : Int)) l))) + (1 : Nat)) / (2 : Nat)) (Go.Num.be (List.drop (48 : Nat) (List.take (Int.toNat (((List.length l) : Nat) : Int)) l))))))
    (h18 : ((List.length (Go.Num.W (((List.length (List.drop (48 : Nat) (List.take (Int.toNat (((List.length l) : Nat) : Int)) l))) + (1 : Nat)) / (2 : Nat)) (Go.Num.be (List.drop (48 : Nat) (List.take (Int.toNat (((List.length l) : Nat) : Int)) l))))) ≤ (281474976710656 : Nat)))
    (h19 : (((Go.Num.read2E l) == (12 : Int)) = Bool.true))
    (h20 : ((decide (Go.Alg.Q2 (Go.Num.Fld.m Go.Num.fld) (Go.Num.read2N l) (0 : K2))) = Bool.true)) :
    ∃ ps, runF Try.prog FD gam12 200 Try.f5 [.one (.words .u8 l)] [.is true, .is false, .is true, .is false, .is true, .is true] = some ((Go.Abs.AV.v (Go.Abs.A0.one (Go.Abs.Part.bool Bool.true Bool.true))), ps) ∧ AllQ ps := ⟨_, reads_low_r l, AllP.all ⟨h1, h2, h3, h4, h3, h3, h5, (show ((0 : Int) ≤ (0 : Int)) from by decide), (show ((0 : Int) ≤ (48 : Int)) from by decide), h6, h7, h8, h9, h10, h11, h12, (show ((List.length (Go.Num.W (24 : Nat) (Go.Num.Fld.m Go.Num.fld))) ≤ (281474976710656 : Nat)) from by decide), (show ((0 : Int) ≤ (48 : Int)) from by decide), h6, h13, h14, h15, h16, h17, h11, h18, (show ((List.length (Go.Num.W (24 : Nat) (Go.Num.Fld.m Go.Num.fld))) ≤ (281474976710656 : Nat)) from by decide), h19, h20⟩⟩

theorem reads_all_r (l : List Int) : runF Try.prog FD gam12 200 Try.f5 [.one (.words .u8 l)] [.is true, .is false, .is true, .is true, .is true, .is true, .is true, .keep, .keep, .is true, .is true] =
    some ((Go.Abs.AV.v (Go.Abs.A0.one (Go.Abs.Part.bool Bool.true Bool.true))), [((List.length l) ≤ (281474976710656 : Nat)), (Go.Num.InB l), ((List.length l) ≤ (9223372036854775807 : Nat)), ((decide (l = l)) = Bool.true), ((List.length l) ≤ (9223372036854775807 : Nat)), ((List.length l) ≤ (9223372036854775807 : Nat)), (((((List.length l) : Nat) : Int) != (96 : Int)) = Bool.false), ((0 : Int) ≤ (0 : Int)), ((0 : Int) ≤ (48 : Int)), ((48 : Int) ≤ (((List.length l) : Nat) : Int)), (Go.Num.InB (List.drop (0 : Nat) (List.take (48 : Nat) l))), ((List.length (List.drop (0 : Nat) (List.take (48 : Nat) l))) ≤ (140737488351232 : Nat)), ((decide ((Go.Num.v16 (Go.Num.W (((List.length (List.drop (0 : Nat) (List.take (48 : Nat) l))) + (1 : Nat)) / (2 : Nat)) (Go.Num.be (List.drop (0 : Nat) (List.take (48 : Nat) l))))) < (Go.Num.v16 (Go.Num.W (24 : Nat) (Go.Num.Fld.m Go.Num.fld))))) = Bool.true), (Go.Num.In16 (Go.Num.W (((List.length (List.drop (0 : Nat) (List.take (48 : Nat) l))) + (1 : Nat)) / (2 : Nat)) (Go.Num.be (List.drop (0 : Nat) (List.take (48 : Nat) l))))), (Go.Num.In16 (Go.Num.W (24 : Nat) (Go.Num.Fld.m Go.Num.fld))), ((List.length (Go.Num.W (((List.length (List.drop (0 : Nat) (List.take (48 : Nat) l))) + (1 : Nat)) / (2 : Nat)) (Go.Num.be (List.drop (0 : Nat) (List.take (48 : Nat) l))))) ≤ (281474976710656 : Nat)), ((List.length (Go.Num.W (24 : Nat) (Go.Num.Fld.m Go.Num.fld))) ≤ (281474976710656 : Nat)), ((0 : Int) ≤ (48 : Int)), ((48 : Int) ≤ (((List.length l) : Nat) : Int)), ((((List.length l) : Nat) : Int) ≤ (((List.length l) : Nat) : Int)), (Go.Num.InB (List.drop (48 : Nat) (List.take (Int.toNat (((List.length l) : Nat) : Int)) l))), ((List.length (List.drop (48 : Nat) (List.take (Int.toNat (((List.length l) : Nat) : Int)) l))) ≤ (140737488351232 : Nat)), ((decide ((Go.Num.v16 (Go.Num.W (((List.length (List.drop (48 : Nat) (List.take (Int.toNat (((List.length l) : Nat) : Int)) l))) + (1 : Nat)) / (2 : Nat)) (Go.Num.be (List.drop (48 : Nat) (List.take (Int.toNat (((List.length l) : Nat) : Int)) l))))) < (Go.Num.v16 (Go.Num.W (24 : Nat) (Go.Num.Fld.m Go.Num.fld))))) = Bool.true), (Go.Num.In16 (Go.Num.W (((List.length (List.drop (48 : Nat) (List.take (Int.toNat (((List.length l) : Nat) : Int)) l))) + (1 : Nat)) / (2 : Nat)) (Go.Num.be (List.drop (48 : Nat) (List.take (Int.toNat (((List.length l) : Nat) : Int)) l))))), (Go.Num.In16 (Go.Num.W (24 : Nat) (Go.Num.Fld.m Go.Num.fld))), ((List.length (Go.Num.W (((List.length (List.drop (48 : Nat) (List.take (Int.toNat (((List.length l) : Nat) : Int)) l))) + (1 : Nat)) / (2 : Nat)) (Go.Num.be (List.drop (48 : Nat) (List.take (Int.toNat (((List.length l) : Nat) : Int)) l))))) ≤ (281474976710656 : Nat)), ((List.length (Go.Num.W (24 : Nat) (Go.Num.Fld.m Go.Num.fld))) ≤ (281474976710656 : Nat)), (((Go.Num.read2E l) == (0 : Int)) = Bool.true), ((decide (((Go.Num.beB (48 : Nat) (((Go.Num.read2N l)).2 % (Go.Num.Fld.m Go.Num.fld))) ++ (Go.Num.beB (48 : Nat) (((Go.Num.read2N l)).1 % (Go.Num.Fld.m Go.Num.fld)))) = l)) = Bool.true), ((List.length ((Go.Num.beB (48 : Nat) (((Go.Num.read2N l)).2 % (Go.Num.Fld.m Go.Num.fld))) ++ (Go.Num.beB (48 : Nat) (((Go.Num.read2N l)).1 % (Go.Num.Fld.m Go.Num.fld))))) ≤ (9223372036854775807 : Nat)), ((List.length l) ≤ (9223372036854775807 : Nat)), ((0 : Int) ≤ (0 : Int)), ((0 : Int) ≤ (48 : Int)), ((48 : Int) ≤ (((List.length l) : Nat) : Int)), ((decide ((Go.Num.beB (48 : Nat) (((Go.Num.read2N l)).2 % (Go.Num.Fld.m Go.Num.fld))) = (List.drop (0 : Nat) (List.take (48 : Nat) l)))) = Bool.true), ((List.length (Go.Num.beB (48 : Nat) (((Go.Num.read2N l)).2 % (Go.Num.Fld.m Go.Num.fld)))) ≤ (9223372036854775807 : Nat)), ((List.length (List.drop (0 : Nat) (List.take (48 : Nat) l))) ≤ (9223372036854775807 : Nat)), (Go.Abs.EqT Go.Proofs.Try.prog (32 : Nat)), (((decide (Go.Alg.Q2 (Go.Num.Fld.m Go.Num.fld) (Go.Num.read2N l) (0 : K2))) == ((decide ((((Go.Num.read2N l)).1 % (Go.Num.Fld.m Go.Num.fld)) = ((0 : Int) % (Go.Num.Fld.m Go.Num.fld)))) && (decide ((((Go.Num.read2N l)).2 % (Go.Num.Fld.m Go.Num.fld)) = ((0 : Int) % (Go.Num.Fld.m Go.Num.fld)))))) = Bool.true)]) := by kernel_rfl
theorem reads_all (l : List Int)
    (h1 : ((List.length l) ≤ (281474976710656 : Nat)))
    (h2 : (Go.Num.InB l))
    (h3 : ((List.length l) ≤ (9223372036854775807 : Nat)))
    (h4 : ((decide (l = l)) = Bool.true))
    (h5 : (((((List.length l) : Nat) : Int) != (96 : Int)) = Bool.false))
    (h6 : ((48 : Int) ≤ (((List.length l) : Nat) : Int)))
    (h7 : (Go.Num.InB (List.drop (0 : Nat) (List.take (48 : Nat) l))))
    (h8 : ((List.length (List.drop (0 : Nat) (List.take (48 : Nat) l))) ≤ (140737488351232 : Nat)))
    (h9 : ((decide ((Go.Num.v16 (Go.Num.W (((List.length (List.drop (0 : Nat) (List.take (48 : Nat) l))) + (1 : Nat)) / (2 : Nat)) (Go.Num.be (List.drop (0 : Nat) (List.take (48 : Nat) l))))) < (Go.Num.v16 (Go.Num.W (24 : Nat) (Go.Num.Fld.m Go.Num.fld))))) = Bool.true))
    (h10 : (Go.Num.In16 (Go.Num.W (((List.length (List.drop (0 : Nat) (List.take (48 : Nat) l))) + (1 : Nat)) / (2 : Nat)) (Go.Num.be (List.drop (0 : Nat) (List.take (48 : Nat) l))))))
    (h11 : (Go.Num.In16 (Go.Num.W (24 : Nat) (Go.Num.Fld.m Go.Num.fld))))
    (h12 : ((List.length (Go.Num.W (((List.length (List.drop (0 : Nat) (List.take (48 : Nat) l))) + (1 : Nat)) / (2 : Nat)) (Go.Num.be (List.drop (0 : Nat) (List.take (48 : Nat) l))))) ≤ (281474976710656 : Nat)))
    (h13 : ((((List.length l) : Nat) : Int) ≤ (((List.length l) : Nat) : Int)))
    (h14 : (Go.Num.InB (List.drop (48 : Nat) (List.take (Int.toNat (((List.length l) : Nat) : Int)) l))))
    (h15 : ((List.length (List.drop (48 : Nat) (List.take (Int.toNat (((List.length l) : Nat) : Int)) l))) ≤ (140737488351232 : Nat)))
    (h16 : ((decide ((Go.Num.v16 (Go.Num.W (((List.length (List.drop (48 : Nat) (List.take (Int.toNat (((List.length l) : Nat) : Int)) l))) + (1 : Nat)) / (2 : Nat)) (Go.Num.be (List.drop (48 : Nat) (List.take (Int.toNat (((List.length l) : Nat) : Int)) l))))) < (Go.Num.v16 (Go.Num.W (24 : Nat) (Go.Num.Fld.m Go.Num.fld))))) = Bool.true))
    (h17 : (Go.Num.In16 (Go.Num.W (((List.length (List.drop (48 : Nat) (List.take (Int.toNat (((List.length l) : Nat) : Int)) l))) + (1 : Nat)) / (2 : Nat)) (Go.Num.be (List.drop (48 : Nat) (List.take (Int.toNat (((List.length l) : Nat) : Int)) l))))))
    (h18 : ((List.length (Go.Num.W (((List.length (List.drop (48 : Nat) (List.take (Int.toNat (((List.length l) : Nat) : Int)) l))) + (1 : Nat)) / (2 : Nat)) (Go.Num.be (List.drop (48 : Nat) (List.take (Int.toNat (((List.length l) : Nat) : Int)) l))))) ≤ (281474976710656 : Nat)))
    (h19 : (((Go.Num.read2E l) == (0 : Int)) = Bool.true))
    (h20 : ((decide (((Go.Num.beB (48 : Nat) (((Go.Num.read2N l)).2 % (Go.Num.Fld.m Go.Num.fld))) ++ (Go.Num.beB (48 : Nat) (((Go.Num.read2N l)).1 % (Go.Num.Fld.m Go.Num.fld)))) = l)) = Bool.true))
    (h21 : ((List.length ((Go.Num.beB (48 : Nat) (((Go.Num.read2N l)).2 % (Go.Num.Fld.m Go.Num.fld))) ++ (Go.Num.beB (48 : Nat) (((Go.Num.read2N l)).1 % (Go.Num.Fld.m Go.Num.fld))))) ≤ (9223372036854775807 : Nat)))
    (h22 : ((decide ((Go.Num.beB (48 : Nat) (((Go.Num.read2N l)).2 % (Go.Num.Fld.m Go.Num.fld))) = (List.drop (0 : Nat) (List.take (48 : Nat) l)))) = Bool.true))
    (h23 : ((List.length (Go.Num.beB (48 : Nat) (((Go.Num.read2N l)).2 % (Go.Num.Fld.m Go.Num.fld)))) ≤ (9223372036854775807 : Nat)))
    (h24 : ((List.length (List.drop (0 : Nat) (List.take (48 : Nat) l))) ≤ (9223372036854775807 : Nat)))
    (h25 : (Go.Abs.EqT Go.Proofs.Try.prog (32 : Nat)))
    (h26 : (((decide (Go.Alg.Q2 (Go.Num.Fld.m Go.Num.fld) (Go.Num.read2N l) (0 : K2))) == ((decide ((((Go.Num.read2N l)).1 % (Go.Num.Fld.m Go.Num.fld)) = ((0 : Int) % (Go.Num.Fld.m Go.Num.fld)))) && (decide ((((Go.Num.read2N l)).2 % (Go.Num.Fld.m Go.Num.fld)) = ((0 : Int) % (Go.Num.Fld.m Go.Num.fld)))))) = Bool.true)) :
    ∃ ps, runF Try.prog FD gam12 200 Try.f5 [.one (.words .u8 l)] [.is true, .is false, .is true, .is true, .is true, .is true, .is true, .keep, .keep, .is true, .is true] = some ((Go.Abs.AV.v (Go.Abs.A0.one (Go.Abs.Part.bool Bool.true Bool.true))), ps) ∧ AllQ ps := ⟨_, reads_all_r l, AllP.all ⟨h1, h2, h3, h4, h3, h3, h5, (show ((0 : Int) ≤ (0 : Int)) from by decide), (show ((0 : Int) ≤ (48 : Int)) from by decide), h6, h7, h8, h9, h10, h11, h12, (show ((List.length (Go.Num.W (24 : Nat) (Go.Num.Fld.m Go.Num.fld))) ≤ (281474976710656 : Nat)) from by decide), (show ((0 : Int) ≤ (48 : Int)) from by decide), h6, h13, h14, h15, h16, h17, h11, h18, (show ((List.length (Go.Num.W (24 : Nat) (Go.Num.Fld.m Go.Num.fld))) ≤ (281474976710656 : Nat)) from by decide), h19, h20, h21, h3, (show ((0 : Int) ≤ (0 : Int)) from by decide), (show ((0 : Int) ≤ (48 : Int)) from by decide), h6, h22, h23, h24, h25, h26⟩⟩

theorem be_beB_self {l : List Int} (hb : InB l) (hl : l.length = 48) : beB 48 (be l) = l := by
  refine (be_inj (beB_inB _ _) hb (by rw [beB_len, hl])).1 ?_
  have h := be_range hb
  rw [hl] at h
  rw [be_beB]
  exact Int.emod_eq_of_lt h.1 h.2

theorem lawReads {l : List Int} (hb : InB l) (hl : l.length ≤ 140737488351232) : LawOK Try.f5 [.one (.words .u8 l)] := by
  have hn : ¬ ok2 l → read2N l = 0 := fun h => if_neg h
  have h0 : l.length ≤ 281474976710656 := by omega
  have h3 : l.length ≤ 9223372036854775807 := by omega
  by_cases hlen : l.length = 2 * 48
  · have e0 : ((l.length : Int) != 2 * 48) = false := by rw [hlen]; rfl
    have e1 : List.drop 48 (List.take (Int.toNat (l.length : Int)) l) = l.drop 48 := by
      rw [show Int.toNat (l.length : Int) = l.length from rfl, List.take_length]
    have l1 : (l.take 48).length = 48 := by rw [List.length_take]; omega
    have l2 : (l.drop 48).length = 48 := by rw [List.length_drop]; omega
    have b1 : InB (l.take 48) := fun a ha => hb a (List.mem_of_mem_take ha)
    have b2 : InB (l.drop 48) := fun a ha => hb a (List.mem_of_mem_drop ha)
    have w1 : (W (((l.take 48).length + 1) / 2) (be (l.take 48))).length ≤ 281474976710656 := by rw [W_len]; omega
    have w2 : (W (((l.drop 48).length + 1) / 2) (be (l.drop 48))).length ≤ 281474976710656 := by rw [W_len]; omega
    by_cases c1 : be (l.take 48) < fld.m
    · have d1 : decide (v16 (W (((l.take 48).length + 1) / 2) (be (l.take 48))) < v16 (W 24 fld.m)) = true := by rw [vbe b1, vM]; exact decide_eq_true c1
      by_cases c2 : be (l.drop 48) < fld.m
      · have d2 : decide (v16 (W (((l.drop 48).length + 1) / 2) (be (l.drop 48))) < v16 (W 24 fld.m)) = true := by rw [vbe b2, vM]; exact decide_eq_true c2
        have k : ok2 l := ⟨hlen, c1, c2⟩
        have en : read2N l = ⟨be (l.drop 48), be (l.take 48)⟩ := if_pos k
        have r1 := be_range b1
        have r2 := be_range b2
        have f1 : be (l.take 48) % fld.m = be (l.take 48) := Int.emod_eq_of_lt r1.1 c1
        have f2 : be (l.drop 48) % fld.m = be (l.drop 48) := Int.emod_eq_of_lt r2.1 c2
        have g1 : beB 48 ((read2N l).b % fld.m) = l.take 48 := by rw [en]; show beB 48 (be (l.take 48) % fld.m) = _; rw [f1, be_beB_self b1 l1]
        have g2 : beB 48 ((read2N l).a % fld.m) = l.drop 48 := by rw [en]; show beB 48 (be (l.drop 48) % fld.m) = _; rw [f2, be_beB_self b2 l2]
        have kk := reads_all l h0 hb h3 (decide_eq_true rfl) e0 (by omega) b1 (by rw [List.drop_zero]; omega) d1 (W_in16 _ _) in16_M w1 (Int.le_refl _)
        rw [e1] at kk
        obtain ⟨ps, h1, h2⟩ := kk b2 (by omega) d2 (W_in16 _ _) w2 (by rw [read2E, if_pos hlen, if_pos k]; rfl)
          (decide_eq_true (by rw [g1, g2, List.take_append_drop])) (by rw [List.length_append, beB_len, beB_len]; omega) (decide_eq_true (by rw [g1, List.drop_zero])) (by rw [beB_len]; omega) (by rw [List.drop_zero]; omega) e2_eqT
          (by rw [beq_iff_eq, Bool.eq_iff_iff]; simp only [Bool.and_eq_true, decide_eq_true_iff]; exact Iff.rfl)
        exact ⟨gam12, gam12_ok, _, ps, h1, h2⟩
      · have d2 : decide (v16 (W (((l.drop 48).length + 1) / 2) (be (l.drop 48))) < v16 (W 24 fld.m)) = false := by rw [vbe b2, vM]; exact decide_eq_false c2
        have k : ¬ ok2 l := fun h => c2 h.2.2
        have kk := reads_low l h0 hb h3 (decide_eq_true rfl) e0 (by omega) b1 (by rw [List.drop_zero]; omega) d1 (W_in16 _ _) in16_M w1 (Int.le_refl _)
        rw [e1] at kk
        obtain ⟨ps, h1, h2⟩ := kk b2 (by omega) d2 (W_in16 _ _) w2 (by rw [read2E, if_pos hlen, if_neg k]; rfl) (mdq (hn k))
        exact ⟨gam12, gam12_ok, _, ps, h1, h2⟩
    · have d1 : decide (v16 (W (((l.take 48).length + 1) / 2) (be (l.take 48))) < v16 (W 24 fld.m)) = false := by rw [vbe b1, vM]; exact decide_eq_false c1
      have k : ¬ ok2 l := fun h => c1 h.2.1
      obtain ⟨ps, h1, h2⟩ := reads_high l h0 hb h3 (decide_eq_true rfl) e0 (by omega) b1 (by rw [List.drop_zero]; omega) d1 (W_in16 _ _) in16_M w1 (by rw [read2E, if_pos hlen, if_neg k]; rfl) (mdq (hn k))
      exact ⟨gam12, gam12_ok, _, ps, h1, h2⟩
  · have k : ¬ ok2 l := fun h => hlen h.1
    obtain ⟨ps, h1, h2⟩ := reads_len l h0 hb h3 (decide_eq_true rfl) (by rw [bne_iff_ne]; omega) (by rw [read2E, if_neg hlen]; rfl) (mdq (hn k))
    exact ⟨gam12, gam12_ok, _, ps, h1, h2⟩

end Go.Num
