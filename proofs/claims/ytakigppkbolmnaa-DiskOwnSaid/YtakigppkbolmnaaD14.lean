/- Disk: DiskSafe, DiskFull: the runs. -/
import Derived.Test.YtakigppkbolmnaaD13
import Derived.Test.YtakigppkbolmnaaByte
namespace Go.Num
open Go.Abs Go.Proofs Go.Shelf Go.RowKit

noncomputable def gDh : Gam DF := (9, .fn headD) :: gDk
theorem gDh_ok : GamOK Try.prog DF gDh := gam_cons head_ok gDk_ok

theorem sf_big (a b c : List Int) (fu ke : Int)
 (h1 : (Go.Abs.InI64 ((((List.length a) : Nat) : Int) + (((List.length b) : Nat) : Int))))
 (h2 : (Go.Abs.InI64 (((((List.length a) : Nat) : Int) + (((List.length b) : Nat) : Int)) + (((List.length c) : Nat) : Int))))
 (h3 : ((decide ((((((List.length a) : Nat) : Int) + (((List.length b) : Nat) : Int)) + (((List.length c) : Nat) : Int)) > (65536 : Int))) = Bool.true)) :
 ∃ ps, runF Try.prog DF gDh 100 Try.f3 [.one (.words .u8 a), .one (.words .u8 b), .one (.words .u8 c), .one (.int .i64 false fu), .one (.int .i64 false ke)] [.is true] = some ((Go.Abs.AV.v (Go.Abs.A0.one (Go.Abs.Part.bool Bool.true Bool.true))), ps) ∧ AllQ ps := ⟨_, by kernel_rfl, allQ_cons (show ((4194304 : Int) = (4194304 : Int)) from rfl) (allQ_cons h1 (allQ_cons h2 (allQ_cons h3 (allQ_nil))))⟩

abbrev sf_A_x1 (a b : List Int) (fu : Int) := ((Go.Num.appendM (Go.Num.fuseM ((Go.Num.syncM ((Go.Num.appendM ((Go.Num.clampR (4194304 : Int)), ((0 : Int), ((0 : Int), (Bool.false, ([] : List (Rec × Ob)))))) (ByteArray.mk (Array.mk [(120 : UInt8)])) a)).2 (ByteArray.mk (Array.mk [(120 : UInt8)])))).2 fu) (ByteArray.mk (Array.mk [(120 : UInt8)])) b))
abbrev sf_A_x2 (a : List Int) := ((Go.Num.appendM ((Go.Num.clampR (4194304 : Int)), ((0 : Int), ((0 : Int), (Bool.false, ([] : List (Rec × Ob)))))) (ByteArray.mk (Array.mk [(120 : UInt8)])) a))
abbrev sf_A_x3 (a : List Int) := (Go.Num.syncM (sf_A_x2 a).2 (ByteArray.mk (Array.mk [(120 : UInt8)])))
abbrev sf_A_x4 (a b : List Int) (fu ke : Int) := ((Go.Num.readM (Go.Num.crashM (sf_A_x1 a b fu).2 ([ke] : List Int)) (ByteArray.mk (Array.mk [(120 : UInt8)]))))
abbrev sf_A_x5 (a b : List Int) (fu ke : Int) := (Go.Num.crashM (Go.Num.crashM (sf_A_x1 a b fu).2 ([ke] : List Int)) ([] : List (Int)))
abbrev sf_A_x6 (a b : List Int) (fu ke : Int) := ((((Go.Num.crashM (sf_A_x1 a b fu).2 ([ke] : List Int))).2).2)
theorem sf_A (a b c : List Int) (fu ke : Int)
 (h1 : (Go.Abs.InI64 ((((List.length a) : Nat) : Int) + (((List.length b) : Nat) : Int))))
 (h2 : (Go.Abs.InI64 (((((List.length a) : Nat) : Int) + (((List.length b) : Nat) : Int)) + (((List.length c) : Nat) : Int))))
 (h3 : ((decide ((((((List.length a) : Nat) : Int) + (((List.length b) : Nat) : Int)) + (((List.length c) : Nat) : Int)) > (65536 : Int))) = Bool.false))
 (h4 : ((List.length a) ≤ (281474976710656 : Nat)))
 (h5 : (Go.Num.DkOK ((Go.Num.clampR (4194304 : Int)), ((0 : Int), ((0 : Int), (Bool.false, ([] : List (Rec × Ob))))))))
 (h6 : ((List.length a) ≤ (4611686018427387904 : Nat)))
 (h7 : (((sf_A_x2 a).1 != (0 : Int)) = Bool.false))
 (h8 : (Go.Num.DkOK (sf_A_x2 a).2))
 (h9 : (((sf_A_x3 a).1 != (0 : Int)) = Bool.false))
 (h10 : ((List.length b) ≤ (281474976710656 : Nat)))
 (h11 : (Go.Num.DkOK (Go.Num.fuseM (sf_A_x3 a).2 fu)))
 (h12 : ((List.length b) ≤ (4611686018427387904 : Nat)))
 (h13 : (((sf_A_x1 a b fu).1 == (0 : Int)) = Bool.false))
 (h14 : (Go.Num.Okd (sf_A_x1 a b fu).2))
 (h15 : (Go.Num.Okd (Go.Num.crashM (sf_A_x1 a b fu).2 ([ke] : List Int))))
 (h16 : (((List.length a) + (List.length b)) ≤ (9223372036854775807 : Nat)))
 (h17 : ((((List.length a) + (List.length b)) * (1 : Nat)) ≤ (140737488355328 : Nat)))
 (h18 : (((List.length (a ++ b)) + (List.length c)) ≤ (9223372036854775807 : Nat)))
 (h19 : ((((List.length (a ++ b)) + (List.length c)) * (1 : Nat)) ≤ (140737488355328 : Nat)))
 (h20 : (((sf_A_x4 a b fu ke).1 != (0 : Int)) = Bool.false))
 (h21 : ((decide ((((List.length (sf_A_x4 a b fu ke).2) : Nat) : Int) < (((List.length a) : Nat) : Int))) = Bool.false))
 (h22 : ((decide ((((List.length (sf_A_x4 a b fu ke).2) : Nat) : Int) > (((List.length ((a ++ b) ++ c)) : Nat) : Int))) = Bool.false))
 (h23 : ((0 : Int) ≤ (((List.length (sf_A_x4 a b fu ke).2) : Nat) : Int)))
 (h24 : ((((List.length (sf_A_x4 a b fu ke).2) : Nat) : Int) ≤ (((List.length ((a ++ b) ++ c)) : Nat) : Int)))
 (h25 : ((decide ((sf_A_x4 a b fu ke).2 = (List.take (Int.toNat (((List.length (sf_A_x4 a b fu ke).2) : Nat) : Int)) ((a ++ b) ++ c)))) = Bool.true))
 (h26 : ((List.length (sf_A_x4 a b fu ke).2) ≤ (9223372036854775807 : Nat)))
 (h27 : ((List.length (List.take (Int.toNat (((List.length (sf_A_x4 a b fu ke).2) : Nat) : Int)) ((a ++ b) ++ c))) ≤ (9223372036854775807 : Nat)))
 (h28 : (((sf_A_x1 a b fu).1 != (0 : Int)) = Bool.true))
 (h29 : ((decide ((((List.length (sf_A_x4 a b fu ke).2) : Nat) : Int) > ((((List.length a) : Nat) : Int) + (((List.length b) : Nat) : Int)))) = Bool.false))
 (h30 : (Go.Num.Okd (sf_A_x5 a b fu ke)))
 (h31 : ((((Go.Num.readM (sf_A_x5 a b fu ke) (ByteArray.mk (Array.mk [(120 : UInt8)])))).1 == (0 : Int)) = Bool.true))
 (h32 : ((decide (((Go.Num.readM (sf_A_x5 a b fu ke) (ByteArray.mk (Array.mk [(120 : UInt8)])))).2 = (sf_A_x4 a b fu ke).2)) = Bool.true))
 (h33 : ((List.length ((Go.Num.readM (sf_A_x5 a b fu ke) (ByteArray.mk (Array.mk [(120 : UInt8)])))).2) ≤ (9223372036854775807 : Nat))) :
 ∃ ps, runF Try.prog DF gDh 100 Try.f3 [.one (.words .u8 a), .one (.words .u8 b), .one (.words .u8 c), .one (.int .i64 false fu), .one (.int .i64 false ke)] [.is false, .is false, .is false, .is false, .is false, .is false, .is false, .is true, .is true, .is false, .is true, .is true] = some ((Go.Abs.AV.v (Go.Abs.A0.one (Go.Abs.Part.bool Bool.true Bool.true))), ps) ∧ AllQ ps := ⟨_, by kernel_rfl, allQ_cons (show ((4194304 : Int) = (4194304 : Int)) from rfl) (allQ_cons h1 (allQ_cons h2 (allQ_cons h3 (allQ_cons h4 (allQ_cons (show ((ByteArray.mk (Array.mk [(120 : UInt8)])) = (ByteArray.mk (Array.mk [(120 : UInt8)]))) from rfl) (allQ_cons (show (a = a) from rfl) (allQ_cons (show ((Go.Num.clampR (4194304 : Int)) = (Go.Num.clampR (4194304 : Int))) from rfl) (allQ_cons (show ((0 : Int) = (0 : Int)) from rfl) (allQ_cons (show ((0 : Int) = (0 : Int)) from rfl) (allQ_cons (show (Bool.false = Bool.false) from rfl) (allQ_cons (show (([] : List (Rec × Ob)) = ([] : List (Rec × Ob))) from rfl) (allQ_cons h5 (allQ_cons (show ((1 : Nat) ≤ (9223372036854775807 : Nat)) from by decide) (allQ_cons h6 (allQ_cons h7 (allQ_cons (show ((ByteArray.mk (Array.mk [(120 : UInt8)])) = (ByteArray.mk (Array.mk [(120 : UInt8)]))) from rfl) (allQ_cons (show (((sf_A_x2 a).2).1 = ((sf_A_x2 a).2).1) from rfl) (allQ_cons (show ((((sf_A_x2 a).2).2).1 = (((sf_A_x2 a).2).2).1) from rfl) (allQ_cons (show (((((sf_A_x2 a).2).2).2).1 = ((((sf_A_x2 a).2).2).2).1) from rfl) (allQ_cons (show ((((((sf_A_x2 a).2).2).2).2).1 = (((((sf_A_x2 a).2).2).2).2).1) from rfl) (allQ_cons (show ((((((sf_A_x2 a).2).2).2).2).2 = (((((sf_A_x2 a).2).2).2).2).2) from rfl) (allQ_cons h8 (allQ_cons (show ((1 : Nat) ≤ (9223372036854775807 : Nat)) from by decide) (allQ_cons h9 (allQ_cons (show (fu = fu) from rfl) (allQ_cons (show (((sf_A_x3 a).2).1 = ((sf_A_x3 a).2).1) from rfl) (allQ_cons (show ((((sf_A_x3 a).2).2).1 = (((sf_A_x3 a).2).2).1) from rfl) (allQ_cons (show (((((sf_A_x3 a).2).2).2).1 = ((((sf_A_x3 a).2).2).2).1) from rfl) (allQ_cons (show ((((((sf_A_x3 a).2).2).2).2).1 = (((((sf_A_x3 a).2).2).2).2).1) from rfl) (allQ_cons (show ((((((sf_A_x3 a).2).2).2).2).2 = (((((sf_A_x3 a).2).2).2).2).2) from rfl) (allQ_cons h10 (allQ_cons (show ((ByteArray.mk (Array.mk [(120 : UInt8)])) = (ByteArray.mk (Array.mk [(120 : UInt8)]))) from rfl) (allQ_cons (show (b = b) from rfl) (allQ_cons (show (((Go.Num.fuseM (sf_A_x3 a).2 fu)).1 = ((Go.Num.fuseM (sf_A_x3 a).2 fu)).1) from rfl) (allQ_cons (show ((((Go.Num.fuseM (sf_A_x3 a).2 fu)).2).1 = (((Go.Num.fuseM (sf_A_x3 a).2 fu)).2).1) from rfl) (allQ_cons (show (((((Go.Num.fuseM (sf_A_x3 a).2 fu)).2).2).1 = ((((Go.Num.fuseM (sf_A_x3 a).2 fu)).2).2).1) from rfl) (allQ_cons (show ((((((Go.Num.fuseM (sf_A_x3 a).2 fu)).2).2).2).1 = (((((Go.Num.fuseM (sf_A_x3 a).2 fu)).2).2).2).1) from rfl) (allQ_cons (show ((((((Go.Num.fuseM (sf_A_x3 a).2 fu)).2).2).2).2 = (((((Go.Num.fuseM (sf_A_x3 a).2 fu)).2).2).2).2) from rfl) (allQ_cons h11 (allQ_cons (show ((1 : Nat) ≤ (9223372036854775807 : Nat)) from by decide) (allQ_cons h12 (allQ_cons h13 (allQ_cons (show (([ke] : List Int) = ([ke] : List Int)) from rfl) (allQ_cons (show (((sf_A_x1 a b fu).2).1 = ((sf_A_x1 a b fu).2).1) from rfl) (allQ_cons (show ((((sf_A_x1 a b fu).2).2).1 = (((sf_A_x1 a b fu).2).2).1) from rfl) (allQ_cons (show (((((sf_A_x1 a b fu).2).2).2).1 = ((((sf_A_x1 a b fu).2).2).2).1) from rfl) (allQ_cons (show ((((((sf_A_x1 a b fu).2).2).2).2).1 = (((((sf_A_x1 a b fu).2).2).2).2).1) from rfl) (allQ_cons (show ((((((sf_A_x1 a b fu).2).2).2).2).2 = (((((sf_A_x1 a b fu).2).2).2).2).2) from rfl) (allQ_cons h14 (allQ_cons (show ((ByteArray.mk (Array.mk [(120 : UInt8)])) = (ByteArray.mk (Array.mk [(120 : UInt8)]))) from rfl) (allQ_cons (show (((Go.Num.crashM (sf_A_x1 a b fu).2 ([ke] : List Int))).1 = ((Go.Num.crashM (sf_A_x1 a b fu).2 ([ke] : List Int))).1) from rfl) (allQ_cons (show ((((Go.Num.crashM (sf_A_x1 a b fu).2 ([ke] : List Int))).2).1 = (((Go.Num.crashM (sf_A_x1 a b fu).2 ([ke] : List Int))).2).1) from rfl) (allQ_cons (show ((sf_A_x6 a b fu ke).1 = (sf_A_x6 a b fu ke).1) from rfl) (allQ_cons (show (((sf_A_x6 a b fu ke).2).1 = ((sf_A_x6 a b fu ke).2).1) from rfl) (allQ_cons (show (((sf_A_x6 a b fu ke).2).2 = ((sf_A_x6 a b fu ke).2).2) from rfl) (allQ_cons h15 (allQ_cons (show ((1 : Nat) ≤ (9223372036854775807 : Nat)) from by decide) (allQ_cons h4 (allQ_cons h16 (allQ_cons h17 (allQ_cons h18 (allQ_cons h19 (allQ_cons h20 (allQ_cons h21 (allQ_cons h22 (allQ_cons h23 (allQ_cons h24 (allQ_cons h25 (allQ_cons h26 (allQ_cons h27 (allQ_cons h28 (allQ_cons h1 (allQ_cons h29 (allQ_cons (show (([] : List (Int)) = ([] : List (Int))) from rfl) (allQ_cons (show (((Go.Num.crashM (sf_A_x1 a b fu).2 ([ke] : List Int))).1 = ((Go.Num.crashM (sf_A_x1 a b fu).2 ([ke] : List Int))).1) from rfl) (allQ_cons (show ((((Go.Num.crashM (sf_A_x1 a b fu).2 ([ke] : List Int))).2).1 = (((Go.Num.crashM (sf_A_x1 a b fu).2 ([ke] : List Int))).2).1) from rfl) (allQ_cons (show ((sf_A_x6 a b fu ke).1 = (sf_A_x6 a b fu ke).1) from rfl) (allQ_cons (show (((sf_A_x6 a b fu ke).2).1 = ((sf_A_x6 a b fu ke).2).1) from rfl) (allQ_cons (show (((sf_A_x6 a b fu ke).2).2 = ((sf_A_x6 a b fu ke).2).2) from rfl) (allQ_cons h15 (allQ_cons (show ((ByteArray.mk (Array.mk [(120 : UInt8)])) = (ByteArray.mk (Array.mk [(120 : UInt8)]))) from rfl) (allQ_cons (show (((sf_A_x5 a b fu ke)).1 = ((sf_A_x5 a b fu ke)).1) from rfl) (allQ_cons (show ((((sf_A_x5 a b fu ke)).2).1 = (((sf_A_x5 a b fu ke)).2).1) from rfl) (allQ_cons (show (((((sf_A_x5 a b fu ke)).2).2).1 = ((((sf_A_x5 a b fu ke)).2).2).1) from rfl) (allQ_cons (show ((((((sf_A_x5 a b fu ke)).2).2).2).1 = (((((sf_A_x5 a b fu ke)).2).2).2).1) from rfl) (allQ_cons (show ((((((sf_A_x5 a b fu ke)).2).2).2).2 = (((((sf_A_x5 a b fu ke)).2).2).2).2) from rfl) (allQ_cons h30 (allQ_cons (show ((1 : Nat) ≤ (9223372036854775807 : Nat)) from by decide) (allQ_cons h31 (allQ_cons h32 (allQ_cons h33 (allQ_cons h26 (allQ_nil)))))))))))))))))))))))))))))))))))))))))))))))))))))))))))))))))))))))))))))))))))))))))))))⟩

abbrev sf_B_x1 (a b c : List Int) (fu : Int) := ((Go.Num.appendM ((Go.Num.appendM (Go.Num.fuseM ((Go.Num.syncM ((Go.Num.appendM ((Go.Num.clampR (4194304 : Int)), ((0 : Int), ((0 : Int), (Bool.false, ([] : List (Rec × Ob)))))) (ByteArray.mk (Array.mk [(120 : UInt8)])) a)).2 (ByteArray.mk (Array.mk [(120 : UInt8)])))).2 fu) (ByteArray.mk (Array.mk [(120 : UInt8)])) b)).2 (ByteArray.mk (Array.mk [(120 : UInt8)])) c))
abbrev sf_B_x2 (a : List Int) := ((Go.Num.syncM ((Go.Num.appendM ((Go.Num.clampR (4194304 : Int)), ((0 : Int), ((0 : Int), (Bool.false, ([] : List (Rec × Ob)))))) (ByteArray.mk (Array.mk [(120 : UInt8)])) a)).2 (ByteArray.mk (Array.mk [(120 : UInt8)]))))
abbrev sf_B_x3 (a : List Int) := ((Go.Num.appendM ((Go.Num.clampR (4194304 : Int)), ((0 : Int), ((0 : Int), (Bool.false, ([] : List (Rec × Ob)))))) (ByteArray.mk (Array.mk [(120 : UInt8)])) a))
abbrev sf_B_x4 (a b c : List Int) (fu ke : Int) := ((Go.Num.readM (Go.Num.crashM (sf_B_x1 a b c fu).2 ([ke] : List Int)) (ByteArray.mk (Array.mk [(120 : UInt8)]))))
abbrev sf_B_x5 (a b c : List Int) (fu ke : Int) := (Go.Num.crashM (Go.Num.crashM (sf_B_x1 a b c fu).2 ([ke] : List Int)) ([] : List (Int)))
abbrev sf_B_x6 (a b : List Int) (fu : Int) := (Go.Num.appendM (Go.Num.fuseM (sf_B_x2 a).2 fu) (ByteArray.mk (Array.mk [(120 : UInt8)])) b)
abbrev sf_B_x7 (a b c : List Int) (fu ke : Int) := ((((Go.Num.crashM (sf_B_x1 a b c fu).2 ([ke] : List Int))).2).2)
abbrev sf_B_x8  := (ByteArray.mk (Array.mk [(120 : UInt8)])) = (ByteArray.mk (Array.mk [(120 : UInt8)]))
theorem sf_B (a b c : List Int) (fu ke : Int)
 (h1 : (Go.Abs.InI64 ((((List.length a) : Nat) : Int) + (((List.length b) : Nat) : Int))))
 (h2 : (Go.Abs.InI64 (((((List.length a) : Nat) : Int) + (((List.length b) : Nat) : Int)) + (((List.length c) : Nat) : Int))))
 (h3 : ((decide ((((((List.length a) : Nat) : Int) + (((List.length b) : Nat) : Int)) + (((List.length c) : Nat) : Int)) > (65536 : Int))) = Bool.false))
 (h4 : ((List.length a) ≤ (281474976710656 : Nat)))
 (h5 : (Go.Num.DkOK ((Go.Num.clampR (4194304 : Int)), ((0 : Int), ((0 : Int), (Bool.false, ([] : List (Rec × Ob))))))))
 (h6 : ((List.length a) ≤ (4611686018427387904 : Nat)))
 (h7 : (((sf_B_x3 a).1 != (0 : Int)) = Bool.false))
 (h8 : (Go.Num.DkOK (sf_B_x3 a).2))
 (h9 : (((sf_B_x2 a).1 != (0 : Int)) = Bool.false))
 (h10 : ((List.length b) ≤ (281474976710656 : Nat)))
 (h11 : (Go.Num.DkOK (Go.Num.fuseM (sf_B_x2 a).2 fu)))
 (h12 : ((List.length b) ≤ (4611686018427387904 : Nat)))
 (h13 : (((sf_B_x6 a b fu).1 == (0 : Int)) = Bool.true))
 (h14 : ((List.length c) ≤ (281474976710656 : Nat)))
 (h15 : (Go.Num.DkOK (sf_B_x6 a b fu).2))
 (h16 : ((List.length c) ≤ (4611686018427387904 : Nat)))
 (h17 : (Go.Num.Okd (sf_B_x1 a b c fu).2))
 (h18 : (Go.Num.Okd (Go.Num.crashM (sf_B_x1 a b c fu).2 ([ke] : List Int))))
 (h19 : (((List.length a) + (List.length b)) ≤ (9223372036854775807 : Nat)))
 (h20 : ((((List.length a) + (List.length b)) * (1 : Nat)) ≤ (140737488355328 : Nat)))
 (h21 : (((List.length (a ++ b)) + (List.length c)) ≤ (9223372036854775807 : Nat)))
 (h22 : ((((List.length (a ++ b)) + (List.length c)) * (1 : Nat)) ≤ (140737488355328 : Nat)))
 (h23 : (((sf_B_x4 a b c fu ke).1 != (0 : Int)) = Bool.false))
 (h24 : ((decide ((((List.length (sf_B_x4 a b c fu ke).2) : Nat) : Int) < (((List.length a) : Nat) : Int))) = Bool.false))
 (h25 : ((decide ((((List.length (sf_B_x4 a b c fu ke).2) : Nat) : Int) > (((List.length ((a ++ b) ++ c)) : Nat) : Int))) = Bool.false))
 (h26 : ((0 : Int) ≤ (((List.length (sf_B_x4 a b c fu ke).2) : Nat) : Int)))
 (h27 : ((((List.length (sf_B_x4 a b c fu ke).2) : Nat) : Int) ≤ (((List.length ((a ++ b) ++ c)) : Nat) : Int)))
 (h28 : ((decide ((sf_B_x4 a b c fu ke).2 = (List.take (Int.toNat (((List.length (sf_B_x4 a b c fu ke).2) : Nat) : Int)) ((a ++ b) ++ c)))) = Bool.true))
 (h29 : ((List.length (sf_B_x4 a b c fu ke).2) ≤ (9223372036854775807 : Nat)))
 (h30 : ((List.length (List.take (Int.toNat (((List.length (sf_B_x4 a b c fu ke).2) : Nat) : Int)) ((a ++ b) ++ c))) ≤ (9223372036854775807 : Nat)))
 (h31 : (((sf_B_x1 a b c fu).1 != (0 : Int)) = Bool.false))
 (h32 : (Go.Num.Okd (sf_B_x5 a b c fu ke)))
 (h33 : ((((Go.Num.readM (sf_B_x5 a b c fu ke) (ByteArray.mk (Array.mk [(120 : UInt8)])))).1 == (0 : Int)) = Bool.true))
 (h34 : ((decide (((Go.Num.readM (sf_B_x5 a b c fu ke) (ByteArray.mk (Array.mk [(120 : UInt8)])))).2 = (sf_B_x4 a b c fu ke).2)) = Bool.true))
 (h35 : ((List.length ((Go.Num.readM (sf_B_x5 a b c fu ke) (ByteArray.mk (Array.mk [(120 : UInt8)])))).2) ≤ (9223372036854775807 : Nat))) :
 ∃ ps, runF Try.prog DF gDh 100 Try.f3 [.one (.words .u8 a), .one (.words .u8 b), .one (.words .u8 c), .one (.int .i64 false fu), .one (.int .i64 false ke)] [.is false, .is false, .is false, .is true, .is false, .is false, .is false, .is true, .is false, .is true, .is true] = some ((Go.Abs.AV.v (Go.Abs.A0.one (Go.Abs.Part.bool Bool.true Bool.true))), ps) ∧ AllQ ps := ⟨_, by kernel_rfl, allQ_cons (show ((4194304 : Int) = (4194304 : Int)) from rfl) (allQ_cons h1 (allQ_cons h2 (allQ_cons h3 (allQ_cons h4 (allQ_cons (show (sf_B_x8 ) from rfl) (allQ_cons (show (a = a) from rfl) (allQ_cons (show ((Go.Num.clampR (4194304 : Int)) = (Go.Num.clampR (4194304 : Int))) from rfl) (allQ_cons (show ((0 : Int) = (0 : Int)) from rfl) (allQ_cons (show ((0 : Int) = (0 : Int)) from rfl) (allQ_cons (show (Bool.false = Bool.false) from rfl) (allQ_cons (show (([] : List (Rec × Ob)) = ([] : List (Rec × Ob))) from rfl) (allQ_cons h5 (allQ_cons (show ((1 : Nat) ≤ (9223372036854775807 : Nat)) from by decide) (allQ_cons h6 (allQ_cons h7 (allQ_cons (show (sf_B_x8 ) from rfl) (allQ_cons (show (((sf_B_x3 a).2).1 = ((sf_B_x3 a).2).1) from rfl) (allQ_cons (show ((((sf_B_x3 a).2).2).1 = (((sf_B_x3 a).2).2).1) from rfl) (allQ_cons (show (((((sf_B_x3 a).2).2).2).1 = ((((sf_B_x3 a).2).2).2).1) from rfl) (allQ_cons (show ((((((sf_B_x3 a).2).2).2).2).1 = (((((sf_B_x3 a).2).2).2).2).1) from rfl) (allQ_cons (show ((((((sf_B_x3 a).2).2).2).2).2 = (((((sf_B_x3 a).2).2).2).2).2) from rfl) (allQ_cons h8 (allQ_cons (show ((1 : Nat) ≤ (9223372036854775807 : Nat)) from by decide) (allQ_cons h9 (allQ_cons (show (fu = fu) from rfl) (allQ_cons (show (((sf_B_x2 a).2).1 = ((sf_B_x2 a).2).1) from rfl) (allQ_cons (show ((((sf_B_x2 a).2).2).1 = (((sf_B_x2 a).2).2).1) from rfl) (allQ_cons (show (((((sf_B_x2 a).2).2).2).1 = ((((sf_B_x2 a).2).2).2).1) from rfl) (allQ_cons (show ((((((sf_B_x2 a).2).2).2).2).1 = (((((sf_B_x2 a).2).2).2).2).1) from rfl) (allQ_cons (show ((((((sf_B_x2 a).2).2).2).2).2 = (((((sf_B_x2 a).2).2).2).2).2) from rfl) (allQ_cons h10 (allQ_cons (show (sf_B_x8 ) from rfl) (allQ_cons (show (b = b) from rfl) (allQ_cons (show (((Go.Num.fuseM (sf_B_x2 a).2 fu)).1 = ((Go.Num.fuseM (sf_B_x2 a).2 fu)).1) from rfl) (allQ_cons (show ((((Go.Num.fuseM (sf_B_x2 a).2 fu)).2).1 = (((Go.Num.fuseM (sf_B_x2 a).2 fu)).2).1) from rfl) (allQ_cons (show (((((Go.Num.fuseM (sf_B_x2 a).2 fu)).2).2).1 = ((((Go.Num.fuseM (sf_B_x2 a).2 fu)).2).2).1) from rfl) (allQ_cons (show ((((((Go.Num.fuseM (sf_B_x2 a).2 fu)).2).2).2).1 = (((((Go.Num.fuseM (sf_B_x2 a).2 fu)).2).2).2).1) from rfl) (allQ_cons (show ((((((Go.Num.fuseM (sf_B_x2 a).2 fu)).2).2).2).2 = (((((Go.Num.fuseM (sf_B_x2 a).2 fu)).2).2).2).2) from rfl) (allQ_cons h11 (allQ_cons (show ((1 : Nat) ≤ (9223372036854775807 : Nat)) from by decide) (allQ_cons h12 (allQ_cons h13 (allQ_cons h14 (allQ_cons (show (sf_B_x8 ) from rfl) (allQ_cons (show (c = c) from rfl) (allQ_cons (show (((sf_B_x6 a b fu).2).1 = ((sf_B_x6 a b fu).2).1) from rfl) (allQ_cons (show ((((sf_B_x6 a b fu).2).2).1 = (((sf_B_x6 a b fu).2).2).1) from rfl) (allQ_cons (show (((((sf_B_x6 a b fu).2).2).2).1 = ((((sf_B_x6 a b fu).2).2).2).1) from rfl) (allQ_cons (show ((((((sf_B_x6 a b fu).2).2).2).2).1 = (((((sf_B_x6 a b fu).2).2).2).2).1) from rfl) (allQ_cons (show ((((((sf_B_x6 a b fu).2).2).2).2).2 = (((((sf_B_x6 a b fu).2).2).2).2).2) from rfl) (allQ_cons h15 (allQ_cons (show ((1 : Nat) ≤ (9223372036854775807 : Nat)) from by decide) (allQ_cons h16 (allQ_cons (show (([ke] : List Int) = ([ke] : List Int)) from rfl) (allQ_cons (show (((sf_B_x1 a b c fu).2).1 = ((sf_B_x1 a b c fu).2).1) from rfl) (allQ_cons (show ((((sf_B_x1 a b c fu).2).2).1 = (((sf_B_x1 a b c fu).2).2).1) from rfl) (allQ_cons (show (((((sf_B_x1 a b c fu).2).2).2).1 = ((((sf_B_x1 a b c fu).2).2).2).1) from rfl) (allQ_cons (show ((((((sf_B_x1 a b c fu).2).2).2).2).1 = (((((sf_B_x1 a b c fu).2).2).2).2).1) from rfl) (allQ_cons (show ((((((sf_B_x1 a b c fu).2).2).2).2).2 = (((((sf_B_x1 a b c fu).2).2).2).2).2) from rfl) (allQ_cons h17 (allQ_cons (show (sf_B_x8 ) from rfl) (allQ_cons (show (((Go.Num.crashM (sf_B_x1 a b c fu).2 ([ke] : List Int))).1 = ((Go.Num.crashM (sf_B_x1 a b c fu).2 ([ke] : List Int))).1) from rfl) (allQ_cons (show ((((Go.Num.crashM (sf_B_x1 a b c fu).2 ([ke] : List Int))).2).1 = (((Go.Num.crashM (sf_B_x1 a b c fu).2 ([ke] : List Int))).2).1) from rfl) (allQ_cons (show ((sf_B_x7 a b c fu ke).1 = (sf_B_x7 a b c fu ke).1) from rfl) (allQ_cons (show (((sf_B_x7 a b c fu ke).2).1 = ((sf_B_x7 a b c fu ke).2).1) from rfl) (allQ_cons (show (((sf_B_x7 a b c fu ke).2).2 = ((sf_B_x7 a b c fu ke).2).2) from rfl) (allQ_cons h18 (allQ_cons (show ((1 : Nat) ≤ (9223372036854775807 : Nat)) from by decide) (allQ_cons h4 (allQ_cons h19 (allQ_cons h20 (allQ_cons h21 (allQ_cons h22 (allQ_cons h23 (allQ_cons h24 (allQ_cons h25 (allQ_cons h26 (allQ_cons h27 (allQ_cons h28 (allQ_cons h29 (allQ_cons h30 (allQ_cons h31 (allQ_cons (show (([] : List (Int)) = ([] : List (Int))) from rfl) (allQ_cons (show (((Go.Num.crashM (sf_B_x1 a b c fu).2 ([ke] : List Int))).1 = ((Go.Num.crashM (sf_B_x1 a b c fu).2 ([ke] : List Int))).1) from rfl) (allQ_cons (show ((((Go.Num.crashM (sf_B_x1 a b c fu).2 ([ke] : List Int))).2).1 = (((Go.Num.crashM (sf_B_x1 a b c fu).2 ([ke] : List Int))).2).1) from rfl) (allQ_cons (show ((sf_B_x7 a b c fu ke).1 = (sf_B_x7 a b c fu ke).1) from rfl) (allQ_cons (show (((sf_B_x7 a b c fu ke).2).1 = ((sf_B_x7 a b c fu ke).2).1) from rfl) (allQ_cons (show (((sf_B_x7 a b c fu ke).2).2 = ((sf_B_x7 a b c fu ke).2).2) from rfl) (allQ_cons h18 (allQ_cons (show (sf_B_x8 ) from rfl) (allQ_cons (show (((sf_B_x5 a b c fu ke)).1 = ((sf_B_x5 a b c fu ke)).1) from rfl) (allQ_cons (show ((((sf_B_x5 a b c fu ke)).2).1 = (((sf_B_x5 a b c fu ke)).2).1) from rfl) (allQ_cons (show (((((sf_B_x5 a b c fu ke)).2).2).1 = ((((sf_B_x5 a b c fu ke)).2).2).1) from rfl) (allQ_cons (show ((((((sf_B_x5 a b c fu ke)).2).2).2).1 = (((((sf_B_x5 a b c fu ke)).2).2).2).1) from rfl) (allQ_cons (show ((((((sf_B_x5 a b c fu ke)).2).2).2).2 = (((((sf_B_x5 a b c fu ke)).2).2).2).2) from rfl) (allQ_cons h32 (allQ_cons (show ((1 : Nat) ≤ (9223372036854775807 : Nat)) from by decide) (allQ_cons h33 (allQ_cons h34 (allQ_cons h35 (allQ_cons h29 (allQ_nil))))))))))))))))))))))))))))))))))))))))))))))))))))))))))))))))))))))))))))))))))))))))))))))))))))))⟩

abbrev sf_C_x1 (a b : List Int) (fu : Int) := ((Go.Num.appendM (Go.Num.fuseM ((Go.Num.syncM ((Go.Num.appendM ((Go.Num.clampR (4194304 : Int)), ((0 : Int), ((0 : Int), (Bool.false, ([] : List (Rec × Ob)))))) (ByteArray.mk (Array.mk [(120 : UInt8)])) a)).2 (ByteArray.mk (Array.mk [(120 : UInt8)])))).2 fu) (ByteArray.mk (Array.mk [(120 : UInt8)])) b))
abbrev sf_C_x2 (a : List Int) := ((Go.Num.appendM ((Go.Num.clampR (4194304 : Int)), ((0 : Int), ((0 : Int), (Bool.false, ([] : List (Rec × Ob)))))) (ByteArray.mk (Array.mk [(120 : UInt8)])) a))
abbrev sf_C_x3 (a b c : List Int) (fu ke : Int) := (Go.Num.crashM ((Go.Num.appendM (sf_C_x1 a b fu).2 (ByteArray.mk (Array.mk [(120 : UInt8)])) c)).2 ([ke] : List Int))
abbrev sf_C_x4 (a : List Int) := (Go.Num.syncM (sf_C_x2 a).2 (ByteArray.mk (Array.mk [(120 : UInt8)])))
abbrev sf_C_x5 (a b c : List Int) (fu : Int) := (Go.Num.appendM (sf_C_x1 a b fu).2 (ByteArray.mk (Array.mk [(120 : UInt8)])) c)
abbrev sf_C_x6 (a b c : List Int) (fu ke : Int) := (Go.Num.readM (sf_C_x3 a b c fu ke) (ByteArray.mk (Array.mk [(120 : UInt8)])))
abbrev sf_C_x7  := (ByteArray.mk (Array.mk [(120 : UInt8)])) = (ByteArray.mk (Array.mk [(120 : UInt8)]))
theorem sf_C (a b c : List Int) (fu ke : Int)
 (h1 : (Go.Abs.InI64 ((((List.length a) : Nat) : Int) + (((List.length b) : Nat) : Int))))
 (h2 : (Go.Abs.InI64 (((((List.length a) : Nat) : Int) + (((List.length b) : Nat) : Int)) + (((List.length c) : Nat) : Int))))
 (h3 : ((decide ((((((List.length a) : Nat) : Int) + (((List.length b) : Nat) : Int)) + (((List.length c) : Nat) : Int)) > (65536 : Int))) = Bool.false))
 (h4 : ((List.length a) ≤ (281474976710656 : Nat)))
 (h5 : (Go.Num.DkOK ((Go.Num.clampR (4194304 : Int)), ((0 : Int), ((0 : Int), (Bool.false, ([] : List (Rec × Ob))))))))
 (h6 : ((List.length a) ≤ (4611686018427387904 : Nat)))
 (h7 : (((sf_C_x2 a).1 != (0 : Int)) = Bool.false))
 (h8 : (Go.Num.DkOK (sf_C_x2 a).2))
 (h9 : (((sf_C_x4 a).1 != (0 : Int)) = Bool.false))
 (h10 : ((List.length b) ≤ (281474976710656 : Nat)))
 (h11 : (Go.Num.DkOK (Go.Num.fuseM (sf_C_x4 a).2 fu)))
 (h12 : ((List.length b) ≤ (4611686018427387904 : Nat)))
 (h13 : (((sf_C_x1 a b fu).1 == (0 : Int)) = Bool.true))
 (h14 : ((List.length c) ≤ (281474976710656 : Nat)))
 (h15 : (Go.Num.DkOK (sf_C_x1 a b fu).2))
 (h16 : ((List.length c) ≤ (4611686018427387904 : Nat)))
 (h17 : (Go.Num.Okd (sf_C_x5 a b c fu).2))
 (h18 : (Go.Num.Okd (sf_C_x3 a b c fu ke)))
 (h19 : (((List.length a) + (List.length b)) ≤ (9223372036854775807 : Nat)))
 (h20 : ((((List.length a) + (List.length b)) * (1 : Nat)) ≤ (140737488355328 : Nat)))
 (h21 : (((List.length (a ++ b)) + (List.length c)) ≤ (9223372036854775807 : Nat)))
 (h22 : ((((List.length (a ++ b)) + (List.length c)) * (1 : Nat)) ≤ (140737488355328 : Nat)))
 (h23 : (((sf_C_x6 a b c fu ke).1 != (0 : Int)) = Bool.false))
 (h24 : ((decide ((((List.length (sf_C_x6 a b c fu ke).2) : Nat) : Int) < (((List.length a) : Nat) : Int))) = Bool.false))
 (h25 : ((decide ((((List.length (sf_C_x6 a b c fu ke).2) : Nat) : Int) > (((List.length ((a ++ b) ++ c)) : Nat) : Int))) = Bool.false))
 (h26 : ((0 : Int) ≤ (((List.length (sf_C_x6 a b c fu ke).2) : Nat) : Int)))
 (h27 : ((((List.length (sf_C_x6 a b c fu ke).2) : Nat) : Int) ≤ (((List.length ((a ++ b) ++ c)) : Nat) : Int)))
 (h28 : ((decide ((sf_C_x6 a b c fu ke).2 = (List.take (Int.toNat (((List.length (sf_C_x6 a b c fu ke).2) : Nat) : Int)) ((a ++ b) ++ c)))) = Bool.true))
 (h29 : ((List.length (sf_C_x6 a b c fu ke).2) ≤ (9223372036854775807 : Nat)))
 (h30 : ((List.length (List.take (Int.toNat (((List.length (sf_C_x6 a b c fu ke).2) : Nat) : Int)) ((a ++ b) ++ c))) ≤ (9223372036854775807 : Nat)))
 (h31 : (((sf_C_x5 a b c fu).1 != (0 : Int)) = Bool.true))
 (h32 : (((sf_C_x1 a b fu).1 != (0 : Int)) = Bool.false))
 (h33 : (Go.Num.Okd (Go.Num.crashM (sf_C_x3 a b c fu ke) ([] : List (Int)))))
 (h34 : ((((Go.Num.readM (Go.Num.crashM (sf_C_x3 a b c fu ke) ([] : List (Int))) (ByteArray.mk (Array.mk [(120 : UInt8)])))).1 == (0 : Int)) = Bool.true))
 (h35 : ((decide (((Go.Num.readM (Go.Num.crashM (sf_C_x3 a b c fu ke) ([] : List (Int))) (ByteArray.mk (Array.mk [(120 : UInt8)])))).2 = (sf_C_x6 a b c fu ke).2)) = Bool.true))
 (h36 : ((List.length ((Go.Num.readM (Go.Num.crashM (sf_C_x3 a b c fu ke) ([] : List (Int))) (ByteArray.mk (Array.mk [(120 : UInt8)])))).2) ≤ (9223372036854775807 : Nat))) :
 ∃ ps, runF Try.prog DF gDh 100 Try.f3 [.one (.words .u8 a), .one (.words .u8 b), .one (.words .u8 c), .one (.int .i64 false fu), .one (.int .i64 false ke)] [.is false, .is false, .is false, .is true, .is false, .is false, .is false, .is true, .is true, .is false, .is true, .is true] = some ((Go.Abs.AV.v (Go.Abs.A0.one (Go.Abs.Part.bool Bool.true Bool.true))), ps) ∧ AllQ ps := ⟨_, by kernel_rfl, allQ_cons (show ((4194304 : Int) = (4194304 : Int)) from rfl) (allQ_cons h1 (allQ_cons h2 (allQ_cons h3 (allQ_cons h4 (allQ_cons (show (sf_C_x7 ) from rfl) (allQ_cons (show (a = a) from rfl) (allQ_cons (show ((Go.Num.clampR (4194304 : Int)) = (Go.Num.clampR (4194304 : Int))) from rfl) (allQ_cons (show ((0 : Int) = (0 : Int)) from rfl) (allQ_cons (show ((0 : Int) = (0 : Int)) from rfl) (allQ_cons (show (Bool.false = Bool.false) from rfl) (allQ_cons (show (([] : List (Rec × Ob)) = ([] : List (Rec × Ob))) from rfl) (allQ_cons h5 (allQ_cons (show ((1 : Nat) ≤ (9223372036854775807 : Nat)) from by decide) (allQ_cons h6 (allQ_cons h7 (allQ_cons (show (sf_C_x7 ) from rfl) (allQ_cons (show (((sf_C_x2 a).2).1 = ((sf_C_x2 a).2).1) from rfl) (allQ_cons (show ((((sf_C_x2 a).2).2).1 = (((sf_C_x2 a).2).2).1) from rfl) (allQ_cons (show (((((sf_C_x2 a).2).2).2).1 = ((((sf_C_x2 a).2).2).2).1) from rfl) (allQ_cons (show ((((((sf_C_x2 a).2).2).2).2).1 = (((((sf_C_x2 a).2).2).2).2).1) from rfl) (allQ_cons (show ((((((sf_C_x2 a).2).2).2).2).2 = (((((sf_C_x2 a).2).2).2).2).2) from rfl) (allQ_cons h8 (allQ_cons (show ((1 : Nat) ≤ (9223372036854775807 : Nat)) from by decide) (allQ_cons h9 (allQ_cons (show (fu = fu) from rfl) (allQ_cons (show (((sf_C_x4 a).2).1 = ((sf_C_x4 a).2).1) from rfl) (allQ_cons (show ((((sf_C_x4 a).2).2).1 = (((sf_C_x4 a).2).2).1) from rfl) (allQ_cons (show (((((sf_C_x4 a).2).2).2).1 = ((((sf_C_x4 a).2).2).2).1) from rfl) (allQ_cons (show ((((((sf_C_x4 a).2).2).2).2).1 = (((((sf_C_x4 a).2).2).2).2).1) from rfl) (allQ_cons (show ((((((sf_C_x4 a).2).2).2).2).2 = (((((sf_C_x4 a).2).2).2).2).2) from rfl) (allQ_cons h10 (allQ_cons (show (sf_C_x7 ) from rfl) (allQ_cons (show (b = b) from rfl) (allQ_cons (show (((Go.Num.fuseM (sf_C_x4 a).2 fu)).1 = ((Go.Num.fuseM (sf_C_x4 a).2 fu)).1) from rfl) (allQ_cons (show ((((Go.Num.fuseM (sf_C_x4 a).2 fu)).2).1 = (((Go.Num.fuseM (sf_C_x4 a).2 fu)).2).1) from rfl) (allQ_cons (show (((((Go.Num.fuseM (sf_C_x4 a).2 fu)).2).2).1 = ((((Go.Num.fuseM (sf_C_x4 a).2 fu)).2).2).1) from rfl) (allQ_cons (show ((((((Go.Num.fuseM (sf_C_x4 a).2 fu)).2).2).2).1 = (((((Go.Num.fuseM (sf_C_x4 a).2 fu)).2).2).2).1) from rfl) (allQ_cons (show ((((((Go.Num.fuseM (sf_C_x4 a).2 fu)).2).2).2).2 = (((((Go.Num.fuseM (sf_C_x4 a).2 fu)).2).2).2).2) from rfl) (allQ_cons h11 (allQ_cons (show ((1 : Nat) ≤ (9223372036854775807 : Nat)) from by decide) (allQ_cons h12 (allQ_cons h13 (allQ_cons h14 (allQ_cons (show (sf_C_x7 ) from rfl) (allQ_cons (show (c = c) from rfl) (allQ_cons (show (((sf_C_x1 a b fu).2).1 = ((sf_C_x1 a b fu).2).1) from rfl) (allQ_cons (show ((((sf_C_x1 a b fu).2).2).1 = (((sf_C_x1 a b fu).2).2).1) from rfl) (allQ_cons (show (((((sf_C_x1 a b fu).2).2).2).1 = ((((sf_C_x1 a b fu).2).2).2).1) from rfl) (allQ_cons (show ((((((sf_C_x1 a b fu).2).2).2).2).1 = (((((sf_C_x1 a b fu).2).2).2).2).1) from rfl) (allQ_cons (show ((((((sf_C_x1 a b fu).2).2).2).2).2 = (((((sf_C_x1 a b fu).2).2).2).2).2) from rfl) (allQ_cons h15 (allQ_cons (show ((1 : Nat) ≤ (9223372036854775807 : Nat)) from by decide) (allQ_cons h16 (allQ_cons (show (([ke] : List Int) = ([ke] : List Int)) from rfl) (allQ_cons (show (((sf_C_x5 a b c fu).2).1 = ((sf_C_x5 a b c fu).2).1) from rfl) (allQ_cons (show ((((sf_C_x5 a b c fu).2).2).1 = (((sf_C_x5 a b c fu).2).2).1) from rfl) (allQ_cons (show (((((sf_C_x5 a b c fu).2).2).2).1 = ((((sf_C_x5 a b c fu).2).2).2).1) from rfl) (allQ_cons (show ((((((sf_C_x5 a b c fu).2).2).2).2).1 = (((((sf_C_x5 a b c fu).2).2).2).2).1) from rfl) (allQ_cons (show ((((((sf_C_x5 a b c fu).2).2).2).2).2 = (((((sf_C_x5 a b c fu).2).2).2).2).2) from rfl) (allQ_cons h17 (allQ_cons (show (sf_C_x7 ) from rfl) (allQ_cons (show (((sf_C_x3 a b c fu ke)).1 = ((sf_C_x3 a b c fu ke)).1) from rfl) (allQ_cons (show ((((sf_C_x3 a b c fu ke)).2).1 = (((sf_C_x3 a b c fu ke)).2).1) from rfl) (allQ_cons (show (((((sf_C_x3 a b c fu ke)).2).2).1 = ((((sf_C_x3 a b c fu ke)).2).2).1) from rfl) (allQ_cons (show ((((((sf_C_x3 a b c fu ke)).2).2).2).1 = (((((sf_C_x3 a b c fu ke)).2).2).2).1) from rfl) (allQ_cons (show ((((((sf_C_x3 a b c fu ke)).2).2).2).2 = (((((sf_C_x3 a b c fu ke)).2).2).2).2) from rfl) (allQ_cons h18 (allQ_cons (show ((1 : Nat) ≤ (9223372036854775807 : Nat)) from by decide) (allQ_cons h4 (allQ_cons h19 (allQ_cons h20 (allQ_cons h21 (allQ_cons h22 (allQ_cons h23 (allQ_cons h24 (allQ_cons h25 (allQ_cons h26 (allQ_cons h27 (allQ_cons h28 (allQ_cons h29 (allQ_cons h30 (allQ_cons h31 (allQ_cons h32 (allQ_cons (show (([] : List (Int)) = ([] : List (Int))) from rfl) (allQ_cons (show (((sf_C_x3 a b c fu ke)).1 = ((sf_C_x3 a b c fu ke)).1) from rfl) (allQ_cons (show ((((sf_C_x3 a b c fu ke)).2).1 = (((sf_C_x3 a b c fu ke)).2).1) from rfl) (allQ_cons (show (((((sf_C_x3 a b c fu ke)).2).2).1 = ((((sf_C_x3 a b c fu ke)).2).2).1) from rfl) (allQ_cons (show ((((((sf_C_x3 a b c fu ke)).2).2).2).1 = (((((sf_C_x3 a b c fu ke)).2).2).2).1) from rfl) (allQ_cons (show ((((((sf_C_x3 a b c fu ke)).2).2).2).2 = (((((sf_C_x3 a b c fu ke)).2).2).2).2) from rfl) (allQ_cons h18 (allQ_cons (show (sf_C_x7 ) from rfl) (allQ_cons (show (((Go.Num.crashM (sf_C_x3 a b c fu ke) ([] : List (Int)))).1 = ((Go.Num.crashM (sf_C_x3 a b c fu ke) ([] : List (Int)))).1) from rfl) (allQ_cons (show ((((Go.Num.crashM (sf_C_x3 a b c fu ke) ([] : List (Int)))).2).1 = (((Go.Num.crashM (sf_C_x3 a b c fu ke) ([] : List (Int)))).2).1) from rfl) (allQ_cons (show (((((Go.Num.crashM (sf_C_x3 a b c fu ke) ([] : List (Int)))).2).2).1 = ((((Go.Num.crashM (sf_C_x3 a b c fu ke) ([] : List (Int)))).2).2).1) from rfl) (allQ_cons (show ((((((Go.Num.crashM (sf_C_x3 a b c fu ke) ([] : List (Int)))).2).2).2).1 = (((((Go.Num.crashM (sf_C_x3 a b c fu ke) ([] : List (Int)))).2).2).2).1) from rfl) (allQ_cons (show ((((((Go.Num.crashM (sf_C_x3 a b c fu ke) ([] : List (Int)))).2).2).2).2 = (((((Go.Num.crashM (sf_C_x3 a b c fu ke) ([] : List (Int)))).2).2).2).2) from rfl) (allQ_cons h33 (allQ_cons (show ((1 : Nat) ≤ (9223372036854775807 : Nat)) from by decide) (allQ_cons h34 (allQ_cons h35 (allQ_cons h36 (allQ_cons h29 (allQ_nil)))))))))))))))))))))))))))))))))))))))))))))))))))))))))))))))))))))))))))))))))))))))))))))))))))))))⟩

/-! A disk of one file -/

def one (s : ByteArray) (l : List Int) (n : Int) : List (Rec × Ob) := [([Fd.s s], fileOb l n)]

theorem err_one {dn : Bool} {s : ByteArray} {l : List Int} {n : Int} (hs : rightB s = true) : errF dn (one s l n) s = if dn = true then 2 else 0 := by
  unfold errF one
  simp [hs, hasE, getE]
theorem err_nil {s : ByteArray} (hs : rightB s = true) : errF false [] s = 41 := by
  unfold errF
  simp [hs, hasE, getE]
theorem ob_one (s : ByteArray) (l : List Int) (n : Int) : obE (one s l n) [Fd.s s] = fileOb l n := by simp [obE, one, getE]
theorem set_one (s : ByteArray) (l : List Int) (n : Int) (o : Ob) : setE (one s l n) [Fd.s s] o = [([Fd.s s], o)] := by simp [one, setE]
theorem safe_one (s : ByteArray) (l : List Int) (n : Int) : safeSum none (one s l n) = n := by
  unfold one
  rw [safeSum_cons, safeSum_nil]
  show n + 0 = n
  omega

/-- Bytes are put on a disk of one file. -/
theorem app_one {ro st fu n : Int} {s : ByteArray} {l b : List Int} (hs : rightB s = true) (h : l.length + b.length ≤ 4194304) :
    appendM (ro, st, fu, false, one s l n) s b = (if stV fu = true then 0 else 2, (ro, stSt fu st, stFu fu, stDn fu false, one s (l ++ b) n)) := by
  have he : DkT.err (ro, st, fu, false, one s l n) s = 0 := err_one hs
  have hd : fD (ro, st, fu, false, one s l n) s = l := by show obD (obE (one s l n) [Fd.s s]) = l; rw [ob_one]; rfl
  have hn : fS (ro, st, fu, false, one s l n) s = n := by show obS (obE (one s l n) [Fd.s s]) = n; rw [ob_one]; rfl
  unfold appendM
  rw [if_neg (by rw [he]; simp), if_neg (by rw [he]; simp), if_neg (by rw [hd]; omega), hd, hn]
  unfold stp
  simp only
  rw [set_one]
  rfl

theorem app_nil {ro st fu : Int} {s : ByteArray} {b : List Int} (hs : rightB s = true) (h : b.length ≤ 4194304) :
    appendM (ro, st, fu, false, []) s b = (if stV fu = true then 0 else 2, (ro, stSt fu st, stFu fu, stDn fu false, one s b 0)) := by
  have he : DkT.err (ro, st, fu, false, []) s = 41 := err_nil hs
  have hd : fD (ro, st, fu, false, []) s = [] := rfl
  have hn : fS (ro, st, fu, false, []) s = 0 := rfl
  unfold appendM
  rw [if_neg (by rw [he]; simp), if_neg (by show ¬ (_ ∧ 32 ≤ (0 : Nat)); omega), if_neg (by rw [hd]; simp; omega), hd, hn]
  rfl

theorem sync_one {ro st fu n : Int} {s : ByteArray} {l : List Int} (hs : rightB s = true) (h : (l.length : Int) ≤ ro) :
    syncM (ro, st, fu, false, one s l n) s = if stV fu = true then (0, (ro, stSt fu st, stFu fu, stDn fu false, one s l l.length)) else (2, (ro, stSt fu st, stFu fu, stDn fu false, one s l n)) := by
  have he : DkT.err (ro, st, fu, false, one s l n) s = 0 := err_one hs
  have hd : fD (ro, st, fu, false, one s l n) s = l := by show obD (obE (one s l n) [Fd.s s]) = l; rw [ob_one]; rfl
  have hn : fS (ro, st, fu, false, one s l n) s = n := by show obS (obE (one s l n) [Fd.s s]) = n; rw [ob_one]; rfl
  unfold syncM
  rw [if_neg (by rw [he]; simp), if_neg (by rw [hd, hn]; show ¬ (ro - safeSum none (one s l n) < _); rw [safe_one]; omega), hd]
  unfold stp
  simp only
  rw [set_one]
  rfl

theorem crash_one {ro st fu n : Int} {dn : Bool} {s : ByteArray} {l : List Int} (keep : List Int) :
    crashM (ro, st, fu, dn, one s l n) keep = (ro, st, 0, false, one s (l.take (n + crN keep 0 l n (ro - n)).toNat) (n + crN keep 0 l n (ro - n))) := by
  unfold crashM
  simp only
  have hk : sortK (one s l n) = [[Fd.s s]] := sortK_one s _
  rw [hk, safe_one]
  show (ro, st, 0, false, (crStep keep [[Fd.s s]] 0 (ro - n, one s l n)).2) = _
  unfold crStep
  have hr : recS (([[Fd.s s]] : List Rec).getD 0 []) 0 = s := rfl
  simp only [hr, ob_one]
  rw [set_one]
  rfl

theorem read_one {ro st fu n : Int} {s : ByteArray} {l : List Int} (hs : rightB s = true) : readM (ro, st, fu, false, one s l n) s = (0, l) := by
  have he : DkT.err (ro, st, fu, false, one s l n) s = 0 := err_one hs
  have hd : fD (ro, st, fu, false, one s l n) s = l := by show obD (obE (one s l n) [Fd.s s]) = l; rw [ob_one]; rfl
  unfold readM
  rw [if_neg (by rw [he]; simp), hd]

theorem crN_nil (k : Nat) (l : List Int) (s f : Int) : crN [] k l s f = 0 := if_neg (by simp)

abbrev cX : ByteArray := ⟨#[120]⟩
theorem right_x : rightB cX = true := by kernel_rfl

/-- What is there behind a loss of power, and behind another one. -/
theorem crash_twice {ro st fu n : Int} {dn : Bool} {s : ByteArray} {l : List Int} (hs : rightB s = true) (hn : 0 ≤ n) (hl : n ≤ (l.length : Int)) (hf : n ≤ ro) (keep : List Int) : ∃ m : Nat, n ≤ (m : Int) ∧ m ≤ l.length ∧ readM (crashM (ro, st, fu, dn, one s l n) keep) s = (0, l.take m) ∧
    readM (crashM (crashM (ro, st, fu, dn, one s l n) keep) []) s = (0, l.take m) := by
  obtain ⟨h1, h2, h3⟩ := crN_le (keep := keep) (k := 0) hl (show 0 ≤ ro - n by omega)
  refine ⟨(n + crN keep 0 l n (ro - n)).toNat, by omega, by omega, ?_, ?_⟩
  · rw [crash_one, read_one hs]
  · rw [crash_one, crash_one, read_one hs, crN_nil]
    rw [Int.add_zero, List.take_take, Nat.min_self]

theorem law_safe {a b c : List Int} {fu ke : Int} (_ : InB a) (ha : a.length ≤ 140737488351232) (_ : InB b) (hb : b.length ≤ 140737488351232) (_ : InB c) (hc : c.length ≤ 140737488351232) (hfu : InI64 fu) (_ : InI64 ke) :
    ∃ Γ, GamOK Try.prog DF Γ ∧ ∃ ds ps, runF Try.prog DF Γ 100 Try.f3 [.one (.words .u8 a), .one (.words .u8 b), .one (.words .u8 c), .one (.int .i64 false fu), .one (.int .i64 false ke)] ds = some (.v (.one (.bool true true)), ps) ∧ AllQ ps := by
  by_cases hbig : 65536 < a.length + b.length + c.length
  · obtain ⟨ps, h1, h2⟩ := sf_big a b c fu ke ⟨by omega, by omega⟩ ⟨by omega, by omega⟩ (decide_eq_true (by omega))
    exact ⟨_, gDh_ok, _, ps, h1, h2⟩
  have hcl : clampR 4194304 = 4194304 := by decide
  have o0 : OkN (clampR 4194304, 0, 0, false, []) 0 := ⟨okd_new 4194304, Int.le_refl _⟩
  have o1 := o0.nxt (append_nxt o0.1 cX a)
  have o2 := o1.nxt (sync_nxt o1.1 cX)
  have o3 := o2.nxt (fuse_nxt o2.1 (n := fu) hfu.2)
  have o4 := o3.nxt (append_nxt o3.1 cX b)
  have o5 := o4.nxt (append_nxt o4.1 cX c)
  have c4 := crash_ok0 o4.1 [ke]
  have c5 := crash_ok0 o5.1 [ke]
  have d4 := crash_ok0 c4 []
  have d5 := crash_ok0 c5 []
  have e1 : appendM (clampR 4194304, 0, 0, false, []) cX a = (0, (4194304, 1, 0, false, one cX a 0)) := by
    rw [hcl, app_nil right_x (by omega)]
    rfl
  have e2 : syncM (4194304, 1, 0, false, one cX a 0) cX = (0, (4194304, 2, 0, false, one cX a a.length)) := by
    rw [sync_one right_x (by omega)]
    rfl
  have hf1 : (fuseM (4194304, 2, 0, false, one cX a a.length) fu) = (4194304, 2, mxF fu, false, one cX a a.length) := rfl
  have e3 : appendM (4194304, 2, mxF fu, false, one cX a a.length) cX b = (if stV (mxF fu) = true then 0 else 2, (4194304, stSt (mxF fu) 2, stFu (mxF fu), stDn (mxF fu) false, one cX (a ++ b) a.length)) := app_one right_x (by omega)
  by_cases h1 : mxF fu = 1
  · have hv : stV (mxF fu) = false := by rw [h1]; rfl
    rw [if_neg (by rw [hv]; decide)] at e3
    obtain ⟨m, m1, m2, m3, m4⟩ := crash_twice (ro := 4194304) (st := stSt (mxF fu) 2) (fu := stFu (mxF fu)) (dn := stDn (mxF fu) false) (s := cX) (l := a ++ b) (n := a.length) right_x (by omega) (by rw [List.length_append]; omega) (by omega) [ke]
    rw [List.length_append] at m2
    have htk : (a ++ b ++ c).take m = (a ++ b).take m := by rw [List.take_append_of_le_length (by rw [List.length_append]; omega)]
    have hmm : min m (a.length + b.length) = m := by omega
    obtain ⟨ps, p1, p2⟩ : ∃ ps, runF Try.prog DF gDh 100 Try.f3 [.one (.words .u8 a), .one (.words .u8 b), .one (.words .u8 c), .one (.int .i64 false fu), .one (.int .i64 false ke)] _ = some (.v (.one (.bool true true)), ps) ∧ AllQ ps := by
      apply sf_A a b c fu ke
      all_goals try simp only [sf_A_x1, sf_A_x2, sf_A_x3, sf_A_x4, sf_A_x5, sf_A_x6]
      all_goals first
        | omega
        | exact ⟨by omega, by omega⟩
        | exact o0.dk (by decide)
        | exact o1.dk (by decide)
        | exact o3.dk (by decide)
        | exact o4.1
        | exact c4
        | exact d4
        | (simp only [e1, e2, hf1, e3]; done)
        | (simp only [e1, e2, hf1, e3]; rfl)
        | (simp only [e1, e2, hf1, e3, m3, m4, decide_eq_false_iff_not, decide_eq_true_eq, List.length_take, List.length_append, Int.toNat_natCast, hmm, htk]; first | done | rfl | omega)
        | (simp only [List.length_append, List.length_take]; omega)
    exact ⟨_, gDh_ok, _, ps, p1, p2⟩
  · have hv : stV (mxF fu) = true := by unfold stV; rw [if_neg h1]
    have hdn : stDn (mxF fu) false = false := by unfold stDn; rw [if_neg h1]
    rw [if_pos hv, hdn] at e3
    generalize hst : stSt (mxF fu) 2 = st at e3
    generalize hfu' : stFu (mxF fu) = fu' at e3
    have e4 : appendM (4194304, st, fu', false, one cX (a ++ b) a.length) cX c = (if stV fu' = true then 0 else 2, (4194304, stSt fu' st, stFu fu', stDn fu' false, one cX (a ++ b ++ c) a.length)) := app_one right_x (by rw [List.length_append]; omega)
    obtain ⟨m, m1, m2, m3, m4⟩ := crash_twice (ro := 4194304) (st := stSt fu' st) (fu := stFu fu') (dn := stDn fu' false) (s := cX) (l := a ++ b ++ c) (n := a.length) right_x (by omega) (by rw [List.length_append, List.length_append]; omega) (by omega) [ke]
    rw [List.length_append, List.length_append] at m2
    have hmm : min m (a.length + b.length + c.length) = m := by omega
    by_cases h2 : stV fu' = true
    · rw [if_pos h2] at e4
      obtain ⟨ps, p1, p2⟩ : ∃ ps, runF Try.prog DF gDh 100 Try.f3 [.one (.words .u8 a), .one (.words .u8 b), .one (.words .u8 c), .one (.int .i64 false fu), .one (.int .i64 false ke)] _ = some (.v (.one (.bool true true)), ps) ∧ AllQ ps := by
        apply sf_B a b c fu ke
        all_goals try simp only [sf_B_x1, sf_B_x2, sf_B_x3, sf_B_x4, sf_B_x5, sf_B_x6, sf_B_x7, sf_B_x8]
        all_goals first
          | omega
          | exact ⟨by omega, by omega⟩
          | exact o0.dk (by decide)
          | exact o1.dk (by decide)
          | exact o3.dk (by decide)
          | exact o4.dk (by decide)
          | exact o5.1
          | exact c5
          | exact d5
          | (simp only [e1, e2, hf1, e3]; done)
          | (simp only [e1, e2, hf1, e3, e4]; rfl)
          | (simp only [e1, e2, hf1, e3, e4, m3, m4, decide_eq_false_iff_not, decide_eq_true_eq, List.length_take, List.length_append, Int.toNat_natCast, hmm]; first | done | rfl | omega)
          | (simp only [List.length_append, List.length_take]; omega)
      exact ⟨_, gDh_ok, _, ps, p1, p2⟩
    · rw [if_neg h2] at e4
      obtain ⟨ps, p1, p2⟩ : ∃ ps, runF Try.prog DF gDh 100 Try.f3 [.one (.words .u8 a), .one (.words .u8 b), .one (.words .u8 c), .one (.int .i64 false fu), .one (.int .i64 false ke)] _ = some (.v (.one (.bool true true)), ps) ∧ AllQ ps := by
        apply sf_C a b c fu ke
        all_goals try simp only [sf_C_x1, sf_C_x2, sf_C_x3, sf_C_x4, sf_C_x5, sf_C_x6, sf_C_x7]
        all_goals first
          | omega
          | exact ⟨by omega, by omega⟩
          | exact o0.dk (by decide)
          | exact o1.dk (by decide)
          | exact o3.dk (by decide)
          | exact o4.dk (by decide)
          | exact o5.1
          | exact c5
          | exact d5
          | (simp only [e1, e2, hf1, e3]; done)
          | (simp only [e1, e2, hf1, e3, e4]; rfl)
          | (simp only [e1, e2, hf1, e3, e4, m3, m4, decide_eq_false_iff_not, decide_eq_true_eq, List.length_take, List.length_append, Int.toNat_natCast, hmm]; first | done | rfl | omega)
          | (simp only [List.length_append, List.length_take]; omega)
      exact ⟨_, gDh_ok, _, ps, p1, p2⟩

end Go.Num
