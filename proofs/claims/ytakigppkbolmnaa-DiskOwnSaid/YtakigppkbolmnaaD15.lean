/- Disk: DiskFull: the runs. -/
import Derived.Test.YtakigppkbolmnaaD14
import Derived.Test.YtakigppkbolmnaaR1
namespace Go.Num
open Go.Abs Go.Proofs Go.Shelf Go.RowKit

noncomputable def gDf : Gam DF := (19, .fn same17D) :: gDh
theorem gDf_ok : GamOK Try.prog DF gDf := gam_cons same17_ok gDh_ok

theorem fl_a (ro : Int) (a b : List Int)
 (h1 : ((List.length a) ≤ (281474976710656 : Nat)))
 (h2 : (Go.Num.DkOK ((Go.Num.clampR ro), ((0 : Int), ((0 : Int), (Bool.false, ([] : List (Rec × Ob))))))))
 (h3 : ((List.length a) ≤ (4611686018427387904 : Nat)))
 (h4 : ((((Go.Num.appendM ((Go.Num.clampR ro), ((0 : Int), ((0 : Int), (Bool.false, ([] : List (Rec × Ob)))))) (ByteArray.mk (Array.mk [(97 : UInt8)])) a)).1 != (0 : Int)) = Bool.true))
 (h5 : ((decide ((((List.length a) : Nat) : Int) > (4194304 : Int))) = Bool.true)) :
 ∃ ps, runF Try.prog DF gDf 100 Try.f4 [.one (.int .i64 false ro), .one (.words .u8 a), .one (.words .u8 b)] [.is true, .is true] = some ((Go.Abs.AV.v (Go.Abs.A0.one (Go.Abs.Part.bool Bool.true Bool.true))), ps) ∧ AllQ ps := ⟨_, by kernel_rfl, allQ_cons (show (ro = ro) from rfl) (allQ_cons h1 (allQ_cons (show ((ByteArray.mk (Array.mk [(97 : UInt8)])) = (ByteArray.mk (Array.mk [(97 : UInt8)]))) from rfl) (allQ_cons (show (a = a) from rfl) (allQ_cons (show ((Go.Num.clampR ro) = (Go.Num.clampR ro)) from rfl) (allQ_cons (show ((0 : Int) = (0 : Int)) from rfl) (allQ_cons (show ((0 : Int) = (0 : Int)) from rfl) (allQ_cons (show (Bool.false = Bool.false) from rfl) (allQ_cons (show (([] : List (Rec × Ob)) = ([] : List (Rec × Ob))) from rfl) (allQ_cons h2 (allQ_cons (show ((1 : Nat) ≤ (9223372036854775807 : Nat)) from by decide) (allQ_cons h3 (allQ_cons h4 (allQ_cons h5 (allQ_nil))))))))))))))⟩

abbrev fl_b_x1 (ro : Int) (a : List Int) := ((Go.Num.appendM ((Go.Num.clampR ro), ((0 : Int), ((0 : Int), (Bool.false, ([] : List (Rec × Ob)))))) (ByteArray.mk (Array.mk [(97 : UInt8)])) a))
theorem fl_b (ro : Int) (a b : List Int)
 (h1 : ((List.length a) ≤ (281474976710656 : Nat)))
 (h2 : (Go.Num.DkOK ((Go.Num.clampR ro), ((0 : Int), ((0 : Int), (Bool.false, ([] : List (Rec × Ob))))))))
 (h3 : ((List.length a) ≤ (4611686018427387904 : Nat)))
 (h4 : (((fl_b_x1 ro a).1 != (0 : Int)) = Bool.false))
 (h5 : ((List.length b) ≤ (281474976710656 : Nat)))
 (h6 : (Go.Num.DkOK (fl_b_x1 ro a).2))
 (h7 : ((List.length b) ≤ (4611686018427387904 : Nat)))
 (h8 : ((((Go.Num.appendM (fl_b_x1 ro a).2 (ByteArray.mk (Array.mk [(98 : UInt8)])) b)).1 != (0 : Int)) = Bool.true))
 (h9 : ((decide ((((List.length a) : Nat) : Int) > (4194304 : Int))) = Bool.false))
 (h10 : ((decide ((((List.length b) : Nat) : Int) > (4194304 : Int))) = Bool.true)) :
 ∃ ps, runF Try.prog DF gDf 100 Try.f4 [.one (.int .i64 false ro), .one (.words .u8 a), .one (.words .u8 b)] [.is false, .is true, .is false, .is true] = some ((Go.Abs.AV.v (Go.Abs.A0.one (Go.Abs.Part.bool Bool.true Bool.true))), ps) ∧ AllQ ps := ⟨_, by kernel_rfl, allQ_cons (show (ro = ro) from rfl) (allQ_cons h1 (allQ_cons (show ((ByteArray.mk (Array.mk [(97 : UInt8)])) = (ByteArray.mk (Array.mk [(97 : UInt8)]))) from rfl) (allQ_cons (show (a = a) from rfl) (allQ_cons (show ((Go.Num.clampR ro) = (Go.Num.clampR ro)) from rfl) (allQ_cons (show ((0 : Int) = (0 : Int)) from rfl) (allQ_cons (show ((0 : Int) = (0 : Int)) from rfl) (allQ_cons (show (Bool.false = Bool.false) from rfl) (allQ_cons (show (([] : List (Rec × Ob)) = ([] : List (Rec × Ob))) from rfl) (allQ_cons h2 (allQ_cons (show ((1 : Nat) ≤ (9223372036854775807 : Nat)) from by decide) (allQ_cons h3 (allQ_cons h4 (allQ_cons h5 (allQ_cons (show ((ByteArray.mk (Array.mk [(98 : UInt8)])) = (ByteArray.mk (Array.mk [(98 : UInt8)]))) from rfl) (allQ_cons (show (b = b) from rfl) (allQ_cons (show (((fl_b_x1 ro a).2).1 = ((fl_b_x1 ro a).2).1) from rfl) (allQ_cons (show ((((fl_b_x1 ro a).2).2).1 = (((fl_b_x1 ro a).2).2).1) from rfl) (allQ_cons (show (((((fl_b_x1 ro a).2).2).2).1 = ((((fl_b_x1 ro a).2).2).2).1) from rfl) (allQ_cons (show ((((((fl_b_x1 ro a).2).2).2).2).1 = (((((fl_b_x1 ro a).2).2).2).2).1) from rfl) (allQ_cons (show ((((((fl_b_x1 ro a).2).2).2).2).2 = (((((fl_b_x1 ro a).2).2).2).2).2) from rfl) (allQ_cons h6 (allQ_cons (show ((1 : Nat) ≤ (9223372036854775807 : Nat)) from by decide) (allQ_cons h7 (allQ_cons h8 (allQ_cons h9 (allQ_cons h10 (allQ_nil)))))))))))))))))))))))))))⟩

abbrev fl_A0_x1 (ro : Int) (a b : List Int) := ((Go.Num.appendM ((Go.Num.appendM ((Go.Num.clampR ro), ((0 : Int), ((0 : Int), (Bool.false, ([] : List (Rec × Ob)))))) (ByteArray.mk (Array.mk [(97 : UInt8)])) a)).2 (ByteArray.mk (Array.mk [(98 : UInt8)])) b))
abbrev fl_A0_x2 (ro : Int) (a b : List Int) := (Go.Num.syncM (fl_A0_x1 ro a b).2 (ByteArray.mk (Array.mk [(97 : UInt8)])))
abbrev fl_A0_x3 (ro : Int) (a : List Int) := ((Go.Num.appendM ((Go.Num.clampR ro), ((0 : Int), ((0 : Int), (Bool.false, ([] : List (Rec × Ob)))))) (ByteArray.mk (Array.mk [(97 : UInt8)])) a))
theorem fl_A0 (ro : Int) (a b : List Int)
 (h1 : ((List.length a) ≤ (281474976710656 : Nat)))
 (h2 : (Go.Num.DkOK ((Go.Num.clampR ro), ((0 : Int), ((0 : Int), (Bool.false, ([] : List (Rec × Ob))))))))
 (h3 : ((List.length a) ≤ (4611686018427387904 : Nat)))
 (h4 : (((fl_A0_x3 ro a).1 != (0 : Int)) = Bool.false))
 (h5 : ((List.length b) ≤ (281474976710656 : Nat)))
 (h6 : (Go.Num.DkOK (fl_A0_x3 ro a).2))
 (h7 : ((List.length b) ≤ (4611686018427387904 : Nat)))
 (h8 : (((fl_A0_x1 ro a b).1 != (0 : Int)) = Bool.false))
 (h9 : (Go.Num.FreeOK (Option.none) (((((fl_A0_x1 ro a b).2).2).2).2).2 ((fl_A0_x1 ro a b).2).1))
 (h10 : (Go.Num.DkOK (fl_A0_x1 ro a b).2))
 (h11 : (((fl_A0_x2 ro a b).1 == (0 : Int)) = Bool.true))
 (h12 : ((decide ((((List.length a) : Nat) : Int) ≤ (((fl_A0_x1 ro a b).2).1 - (Go.Num.safeSum (Option.none) (((((fl_A0_x1 ro a b).2).2).2).2).2)))) = Bool.true))
 (h13 : (((fl_A0_x2 ro a b).1 != (0 : Int)) = Bool.false))
 (h14 : (Go.Num.Okd (fl_A0_x2 ro a b).2))
 (h15 : (Go.Num.DkOK (fl_A0_x2 ro a b).2))
 (h16 : ((((Go.Num.syncM (fl_A0_x2 ro a b).2 (ByteArray.mk (Array.mk [(98 : UInt8)])))).1 == (42 : Int)) = Bool.false))
 (h17 : ((((Go.Num.syncM (fl_A0_x2 ro a b).2 (ByteArray.mk (Array.mk [(98 : UInt8)])))).1 == (0 : Int)) = Bool.true))
 (h18 : (Go.Num.FreeOK (Option.none) ((((((Go.Num.syncM (fl_A0_x2 ro a b).2 (ByteArray.mk (Array.mk [(98 : UInt8)])))).2).2).2).2).2 (((Go.Num.syncM (fl_A0_x2 ro a b).2 (ByteArray.mk (Array.mk [(98 : UInt8)])))).2).1))
 (h19 : ((decide (((((Go.Num.syncM (fl_A0_x2 ro a b).2 (ByteArray.mk (Array.mk [(98 : UInt8)])))).2).1 - (Go.Num.safeSum (Option.none) ((((((Go.Num.syncM (fl_A0_x2 ro a b).2 (ByteArray.mk (Array.mk [(98 : UInt8)])))).2).2).2).2).2)) ≥ (0 : Int))) = Bool.true)) :
 ∃ ps, runF Try.prog DF gDf 100 Try.f4 [.one (.int .i64 false ro), .one (.words .u8 a), .one (.words .u8 b)] [.is false, .is false, .is true, .is true, .is false, .is false, .is true, .is true] = some ((Go.Abs.AV.v (Go.Abs.A0.one (Go.Abs.Part.bool Bool.true Bool.true))), ps) ∧ AllQ ps := ⟨_, by kernel_rfl, allQ_cons (show (ro = ro) from rfl) (allQ_cons h1 (allQ_cons (show ((ByteArray.mk (Array.mk [(97 : UInt8)])) = (ByteArray.mk (Array.mk [(97 : UInt8)]))) from rfl) (allQ_cons (show (a = a) from rfl) (allQ_cons (show ((Go.Num.clampR ro) = (Go.Num.clampR ro)) from rfl) (allQ_cons (show ((0 : Int) = (0 : Int)) from rfl) (allQ_cons (show ((0 : Int) = (0 : Int)) from rfl) (allQ_cons (show (Bool.false = Bool.false) from rfl) (allQ_cons (show (([] : List (Rec × Ob)) = ([] : List (Rec × Ob))) from rfl) (allQ_cons h2 (allQ_cons (show ((1 : Nat) ≤ (9223372036854775807 : Nat)) from by decide) (allQ_cons h3 (allQ_cons h4 (allQ_cons h5 (allQ_cons (show ((ByteArray.mk (Array.mk [(98 : UInt8)])) = (ByteArray.mk (Array.mk [(98 : UInt8)]))) from rfl) (allQ_cons (show (b = b) from rfl) (allQ_cons (show (((fl_A0_x3 ro a).2).1 = ((fl_A0_x3 ro a).2).1) from rfl) (allQ_cons (show ((((fl_A0_x3 ro a).2).2).1 = (((fl_A0_x3 ro a).2).2).1) from rfl) (allQ_cons (show (((((fl_A0_x3 ro a).2).2).2).1 = ((((fl_A0_x3 ro a).2).2).2).1) from rfl) (allQ_cons (show ((((((fl_A0_x3 ro a).2).2).2).2).1 = (((((fl_A0_x3 ro a).2).2).2).2).1) from rfl) (allQ_cons (show ((((((fl_A0_x3 ro a).2).2).2).2).2 = (((((fl_A0_x3 ro a).2).2).2).2).2) from rfl) (allQ_cons h6 (allQ_cons (show ((1 : Nat) ≤ (9223372036854775807 : Nat)) from by decide) (allQ_cons h7 (allQ_cons h8 (allQ_cons h9 (allQ_cons (show ((ByteArray.mk (Array.mk [(97 : UInt8)])) = (ByteArray.mk (Array.mk [(97 : UInt8)]))) from rfl) (allQ_cons (show (((fl_A0_x1 ro a b).2).1 = ((fl_A0_x1 ro a b).2).1) from rfl) (allQ_cons (show ((((fl_A0_x1 ro a b).2).2).1 = (((fl_A0_x1 ro a b).2).2).1) from rfl) (allQ_cons (show (((((fl_A0_x1 ro a b).2).2).2).1 = ((((fl_A0_x1 ro a b).2).2).2).1) from rfl) (allQ_cons (show ((((((fl_A0_x1 ro a b).2).2).2).2).1 = (((((fl_A0_x1 ro a b).2).2).2).2).1) from rfl) (allQ_cons (show ((((((fl_A0_x1 ro a b).2).2).2).2).2 = (((((fl_A0_x1 ro a b).2).2).2).2).2) from rfl) (allQ_cons h10 (allQ_cons (show ((1 : Nat) ≤ (9223372036854775807 : Nat)) from by decide) (allQ_cons h11 (allQ_cons h12 (allQ_cons h13 (allQ_cons (show (((fl_A0_x2 ro a b).2).1 = ((fl_A0_x2 ro a b).2).1) from rfl) (allQ_cons (show ((((fl_A0_x2 ro a b).2).2).1 = (((fl_A0_x2 ro a b).2).2).1) from rfl) (allQ_cons (show (((((fl_A0_x2 ro a b).2).2).2).1 = ((((fl_A0_x2 ro a b).2).2).2).1) from rfl) (allQ_cons (show ((((((fl_A0_x2 ro a b).2).2).2).2).1 = (((((fl_A0_x2 ro a b).2).2).2).2).1) from rfl) (allQ_cons (show ((((((fl_A0_x2 ro a b).2).2).2).2).2 = (((((fl_A0_x2 ro a b).2).2).2).2).2) from rfl) (allQ_cons h14 (allQ_cons (show ((ByteArray.mk (Array.mk [(98 : UInt8)])) = (ByteArray.mk (Array.mk [(98 : UInt8)]))) from rfl) (allQ_cons (show (((fl_A0_x2 ro a b).2).1 = ((fl_A0_x2 ro a b).2).1) from rfl) (allQ_cons (show ((((fl_A0_x2 ro a b).2).2).1 = (((fl_A0_x2 ro a b).2).2).1) from rfl) (allQ_cons (show (((((fl_A0_x2 ro a b).2).2).2).1 = ((((fl_A0_x2 ro a b).2).2).2).1) from rfl) (allQ_cons (show ((((((fl_A0_x2 ro a b).2).2).2).2).1 = (((((fl_A0_x2 ro a b).2).2).2).2).1) from rfl) (allQ_cons (show ((((((fl_A0_x2 ro a b).2).2).2).2).2 = (((((fl_A0_x2 ro a b).2).2).2).2).2) from rfl) (allQ_cons h15 (allQ_cons (show ((1 : Nat) ≤ (9223372036854775807 : Nat)) from by decide) (allQ_cons h16 (allQ_cons h17 (allQ_cons h18 (allQ_cons h19 (allQ_nil)))))))))))))))))))))))))))))))))))))))))))))))))))))))⟩

abbrev fl_A1_x1 (ro : Int) (a b : List Int) := ((Go.Num.syncM ((Go.Num.syncM ((Go.Num.appendM ((Go.Num.appendM ((Go.Num.clampR ro), ((0 : Int), ((0 : Int), (Bool.false, ([] : List (Rec × Ob)))))) (ByteArray.mk (Array.mk [(97 : UInt8)])) a)).2 (ByteArray.mk (Array.mk [(98 : UInt8)])) b)).2 (ByteArray.mk (Array.mk [(97 : UInt8)])))).2 (ByteArray.mk (Array.mk [(98 : UInt8)]))))
abbrev fl_A1_x2 (ro : Int) (a b : List Int) := (Go.Num.cutM ((Go.Num.dropM (fl_A1_x1 ro a b).2 (ByteArray.mk (Array.mk [(97 : UInt8)])))).2 (ByteArray.mk (Array.mk [(98 : UInt8)])) (if (((((Go.Num.dropM (fl_A1_x1 ro a b).2 (ByteArray.mk (Array.mk [(97 : UInt8)])))).2).1 - (Go.Num.safeSum (Option.none) ((((((Go.Num.dropM (fl_A1_x1 ro a b).2 (ByteArray.mk (Array.mk [(97 : UInt8)])))).2).2).2).2).2)) < (((List.length b) : Nat) : Int)) then ((((Go.Num.dropM (fl_A1_x1 ro a b).2 (ByteArray.mk (Array.mk [(97 : UInt8)])))).2).1 - (Go.Num.safeSum (Option.none) ((((((Go.Num.dropM (fl_A1_x1 ro a b).2 (ByteArray.mk (Array.mk [(97 : UInt8)])))).2).2).2).2).2)) else (((List.length b) : Nat) : Int)))
abbrev fl_A1_x3 (ro : Int) (a b : List Int) := ((Go.Num.appendM ((Go.Num.appendM ((Go.Num.clampR ro), ((0 : Int), ((0 : Int), (Bool.false, ([] : List (Rec × Ob)))))) (ByteArray.mk (Array.mk [(97 : UInt8)])) a)).2 (ByteArray.mk (Array.mk [(98 : UInt8)])) b))
abbrev fl_A1_x4 (ro : Int) (a b : List Int) := (Go.Num.syncM (fl_A1_x3 ro a b).2 (ByteArray.mk (Array.mk [(97 : UInt8)])))
abbrev fl_A1_x5 (ro : Int) (a : List Int) := ((Go.Num.appendM ((Go.Num.clampR ro), ((0 : Int), ((0 : Int), (Bool.false, ([] : List (Rec × Ob)))))) (ByteArray.mk (Array.mk [(97 : UInt8)])) a))
abbrev fl_A1_x6 (ro : Int) (a b : List Int) := (Go.Num.dropM (fl_A1_x1 ro a b).2 (ByteArray.mk (Array.mk [(97 : UInt8)])))
theorem fl_A1 (ro : Int) (a b : List Int)
 (h1 : ((List.length a) ≤ (281474976710656 : Nat)))
 (h2 : (Go.Num.DkOK ((Go.Num.clampR ro), ((0 : Int), ((0 : Int), (Bool.false, ([] : List (Rec × Ob))))))))
 (h3 : ((List.length a) ≤ (4611686018427387904 : Nat)))
 (h4 : (((fl_A1_x5 ro a).1 != (0 : Int)) = Bool.false))
 (h5 : ((List.length b) ≤ (281474976710656 : Nat)))
 (h6 : (Go.Num.DkOK (fl_A1_x5 ro a).2))
 (h7 : ((List.length b) ≤ (4611686018427387904 : Nat)))
 (h8 : (((fl_A1_x3 ro a b).1 != (0 : Int)) = Bool.false))
 (h9 : (Go.Num.FreeOK (Option.none) (((((fl_A1_x3 ro a b).2).2).2).2).2 ((fl_A1_x3 ro a b).2).1))
 (h10 : (Go.Num.DkOK (fl_A1_x3 ro a b).2))
 (h11 : (((fl_A1_x4 ro a b).1 == (0 : Int)) = Bool.true))
 (h12 : ((decide ((((List.length a) : Nat) : Int) ≤ (((fl_A1_x3 ro a b).2).1 - (Go.Num.safeSum (Option.none) (((((fl_A1_x3 ro a b).2).2).2).2).2)))) = Bool.true))
 (h13 : (((fl_A1_x4 ro a b).1 != (0 : Int)) = Bool.false))
 (h14 : (Go.Num.Okd (fl_A1_x4 ro a b).2))
 (h15 : (Go.Num.DkOK (fl_A1_x4 ro a b).2))
 (h16 : (((fl_A1_x1 ro a b).1 == (42 : Int)) = Bool.true))
 (h17 : (Go.Num.Okd (fl_A1_x1 ro a b).2))
 (h18 : ((decide ((List.map (canonR) (Go.Num.imageM (((((fl_A1_x1 ro a b).2).2).2).2).2)) = (List.map (canonR) (Go.Num.imageM (((((fl_A1_x4 ro a b).2).2).2).2).2)))) = Bool.true))
 (h19 : (Go.Num.RowsOK (Go.Num.imageM (((((fl_A1_x1 ro a b).2).2).2).2).2)))
 (h20 : (Go.Num.RowsOK (Go.Num.imageM (((((fl_A1_x4 ro a b).2).2).2).2).2)))
 (h21 : (Go.Num.FreeOK (Option.none) (((((fl_A1_x1 ro a b).2).2).2).2).2 ((fl_A1_x1 ro a b).2).1))
 (h22 : ((decide ((((List.length b) : Nat) : Int) ≤ (((fl_A1_x1 ro a b).2).1 - (Go.Num.safeSum (Option.none) (((((fl_A1_x1 ro a b).2).2).2).2).2)))) = Bool.false))
 (h23 : (Go.Num.DkOK (fl_A1_x1 ro a b).2))
 (h24 : (((fl_A1_x6 ro a b).1 != (0 : Int)) = Bool.false))
 (h25 : (Go.Num.FreeOK (Option.none) (((((fl_A1_x6 ro a b).2).2).2).2).2 ((fl_A1_x6 ro a b).2).1))
 (h26 : (Go.Num.DkOK (fl_A1_x6 ro a b).2))
 (h27 : (((fl_A1_x2 ro a b).1 != (0 : Int)) = Bool.false))
 (h28 : (Go.Num.DkOK (fl_A1_x2 ro a b).2))
 (h29 : ((((Go.Num.syncM (fl_A1_x2 ro a b).2 (ByteArray.mk (Array.mk [(98 : UInt8)])))).1 == (0 : Int)) = Bool.true))
 (h30 : (Go.Num.FreeOK (Option.none) ((((((Go.Num.syncM (fl_A1_x2 ro a b).2 (ByteArray.mk (Array.mk [(98 : UInt8)])))).2).2).2).2).2 (((Go.Num.syncM (fl_A1_x2 ro a b).2 (ByteArray.mk (Array.mk [(98 : UInt8)])))).2).1))
 (h31 : ((decide (((((Go.Num.syncM (fl_A1_x2 ro a b).2 (ByteArray.mk (Array.mk [(98 : UInt8)])))).2).1 - (Go.Num.safeSum (Option.none) ((((((Go.Num.syncM (fl_A1_x2 ro a b).2 (ByteArray.mk (Array.mk [(98 : UInt8)])))).2).2).2).2).2)) ≥ (0 : Int))) = Bool.true)) :
 ∃ ps, runF Try.prog DF gDf 100 Try.f4 [.one (.int .i64 false ro), .one (.words .u8 a), .one (.words .u8 b)] [.is false, .is false, .is true, .is true, .is false, .is true, .is true, .is false, .is false, .is false, .is true, .is true] = some ((Go.Abs.AV.v (Go.Abs.A0.one (Go.Abs.Part.bool Bool.true Bool.true))), ps) ∧ AllQ ps := ⟨_, by kernel_rfl, allQ_cons (show (ro = ro) from rfl) (allQ_cons h1 (allQ_cons (show ((ByteArray.mk (Array.mk [(97 : UInt8)])) = (ByteArray.mk (Array.mk [(97 : UInt8)]))) from rfl) (allQ_cons (show (a = a) from rfl) (allQ_cons (show ((Go.Num.clampR ro) = (Go.Num.clampR ro)) from rfl) (allQ_cons (show ((0 : Int) = (0 : Int)) from rfl) (allQ_cons (show ((0 : Int) = (0 : Int)) from rfl) (allQ_cons (show (Bool.false = Bool.false) from rfl) (allQ_cons (show (([] : List (Rec × Ob)) = ([] : List (Rec × Ob))) from rfl) (allQ_cons h2 (allQ_cons (show ((1 : Nat) ≤ (9223372036854775807 : Nat)) from by decide) (allQ_cons h3 (allQ_cons h4 (allQ_cons h5 (allQ_cons (show ((ByteArray.mk (Array.mk [(98 : UInt8)])) = (ByteArray.mk (Array.mk [(98 : UInt8)]))) from rfl) (allQ_cons (show (b = b) from rfl) (allQ_cons (show (((fl_A1_x5 ro a).2).1 = ((fl_A1_x5 ro a).2).1) from rfl) (allQ_cons (show ((((fl_A1_x5 ro a).2).2).1 = (((fl_A1_x5 ro a).2).2).1) from rfl) (allQ_cons (show (((((fl_A1_x5 ro a).2).2).2).1 = ((((fl_A1_x5 ro a).2).2).2).1) from rfl) (allQ_cons (show ((((((fl_A1_x5 ro a).2).2).2).2).1 = (((((fl_A1_x5 ro a).2).2).2).2).1) from rfl) (allQ_cons (show ((((((fl_A1_x5 ro a).2).2).2).2).2 = (((((fl_A1_x5 ro a).2).2).2).2).2) from rfl) (allQ_cons h6 (allQ_cons (show ((1 : Nat) ≤ (9223372036854775807 : Nat)) from by decide) (allQ_cons h7 (allQ_cons h8 (allQ_cons h9 (allQ_cons (show ((ByteArray.mk (Array.mk [(97 : UInt8)])) = (ByteArray.mk (Array.mk [(97 : UInt8)]))) from rfl) (allQ_cons (show (((fl_A1_x3 ro a b).2).1 = ((fl_A1_x3 ro a b).2).1) from rfl) (allQ_cons (show ((((fl_A1_x3 ro a b).2).2).1 = (((fl_A1_x3 ro a b).2).2).1) from rfl) (allQ_cons (show (((((fl_A1_x3 ro a b).2).2).2).1 = ((((fl_A1_x3 ro a b).2).2).2).1) from rfl) (allQ_cons (show ((((((fl_A1_x3 ro a b).2).2).2).2).1 = (((((fl_A1_x3 ro a b).2).2).2).2).1) from rfl) (allQ_cons (show ((((((fl_A1_x3 ro a b).2).2).2).2).2 = (((((fl_A1_x3 ro a b).2).2).2).2).2) from rfl) (allQ_cons h10 (allQ_cons (show ((1 : Nat) ≤ (9223372036854775807 : Nat)) from by decide) (allQ_cons h11 (allQ_cons h12 (allQ_cons h13 (allQ_cons (show (((fl_A1_x4 ro a b).2).1 = ((fl_A1_x4 ro a b).2).1) from rfl) (allQ_cons (show ((((fl_A1_x4 ro a b).2).2).1 = (((fl_A1_x4 ro a b).2).2).1) from rfl) (allQ_cons (show (((((fl_A1_x4 ro a b).2).2).2).1 = ((((fl_A1_x4 ro a b).2).2).2).1) from rfl) (allQ_cons (show ((((((fl_A1_x4 ro a b).2).2).2).2).1 = (((((fl_A1_x4 ro a b).2).2).2).2).1) from rfl) (allQ_cons (show ((((((fl_A1_x4 ro a b).2).2).2).2).2 = (((((fl_A1_x4 ro a b).2).2).2).2).2) from rfl) (allQ_cons h14 (allQ_cons (show ((ByteArray.mk (Array.mk [(98 : UInt8)])) = (ByteArray.mk (Array.mk [(98 : UInt8)]))) from rfl) (allQ_cons (show (((fl_A1_x4 ro a b).2).1 = ((fl_A1_x4 ro a b).2).1) from rfl) (allQ_cons (show ((((fl_A1_x4 ro a b).2).2).1 = (((fl_A1_x4 ro a b).2).2).1) from rfl) (allQ_cons (show (((((fl_A1_x4 ro a b).2).2).2).1 = ((((fl_A1_x4 ro a b).2).2).2).1) from rfl) (allQ_cons (show ((((((fl_A1_x4 ro a b).2).2).2).2).1 = (((((fl_A1_x4 ro a b).2).2).2).2).1) from rfl) (allQ_cons (show ((((((fl_A1_x4 ro a b).2).2).2).2).2 = (((((fl_A1_x4 ro a b).2).2).2).2).2) from rfl) (allQ_cons h15 (allQ_cons (show ((1 : Nat) ≤ (9223372036854775807 : Nat)) from by decide) (allQ_cons h16 (allQ_cons (show (((fl_A1_x1 ro a b).2).1 = ((fl_A1_x1 ro a b).2).1) from rfl) (allQ_cons (show ((((fl_A1_x1 ro a b).2).2).1 = (((fl_A1_x1 ro a b).2).2).1) from rfl) (allQ_cons (show (((((fl_A1_x1 ro a b).2).2).2).1 = ((((fl_A1_x1 ro a b).2).2).2).1) from rfl) (allQ_cons (show ((((((fl_A1_x1 ro a b).2).2).2).2).1 = (((((fl_A1_x1 ro a b).2).2).2).2).1) from rfl) (allQ_cons (show ((((((fl_A1_x1 ro a b).2).2).2).2).2 = (((((fl_A1_x1 ro a b).2).2).2).2).2) from rfl) (allQ_cons h17 (allQ_cons h18 (allQ_cons h19 (allQ_cons h20 (allQ_cons h21 (allQ_cons h22 (allQ_cons (show ((ByteArray.mk (Array.mk [(97 : UInt8)])) = (ByteArray.mk (Array.mk [(97 : UInt8)]))) from rfl) (allQ_cons (show (((fl_A1_x1 ro a b).2).1 = ((fl_A1_x1 ro a b).2).1) from rfl) (allQ_cons (show ((((fl_A1_x1 ro a b).2).2).1 = (((fl_A1_x1 ro a b).2).2).1) from rfl) (allQ_cons (show (((((fl_A1_x1 ro a b).2).2).2).1 = ((((fl_A1_x1 ro a b).2).2).2).1) from rfl) (allQ_cons (show ((((((fl_A1_x1 ro a b).2).2).2).2).1 = (((((fl_A1_x1 ro a b).2).2).2).2).1) from rfl) (allQ_cons (show ((((((fl_A1_x1 ro a b).2).2).2).2).2 = (((((fl_A1_x1 ro a b).2).2).2).2).2) from rfl) (allQ_cons h23 (allQ_cons (show ((1 : Nat) ≤ (9223372036854775807 : Nat)) from by decide) (allQ_cons h24 (allQ_cons h25 (allQ_cons (show ((ByteArray.mk (Array.mk [(98 : UInt8)])) = (ByteArray.mk (Array.mk [(98 : UInt8)]))) from rfl) (allQ_cons (show ((if ((((fl_A1_x6 ro a b).2).1 - (Go.Num.safeSum (Option.none) (((((fl_A1_x6 ro a b).2).2).2).2).2)) < (((List.length b) : Nat) : Int)) then (((fl_A1_x6 ro a b).2).1 - (Go.Num.safeSum (Option.none) (((((fl_A1_x6 ro a b).2).2).2).2).2)) else (((List.length b) : Nat) : Int)) = (if ((((fl_A1_x6 ro a b).2).1 - (Go.Num.safeSum (Option.none) (((((fl_A1_x6 ro a b).2).2).2).2).2)) < (((List.length b) : Nat) : Int)) then (((fl_A1_x6 ro a b).2).1 - (Go.Num.safeSum (Option.none) (((((fl_A1_x6 ro a b).2).2).2).2).2)) else (((List.length b) : Nat) : Int))) from rfl) (allQ_cons (show (((fl_A1_x6 ro a b).2).1 = ((fl_A1_x6 ro a b).2).1) from rfl) (allQ_cons (show ((((fl_A1_x6 ro a b).2).2).1 = (((fl_A1_x6 ro a b).2).2).1) from rfl) (allQ_cons (show (((((fl_A1_x6 ro a b).2).2).2).1 = ((((fl_A1_x6 ro a b).2).2).2).1) from rfl) (allQ_cons (show ((((((fl_A1_x6 ro a b).2).2).2).2).1 = (((((fl_A1_x6 ro a b).2).2).2).2).1) from rfl) (allQ_cons (show ((((((fl_A1_x6 ro a b).2).2).2).2).2 = (((((fl_A1_x6 ro a b).2).2).2).2).2) from rfl) (allQ_cons h26 (allQ_cons (show ((1 : Nat) ≤ (9223372036854775807 : Nat)) from by decide) (allQ_cons h27 (allQ_cons (show ((ByteArray.mk (Array.mk [(98 : UInt8)])) = (ByteArray.mk (Array.mk [(98 : UInt8)]))) from rfl) (allQ_cons (show (((fl_A1_x2 ro a b).2).1 = ((fl_A1_x2 ro a b).2).1) from rfl) (allQ_cons (show ((((fl_A1_x2 ro a b).2).2).1 = (((fl_A1_x2 ro a b).2).2).1) from rfl) (allQ_cons (show (((((fl_A1_x2 ro a b).2).2).2).1 = ((((fl_A1_x2 ro a b).2).2).2).1) from rfl) (allQ_cons (show ((((((fl_A1_x2 ro a b).2).2).2).2).1 = (((((fl_A1_x2 ro a b).2).2).2).2).1) from rfl) (allQ_cons (show ((((((fl_A1_x2 ro a b).2).2).2).2).2 = (((((fl_A1_x2 ro a b).2).2).2).2).2) from rfl) (allQ_cons h28 (allQ_cons (show ((1 : Nat) ≤ (9223372036854775807 : Nat)) from by decide) (allQ_cons h29 (allQ_cons h30 (allQ_cons h31 (allQ_nil))))))))))))))))))))))))))))))))))))))))))))))))))))))))))))))))))))))))))))))))))))))))))))))⟩

abbrev fl_B0_x1 (ro : Int) (a b : List Int) := ((Go.Num.appendM ((Go.Num.appendM ((Go.Num.clampR ro), ((0 : Int), ((0 : Int), (Bool.false, ([] : List (Rec × Ob)))))) (ByteArray.mk (Array.mk [(97 : UInt8)])) a)).2 (ByteArray.mk (Array.mk [(98 : UInt8)])) b))
abbrev fl_B0_x2 (ro : Int) (a b : List Int) := (Go.Num.syncM (fl_B0_x1 ro a b).2 (ByteArray.mk (Array.mk [(97 : UInt8)])))
abbrev fl_B0_x3 (ro : Int) (a : List Int) := ((Go.Num.appendM ((Go.Num.clampR ro), ((0 : Int), ((0 : Int), (Bool.false, ([] : List (Rec × Ob)))))) (ByteArray.mk (Array.mk [(97 : UInt8)])) a))
theorem fl_B0 (ro : Int) (a b : List Int)
 (h1 : ((List.length a) ≤ (281474976710656 : Nat)))
 (h2 : (Go.Num.DkOK ((Go.Num.clampR ro), ((0 : Int), ((0 : Int), (Bool.false, ([] : List (Rec × Ob))))))))
 (h3 : ((List.length a) ≤ (4611686018427387904 : Nat)))
 (h4 : (((fl_B0_x3 ro a).1 != (0 : Int)) = Bool.false))
 (h5 : ((List.length b) ≤ (281474976710656 : Nat)))
 (h6 : (Go.Num.DkOK (fl_B0_x3 ro a).2))
 (h7 : ((List.length b) ≤ (4611686018427387904 : Nat)))
 (h8 : (((fl_B0_x1 ro a b).1 != (0 : Int)) = Bool.false))
 (h9 : (Go.Num.FreeOK (Option.none) (((((fl_B0_x1 ro a b).2).2).2).2).2 ((fl_B0_x1 ro a b).2).1))
 (h10 : (Go.Num.DkOK (fl_B0_x1 ro a b).2))
 (h11 : (((fl_B0_x2 ro a b).1 == (0 : Int)) = Bool.false))
 (h12 : ((decide ((((List.length a) : Nat) : Int) ≤ (((fl_B0_x1 ro a b).2).1 - (Go.Num.safeSum (Option.none) (((((fl_B0_x1 ro a b).2).2).2).2).2)))) = Bool.false))
 (h13 : (((fl_B0_x2 ro a b).1 != (0 : Int)) = Bool.true))
 (h14 : (((fl_B0_x2 ro a b).1 != (42 : Int)) = Bool.false))
 (h15 : (Go.Num.Okd (fl_B0_x2 ro a b).2))
 (h16 : (Go.Num.DkOK (fl_B0_x2 ro a b).2))
 (h17 : ((((Go.Num.syncM (fl_B0_x2 ro a b).2 (ByteArray.mk (Array.mk [(98 : UInt8)])))).1 == (42 : Int)) = Bool.false))
 (h18 : ((((Go.Num.syncM (fl_B0_x2 ro a b).2 (ByteArray.mk (Array.mk [(98 : UInt8)])))).1 == (0 : Int)) = Bool.true))
 (h19 : (Go.Num.FreeOK (Option.none) ((((((Go.Num.syncM (fl_B0_x2 ro a b).2 (ByteArray.mk (Array.mk [(98 : UInt8)])))).2).2).2).2).2 (((Go.Num.syncM (fl_B0_x2 ro a b).2 (ByteArray.mk (Array.mk [(98 : UInt8)])))).2).1))
 (h20 : ((decide (((((Go.Num.syncM (fl_B0_x2 ro a b).2 (ByteArray.mk (Array.mk [(98 : UInt8)])))).2).1 - (Go.Num.safeSum (Option.none) ((((((Go.Num.syncM (fl_B0_x2 ro a b).2 (ByteArray.mk (Array.mk [(98 : UInt8)])))).2).2).2).2).2)) ≥ (0 : Int))) = Bool.true)) :
 ∃ ps, runF Try.prog DF gDf 100 Try.f4 [.one (.int .i64 false ro), .one (.words .u8 a), .one (.words .u8 b)] [.is false, .is false, .is false, .is false, .is true, .is false, .is false, .is true, .is true] = some ((Go.Abs.AV.v (Go.Abs.A0.one (Go.Abs.Part.bool Bool.true Bool.true))), ps) ∧ AllQ ps := ⟨_, by kernel_rfl, allQ_cons (show (ro = ro) from rfl) (allQ_cons h1 (allQ_cons (show ((ByteArray.mk (Array.mk [(97 : UInt8)])) = (ByteArray.mk (Array.mk [(97 : UInt8)]))) from rfl) (allQ_cons (show (a = a) from rfl) (allQ_cons (show ((Go.Num.clampR ro) = (Go.Num.clampR ro)) from rfl) (allQ_cons (show ((0 : Int) = (0 : Int)) from rfl) (allQ_cons (show ((0 : Int) = (0 : Int)) from rfl) (allQ_cons (show (Bool.false = Bool.false) from rfl) (allQ_cons (show (([] : List (Rec × Ob)) = ([] : List (Rec × Ob))) from rfl) (allQ_cons h2 (allQ_cons (show ((1 : Nat) ≤ (9223372036854775807 : Nat)) from by decide) (allQ_cons h3 (allQ_cons h4 (allQ_cons h5 (allQ_cons (show ((ByteArray.mk (Array.mk [(98 : UInt8)])) = (ByteArray.mk (Array.mk [(98 : UInt8)]))) from rfl) (allQ_cons (show (b = b) from rfl) (allQ_cons (show (((fl_B0_x3 ro a).2).1 = ((fl_B0_x3 ro a).2).1) from rfl) (allQ_cons (show ((((fl_B0_x3 ro a).2).2).1 = (((fl_B0_x3 ro a).2).2).1) from rfl) (allQ_cons (show (((((fl_B0_x3 ro a).2).2).2).1 = ((((fl_B0_x3 ro a).2).2).2).1) from rfl) (allQ_cons (show ((((((fl_B0_x3 ro a).2).2).2).2).1 = (((((fl_B0_x3 ro a).2).2).2).2).1) from rfl) (allQ_cons (show ((((((fl_B0_x3 ro a).2).2).2).2).2 = (((((fl_B0_x3 ro a).2).2).2).2).2) from rfl) (allQ_cons h6 (allQ_cons (show ((1 : Nat) ≤ (9223372036854775807 : Nat)) from by decide) (allQ_cons h7 (allQ_cons h8 (allQ_cons h9 (allQ_cons (show ((ByteArray.mk (Array.mk [(97 : UInt8)])) = (ByteArray.mk (Array.mk [(97 : UInt8)]))) from rfl) (allQ_cons (show (((fl_B0_x1 ro a b).2).1 = ((fl_B0_x1 ro a b).2).1) from rfl) (allQ_cons (show ((((fl_B0_x1 ro a b).2).2).1 = (((fl_B0_x1 ro a b).2).2).1) from rfl) (allQ_cons (show (((((fl_B0_x1 ro a b).2).2).2).1 = ((((fl_B0_x1 ro a b).2).2).2).1) from rfl) (allQ_cons (show ((((((fl_B0_x1 ro a b).2).2).2).2).1 = (((((fl_B0_x1 ro a b).2).2).2).2).1) from rfl) (allQ_cons (show ((((((fl_B0_x1 ro a b).2).2).2).2).2 = (((((fl_B0_x1 ro a b).2).2).2).2).2) from rfl) (allQ_cons h10 (allQ_cons (show ((1 : Nat) ≤ (9223372036854775807 : Nat)) from by decide) (allQ_cons h11 (allQ_cons h12 (allQ_cons h13 (allQ_cons h14 (allQ_cons (show (((fl_B0_x2 ro a b).2).1 = ((fl_B0_x2 ro a b).2).1) from rfl) (allQ_cons (show ((((fl_B0_x2 ro a b).2).2).1 = (((fl_B0_x2 ro a b).2).2).1) from rfl) (allQ_cons (show (((((fl_B0_x2 ro a b).2).2).2).1 = ((((fl_B0_x2 ro a b).2).2).2).1) from rfl) (allQ_cons (show ((((((fl_B0_x2 ro a b).2).2).2).2).1 = (((((fl_B0_x2 ro a b).2).2).2).2).1) from rfl) (allQ_cons (show ((((((fl_B0_x2 ro a b).2).2).2).2).2 = (((((fl_B0_x2 ro a b).2).2).2).2).2) from rfl) (allQ_cons h15 (allQ_cons (show ((ByteArray.mk (Array.mk [(98 : UInt8)])) = (ByteArray.mk (Array.mk [(98 : UInt8)]))) from rfl) (allQ_cons (show (((fl_B0_x2 ro a b).2).1 = ((fl_B0_x2 ro a b).2).1) from rfl) (allQ_cons (show ((((fl_B0_x2 ro a b).2).2).1 = (((fl_B0_x2 ro a b).2).2).1) from rfl) (allQ_cons (show (((((fl_B0_x2 ro a b).2).2).2).1 = ((((fl_B0_x2 ro a b).2).2).2).1) from rfl) (allQ_cons (show ((((((fl_B0_x2 ro a b).2).2).2).2).1 = (((((fl_B0_x2 ro a b).2).2).2).2).1) from rfl) (allQ_cons (show ((((((fl_B0_x2 ro a b).2).2).2).2).2 = (((((fl_B0_x2 ro a b).2).2).2).2).2) from rfl) (allQ_cons h16 (allQ_cons (show ((1 : Nat) ≤ (9223372036854775807 : Nat)) from by decide) (allQ_cons h17 (allQ_cons h18 (allQ_cons h19 (allQ_cons h20 (allQ_nil))))))))))))))))))))))))))))))))))))))))))))))))))))))))⟩

abbrev fl_B1_x1 (ro : Int) (a b : List Int) := ((Go.Num.syncM ((Go.Num.syncM ((Go.Num.appendM ((Go.Num.appendM ((Go.Num.clampR ro), ((0 : Int), ((0 : Int), (Bool.false, ([] : List (Rec × Ob)))))) (ByteArray.mk (Array.mk [(97 : UInt8)])) a)).2 (ByteArray.mk (Array.mk [(98 : UInt8)])) b)).2 (ByteArray.mk (Array.mk [(97 : UInt8)])))).2 (ByteArray.mk (Array.mk [(98 : UInt8)]))))
abbrev fl_B1_x2 (ro : Int) (a b : List Int) := (Go.Num.cutM ((Go.Num.dropM (fl_B1_x1 ro a b).2 (ByteArray.mk (Array.mk [(97 : UInt8)])))).2 (ByteArray.mk (Array.mk [(98 : UInt8)])) (if (((((Go.Num.dropM (fl_B1_x1 ro a b).2 (ByteArray.mk (Array.mk [(97 : UInt8)])))).2).1 - (Go.Num.safeSum (Option.none) ((((((Go.Num.dropM (fl_B1_x1 ro a b).2 (ByteArray.mk (Array.mk [(97 : UInt8)])))).2).2).2).2).2)) < (((List.length b) : Nat) : Int)) then ((((Go.Num.dropM (fl_B1_x1 ro a b).2 (ByteArray.mk (Array.mk [(97 : UInt8)])))).2).1 - (Go.Num.safeSum (Option.none) ((((((Go.Num.dropM (fl_B1_x1 ro a b).2 (ByteArray.mk (Array.mk [(97 : UInt8)])))).2).2).2).2).2)) else (((List.length b) : Nat) : Int)))
abbrev fl_B1_x3 (ro : Int) (a b : List Int) := ((Go.Num.appendM ((Go.Num.appendM ((Go.Num.clampR ro), ((0 : Int), ((0 : Int), (Bool.false, ([] : List (Rec × Ob)))))) (ByteArray.mk (Array.mk [(97 : UInt8)])) a)).2 (ByteArray.mk (Array.mk [(98 : UInt8)])) b))
abbrev fl_B1_x4 (ro : Int) (a b : List Int) := (Go.Num.syncM (fl_B1_x3 ro a b).2 (ByteArray.mk (Array.mk [(97 : UInt8)])))
abbrev fl_B1_x5 (ro : Int) (a : List Int) := ((Go.Num.appendM ((Go.Num.clampR ro), ((0 : Int), ((0 : Int), (Bool.false, ([] : List (Rec × Ob)))))) (ByteArray.mk (Array.mk [(97 : UInt8)])) a))
abbrev fl_B1_x6 (ro : Int) (a b : List Int) := (Go.Num.dropM (fl_B1_x1 ro a b).2 (ByteArray.mk (Array.mk [(97 : UInt8)])))
theorem fl_B1 (ro : Int) (a b : List Int)
 (h1 : ((List.length a) ≤ (281474976710656 : Nat)))
 (h2 : (Go.Num.DkOK ((Go.Num.clampR ro), ((0 : Int), ((0 : Int), (Bool.false, ([] : List (Rec × Ob))))))))
 (h3 : ((List.length a) ≤ (4611686018427387904 : Nat)))
 (h4 : (((fl_B1_x5 ro a).1 != (0 : Int)) = Bool.false))
 (h5 : ((List.length b) ≤ (281474976710656 : Nat)))
 (h6 : (Go.Num.DkOK (fl_B1_x5 ro a).2))
 (h7 : ((List.length b) ≤ (4611686018427387904 : Nat)))
 (h8 : (((fl_B1_x3 ro a b).1 != (0 : Int)) = Bool.false))
 (h9 : (Go.Num.FreeOK (Option.none) (((((fl_B1_x3 ro a b).2).2).2).2).2 ((fl_B1_x3 ro a b).2).1))
 (h10 : (Go.Num.DkOK (fl_B1_x3 ro a b).2))
 (h11 : (((fl_B1_x4 ro a b).1 == (0 : Int)) = Bool.false))
 (h12 : ((decide ((((List.length a) : Nat) : Int) ≤ (((fl_B1_x3 ro a b).2).1 - (Go.Num.safeSum (Option.none) (((((fl_B1_x3 ro a b).2).2).2).2).2)))) = Bool.false))
 (h13 : (((fl_B1_x4 ro a b).1 != (0 : Int)) = Bool.true))
 (h14 : (((fl_B1_x4 ro a b).1 != (42 : Int)) = Bool.false))
 (h15 : (Go.Num.Okd (fl_B1_x4 ro a b).2))
 (h16 : (Go.Num.DkOK (fl_B1_x4 ro a b).2))
 (h17 : (((fl_B1_x1 ro a b).1 == (42 : Int)) = Bool.true))
 (h18 : (Go.Num.Okd (fl_B1_x1 ro a b).2))
 (h19 : ((decide ((List.map (canonR) (Go.Num.imageM (((((fl_B1_x1 ro a b).2).2).2).2).2)) = (List.map (canonR) (Go.Num.imageM (((((fl_B1_x4 ro a b).2).2).2).2).2)))) = Bool.true))
 (h20 : (Go.Num.RowsOK (Go.Num.imageM (((((fl_B1_x1 ro a b).2).2).2).2).2)))
 (h21 : (Go.Num.RowsOK (Go.Num.imageM (((((fl_B1_x4 ro a b).2).2).2).2).2)))
 (h22 : (Go.Num.FreeOK (Option.none) (((((fl_B1_x1 ro a b).2).2).2).2).2 ((fl_B1_x1 ro a b).2).1))
 (h23 : ((decide ((((List.length b) : Nat) : Int) ≤ (((fl_B1_x1 ro a b).2).1 - (Go.Num.safeSum (Option.none) (((((fl_B1_x1 ro a b).2).2).2).2).2)))) = Bool.false))
 (h24 : (Go.Num.DkOK (fl_B1_x1 ro a b).2))
 (h25 : (((fl_B1_x6 ro a b).1 != (0 : Int)) = Bool.false))
 (h26 : (Go.Num.FreeOK (Option.none) (((((fl_B1_x6 ro a b).2).2).2).2).2 ((fl_B1_x6 ro a b).2).1))
 (h27 : (Go.Num.DkOK (fl_B1_x6 ro a b).2))
 (h28 : (((fl_B1_x2 ro a b).1 != (0 : Int)) = Bool.false))
 (h29 : (Go.Num.DkOK (fl_B1_x2 ro a b).2))
 (h30 : ((((Go.Num.syncM (fl_B1_x2 ro a b).2 (ByteArray.mk (Array.mk [(98 : UInt8)])))).1 == (0 : Int)) = Bool.true))
 (h31 : (Go.Num.FreeOK (Option.none) ((((((Go.Num.syncM (fl_B1_x2 ro a b).2 (ByteArray.mk (Array.mk [(98 : UInt8)])))).2).2).2).2).2 (((Go.Num.syncM (fl_B1_x2 ro a b).2 (ByteArray.mk (Array.mk [(98 : UInt8)])))).2).1))
 (h32 : ((decide (((((Go.Num.syncM (fl_B1_x2 ro a b).2 (ByteArray.mk (Array.mk [(98 : UInt8)])))).2).1 - (Go.Num.safeSum (Option.none) ((((((Go.Num.syncM (fl_B1_x2 ro a b).2 (ByteArray.mk (Array.mk [(98 : UInt8)])))).2).2).2).2).2)) ≥ (0 : Int))) = Bool.true)) :
 ∃ ps, runF Try.prog DF gDf 100 Try.f4 [.one (.int .i64 false ro), .one (.words .u8 a), .one (.words .u8 b)] [.is false, .is false, .is false, .is false, .is true, .is false, .is true, .is true, .is false, .is false, .is false, .is true, .is true] = some ((Go.Abs.AV.v (Go.Abs.A0.one (Go.Abs.Part.bool Bool.true Bool.true))), ps) ∧ AllQ ps := ⟨_, by kernel_rfl, allQ_cons (show (ro = ro) from rfl) (allQ_cons h1 (allQ_cons (show ((ByteArray.mk (Array.mk [(97 : UInt8)])) = (ByteArray.mk (Array.mk [(97 : UInt8)]))) from rfl) (allQ_cons (show (a = a) from rfl) (allQ_cons (show ((Go.Num.clampR ro) = (Go.Num.clampR ro)) from rfl) (allQ_cons (show ((0 : Int) = (0 : Int)) from rfl) (allQ_cons (show ((0 : Int) = (0 : Int)) from rfl) (allQ_cons (show (Bool.false = Bool.false) from rfl) (allQ_cons (show (([] : List (Rec × Ob)) = ([] : List (Rec × Ob))) from rfl) (allQ_cons h2 (allQ_cons (show ((1 : Nat) ≤ (9223372036854775807 : Nat)) from by decide) (allQ_cons h3 (allQ_cons h4 (allQ_cons h5 (allQ_cons (show ((ByteArray.mk (Array.mk [(98 : UInt8)])) = (ByteArray.mk (Array.mk [(98 : UInt8)]))) from rfl) (allQ_cons (show (b = b) from rfl) (allQ_cons (show (((fl_B1_x5 ro a).2).1 = ((fl_B1_x5 ro a).2).1) from rfl) (allQ_cons (show ((((fl_B1_x5 ro a).2).2).1 = (((fl_B1_x5 ro a).2).2).1) from rfl) (allQ_cons (show (((((fl_B1_x5 ro a).2).2).2).1 = ((((fl_B1_x5 ro a).2).2).2).1) from rfl) (allQ_cons (show ((((((fl_B1_x5 ro a).2).2).2).2).1 = (((((fl_B1_x5 ro a).2).2).2).2).1) from rfl) (allQ_cons (show ((((((fl_B1_x5 ro a).2).2).2).2).2 = (((((fl_B1_x5 ro a).2).2).2).2).2) from rfl) (allQ_cons h6 (allQ_cons (show ((1 : Nat) ≤ (9223372036854775807 : Nat)) from by decide) (allQ_cons h7 (allQ_cons h8 (allQ_cons h9 (allQ_cons (show ((ByteArray.mk (Array.mk [(97 : UInt8)])) = (ByteArray.mk (Array.mk [(97 : UInt8)]))) from rfl) (allQ_cons (show (((fl_B1_x3 ro a b).2).1 = ((fl_B1_x3 ro a b).2).1) from rfl) (allQ_cons (show ((((fl_B1_x3 ro a b).2).2).1 = (((fl_B1_x3 ro a b).2).2).1) from rfl) (allQ_cons (show (((((fl_B1_x3 ro a b).2).2).2).1 = ((((fl_B1_x3 ro a b).2).2).2).1) from rfl) (allQ_cons (show ((((((fl_B1_x3 ro a b).2).2).2).2).1 = (((((fl_B1_x3 ro a b).2).2).2).2).1) from rfl) (allQ_cons (show ((((((fl_B1_x3 ro a b).2).2).2).2).2 = (((((fl_B1_x3 ro a b).2).2).2).2).2) from rfl) (allQ_cons h10 (allQ_cons (show ((1 : Nat) ≤ (9223372036854775807 : Nat)) from by decide) (allQ_cons h11 (allQ_cons h12 (allQ_cons h13 (allQ_cons h14 (allQ_cons (show (((fl_B1_x4 ro a b).2).1 = ((fl_B1_x4 ro a b).2).1) from rfl) (allQ_cons (show ((((fl_B1_x4 ro a b).2).2).1 = (((fl_B1_x4 ro a b).2).2).1) from rfl) (allQ_cons (show (((((fl_B1_x4 ro a b).2).2).2).1 = ((((fl_B1_x4 ro a b).2).2).2).1) from rfl) (allQ_cons (show ((((((fl_B1_x4 ro a b).2).2).2).2).1 = (((((fl_B1_x4 ro a b).2).2).2).2).1) from rfl) (allQ_cons (show ((((((fl_B1_x4 ro a b).2).2).2).2).2 = (((((fl_B1_x4 ro a b).2).2).2).2).2) from rfl) (allQ_cons h15 (allQ_cons (show ((ByteArray.mk (Array.mk [(98 : UInt8)])) = (ByteArray.mk (Array.mk [(98 : UInt8)]))) from rfl) (allQ_cons (show (((fl_B1_x4 ro a b).2).1 = ((fl_B1_x4 ro a b).2).1) from rfl) (allQ_cons (show ((((fl_B1_x4 ro a b).2).2).1 = (((fl_B1_x4 ro a b).2).2).1) from rfl) (allQ_cons (show (((((fl_B1_x4 ro a b).2).2).2).1 = ((((fl_B1_x4 ro a b).2).2).2).1) from rfl) (allQ_cons (show ((((((fl_B1_x4 ro a b).2).2).2).2).1 = (((((fl_B1_x4 ro a b).2).2).2).2).1) from rfl) (allQ_cons (show ((((((fl_B1_x4 ro a b).2).2).2).2).2 = (((((fl_B1_x4 ro a b).2).2).2).2).2) from rfl) (allQ_cons h16 (allQ_cons (show ((1 : Nat) ≤ (9223372036854775807 : Nat)) from by decide) (allQ_cons h17 (allQ_cons (show (((fl_B1_x1 ro a b).2).1 = ((fl_B1_x1 ro a b).2).1) from rfl) (allQ_cons (show ((((fl_B1_x1 ro a b).2).2).1 = (((fl_B1_x1 ro a b).2).2).1) from rfl) (allQ_cons (show (((((fl_B1_x1 ro a b).2).2).2).1 = ((((fl_B1_x1 ro a b).2).2).2).1) from rfl) (allQ_cons (show ((((((fl_B1_x1 ro a b).2).2).2).2).1 = (((((fl_B1_x1 ro a b).2).2).2).2).1) from rfl) (allQ_cons (show ((((((fl_B1_x1 ro a b).2).2).2).2).2 = (((((fl_B1_x1 ro a b).2).2).2).2).2) from rfl) (allQ_cons h18 (allQ_cons h19 (allQ_cons h20 (allQ_cons h21 (allQ_cons h22 (allQ_cons h23 (allQ_cons (show ((ByteArray.mk (Array.mk [(97 : UInt8)])) = (ByteArray.mk (Array.mk [(97 : UInt8)]))) from rfl) (allQ_cons (show (((fl_B1_x1 ro a b).2).1 = ((fl_B1_x1 ro a b).2).1) from rfl) (allQ_cons (show ((((fl_B1_x1 ro a b).2).2).1 = (((fl_B1_x1 ro a b).2).2).1) from rfl) (allQ_cons (show (((((fl_B1_x1 ro a b).2).2).2).1 = ((((fl_B1_x1 ro a b).2).2).2).1) from rfl) (allQ_cons (show ((((((fl_B1_x1 ro a b).2).2).2).2).1 = (((((fl_B1_x1 ro a b).2).2).2).2).1) from rfl) (allQ_cons (show ((((((fl_B1_x1 ro a b).2).2).2).2).2 = (((((fl_B1_x1 ro a b).2).2).2).2).2) from rfl) (allQ_cons h24 (allQ_cons (show ((1 : Nat) ≤ (9223372036854775807 : Nat)) from by decide) (allQ_cons h25 (allQ_cons h26 (allQ_cons (show ((ByteArray.mk (Array.mk [(98 : UInt8)])) = (ByteArray.mk (Array.mk [(98 : UInt8)]))) from rfl) (allQ_cons (show ((if ((((fl_B1_x6 ro a b).2).1 - (Go.Num.safeSum (Option.none) (((((fl_B1_x6 ro a b).2).2).2).2).2)) < (((List.length b) : Nat) : Int)) then (((fl_B1_x6 ro a b).2).1 - (Go.Num.safeSum (Option.none) (((((fl_B1_x6 ro a b).2).2).2).2).2)) else (((List.length b) : Nat) : Int)) = (if ((((fl_B1_x6 ro a b).2).1 - (Go.Num.safeSum (Option.none) (((((fl_B1_x6 ro a b).2).2).2).2).2)) < (((List.length b) : Nat) : Int)) then (((fl_B1_x6 ro a b).2).1 - (Go.Num.safeSum (Option.none) (((((fl_B1_x6 ro a b).2).2).2).2).2)) else (((List.length b) : Nat) : Int))) from rfl) (allQ_cons (show (((fl_B1_x6 ro a b).2).1 = ((fl_B1_x6 ro a b).2).1) from rfl) (allQ_cons (show ((((fl_B1_x6 ro a b).2).2).1 = (((fl_B1_x6 ro a b).2).2).1) from rfl) (allQ_cons (show (((((fl_B1_x6 ro a b).2).2).2).1 = ((((fl_B1_x6 ro a b).2).2).2).1) from rfl) (allQ_cons (show ((((((fl_B1_x6 ro a b).2).2).2).2).1 = (((((fl_B1_x6 ro a b).2).2).2).2).1) from rfl) (allQ_cons (show ((((((fl_B1_x6 ro a b).2).2).2).2).2 = (((((fl_B1_x6 ro a b).2).2).2).2).2) from rfl) (allQ_cons h27 (allQ_cons (show ((1 : Nat) ≤ (9223372036854775807 : Nat)) from by decide) (allQ_cons h28 (allQ_cons (show ((ByteArray.mk (Array.mk [(98 : UInt8)])) = (ByteArray.mk (Array.mk [(98 : UInt8)]))) from rfl) (allQ_cons (show (((fl_B1_x2 ro a b).2).1 = ((fl_B1_x2 ro a b).2).1) from rfl) (allQ_cons (show ((((fl_B1_x2 ro a b).2).2).1 = (((fl_B1_x2 ro a b).2).2).1) from rfl) (allQ_cons (show (((((fl_B1_x2 ro a b).2).2).2).1 = ((((fl_B1_x2 ro a b).2).2).2).1) from rfl) (allQ_cons (show ((((((fl_B1_x2 ro a b).2).2).2).2).1 = (((((fl_B1_x2 ro a b).2).2).2).2).1) from rfl) (allQ_cons (show ((((((fl_B1_x2 ro a b).2).2).2).2).2 = (((((fl_B1_x2 ro a b).2).2).2).2).2) from rfl) (allQ_cons h29 (allQ_cons (show ((1 : Nat) ≤ (9223372036854775807 : Nat)) from by decide) (allQ_cons h30 (allQ_cons h31 (allQ_cons h32 (allQ_nil)))))))))))))))))))))))))))))))))))))))))))))))))))))))))))))))))))))))))))))))))))))))))))))))⟩

/-! A disk of two files -/

abbrev cB : ByteArray := ⟨#[98]⟩
theorem right_a : rightB cA = true := by kernel_rfl
theorem right_b : rightB cB = true := by kernel_rfl
theorem ne_ab : cA ≠ cB := by decide
def two (a : List Int) (n : Int) (b : List Int) (m : Int) : List (Rec × Ob) := [([Fd.s cA], fileOb a n), ([Fd.s cB], fileOb b m)]

theorem rows_image {d : DkT} (h : Okd d) : RowsOK (imageM d.2.2.2.2) := by
  have hl : (imageM d.2.2.2.2).length = d.2.2.2.2.length := by unfold imageM; rw [List.length_map, sortK_len]
  refine ⟨by rw [hl]; exact Nat.le_trans h.len (by decide), fun r hr => ?_⟩
  obtain ⟨k, _, rfl⟩ := List.mem_map.1 hr
  exact (h.ob _).2.2

theorem two_ob1 (a b : List Int) (n m : Int) : obE (two a n b m) [Fd.s cA] = fileOb a n := by simp [two, obE, getE]
theorem two_ob2 (a b : List Int) (n m : Int) : obE (two a n b m) [Fd.s cB] = fileOb b m := by simp [two, obE, getE, ne_ab]
theorem two_err1 (a b : List Int) (n m : Int) : errF false (two a n b m) cA = 0 := by unfold errF; simp [right_a, two, hasE, getE]
theorem two_err2 (a b : List Int) (n m : Int) : errF false (two a n b m) cB = 0 := by unfold errF; simp [right_b, two, hasE, getE, ne_ab]
theorem two_safe (a b : List Int) (n m : Int) : safeSum none (two a n b m) = n + m := by
  unfold two
  rw [safeSum_cons, safeSum_cons, safeSum_nil]
  show n + (m + 0) = n + m
  omega

theorem big_nil {ro st fu : Int} {s : ByteArray} {b : List Int} (hs : rightB s = true) (h : 4194304 < b.length) : appendM (ro, st, fu, false, []) s b = (18, (ro, st, fu, false, [])) := by
  have he : DkT.err (ro, st, fu, false, []) s = 41 := err_nil hs
  have hd : fD (ro, st, fu, false, []) s = [] := rfl
  unfold appendM
  rw [if_neg (by rw [he]; simp), if_neg (by show ¬ (_ ∧ 32 ≤ (0 : Nat)); omega), if_pos (by rw [hd]; simp; omega)]

theorem err_ab (a : List Int) (n : Int) : errF false (one cA a n) cB = 41 := by unfold errF; simp [right_b, one, hasE, getE, ne_ab]
theorem ob_ab (a : List Int) (n : Int) : obE (one cA a n) [Fd.s cB] = .node [] [] := by simp [one, obE, getE, ne_ab]
theorem app_ab {ro st : Int} {a b : List Int} (h : b.length ≤ 4194304) : appendM (ro, st, 0, false, one cA a 0) cB b = (0, (ro, st + 1, 0, false, two a 0 b 0)) := by
  have he : DkT.err (ro, st, 0, false, one cA a 0) cB = 41 := err_ab a 0
  have hd : fD (ro, st, 0, false, one cA a 0) cB = [] := by show obD (obE (one cA a 0) [Fd.s cB]) = []; rw [ob_ab]; rfl
  have hn : fS (ro, st, 0, false, one cA a 0) cB = 0 := by show obS (obE (one cA a 0) [Fd.s cB]) = 0; rw [ob_ab]; rfl
  unfold appendM
  rw [if_neg (by rw [he]; simp), if_neg (by show ¬ (_ ∧ 32 ≤ (1 : Nat)); omega), if_neg (by rw [hd]; simp; omega), hd, hn]
  have : setE (one cA a 0) [Fd.s cB] (fileOb ([] ++ b) 0) = two a 0 b 0 := by simp [one, setE, two, ne_ab]
  unfold stp
  simp only [this]
  rfl
theorem big_ab {ro st : Int} {a b : List Int} (h : 4194304 < b.length) : appendM (ro, st, 0, false, one cA a 0) cB b = (18, (ro, st, 0, false, one cA a 0)) := by
  have he : DkT.err (ro, st, 0, false, one cA a 0) cB = 41 := err_ab a 0
  have hd : fD (ro, st, 0, false, one cA a 0) cB = [] := by show obD (obE (one cA a 0) [Fd.s cB]) = []; rw [ob_ab]; rfl
  unfold appendM
  rw [if_neg (by rw [he]; simp), if_neg (by show ¬ (_ ∧ 32 ≤ (1 : Nat)); omega), if_pos (by rw [hd]; simp; omega)]

theorem sync_a {ro st : Int} {a b : List Int} : syncM (ro, st, 0, false, two a 0 b 0) cA = if ro < (a.length : Int) then (42, (ro, st, 0, false, two a 0 b 0)) else (0, (ro, st + 1, 0, false, two a a.length b 0)) := by
  have he : DkT.err (ro, st, 0, false, two a 0 b 0) cA = 0 := two_err1 ..
  have hd : fD (ro, st, 0, false, two a 0 b 0) cA = a := by show obD (obE (two a 0 b 0) [Fd.s cA]) = a; rw [two_ob1]; rfl
  have hn : fS (ro, st, 0, false, two a 0 b 0) cA = 0 := by show obS (obE (two a 0 b 0) [Fd.s cA]) = 0; rw [two_ob1]; rfl
  have hss : safeSum none (two a 0 b 0) = 0 := two_safe ..
  unfold syncM
  rw [if_neg (by rw [he]; simp), hd, hn]
  by_cases h : ro < (a.length : Int)
  · rw [if_pos h, if_pos (by show ro - safeSum none (two a 0 b 0) < _; rw [hss]; omega)]
  · rw [if_neg h, if_neg (by show ¬ (ro - safeSum none (two a 0 b 0) < _); rw [hss]; omega), if_pos (show stV 0 = true from rfl)]
    have : setE (two a 0 b 0) [Fd.s cA] (fileOb a a.length) = two a a.length b 0 := by simp [setE, two]
    unfold stp
    simp only [this]
    rfl
theorem sync_b {ro st n : Int} {a b : List Int} : syncM (ro, st, 0, false, two a n b 0) cB = if ro - n < (b.length : Int) then (42, (ro, st, 0, false, two a n b 0)) else (0, (ro, st + 1, 0, false, two a n b b.length)) := by
  have he : DkT.err (ro, st, 0, false, two a n b 0) cB = 0 := two_err2 ..
  have hd : fD (ro, st, 0, false, two a n b 0) cB = b := by show obD (obE (two a n b 0) [Fd.s cB]) = b; rw [two_ob2]; rfl
  have hn : fS (ro, st, 0, false, two a n b 0) cB = 0 := by show obS (obE (two a n b 0) [Fd.s cB]) = 0; rw [two_ob2]; rfl
  have hss : safeSum none (two a n b 0) = n + 0 := two_safe ..
  unfold syncM
  rw [if_neg (by rw [he]; simp), hd, hn]
  by_cases h : ro - n < (b.length : Int)
  · rw [if_pos h, if_pos (by show ro - safeSum none (two a n b 0) < _; rw [hss]; omega)]
  · rw [if_neg h, if_neg (by show ¬ (ro - safeSum none (two a n b 0) < _); rw [hss]; omega), if_pos (show stV 0 = true from rfl)]
    have : setE (two a n b 0) [Fd.s cB] (fileOb b b.length) = two a n b b.length := by simp [setE, two, ne_ab]
    unfold stp
    simp only [this]
    rfl
theorem drop_a {ro st n : Int} {a b : List Int} : dropM (ro, st, 0, false, two a n b 0) cA = (0, (ro, st + 1, 0, false, one cB b 0)) := by
  have he : DkT.err (ro, st, 0, false, two a n b 0) cA = 0 := two_err1 ..
  unfold dropM
  rw [if_neg (by rw [he]; simp), if_pos (show stV 0 = true from rfl)]
  have : delE (two a n b 0) [Fd.s cA] = one cB b 0 := by simp [delE, two, one]
  unfold stp
  simp only [this]
  rfl
theorem cut_b {ro st k : Int} {b : List Int} (h0 : 0 ≤ k) (h1 : k ≤ (b.length : Int)) : cutM (ro, st, 0, false, one cB b 0) cB k = (0, (ro, st + 1, 0, false, one cB (b.take k.toNat) 0)) := by
  have he : DkT.err (ro, st, 0, false, one cB b 0) cB = 0 := err_one right_b
  have hd : fD (ro, st, 0, false, one cB b 0) cB = b := by show obD (obE (one cB b 0) [Fd.s cB]) = b; rw [ob_one]; rfl
  have hn : fS (ro, st, 0, false, one cB b 0) cB = 0 := by show obS (obE (one cB b 0) [Fd.s cB]) = 0; rw [ob_one]; rfl
  unfold cutM
  rw [if_neg (by rw [he]; simp), hd, hn, if_neg (by omega), if_pos (show stV 0 = true from rfl), if_neg (by omega)]
  unfold stp
  simp only [set_one]
  rfl

theorem law_full {ro : Int} {a b : List Int} (_ : InI64 ro) (_ : InB a) (ha : a.length ≤ 140737488351232) (_ : InB b) (hb : b.length ≤ 140737488351232) :
    ∃ Γ, GamOK Try.prog DF Γ ∧ ∃ ds ps, runF Try.prog DF Γ 100 Try.f4 [.one (.int .i64 false ro), .one (.words .u8 a), .one (.words .u8 b)] ds = some (.v (.one (.bool true true)), ps) ∧ AllQ ps := by
  have o0 : OkN (clampR ro, 0, 0, false, []) 0 := ⟨okd_new ro, Int.le_refl _⟩
  have o1 := o0.nxt (append_nxt o0.1 cA a)
  have o2 := o1.nxt (append_nxt o1.1 cB b)
  have o3 := o2.nxt (sync_nxt o2.1 cA)
  have o4 := o3.nxt (sync_nxt o3.1 cB)
  have hcl := clampR_ok ro
  by_cases ha2 : 4194304 < a.length
  · have e1 : appendM (clampR ro, 0, 0, false, []) cA a = (18, (clampR ro, 0, 0, false, [])) := big_nil right_a ha2
    obtain ⟨ps, p1, p2⟩ : ∃ ps, runF Try.prog DF gDf 100 Try.f4 [.one (.int .i64 false ro), .one (.words .u8 a), .one (.words .u8 b)] _ = some (.v (.one (.bool true true)), ps) ∧ AllQ ps := by
      apply fl_a ro a b
      all_goals first
        | omega
        | exact o0.dk (by decide) | exact o1.dk (by decide) | exact o2.dk (by decide) | exact o3.dk (by decide) | exact o4.dk (by decide)
        | exact o2.1.freeN | exact o3.1 | exact o4.1 | exact o4.1.freeN | exact rows_image o3.1 | exact rows_image o4.1
        | (simp only [e1]; done)
        | (simp only [e1]; rfl)
        | (simp only [e1, decide_eq_false_iff_not, decide_eq_true_eq]; omega)
    exact ⟨_, gDf_ok, _, ps, p1, p2⟩
  have e1 : appendM (clampR ro, 0, 0, false, []) cA a = (0, (clampR ro, 1, 0, false, one cA a 0)) := by
    rw [app_nil right_a (by omega)]
    rfl
  by_cases hb2 : 4194304 < b.length
  · have e2 : appendM (clampR ro, 1, 0, false, one cA a 0) cB b = (18, (clampR ro, 1, 0, false, one cA a 0)) := big_ab hb2
    obtain ⟨ps, p1, p2⟩ : ∃ ps, runF Try.prog DF gDf 100 Try.f4 [.one (.int .i64 false ro), .one (.words .u8 a), .one (.words .u8 b)] _ = some (.v (.one (.bool true true)), ps) ∧ AllQ ps := by
      apply fl_b ro a b
      all_goals try simp only [fl_b_x1]
      all_goals first
        | omega
        | exact o0.dk (by decide) | exact o1.dk (by decide) | exact o2.dk (by decide) | exact o3.dk (by decide) | exact o4.dk (by decide)
        | exact o2.1.freeN | exact o3.1 | exact o4.1 | exact o4.1.freeN | exact rows_image o3.1 | exact rows_image o4.1
        | (simp only [e1, e2]; done)
        | (simp only [e1, e2]; rfl)
        | (simp only [e1, e2, decide_eq_false_iff_not, decide_eq_true_eq]; omega)
    exact ⟨_, gDf_ok, _, ps, p1, p2⟩
  have e2 : appendM (clampR ro, 1, 0, false, one cA a 0) cB b = (0, (clampR ro, 2, 0, false, two a 0 b 0)) := app_ab (by omega)
  have f2 : safeSum none (two a 0 b 0) = 0 := two_safe ..
  by_cases c1 : clampR ro < (a.length : Int)
  · have e3 : syncM (clampR ro, 2, 0, false, two a 0 b 0) cA = (42, (clampR ro, 2, 0, false, two a 0 b 0)) := by rw [sync_a, if_pos c1]
    by_cases c2 : clampR ro - 0 < (b.length : Int)
    · have e4 : syncM (clampR ro, 2, 0, false, two a 0 b 0) cB = (42, (clampR ro, 2, 0, false, two a 0 b 0)) := by rw [sync_b, if_pos c2]
      have o5 := o4.nxt (drop_nxt o4.1 cA)
      have e5 : dropM (clampR ro, 2, 0, false, two a 0 b 0) cA = (0, (clampR ro, 3, 0, false, one cB b 0)) := drop_a
      have f5 : safeSum none (one cB b 0) = 0 := safe_one ..
      have o6 := o5.nxt (cut_nxt o5.1 cB (clampR ro))
      have e6 : cutM (clampR ro, 3, 0, false, one cB b 0) cB (clampR ro) = (0, (clampR ro, 4, 0, false, one cB (b.take (clampR ro).toNat) 0)) := cut_b (by omega) (by omega)
      have o7 := o6.nxt (sync_nxt o6.1 cB)
      have hl : ((b.take (clampR ro).toNat).length : Int) = clampR ro := by rw [List.length_take]; omega
      have e7 : syncM (clampR ro, 4, 0, false, one cB (b.take (clampR ro).toNat) 0) cB = (0, (clampR ro, 5, 0, false, one cB (b.take (clampR ro).toNat) (b.take (clampR ro).toNat).length)) := by
        rw [sync_one right_b (by omega), if_pos (show stV 0 = true from rfl)]
        rfl
      have f7 : safeSum none (one cB (b.take (clampR ro).toNat) (b.take (clampR ro).toNat).length) = clampR ro := by rw [safe_one]; exact hl
      simp only [e1, e2, e3, e4, e5, e6, e7] at o1 o2 o3 o4 o5 o6 o7
      have hk : (if clampR ro - 0 < (b.length : Int) then clampR ro - 0 else (b.length : Int)) = clampR ro := by rw [if_pos c2]; omega
      obtain ⟨ps, p1, p2⟩ : ∃ ps, runF Try.prog DF gDf 100 Try.f4 [.one (.int .i64 false ro), .one (.words .u8 a), .one (.words .u8 b)] _ = some (.v (.one (.bool true true)), ps) ∧ AllQ ps := by
        apply fl_B1 ro a b
        all_goals try simp only [fl_B1_x1, fl_B1_x2, fl_B1_x3, fl_B1_x4, fl_B1_x5, fl_B1_x6]
        all_goals try simp only [e1, e2, e3, e4, e5, f2, f5, hk, e6, e7, f7]
        all_goals first
          | done
          | omega
          | exact o0.dk (by decide) | exact o1.dk (by decide) | exact o2.dk (by decide) | exact o3.dk (by decide) | exact o4.dk (by decide) | exact o5.dk (by decide) | exact o6.dk (by decide)
          | exact o2.1.freeN | exact o3.1 | exact o4.1 | exact o4.1.freeN | exact rows_image o3.1 | exact rows_image o4.1 | exact o5.1.freeN | exact o6.1.freeN | exact o7.1.freeN
          | rfl
          | (simp only [decide_eq_false_iff_not, decide_eq_true_eq]; omega)
      exact ⟨_, gDf_ok, _, ps, p1, p2⟩
    · have e4 : syncM (clampR ro, 2, 0, false, two a 0 b 0) cB = (0, (clampR ro, 3, 0, false, two a 0 b b.length)) := by rw [sync_b, if_neg c2]; rfl
      have f4 : safeSum none (two a 0 b b.length) = 0 + b.length := two_safe ..
      simp only [e1, e2, e3, e4] at o1 o2 o3 o4
      obtain ⟨ps, p1, p2⟩ : ∃ ps, runF Try.prog DF gDf 100 Try.f4 [.one (.int .i64 false ro), .one (.words .u8 a), .one (.words .u8 b)] _ = some (.v (.one (.bool true true)), ps) ∧ AllQ ps := by
        apply fl_B0 ro a b
        all_goals try simp only [fl_B0_x1, fl_B0_x2, fl_B0_x3]
        all_goals try simp only [e1, e2, e3, e4, f2, f4]
        all_goals first
          | done
          | omega
          | exact o0.dk (by decide) | exact o1.dk (by decide) | exact o2.dk (by decide) | exact o3.dk (by decide) | exact o4.dk (by decide)
          | exact o2.1.freeN | exact o3.1 | exact o4.1 | exact o4.1.freeN | exact rows_image o3.1 | exact rows_image o4.1
          | rfl
          | (simp only [decide_eq_false_iff_not, decide_eq_true_eq]; omega)
      exact ⟨_, gDf_ok, _, ps, p1, p2⟩
  · have e3 : syncM (clampR ro, 2, 0, false, two a 0 b 0) cA = (0, (clampR ro, 3, 0, false, two a a.length b 0)) := by rw [sync_a, if_neg c1]; rfl
    have f3 : safeSum none (two a a.length b 0) = a.length + 0 := two_safe ..
    by_cases c2 : clampR ro - a.length < (b.length : Int)
    · have e4 : syncM (clampR ro, 3, 0, false, two a a.length b 0) cB = (42, (clampR ro, 3, 0, false, two a a.length b 0)) := by rw [sync_b, if_pos c2]
      have o5 := o4.nxt (drop_nxt o4.1 cA)
      have e5 : dropM (clampR ro, 3, 0, false, two a a.length b 0) cA = (0, (clampR ro, 4, 0, false, one cB b 0)) := drop_a
      have f5 : safeSum none (one cB b 0) = 0 := safe_one ..
      generalize hkk : (if clampR ro - 0 < (b.length : Int) then clampR ro - 0 else (b.length : Int)) = k
      have hk0 : 0 ≤ k ∧ k ≤ (b.length : Int) ∧ k ≤ clampR ro := by rw [← hkk]; split <;> omega
      have o6 := o5.nxt (cut_nxt o5.1 cB k)
      have e6 : cutM (clampR ro, 4, 0, false, one cB b 0) cB k = (0, (clampR ro, 5, 0, false, one cB (b.take k.toNat) 0)) := cut_b (by omega) (by omega)
      have o7 := o6.nxt (sync_nxt o6.1 cB)
      have hl : ((b.take k.toNat).length : Int) = k := by rw [List.length_take]; omega
      have e7 : syncM (clampR ro, 5, 0, false, one cB (b.take k.toNat) 0) cB = (0, (clampR ro, 6, 0, false, one cB (b.take k.toNat) (b.take k.toNat).length)) := by
        rw [sync_one right_b (by omega), if_pos (show stV 0 = true from rfl)]
        rfl
      have f7 : safeSum none (one cB (b.take k.toNat) (b.take k.toNat).length) = k := by rw [safe_one]; exact hl
      simp only [e1, e2, e3, e4, e5, e6, e7] at o1 o2 o3 o4 o5 o6 o7
      obtain ⟨ps, p1, p2⟩ : ∃ ps, runF Try.prog DF gDf 100 Try.f4 [.one (.int .i64 false ro), .one (.words .u8 a), .one (.words .u8 b)] _ = some (.v (.one (.bool true true)), ps) ∧ AllQ ps := by
        apply fl_A1 ro a b
        all_goals try simp only [fl_A1_x1, fl_A1_x2, fl_A1_x3, fl_A1_x4, fl_A1_x5, fl_A1_x6]
        all_goals try simp only [e1, e2, e3, e4, e5, f2, f3, f5, hkk, e6, e7, f7]
        all_goals first
          | done
          | omega
          | exact o0.dk (by decide) | exact o1.dk (by decide) | exact o2.dk (by decide) | exact o3.dk (by decide) | exact o4.dk (by decide) | exact o5.dk (by decide) | exact o6.dk (by decide)
          | exact o2.1.freeN | exact o3.1 | exact o4.1 | exact o4.1.freeN | exact rows_image o3.1 | exact rows_image o4.1 | exact o5.1.freeN | exact o6.1.freeN | exact o7.1.freeN
          | rfl
          | (simp only [decide_eq_false_iff_not, decide_eq_true_eq]; omega)
      exact ⟨_, gDf_ok, _, ps, p1, p2⟩
    · have e4 : syncM (clampR ro, 3, 0, false, two a a.length b 0) cB = (0, (clampR ro, 4, 0, false, two a a.length b b.length)) := by rw [sync_b, if_neg c2]; rfl
      have f4 : safeSum none (two a a.length b b.length) = a.length + b.length := two_safe ..
      simp only [e1, e2, e3, e4] at o1 o2 o3 o4
      obtain ⟨ps, p1, p2⟩ : ∃ ps, runF Try.prog DF gDf 100 Try.f4 [.one (.int .i64 false ro), .one (.words .u8 a), .one (.words .u8 b)] _ = some (.v (.one (.bool true true)), ps) ∧ AllQ ps := by
        apply fl_A0 ro a b
        all_goals try simp only [fl_A0_x1, fl_A0_x2, fl_A0_x3]
        all_goals try simp only [e1, e2, e3, e4, f2, f3, f4]
        all_goals first
          | done
          | omega
          | exact o0.dk (by decide) | exact o1.dk (by decide) | exact o2.dk (by decide) | exact o3.dk (by decide) | exact o4.dk (by decide)
          | exact o2.1.freeN | exact o3.1 | exact o4.1 | exact o4.1.freeN | exact rows_image o3.1 | exact rows_image o4.1
          | rfl
          | (simp only [decide_eq_false_iff_not, decide_eq_true_eq]; omega)
      exact ⟨_, gDf_ok, _, ps, p1, p2⟩

end Go.Num
