/- The reference's numbers in words of 16 bits: out of digits; sums, differences and products of rests. -/
import Derived.Test.YtbgcfmmkbocpoaaRef3
namespace Go.Num
open Go.Abs Go.Proofs Go.Shelf

/-! Hex -/

def hexSn (D : Dom) (s : ByteArray) (w : List Int) (n i : Int) : Sn D.τ where
  slots := [(0, .v (.one (.str s))), (3, .v (.one (.own 0))), (4, .v (.one (.int .i64 false n))), (5, .v (.one (.int .i64 false i)))]
  boxes := [(0, .dyn 43 (.ints .u32 w))]
  nt := 52

theorem hex_aw_r (D : Dom) (s : ByteArray) (w w' : List Int) (n i : Int) : stepPs Try.prog D [] 100 (bodyOf Try.f66) 100 (hexSn D s w n i).st [.is true, .is false, .is true, .is true] .normal (hexSn D s w' (n + 1) (i - 1)) =
    some [((decide (i ≥ (0 : Int))) = Bool.true), ((0 : Int) ≤ i), (i < (((ByteArray.size s) : Nat) : Int)), (((((UInt8.toNat (List.getD ((s).1).1 (Int.toNat i) (0 : UInt8))) : Nat) : Int) == (32 : Int)) = Bool.false), ((decide ((((UInt8.toNat (List.getD ((s).1).1 (Int.toNat i) (0 : UInt8))) : Nat) : Int) ≥ (97 : Int))) = Bool.true), (((Int.tmod n (4 : Int)) == (0 : Int)) = Bool.true), (((List.length w) + (1 : Nat)) ≤ (9223372036854775807 : Nat)), ((((List.length w) + (1 : Nat)) * (4 : Nat)) ≤ (140737488355328 : Nat)), ((4 : Int) ≠ (0 : Int)), ((0 : Int) ≤ (Go.IntKind.wrap Go.IntKind.i64 (Int.tdiv n (4 : Int)))), ((Go.IntKind.wrap Go.IntKind.i64 (Int.tdiv n (4 : Int))) < (((List.length (w ++ ((0 : Int) :: ([] : List (Int))))) : Nat) : Int)), ((Int.toNat (Go.IntKind.wrap Go.IntKind.i64 (Int.tdiv n (4 : Int)))) < (List.length (w ++ ((0 : Int) :: ([] : List (Int)))))), (Go.Abs.InI64 ((4 : Int) * (Int.tmod n (4 : Int)))), ((0 : Int) ≤ (Go.IntKind.wrap Go.IntKind.u64 ((4 : Int) * (Int.tmod n (4 : Int))))), ((0 : Int) ≤ (Go.IntKind.wrap Go.IntKind.i64 (Int.tdiv n (4 : Int)))), ((Go.IntKind.wrap Go.IntKind.i64 (Int.tdiv n (4 : Int))) < (((List.length (w ++ ((0 : Int) :: ([] : List (Int))))) : Nat) : Int)), ((Int.toNat (Go.IntKind.wrap Go.IntKind.i64 (Int.tdiv n (4 : Int)))) < (List.length (w ++ ((0 : Int) :: ([] : List (Int)))))), ((some (1 : Nat)) = (some (1 : Nat))), (Go.Abs.InI64 (n + (1 : Int))), (Go.Abs.InI64 (i - (1 : Int))), (s = s), ((n + (1 : Int)) = (n + (1 : Int))), ((i - (1 : Int)) = (i - (1 : Int))), ((List.set (w ++ ((0 : Int) :: ([] : List (Int)))) (Int.toNat (Go.IntKind.wrap Go.IntKind.i64 (Int.tdiv n (4 : Int)))) (Go.Abs.bitsOf Go.BinOp.or Go.IntKind.u32 (List.getD (w ++ ((0 : Int) :: ([] : List (Int)))) (Int.toNat (Go.IntKind.wrap Go.IntKind.i64 (Int.tdiv n (4 : Int)))) (0 : Int)) (Go.IntKind.wrap Go.IntKind.u32 ((Go.IntKind.wrap Go.IntKind.u32 ((Go.IntKind.wrap Go.IntKind.u32 ((Go.IntKind.wrap Go.IntKind.u32 (((UInt8.toNat (List.getD ((s).1).1 (Int.toNat i) (0 : UInt8))) : Nat) : Int)) - (97 : Int))) + (10 : Int))) * ((2 : Int) ^ (min (Int.toNat (Go.IntKind.wrap Go.IntKind.u64 ((4 : Int) * (Int.tmod n (4 : Int))))) (32 : Nat))))))) = w')] := by kernel_rfl
theorem hex_aw (D : Dom) (s : ByteArray) (w w' : List Int) (n i : Int)
    (h1 : ((decide (i ≥ (0 : Int))) = Bool.true))
    (h2 : ((0 : Int) ≤ i))
    (h3 : (i < (((ByteArray.size s) : Nat) : Int)))
    (h4 : (((((UInt8.toNat (List.getD ((s).1).1 (Int.toNat i) (0 : UInt8))) : Nat) : Int) == (32 : Int)) = Bool.false))
    (h5 : ((decide ((((UInt8.toNat (List.getD ((s).1).1 (Int.toNat i) (0 : UInt8))) : Nat) : Int) ≥ (97 : Int))) = Bool.true))
    (h6 : (((Int.tmod n (4 : Int)) == (0 : Int)) = Bool.true))
    (h7 : (((List.length w) + (1 : Nat)) ≤ (9223372036854775807 : Nat)))
    (h8 : ((((List.length w) + (1 : Nat)) * (4 : Nat)) ≤ (140737488355328 : Nat)))
    (h9 : ((0 : Int) ≤ (Go.IntKind.wrap Go.IntKind.i64 (Int.tdiv n (4 : Int)))))
    (h10 : ((Go.IntKind.wrap Go.IntKind.i64 (Int.tdiv n (4 : Int))) < (((List.length (w ++ ((0 : Int) :: ([] : List (Int))))) : Nat) : Int)))
    (h11 : ((Int.toNat (Go.IntKind.wrap Go.IntKind.i64 (Int.tdiv n (4 : Int)))) < (List.length (w ++ ((0 : Int) :: ([] : List (Int)))))))
    (h12 : (Go.Abs.InI64 ((4 : Int) * (Int.tmod n (4 : Int)))))
    (h13 : ((0 : Int) ≤ (Go.IntKind.wrap Go.IntKind.u64 ((4 : Int) * (Int.tmod n (4 : Int))))))
    (h14 : (Go.Abs.InI64 (n + (1 : Int))))
    (h15 : (Go.Abs.InI64 (i - (1 : Int))))
    (h16 : ((List.set (w ++ ((0 : Int) :: ([] : List (Int)))) (Int.toNat (Go.IntKind.wrap Go.IntKind.i64 (Int.tdiv n (4 : Int)))) (Go.Abs.bitsOf Go.BinOp.or Go.IntKind.u32 (List.getD (w ++ ((0 : Int) :: ([] : List (Int)))) (Int.toNat (Go.IntKind.wrap Go.IntKind.i64 (Int.tdiv n (4 : Int)))) (0 : Int)) (Go.IntKind.wrap Go.IntKind.u32 ((Go.IntKind.wrap Go.IntKind.u32 ((Go.IntKind.wrap Go.IntKind.u32 ((Go.IntKind.wrap Go.IntKind.u32 (((UInt8.toNat (List.getD ((s).1).1 (Int.toNat i) (0 : UInt8))) : Nat) : Int)) - (97 : Int))) + (10 : Int))) * ((2 : Int) ^ (min (Int.toNat (Go.IntKind.wrap Go.IntKind.u64 ((4 : Int) * (Int.tmod n (4 : Int))))) (32 : Nat))))))) = w')) :
    ∃ ps, stepPs Try.prog D [] 100 (bodyOf Try.f66) 100 (hexSn D s w n i).st [.is true, .is false, .is true, .is true] .normal (hexSn D s w' (n + 1) (i - 1)) = some ps ∧ AllQ ps := ⟨_, hex_aw_r D s w w' n i, AllP.all ⟨h1, h2, h3, h4, h5, h6, h7, h8, (show ((4 : Int) ≠ (0 : Int)) from by decide), h9, h10, h11, h12, h13, h9, h10, h11, rfl, h14, h15, rfl, rfl, rfl, h16⟩⟩

theorem hex_a_r (D : Dom) (s : ByteArray) (w w' : List Int) (n i : Int) : stepPs Try.prog D [] 100 (bodyOf Try.f66) 100 (hexSn D s w n i).st [.is true, .is false, .is true, .is false] .normal (hexSn D s w' (n + 1) (i - 1)) =
    some [((decide (i ≥ (0 : Int))) = Bool.true), ((0 : Int) ≤ i), (i < (((ByteArray.size s) : Nat) : Int)), (((((UInt8.toNat (List.getD ((s).1).1 (Int.toNat i) (0 : UInt8))) : Nat) : Int) == (32 : Int)) = Bool.false), ((decide ((((UInt8.toNat (List.getD ((s).1).1 (Int.toNat i) (0 : UInt8))) : Nat) : Int) ≥ (97 : Int))) = Bool.true), (((Int.tmod n (4 : Int)) == (0 : Int)) = Bool.false), ((4 : Int) ≠ (0 : Int)), ((0 : Int) ≤ (Go.IntKind.wrap Go.IntKind.i64 (Int.tdiv n (4 : Int)))), ((Go.IntKind.wrap Go.IntKind.i64 (Int.tdiv n (4 : Int))) < (((List.length w) : Nat) : Int)), ((Int.toNat (Go.IntKind.wrap Go.IntKind.i64 (Int.tdiv n (4 : Int)))) < (List.length w)), (Go.Abs.InI64 ((4 : Int) * (Int.tmod n (4 : Int)))), ((0 : Int) ≤ (Go.IntKind.wrap Go.IntKind.u64 ((4 : Int) * (Int.tmod n (4 : Int))))), ((0 : Int) ≤ (Go.IntKind.wrap Go.IntKind.i64 (Int.tdiv n (4 : Int)))), ((Go.IntKind.wrap Go.IntKind.i64 (Int.tdiv n (4 : Int))) < (((List.length w) : Nat) : Int)), ((Int.toNat (Go.IntKind.wrap Go.IntKind.i64 (Int.tdiv n (4 : Int)))) < (List.length w)), ((some (1 : Nat)) = (some (1 : Nat))), (Go.Abs.InI64 (n + (1 : Int))), (Go.Abs.InI64 (i - (1 : Int))), (s = s), ((n + (1 : Int)) = (n + (1 : Int))), ((i - (1 : Int)) = (i - (1 : Int))), ((List.set w (Int.toNat (Go.IntKind.wrap Go.IntKind.i64 (Int.tdiv n (4 : Int)))) (Go.Abs.bitsOf Go.BinOp.or Go.IntKind.u32 (List.getD w (Int.toNat (Go.IntKind.wrap Go.IntKind.i64 (Int.tdiv n (4 : Int)))) (0 : Int)) (Go.IntKind.wrap Go.IntKind.u32 ((Go.IntKind.wrap Go.IntKind.u32 ((Go.IntKind.wrap Go.IntKind.u32 ((Go.IntKind.wrap Go.IntKind.u32 (((UInt8.toNat (List.getD ((s).1).1 (Int.toNat i) (0 : UInt8))) : Nat) : Int)) - (97 : Int))) + (10 : Int))) * ((2 : Int) ^ (min (Int.toNat (Go.IntKind.wrap Go.IntKind.u64 ((4 : Int) * (Int.tmod n (4 : Int))))) (32 : Nat))))))) = w')] := by kernel_rfl
theorem hex_a (D : Dom) (s : ByteArray) (w w' : List Int) (n i : Int)
    (h1 : ((decide (i ≥ (0 : Int))) = Bool.true))
    (h2 : ((0 : Int) ≤ i))
    (h3 : (i < (((ByteArray.size s) : Nat) : Int)))
    (h4 : (((((UInt8.toNat (List.getD ((s).1).1 (Int.toNat i) (0 : UInt8))) : Nat) : Int) == (32 : Int)) = Bool.false))
    (h5 : ((decide ((((UInt8.toNat (List.getD ((s).1).1 (Int.toNat i) (0 : UInt8))) : Nat) : Int) ≥ (97 : Int))) = Bool.true))
    (h6 : (((Int.tmod n (4 : Int)) == (0 : Int)) = Bool.false))
    (h7 : ((0 : Int) ≤ (Go.IntKind.wrap Go.IntKind.i64 (Int.tdiv n (4 : Int)))))
    (h8 : ((Go.IntKind.wrap Go.IntKind.i64 (Int.tdiv n (4 : Int))) < (((List.length w) : Nat) : Int)))
    (h9 : ((Int.toNat (Go.IntKind.wrap Go.IntKind.i64 (Int.tdiv n (4 : Int)))) < (List.length w)))
    (h10 : (Go.Abs.InI64 ((4 : Int) * (Int.tmod n (4 : Int)))))
    (h11 : ((0 : Int) ≤ (Go.IntKind.wrap Go.IntKind.u64 ((4 : Int) * (Int.tmod n (4 : Int))))))
    (h12 : (Go.Abs.InI64 (n + (1 : Int))))
    (h13 : (Go.Abs.InI64 (i - (1 : Int))))
    (h14 : ((List.set w (Int.toNat (Go.IntKind.wrap Go.IntKind.i64 (Int.tdiv n (4 : Int)))) (Go.Abs.bitsOf Go.BinOp.or Go.IntKind.u32 (List.getD w (Int.toNat (Go.IntKind.wrap Go.IntKind.i64 (Int.tdiv n (4 : Int)))) (0 : Int)) (Go.IntKind.wrap Go.IntKind.u32 ((Go.IntKind.wrap Go.IntKind.u32 ((Go.IntKind.wrap Go.IntKind.u32 ((Go.IntKind.wrap Go.IntKind.u32 (((UInt8.toNat (List.getD ((s).1).1 (Int.toNat i) (0 : UInt8))) : Nat) : Int)) - (97 : Int))) + (10 : Int))) * ((2 : Int) ^ (min (Int.toNat (Go.IntKind.wrap Go.IntKind.u64 ((4 : Int) * (Int.tmod n (4 : Int))))) (32 : Nat))))))) = w')) :
    ∃ ps, stepPs Try.prog D [] 100 (bodyOf Try.f66) 100 (hexSn D s w n i).st [.is true, .is false, .is true, .is false] .normal (hexSn D s w' (n + 1) (i - 1)) = some ps ∧ AllQ ps := ⟨_, hex_a_r D s w w' n i, AllP.all ⟨h1, h2, h3, h4, h5, h6, (show ((4 : Int) ≠ (0 : Int)) from by decide), h7, h8, h9, h10, h11, h7, h8, h9, rfl, h12, h13, rfl, rfl, rfl, h14⟩⟩

theorem hex_dw_r (D : Dom) (s : ByteArray) (w w' : List Int) (n i : Int) : stepPs Try.prog D [] 100 (bodyOf Try.f66) 100 (hexSn D s w n i).st [.is true, .is false, .is false, .is true] .normal (hexSn D s w' (n + 1) (i - 1)) =
    some [((decide (i ≥ (0 : Int))) = Bool.true), ((0 : Int) ≤ i), (i < (((ByteArray.size s) : Nat) : Int)), (((((UInt8.toNat (List.getD ((s).1).1 (Int.toNat i) (0 : UInt8))) : Nat) : Int) == (32 : Int)) = Bool.false), ((decide ((((UInt8.toNat (List.getD ((s).1).1 (Int.toNat i) (0 : UInt8))) : Nat) : Int) ≥ (97 : Int))) = Bool.false), (((Int.tmod n (4 : Int)) == (0 : Int)) = Bool.true), (((List.length w) + (1 : Nat)) ≤ (9223372036854775807 : Nat)), ((((List.length w) + (1 : Nat)) * (4 : Nat)) ≤ (140737488355328 : Nat)), ((4 : Int) ≠ (0 : Int)), ((0 : Int) ≤ (Go.IntKind.wrap Go.IntKind.i64 (Int.tdiv n (4 : Int)))), ((Go.IntKind.wrap Go.IntKind.i64 (Int.tdiv n (4 : Int))) < (((List.length (w ++ ((0 : Int) :: ([] : List (Int))))) : Nat) : Int)), ((Int.toNat (Go.IntKind.wrap Go.IntKind.i64 (Int.tdiv n (4 : Int)))) < (List.length (w ++ ((0 : Int) :: ([] : List (Int)))))), (Go.Abs.InI64 ((4 : Int) * (Int.tmod n (4 : Int)))), ((0 : Int) ≤ (Go.IntKind.wrap Go.IntKind.u64 ((4 : Int) * (Int.tmod n (4 : Int))))), ((0 : Int) ≤ (Go.IntKind.wrap Go.IntKind.i64 (Int.tdiv n (4 : Int)))), ((Go.IntKind.wrap Go.IntKind.i64 (Int.tdiv n (4 : Int))) < (((List.length (w ++ ((0 : Int) :: ([] : List (Int))))) : Nat) : Int)), ((Int.toNat (Go.IntKind.wrap Go.IntKind.i64 (Int.tdiv n (4 : Int)))) < (List.length (w ++ ((0 : Int) :: ([] : List (Int)))))), ((some (1 : Nat)) = (some (1 : Nat))), (Go.Abs.InI64 (n + (1 : Int))), (Go.Abs.InI64 (i - (1 : Int))), (s = s), ((n + (1 : Int)) = (n + (1 : Int))), ((i - (1 : Int)) = (i - (1 : Int))), ((List.set (w ++ ((0 : Int) :: ([] : List (Int)))) (Int.toNat (Go.IntKind.wrap Go.IntKind.i64 (Int.tdiv n (4 : Int)))) (Go.Abs.bitsOf Go.BinOp.or Go.IntKind.u32 (List.getD (w ++ ((0 : Int) :: ([] : List (Int)))) (Int.toNat (Go.IntKind.wrap Go.IntKind.i64 (Int.tdiv n (4 : Int)))) (0 : Int)) (Go.IntKind.wrap Go.IntKind.u32 ((Go.IntKind.wrap Go.IntKind.u32 ((Go.IntKind.wrap Go.IntKind.u32 (((UInt8.toNat (List.getD ((s).1).1 (Int.toNat i) (0 : UInt8))) : Nat) : Int)) - (48 : Int))) * ((2 : Int) ^ (min (Int.toNat (Go.IntKind.wrap Go.IntKind.u64 ((4 : Int) * (Int.tmod n (4 : Int))))) (32 : Nat))))))) = w')] := by kernel_rfl
theorem hex_dw (D : Dom) (s : ByteArray) (w w' : List Int) (n i : Int)
    (h1 : ((decide (i ≥ (0 : Int))) = Bool.true))
    (h2 : ((0 : Int) ≤ i))
    (h3 : (i < (((ByteArray.size s) : Nat) : Int)))
    (h4 : (((((UInt8.toNat (List.getD ((s).1).1 (Int.toNat i) (0 : UInt8))) : Nat) : Int) == (32 : Int)) = Bool.false))
    (h5 : ((decide ((((UInt8.toNat (List.getD ((s).1).1 (Int.toNat i) (0 : UInt8))) : Nat) : Int) ≥ (97 : Int))) = Bool.false))
    (h6 : (((Int.tmod n (4 : Int)) == (0 : Int)) = Bool.true))
    (h7 : (((List.length w) + (1 : Nat)) ≤ (9223372036854775807 : Nat)))
    (h8 : ((((List.length w) + (1 : Nat)) * (4 : Nat)) ≤ (140737488355328 : Nat)))
    (h9 : ((0 : Int) ≤ (Go.IntKind.wrap Go.IntKind.i64 (Int.tdiv n (4 : Int)))))
    (h10 : ((Go.IntKind.wrap Go.IntKind.i64 (Int.tdiv n (4 : Int))) < (((List.length (w ++ ((0 : Int) :: ([] : List (Int))))) : Nat) : Int)))
    (h11 : ((Int.toNat (Go.IntKind.wrap Go.IntKind.i64 (Int.tdiv n (4 : Int)))) < (List.length (w ++ ((0 : Int) :: ([] : List (Int)))))))
    (h12 : (Go.Abs.InI64 ((4 : Int) * (Int.tmod n (4 : Int)))))
    (h13 : ((0 : Int) ≤ (Go.IntKind.wrap Go.IntKind.u64 ((4 : Int) * (Int.tmod n (4 : Int))))))
    (h14 : (Go.Abs.InI64 (n + (1 : Int))))
    (h15 : (Go.Abs.InI64 (i - (1 : Int))))
    (h16 : ((List.set (w ++ ((0 : Int) :: ([] : List (Int)))) (Int.toNat (Go.IntKind.wrap Go.IntKind.i64 (Int.tdiv n (4 : Int)))) (Go.Abs.bitsOf Go.BinOp.or Go.IntKind.u32 (List.getD (w ++ ((0 : Int) :: ([] : List (Int)))) (Int.toNat (Go.IntKind.wrap Go.IntKind.i64 (Int.tdiv n (4 : Int)))) (0 : Int)) (Go.IntKind.wrap Go.IntKind.u32 ((Go.IntKind.wrap Go.IntKind.u32 ((Go.IntKind.wrap Go.IntKind.u32 (((UInt8.toNat (List.getD ((s).1).1 (Int.toNat i) (0 : UInt8))) : Nat) : Int)) - (48 : Int))) * ((2 : Int) ^ (min (Int.toNat (Go.IntKind.wrap Go.IntKind.u64 ((4 : Int) * (Int.tmod n (4 : Int))))) (32 : Nat))))))) = w')) :
    ∃ ps, stepPs Try.prog D [] 100 (bodyOf Try.f66) 100 (hexSn D s w n i).st [.is true, .is false, .is false, .is true] .normal (hexSn D s w' (n + 1) (i - 1)) = some ps ∧ AllQ ps := ⟨_, hex_dw_r D s w w' n i, AllP.all ⟨h1, h2, h3, h4, h5, h6, h7, h8, (show ((4 : Int) ≠ (0 : Int)) from by decide), h9, h10, h11, h12, h13, h9, h10, h11, rfl, h14, h15, rfl, rfl, rfl, h16⟩⟩

theorem hex_d_r (D : Dom) (s : ByteArray) (w w' : List Int) (n i : Int) : stepPs Try.prog D [] 100 (bodyOf Try.f66) 100 (hexSn D s w n i).st [.is true, .is false, .is false, .is false] .normal (hexSn D s w' (n + 1) (i - 1)) =
    some [((decide (i ≥ (0 : Int))) = Bool.true), ((0 : Int) ≤ i), (i < (((ByteArray.size s) : Nat) : Int)), (((((UInt8.toNat (List.getD ((s).1).1 (Int.toNat i) (0 : UInt8))) : Nat) : Int) == (32 : Int)) = Bool.false), ((decide ((((UInt8.toNat (List.getD ((s).1).1 (Int.toNat i) (0 : UInt8))) : Nat) : Int) ≥ (97 : Int))) = Bool.false), (((Int.tmod n (4 : Int)) == (0 : Int)) = Bool.false), ((4 : Int) ≠ (0 : Int)), ((0 : Int) ≤ (Go.IntKind.wrap Go.IntKind.i64 (Int.tdiv n (4 : Int)))), ((Go.IntKind.wrap Go.IntKind.i64 (Int.tdiv n (4 : Int))) < (((List.length w) : Nat) : Int)), ((Int.toNat (Go.IntKind.wrap Go.IntKind.i64 (Int.tdiv n (4 : Int)))) < (List.length w)), (Go.Abs.InI64 ((4 : Int) * (Int.tmod n (4 : Int)))), ((0 : Int) ≤ (Go.IntKind.wrap Go.IntKind.u64 ((4 : Int) * (Int.tmod n (4 : Int))))), ((0 : Int) ≤ (Go.IntKind.wrap Go.IntKind.i64 (Int.tdiv n (4 : Int)))), ((Go.IntKind.wrap Go.IntKind.i64 (Int.tdiv n (4 : Int))) < (((List.length w) : Nat) : Int)), ((Int.toNat (Go.IntKind.wrap Go.IntKind.i64 (Int.tdiv n (4 : Int)))) < (List.length w)), ((some (1 : Nat)) = (some (1 : Nat))), (Go.Abs.InI64 (n + (1 : Int))), (Go.Abs.InI64 (i - (1 : Int))), (s = s), ((n + (1 : Int)) = (n + (1 : Int))), ((i - (1 : Int)) = (i - (1 : Int))), ((List.set w (Int.toNat (Go.IntKind.wrap Go.IntKind.i64 (Int.tdiv n (4 : Int)))) (Go.Abs.bitsOf Go.BinOp.or Go.IntKind.u32 (List.getD w (Int.toNat (Go.IntKind.wrap Go.IntKind.i64 (Int.tdiv n (4 : Int)))) (0 : Int)) (Go.IntKind.wrap Go.IntKind.u32 ((Go.IntKind.wrap Go.IntKind.u32 ((Go.IntKind.wrap Go.IntKind.u32 (((UInt8.toNat (List.getD ((s).1).1 (Int.toNat i) (0 : UInt8))) : Nat) : Int)) - (48 : Int))) * ((2 : Int) ^ (min (Int.toNat (Go.IntKind.wrap Go.IntKind.u64 ((4 : Int) * (Int.tmod n (4 : Int))))) (32 : Nat))))))) = w')] := by kernel_rfl
theorem hex_d (D : Dom) (s : ByteArray) (w w' : List Int) (n i : Int)
    (h1 : ((decide (i ≥ (0 : Int))) = Bool.true))
    (h2 : ((0 : Int) ≤ i))
    (h3 : (i < (((ByteArray.size s) : Nat) : Int)))
    (h4 : (((((UInt8.toNat (List.getD ((s).1).1 (Int.toNat i) (0 : UInt8))) : Nat) : Int) == (32 : Int)) = Bool.false))
    (h5 : ((decide ((((UInt8.toNat (List.getD ((s).1).1 (Int.toNat i) (0 : UInt8))) : Nat) : Int) ≥ (97 : Int))) = Bool.false))
    (h6 : (((Int.tmod n (4 : Int)) == (0 : Int)) = Bool.false))
    (h7 : ((0 : Int) ≤ (Go.IntKind.wrap Go.IntKind.i64 (Int.tdiv n (4 : Int)))))
    (h8 : ((Go.IntKind.wrap Go.IntKind.i64 (Int.tdiv n (4 : Int))) < (((List.length w) : Nat) : Int)))
    (h9 : ((Int.toNat (Go.IntKind.wrap Go.IntKind.i64 (Int.tdiv n (4 : Int)))) < (List.length w)))
    (h10 : (Go.Abs.InI64 ((4 : Int) * (Int.tmod n (4 : Int)))))
    (h11 : ((0 : Int) ≤ (Go.IntKind.wrap Go.IntKind.u64 ((4 : Int) * (Int.tmod n (4 : Int))))))
    (h12 : (Go.Abs.InI64 (n + (1 : Int))))
    (h13 : (Go.Abs.InI64 (i - (1 : Int))))
    (h14 : ((List.set w (Int.toNat (Go.IntKind.wrap Go.IntKind.i64 (Int.tdiv n (4 : Int)))) (Go.Abs.bitsOf Go.BinOp.or Go.IntKind.u32 (List.getD w (Int.toNat (Go.IntKind.wrap Go.IntKind.i64 (Int.tdiv n (4 : Int)))) (0 : Int)) (Go.IntKind.wrap Go.IntKind.u32 ((Go.IntKind.wrap Go.IntKind.u32 ((Go.IntKind.wrap Go.IntKind.u32 (((UInt8.toNat (List.getD ((s).1).1 (Int.toNat i) (0 : UInt8))) : Nat) : Int)) - (48 : Int))) * ((2 : Int) ^ (min (Int.toNat (Go.IntKind.wrap Go.IntKind.u64 ((4 : Int) * (Int.tmod n (4 : Int))))) (32 : Nat))))))) = w')) :
    ∃ ps, stepPs Try.prog D [] 100 (bodyOf Try.f66) 100 (hexSn D s w n i).st [.is true, .is false, .is false, .is false] .normal (hexSn D s w' (n + 1) (i - 1)) = some ps ∧ AllQ ps := ⟨_, hex_d_r D s w w' n i, AllP.all ⟨h1, h2, h3, h4, h5, h6, (show ((4 : Int) ≠ (0 : Int)) from by decide), h7, h8, h9, h10, h11, h7, h8, h9, rfl, h12, h13, rfl, rfl, rfl, h14⟩⟩

theorem hex_exit_r (D : Dom) (s : ByteArray) (w : List Int) (n i : Int) : stepPs Try.prog D [] 100 (bodyOf Try.f66) 100 (hexSn D s w n i).st [.is false] (.exit 0) (hexSn D s w n i) =
    some [((decide (i ≥ (0 : Int))) = Bool.false), (s = s), (n = n), (i = i), (w = w)] := by kernel_rfl
theorem hex_exit (D : Dom) (s : ByteArray) (w : List Int) (n i : Int)
    (h1 : ((decide (i ≥ (0 : Int))) = Bool.false)) :
    ∃ ps, stepPs Try.prog D [] 100 (bodyOf Try.f66) 100 (hexSn D s w n i).st [.is false] (.exit 0) (hexSn D s w n i) = some ps ∧ AllQ ps := ⟨_, hex_exit_r D s w n i, AllP.all ⟨h1, rfl, rfl, rfl, rfl⟩⟩

theorem hex_run_r (D : Dom) (s : ByteArray) (w w' : List Int) (n i i' : Int) : runF Try.prog D [] 100 Try.f66 [.one (.str s)] [.loop (loopL D (hexSn D s w 0 i) (.exit 0) (hexSn D s w' n i'))] =
    some ((Go.Abs.AV.v (Go.Abs.A0.one (Go.Abs.Part.fresh (0 : Nat) (43 : TypeId) Go.IntKind.u32 w'))), [SumOK Try.prog D (bodyOf Try.f66) (loopL D (hexSn D s w 0 i) (.exit 0) (hexSn D s w' n i')), (s = s), ((0 : Int) = (0 : Int)), ((Go.IntKind.wrap Go.IntKind.i64 ((((ByteArray.size s) : Nat) : Int) - (1 : Int))) = i), (([] : List (Int)) = w)]) := by kernel_rfl
theorem hex_run (D : Dom) (s : ByteArray) (w w' : List Int) (n i i' : Int)
    (h1 : SumOK Try.prog D (bodyOf Try.f66) (loopL D (hexSn D s w 0 i) (.exit 0) (hexSn D s w' n i')))
    (h2 : ((Go.IntKind.wrap Go.IntKind.i64 ((((ByteArray.size s) : Nat) : Int) - (1 : Int))) = i))
    (h3 : (([] : List (Int)) = w)) :
    ∃ ps, runF Try.prog D [] 100 Try.f66 [.one (.str s)] [.loop (loopL D (hexSn D s w 0 i) (.exit 0) (hexSn D s w' n i'))] = some ((Go.Abs.AV.v (Go.Abs.A0.one (Go.Abs.Part.fresh (0 : Nat) (43 : TypeId) Go.IntKind.u32 w'))), ps) ∧ AllQ ps := ⟨_, hex_run_r D s w w' n i i', AllP.all ⟨h1, rfl, rfl, h2, h3⟩⟩

/-! Add, Sub, Mul, Same -/

def gamA (D : Dom) : Gam D := (68, pl16D D) :: (60, modD D) :: (80, timD D) :: gamM D
theorem gamA_ok (D : Dom) : GamOK Try.prog D (gamA D) := gam_cons (pl16_ok D) (gam_cons (mod_ok D) (gam_cons (tim_ok D) (gamM_ok D)))

theorem add_run3_r (D : Dom) (l m n : List Int) : runF Try.prog D (gamA D) 100 Try.f65 [.one (.words .u32 l), .one (.words .u32 m), .one (.words .u32 n)] [] =
    some ((Go.Abs.AV.v (Go.Abs.A0.one (Go.Abs.Part.fresh (0 : Nat) (43 : TypeId) Go.IntKind.u32 (Go.Num.W (List.length n) ((Go.Num.v16 (Go.Num.W ((if ((List.length l) < (List.length m)) then (List.length m) else (List.length l)) + (1 : Nat)) ((Go.Num.v16 l) + (Go.Num.v16 m)))) % (Go.Num.v16 n)))))), [(Go.Num.In16 l), (Go.Num.In16 m), ((List.length l) ≤ (1099511627776 : Nat)), ((List.length m) ≤ (1099511627776 : Nat)), (Go.Num.In16 (Go.Num.W ((if ((List.length l) < (List.length m)) then (List.length m) else (List.length l)) + (1 : Nat)) ((Go.Num.v16 l) + (Go.Num.v16 m)))), (Go.Num.In16 n), ((0 : Int) < (Go.Num.v16 n)), ((List.length (Go.Num.W ((if ((List.length l) < (List.length m)) then (List.length m) else (List.length l)) + (1 : Nat)) ((Go.Num.v16 l) + (Go.Num.v16 m)))) ≤ (1099511627776 : Nat)), ((List.length n) ≤ (1099511627775 : Nat))]) := by kernel_rfl
theorem add_run3 (D : Dom) (l m n : List Int)
    (h1 : (Go.Num.In16 l))
    (h2 : (Go.Num.In16 m))
    (h3 : ((List.length l) ≤ (1099511627776 : Nat)))
    (h4 : ((List.length m) ≤ (1099511627776 : Nat)))
    (h5 : (Go.Num.In16 (Go.Num.W ((if ((List.length l) < (List.length m)) then (List.length m) else (List.length l)) + (1 : Nat)) ((Go.Num.v16 l) + (Go.Num.v16 m)))))
    (h6 : (Go.Num.In16 n))
    (h7 : ((0 : Int) < (Go.Num.v16 n)))
    (h8 : ((List.length (Go.Num.W ((if ((List.length l) < (List.length m)) then (List.length m) else (List.length l)) + (1 : Nat)) ((Go.Num.v16 l) + (Go.Num.v16 m)))) ≤ (1099511627776 : Nat)))
    (h9 : ((List.length n) ≤ (1099511627775 : Nat))) :
    ∃ ps, runF Try.prog D (gamA D) 100 Try.f65 [.one (.words .u32 l), .one (.words .u32 m), .one (.words .u32 n)] [] = some ((Go.Abs.AV.v (Go.Abs.A0.one (Go.Abs.Part.fresh (0 : Nat) (43 : TypeId) Go.IntKind.u32 (Go.Num.W (List.length n) ((Go.Num.v16 (Go.Num.W ((if ((List.length l) < (List.length m)) then (List.length m) else (List.length l)) + (1 : Nat)) ((Go.Num.v16 l) + (Go.Num.v16 m)))) % (Go.Num.v16 n)))))), ps) ∧ AllQ ps := ⟨_, add_run3_r D l m n, AllP.all ⟨h1, h2, h3, h4, h5, h6, h7, h8, h9⟩⟩

theorem sub_run3_r (D : Dom) (l m n : List Int) : runF Try.prog D (gamA D) 100 Try.f48 [.one (.words .u32 l), .one (.words .u32 m), .one (.words .u32 n)] [] =
    some ((Go.Abs.AV.v (Go.Abs.A0.one (Go.Abs.Part.fresh (0 : Nat) (43 : TypeId) Go.IntKind.u32 (Go.Num.W (List.length n) ((Go.Num.v16 (Go.Num.W (List.length (Go.Num.W ((if ((List.length l) < (List.length n)) then (List.length n) else (List.length l)) + (1 : Nat)) ((Go.Num.v16 l) + (Go.Num.v16 n)))) ((Go.Num.v16 (Go.Num.W ((if ((List.length l) < (List.length n)) then (List.length n) else (List.length l)) + (1 : Nat)) ((Go.Num.v16 l) + (Go.Num.v16 n)))) - (Go.Num.v16 m)))) % (Go.Num.v16 n)))))), [(Go.Num.In16 l), (Go.Num.In16 n), ((List.length l) ≤ (1099511627776 : Nat)), ((List.length n) ≤ (1099511627776 : Nat)), (Go.Num.In16 (Go.Num.W ((if ((List.length l) < (List.length n)) then (List.length n) else (List.length l)) + (1 : Nat)) ((Go.Num.v16 l) + (Go.Num.v16 n)))), (Go.Num.In16 m), ((List.length (Go.Num.W ((if ((List.length l) < (List.length n)) then (List.length n) else (List.length l)) + (1 : Nat)) ((Go.Num.v16 l) + (Go.Num.v16 n)))) ≤ (1099511627776 : Nat)), (Go.Num.In16 (Go.Num.W (List.length (Go.Num.W ((if ((List.length l) < (List.length n)) then (List.length n) else (List.length l)) + (1 : Nat)) ((Go.Num.v16 l) + (Go.Num.v16 n)))) ((Go.Num.v16 (Go.Num.W ((if ((List.length l) < (List.length n)) then (List.length n) else (List.length l)) + (1 : Nat)) ((Go.Num.v16 l) + (Go.Num.v16 n)))) - (Go.Num.v16 m)))), (Go.Num.In16 n), ((0 : Int) < (Go.Num.v16 n)), ((List.length (Go.Num.W (List.length (Go.Num.W ((if ((List.length l) < (List.length n)) then (List.length n) else (List.length l)) + (1 : Nat)) ((Go.Num.v16 l) + (Go.Num.v16 n)))) ((Go.Num.v16 (Go.Num.W ((if ((List.length l) < (List.length n)) then (List.length n) else (List.length l)) + (1 : Nat)) ((Go.Num.v16 l) + (Go.Num.v16 n)))) - (Go.Num.v16 m)))) ≤ (1099511627776 : Nat)), ((List.length n) ≤ (1099511627775 : Nat))]) := by kernel_rfl
theorem sub_run3 (D : Dom) (l m n : List Int)
    (h1 : (Go.Num.In16 l))
    (h2 : (Go.Num.In16 n))
    (h3 : ((List.length l) ≤ (1099511627776 : Nat)))
    (h4 : ((List.length n) ≤ (1099511627776 : Nat)))
    (h5 : (Go.Num.In16 (Go.Num.W ((if ((List.length l) < (List.length n)) then (List.length n) else (List.length l)) + (1 : Nat)) ((Go.Num.v16 l) + (Go.Num.v16 n)))))
    (h6 : (Go.Num.In16 m))
    (h7 : ((List.length (Go.Num.W ((if ((List.length l) < (List.length n)) then (List.length n) else (List.length l)) + (1 : Nat)) ((Go.Num.v16 l) + (Go.Num.v16 n)))) ≤ (1099511627776 : Nat)))
    (h8 : (Go.Num.In16 (Go.Num.W (List.length (Go.Num.W ((if ((List.length l) < (List.length n)) then (List.length n) else (List.length l)) + (1 : Nat)) ((Go.Num.v16 l) + (Go.Num.v16 n)))) ((Go.Num.v16 (Go.Num.W ((if ((List.length l) < (List.length n)) then (List.length n) else (List.length l)) + (1 : Nat)) ((Go.Num.v16 l) + (Go.Num.v16 n)))) - (Go.Num.v16 m)))))
    (h9 : ((0 : Int) < (Go.Num.v16 n)))
    (h10 : ((List.length (Go.Num.W (List.length (Go.Num.W ((if ((List.length l) < (List.length n)) then (List.length n) else (List.length l)) + (1 : Nat)) ((Go.Num.v16 l) + (Go.Num.v16 n)))) ((Go.Num.v16 (Go.Num.W ((if ((List.length l) < (List.length n)) then (List.length n) else (List.length l)) + (1 : Nat)) ((Go.Num.v16 l) + (Go.Num.v16 n)))) - (Go.Num.v16 m)))) ≤ (1099511627776 : Nat)))
    (h11 : ((List.length n) ≤ (1099511627775 : Nat))) :
    ∃ ps, runF Try.prog D (gamA D) 100 Try.f48 [.one (.words .u32 l), .one (.words .u32 m), .one (.words .u32 n)] [] = some ((Go.Abs.AV.v (Go.Abs.A0.one (Go.Abs.Part.fresh (0 : Nat) (43 : TypeId) Go.IntKind.u32 (Go.Num.W (List.length n) ((Go.Num.v16 (Go.Num.W (List.length (Go.Num.W ((if ((List.length l) < (List.length n)) then (List.length n) else (List.length l)) + (1 : Nat)) ((Go.Num.v16 l) + (Go.Num.v16 n)))) ((Go.Num.v16 (Go.Num.W ((if ((List.length l) < (List.length n)) then (List.length n) else (List.length l)) + (1 : Nat)) ((Go.Num.v16 l) + (Go.Num.v16 n)))) - (Go.Num.v16 m)))) % (Go.Num.v16 n)))))), ps) ∧ AllQ ps := ⟨_, sub_run3_r D l m n, AllP.all ⟨h1, h2, h3, h4, h5, h6, h7, h8, h2, h9, h10, h11⟩⟩

theorem mul_run3_r (D : Dom) (l m n : List Int) : runF Try.prog D (gamA D) 100 Try.f64 [.one (.words .u32 l), .one (.words .u32 m), .one (.words .u32 n)] [] =
    some ((Go.Abs.AV.v (Go.Abs.A0.one (Go.Abs.Part.fresh (0 : Nat) (43 : TypeId) Go.IntKind.u32 (Go.Num.W (List.length n) ((Go.Num.v16 (Go.Num.W (((List.length l) + (List.length m)) + (1 : Nat)) ((Go.Num.v16 l) * (Go.Num.v16 m)))) % (Go.Num.v16 n)))))), [(Go.Num.In16 l), (Go.Num.In16 m), ((List.length l) ≤ (1099511627776 : Nat)), ((List.length m) ≤ (1099511627776 : Nat)), (Go.Num.In16 (Go.Num.W (((List.length l) + (List.length m)) + (1 : Nat)) ((Go.Num.v16 l) * (Go.Num.v16 m)))), (Go.Num.In16 n), ((0 : Int) < (Go.Num.v16 n)), ((List.length (Go.Num.W (((List.length l) + (List.length m)) + (1 : Nat)) ((Go.Num.v16 l) * (Go.Num.v16 m)))) ≤ (1099511627776 : Nat)), ((List.length n) ≤ (1099511627775 : Nat))]) := by kernel_rfl
theorem mul_run3 (D : Dom) (l m n : List Int)
    (h1 : (Go.Num.In16 l))
    (h2 : (Go.Num.In16 m))
    (h3 : ((List.length l) ≤ (1099511627776 : Nat)))
    (h4 : ((List.length m) ≤ (1099511627776 : Nat)))
    (h5 : (Go.Num.In16 (Go.Num.W (((List.length l) + (List.length m)) + (1 : Nat)) ((Go.Num.v16 l) * (Go.Num.v16 m)))))
    (h6 : (Go.Num.In16 n))
    (h7 : ((0 : Int) < (Go.Num.v16 n)))
    (h8 : ((List.length (Go.Num.W (((List.length l) + (List.length m)) + (1 : Nat)) ((Go.Num.v16 l) * (Go.Num.v16 m)))) ≤ (1099511627776 : Nat)))
    (h9 : ((List.length n) ≤ (1099511627775 : Nat))) :
    ∃ ps, runF Try.prog D (gamA D) 100 Try.f64 [.one (.words .u32 l), .one (.words .u32 m), .one (.words .u32 n)] [] = some ((Go.Abs.AV.v (Go.Abs.A0.one (Go.Abs.Part.fresh (0 : Nat) (43 : TypeId) Go.IntKind.u32 (Go.Num.W (List.length n) ((Go.Num.v16 (Go.Num.W (((List.length l) + (List.length m)) + (1 : Nat)) ((Go.Num.v16 l) * (Go.Num.v16 m)))) % (Go.Num.v16 n)))))), ps) ∧ AllQ ps := ⟨_, mul_run3_r D l m n, AllP.all ⟨h1, h2, h3, h4, h5, h6, h7, h8, h9⟩⟩

/-! The contracts -/

theorem W_app0 {n : Nat} {x : Int} (h : 0 ≤ x ∧ x < H ^ n) : W n x ++ [0] = W (n + 1) x := by
  rw [W_succ, Int.ediv_eq_zero_of_lt h.1 h.2]
  rfl

theorem pow_quarter (k : Nat) : (16 : Int) ^ k = H ^ (k / 4) * 2 ^ (4 * (k % 4)) := by
  have h : k = 4 * (k / 4) + k % 4 := by omega
  calc (16 : Int) ^ k = 16 ^ (4 * (k / 4) + k % 4) := by rw [← h]
    _ = _ := by rw [Int.pow_add, Int.pow_mul, Int.pow_mul]; rfl

theorem pow16_H {n N : Nat} (h : n ≤ 4 * N) : (16 : Int) ^ n ≤ H ^ N := by
  have h3 : ((16 : Int) ^ 4) ^ N = H ^ N := rfl
  rw [← h3, ← Int.pow_mul]
  rcases Nat.lt_or_ge n (4 * N) with h1 | h1
  · exact Int.le_of_lt (Int.pow_lt_pow_of_lt (by decide) h1)
  · rw [show n = 4 * N from by omega]; exact Int.le_refl _

/-- A digit is laid at its place. -/
theorem hex_set {n : Nat} {x d : Int} (hx : 0 ≤ x ∧ x < 16 ^ n) (hd : 0 ≤ d ∧ d < 16) :
    (W ((n + 4) / 4) x).set (n / 4) (bitsOf .or .u32 ((W ((n + 4) / 4) x).getD (n / 4) 0) (IntKind.u32.wrap (d * 2 ^ (4 * (n % 4))))) = W ((n + 4) / 4) (d * 16 ^ n + x) := by
  have hi : n / 4 < (n + 4) / 4 := by omega
  have hp := H_pos (n / 4)
  obtain ⟨d, rfl⟩ := Int.eq_ofNat_of_zero_le hd.1
  have hd2 : d < 16 := by omega
  have hn4 : n % 4 = 0 ∨ n % 4 = 1 ∨ n % 4 = 2 ∨ n % 4 = 3 := by omega
  have hold : ∃ o : Nat, x / H ^ (n / 4) % H = (o : Int) ∧ o < 2 ^ (4 * (n % 4)) := by
    rw [pow_quarter] at hx
    have h1 : x / H ^ (n / 4) < 2 ^ (4 * (n % 4)) := Int.ediv_lt_of_lt_mul hp (by rw [Int.mul_comm]; exact hx.2)
    have h0 : 0 ≤ x / H ^ (n / 4) := Int.ediv_nonneg hx.1 (by omega)
    obtain ⟨o, ho⟩ := Int.eq_ofNat_of_zero_le h0
    rw [ho] at h1 ⊢
    have h2 : o < 2 ^ (4 * (n % 4)) := by
      have : ((o : Nat) : Int) < ((2 ^ (4 * (n % 4)) : Nat) : Int) := by simpa using h1
      omega
    refine ⟨o, ?_, h2⟩
    have : o < 65536 := by rcases hn4 with h | h | h | h <;> rw [h] at h2 <;> omega
    exact Int.emod_eq_of_lt (by omega) (by unfold H; omega)
  obtain ⟨o, ho, ho2⟩ := hold
  have hnew : IntKind.u32.wrap ((d : Int) * 2 ^ (4 * (n % 4))) = ((2 ^ (4 * (n % 4)) * d : Nat) : Int) := by
    rw [IntKind.wrap_u32]
    rcases hn4 with h | h | h | h <;> rw [h] <;> omega
  have hlt : 2 ^ (4 * (n % 4)) * d + o < 65536 := by rcases hn4 with h | h | h | h <;> rw [h] at ho2 ⊢ <;> omega
  rw [W_getD hi, ho, hnew, or32 ho2 (by omega)]
  symm
  refine W_of (in16_set (W_in16 _ _) ⟨by omega, by unfold H; omega⟩) (by rw [List.length_set, W_len]) ?_
  have h16 : (16 : Int) ^ (n + 1) ≤ H ^ ((n + 4) / 4) := pow16_H (by omega)
  have hs : (16 : Int) ^ (n + 1) = 16 ^ n * 16 := Int.pow_succ _ _
  have hp16 : (0 : Int) < 16 ^ n := Int.pow_pos (by decide)
  have hdx : 0 ≤ (d : Int) * 16 ^ n ∧ (d : Int) * 16 ^ n ≤ 15 * 16 ^ n := ⟨Int.mul_nonneg (by omega) (by omega), Int.mul_le_mul_of_nonneg_right (by omega) (by omega)⟩
  rw [v16_set _ (by rw [W_len]; exact hi), v16_W, W_getD hi, ho, Int.emod_eq_of_lt (by omega) (by omega), Int.emod_eq_of_lt (by omega) (by omega), pow_quarter]
  have e : ((2 ^ (4 * (n % 4)) * d + o : Nat) : Int) - (o : Int) = 2 ^ (4 * (n % 4)) * (d : Int) := by push_cast; omega
  rw [e]
  generalize (2 : Int) ^ (4 * (n % 4)) = a
  generalize H ^ (n / 4) = y
  grind

theorem getD_elem {α : Type} {l : List α} {i : Nat} (h : i < l.length) (d : α) : l.getD i d = l[i] := by
  rw [List.getD_eq_getElem?_getD, List.getElem?_eq_getElem h]
  rfl

/-- What a digit is. -/
def dig (c : UInt8) : Int := if 97 ≤ c.toNat then (c.toNat : Int) - 87 else (c.toNat : Int) - 48
def okDig (c : UInt8) : Bool := (Nat.ble 48 c.toNat && Nat.ble c.toNat 57) || (Nat.ble 97 c.toNat && Nat.ble c.toNat 102)

theorem okDig_spec {c : UInt8} (h : okDig c = true) : (48 ≤ c.toNat ∧ c.toNat ≤ 57) ∨ (97 ≤ c.toNat ∧ c.toNat ≤ 102) := by
  simpa [okDig] using h

theorem dig_range {c : UInt8} (h : okDig c = true) : 0 ≤ dig c ∧ dig c < 16 := by
  have := okDig_spec h
  unfold dig
  split <;> omega

def hexN : List UInt8 → Int
  | [] => 0
  | c :: l => dig c * 16 ^ l.length + hexN l

theorem hexN_range : ∀ {l : List UInt8}, l.all okDig = true → 0 ≤ hexN l ∧ hexN l < 16 ^ l.length
  | [], _ => by simp [hexN]
  | c :: l, h => by
    simp only [List.all_cons, Bool.and_eq_true] at h
    have hd := dig_range h.1
    have ih := hexN_range h.2
    have hp16 : (0 : Int) < 16 ^ l.length := Int.pow_pos (by decide)
    have hdx : 0 ≤ dig c * 16 ^ l.length ∧ dig c * 16 ^ l.length ≤ 15 * 16 ^ l.length := ⟨Int.mul_nonneg (by omega) (by omega), Int.mul_le_mul_of_nonneg_right (by omega) (by omega)⟩
    rw [hexN, List.length_cons, Int.pow_succ]
    omega

def hexD (D : Dom) : FnD D
  | [.one (.str s)] => some (.v (.one (.fresh 0 43 .u32 (W ((s.data.toList.length + 3) / 4) (hexN s.data.toList)))), [s.data.toList.all okDig = true, s.data.toList.length ≤ 1000000])
  | _ => none

def lastX (l : List UInt8) (k : Nat) : Int := hexN (l.drop (l.length - k))

theorem lastX_succ {l : List UInt8} {k : Nat} (h : k < l.length) : lastX l (k + 1) = dig (l.getD (l.length - 1 - k) 0) * 16 ^ k + lastX l k := by
  unfold lastX
  have e : l.getD (l.length - 1 - k) 0 = l[l.length - 1 - k] := getD_elem (by omega) 0
  rw [show l.length - (k + 1) = l.length - 1 - k from by omega, List.drop_eq_getElem_cons (show l.length - 1 - k < l.length by omega), e, hexN]
  congr 2
  · rw [List.length_drop]; congr 1; omega
  · congr 2; omega

theorem lastX_range {l : List UInt8} (hb : l.all okDig = true) {k : Nat} (h : k ≤ l.length) : 0 ≤ lastX l k ∧ lastX l k < 16 ^ k := by
  have := hexN_range (l := l.drop (l.length - k)) (List.all_eq_true.2 fun a ha => List.all_eq_true.1 hb a (List.mem_of_mem_drop ha))
  rw [List.length_drop, show l.length - (l.length - k) = k from by omega] at this
  exact this

theorem hex_loop (D : Dom) {s : ByteArray} (hb : s.data.toList.all okDig = true) (hl : s.data.toList.length ≤ 1000000) :
    SumOK Try.prog D (bodyOf Try.f66) (loopL D (hexSn D s (W ((0 + 3) / 4) (lastX s.data.toList 0)) (0 : Nat) ((s.data.toList.length : Int) - 1 - (0 : Nat))) (.exit 0) (hexSn D s (W ((s.data.toList.length + 3) / 4) (lastX s.data.toList s.data.toList.length)) s.data.toList.length (-1))) := by
  refine sum_loop gam_nil mixed (fun k => hexSn D s (W ((k + 3) / 4) (lastX s.data.toList k)) k ((s.data.toList.length : Int) - 1 - k)) s.data.toList.length rfl (fun k hk => ?_) ⟨100, 100, [.is false], ?_⟩
  · have hr := lastX_range hb (k := k) (by omega)
    have hs := lastX_succ hk
    have hi : ((s.data.toList.length : Int) - 1 - k).toNat = s.data.toList.length - 1 - k := by omega
    have hi2 : ((s.data.toList.length : Int) - 1 - (k + 1 : Nat)) = (s.data.toList.length : Int) - 1 - k - 1 := by omega
    have hok : okDig (s.data.toList.getD (s.data.toList.length - 1 - k) 0) = true := by
      have e : s.data.toList.getD (s.data.toList.length - 1 - k) 0 = s.data.toList[s.data.toList.length - 1 - k]'(by omega) := getD_elem (by omega) 0
      rw [e]
      exact List.all_eq_true.1 hb _ (List.getElem_mem _)
    have hc := okDig_spec hok
    have hd := dig_range hok
    generalize hcc : s.data.toList.getD (s.data.toList.length - 1 - k) 0 = c at *
    have hset := hex_set hr hd
    rw [← hs] at hset
    have e2 := tdiv_wrap (k := k) (c := 4) (by omega)
    have e3 := tmod_nat k 4
    have e4 : IntKind.u64.wrap (4 * ((k % 4 : Nat) : Int)) = ((4 * (k % 4) : Nat) : Int) := by rw [IntKind.wrap_u64]; omega
    have g1 : 0 ≤ IntKind.i64.wrap (Int.tdiv (k : Int) 4) := by erw [e2]; omega
    have g2 : InI64 (4 * Int.tmod (k : Int) 4) := by erw [e3]; exact ⟨by omega, by omega⟩
    have g3 : 0 ≤ IntKind.u64.wrap (4 * Int.tmod (k : Int) 4) := by erw [e3, e4]; omega
    have g4 : (IntKind.i64.wrap (Int.tdiv (k : Int) 4)).toNat = k / 4 := by erw [e2]; omega
    have g5 : min (IntKind.u64.wrap (4 * Int.tmod (k : Int) 4)).toNat 32 = 4 * (k % 4) := by erw [e3, e4]; omega
    have hlen : (s.data.toList.length : Int) - 1 - k < ((List.length s.data.toList : Nat) : Int) := by omega
    have hlen : (s.data.toList.length : Int) - 1 - k < ((s.size : Nat) : Int) := hlen
    have g6 : IntKind.i64.wrap (Int.tdiv (k : Int) 4) < (((W ((k + 4) / 4) (lastX s.data.toList k)).length : Nat) : Int) := by rw [W_len]; erw [e2]; omega
    have g7 : (IntKind.i64.wrap (Int.tdiv (k : Int) 4)).toNat < (W ((k + 4) / 4) (lastX s.data.toList k)).length := by rw [W_len, g4]; omega
    have hcd : (UInt8.toNat (s.data.toList.getD ((s.data.toList.length : Int) - 1 - k).toNat 0)) = c.toNat := by rw [hi, hcc]
    have hsp : (((UInt8.toNat (s.data.toList.getD ((s.data.toList.length : Int) - 1 - k).toNat 0) : Nat) : Int) == 32) = false := by
      rw [hcd, beq_eq_false_iff_ne]; omega
    rw [hi2, show (k + 1 + 3) / 4 = (k + 4) / 4 from by omega]
    by_cases h4 : k % 4 = 0
    · have hm : (Int.tmod (k : Int) 4 == 0) = true := by erw [e3]; rw [h4]; rfl
      have happ : W ((k + 3) / 4) (lastX s.data.toList k) ++ [0] = W ((k + 4) / 4) (lastX s.data.toList k) := by
        rw [show (k + 4) / 4 = (k + 3) / 4 + 1 from by omega]
        exact W_app0 ⟨hr.1, by have := pow16_H (n := k) (N := (k + 3) / 4) (by omega); omega⟩
      by_cases h97 : 97 ≤ c.toNat
      · refine ⟨100, 100, [.is true, .is false, .is true, .is true], hex_aw D s _ _ k _ (decide_eq_true (by omega)) (by omega) hlen hsp (decide_eq_true (by rw [hcd]; omega)) hm (by rw [W_len]; omega) (by rw [W_len]; omega) g1 (by rw [happ]; exact g6) (by rw [happ]; exact g7) g2 g3 ⟨by omega, by omega⟩ ⟨by omega, by omega⟩ ?_⟩
        rw [happ, g4, g5, hcd]
        rw [show IntKind.u32.wrap (IntKind.u32.wrap (IntKind.u32.wrap ((c.toNat : Nat) : Int) - 97) + 10) = dig c from by rw [IntKind.wrap_u32, IntKind.wrap_u32, IntKind.wrap_u32, dig, if_pos h97]; omega]
        exact hset
      · refine ⟨100, 100, [.is true, .is false, .is false, .is true], hex_dw D s _ _ k _ (decide_eq_true (by omega)) (by omega) hlen hsp (decide_eq_false (by rw [hcd]; omega)) hm (by rw [W_len]; omega) (by rw [W_len]; omega) g1 (by rw [happ]; exact g6) (by rw [happ]; exact g7) g2 g3 ⟨by omega, by omega⟩ ⟨by omega, by omega⟩ ?_⟩
        rw [happ, g4, g5, hcd]
        rw [show IntKind.u32.wrap (IntKind.u32.wrap ((c.toNat : Nat) : Int) - 48) = dig c from by rw [IntKind.wrap_u32, IntKind.wrap_u32, dig, if_neg h97]; omega]
        exact hset
    · have hm : (Int.tmod (k : Int) 4 == 0) = false := by erw [e3]; rw [beq_eq_false_iff_ne]; omega
      have hsame : (k + 3) / 4 = (k + 4) / 4 := by omega
      rw [hsame]
      by_cases h97 : 97 ≤ c.toNat
      · refine ⟨100, 100, [.is true, .is false, .is true, .is false], hex_a D s _ _ k _ (decide_eq_true (by omega)) (by omega) hlen hsp (decide_eq_true (by rw [hcd]; omega)) hm g1 g6 g7 g2 g3 ⟨by omega, by omega⟩ ⟨by omega, by omega⟩ ?_⟩
        rw [g4, g5, hcd]
        rw [show IntKind.u32.wrap (IntKind.u32.wrap (IntKind.u32.wrap ((c.toNat : Nat) : Int) - 97) + 10) = dig c from by rw [IntKind.wrap_u32, IntKind.wrap_u32, IntKind.wrap_u32, dig, if_pos h97]; omega]
        exact hset
      · refine ⟨100, 100, [.is true, .is false, .is false, .is false], hex_d D s _ _ k _ (decide_eq_true (by omega)) (by omega) hlen hsp (decide_eq_false (by rw [hcd]; omega)) hm g1 g6 g7 g2 g3 ⟨by omega, by omega⟩ ⟨by omega, by omega⟩ ?_⟩
        rw [g4, g5, hcd]
        rw [show IntKind.u32.wrap (IntKind.u32.wrap ((c.toNat : Nat) : Int) - 48) = dig c from by rw [IntKind.wrap_u32, IntKind.wrap_u32, dig, if_neg h97]; omega]
        exact hset
  · show ∃ ps, stepPs Try.prog D [] 100 (bodyOf Try.f66) 100 (hexSn D s (W ((s.data.toList.length + 3) / 4) (lastX s.data.toList s.data.toList.length)) s.data.toList.length ((s.data.toList.length : Int) - 1 - s.data.toList.length)).st [.is false] (.exit 0) (hexSn D s (W ((s.data.toList.length + 3) / 4) (lastX s.data.toList s.data.toList.length)) s.data.toList.length (-1)) = some ps ∧ AllQ ps
    rw [show (s.data.toList.length : Int) - 1 - s.data.toList.length = -1 from by omega]
    exact hex_exit D s _ _ (-1) (by decide)

theorem hex_ok (D : Dom) : FnOK Try.prog D 66 (hexD D) := by
  refine fnOK_of gam_nil mixed Try.func66 (enters_of Try.func66 (by kernel_rfl) rfl) ?_
  intro xs r ps h hps
  unfold hexD at h
  split at h
  · rename_i s
    simp only [Option.some.injEq, Prod.mk.injEq] at h
    obtain ⟨rfl, rfl⟩ := h
    have hb : s.data.toList.all okDig = true := hps _ (by simp)
    have hl : s.data.toList.length ≤ 1000000 := hps _ (by simp)
    obtain ⟨ps, h1, h2⟩ := hex_run D s _ _ _ _ _ (hex_loop D hb hl) (by
      have e : ((List.length s.data.toList : Nat) : Int) - 1 - (0 : Nat) = (s.data.toList.length : Int) - 1 := by omega
      rw [e, IntKind.wrap_i64]
      have e2 : s.size = s.data.toList.length := rfl
      rw [e2]
      omega) (by simp [W])
    refine ⟨_, 100, _, _, _, fun w vs h => h, h1, h2, fun E v hv => ?_⟩
    have e : lastX s.data.toList s.data.toList.length = hexN s.data.toList := by simp [lastX]
    rw [e] at hv
    exact hv
  · cases h

theorem mod_self_pow {x : Int} {n : Nat} (h : 0 ≤ x ∧ x < H ^ n) : v16 (W n x) = x := by rw [v16_W]; exact Int.emod_eq_of_lt h.1 h.2

theorem H_mono {a b : Nat} (h : a ≤ b) : H ^ a ≤ H ^ b := by
  rcases Nat.lt_or_ge a b with h1 | h1
  · exact Int.le_of_lt (Int.pow_lt_pow_of_lt (by decide) h1)
  · rw [show a = b from by omega]; exact Int.le_refl _

theorem H_double {a b : Nat} (h : a < b) : 2 * H ^ a ≤ H ^ b := by
  have h1 := H_mono (Nat.succ_le_of_lt h)
  have h2 : H ^ (a + 1) = H ^ a * H := Int.pow_succ _ _
  have h3 := H_pos a
  show 2 * H ^ a ≤ H ^ b
  have h4 : H ^ a * H = 65536 * H ^ a := Int.mul_comm _ _
  have h5 : H ^ (a + 1) ≤ H ^ b := h1
  omega

/-- Modulo a third number: of the sum, the difference, the product. -/
def mod3D (D : Dom) (f : Int → Int → Int → Int) (c : Int → Int → Int → Prop) : FnD D
  | [.one (.words .u32 l), .one (.words .u32 m), .one (.words .u32 n)] => some (.v (.one (.fresh 0 43 .u32 (W n.length (f (v16 l) (v16 m) (v16 n) % v16 n)))), [In16 l, In16 m, In16 n, 0 < v16 n, l.length ≤ 1000000, m.length ≤ 1000000, n.length ≤ 1000000, c (v16 l) (v16 m) (v16 n)])
  | _ => none

theorem add3_ok (D : Dom) : FnOK Try.prog D 65 (mod3D D (fun a b _ => a + b) (fun _ _ _ => True)) := by
  refine fnOK_of (gamA_ok D) mixed Try.func65 (enters_of Try.func65 (by kernel_rfl) rfl) ?_
  intro xs r ps h hps
  unfold mod3D at h
  split at h
  · rename_i l m n
    simp only [Option.some.injEq, Prod.mk.injEq] at h
    obtain ⟨rfl, rfl⟩ := h
    have h1 : In16 l := hps _ (by simp)
    have h2 : In16 m := hps _ (by simp)
    have h3 : In16 n := hps _ (by simp)
    have h4 : 0 < v16 n := hps _ (by simp)
    have h5 : l.length ≤ 1000000 := hps _ (by simp)
    have h6 : m.length ≤ 1000000 := hps _ (by simp)
    have h7 : n.length ≤ 1000000 := hps _ (by simp)
    have hN : ∃ N, (if l.length < m.length then m.length else l.length) = N ∧ l.length ≤ N ∧ m.length ≤ N ∧ N ≤ 1000000 := by
      split
      · exact ⟨_, rfl, by omega, by omega, by omega⟩
      · exact ⟨_, rfl, by omega, by omega, by omega⟩
    obtain ⟨N, hN, n1, n2, n3⟩ := hN
    obtain ⟨ps, r1, r2⟩ := add_run3 D l m n h1 h2 (by omega) (by omega) (W_in16 _ _) h3 h4 (by rw [W_len, hN]; omega) (by omega)
    refine ⟨_, 100, _, _, _, fun w vs h => h, r1, r2, fun E v hv => ?_⟩
    have a1 := v16_range h1
    have a2 := v16_range h2
    have b1 := H_mono n1
    have b2 := H_mono n2
    have b3 := H_double (show N < N + 1 by omega)
    rw [hN, mod_self_pow ⟨by omega, by omega⟩] at hv
    exact hv
  · cases h

theorem sub3_ok (D : Dom) : FnOK Try.prog D 48 (mod3D D (fun a b c => a + c - b) (fun a b c => b ≤ a + c)) := by
  refine fnOK_of (gamA_ok D) mixed Try.func48 (enters_of Try.func48 (by kernel_rfl) rfl) ?_
  intro xs r ps h hps
  unfold mod3D at h
  split at h
  · rename_i l m n
    simp only [Option.some.injEq, Prod.mk.injEq] at h
    obtain ⟨rfl, rfl⟩ := h
    have h1 : In16 l := hps _ (by simp)
    have h2 : In16 m := hps _ (by simp)
    have h3 : In16 n := hps _ (by simp)
    have h4 : 0 < v16 n := hps _ (by simp)
    have h5 : l.length ≤ 1000000 := hps _ (by simp)
    have h7 : n.length ≤ 1000000 := hps _ (by simp)
    have h8 : v16 m ≤ v16 l + v16 n := hps _ (by simp)
    have hN : ∃ N, (if l.length < n.length then n.length else l.length) = N ∧ l.length ≤ N ∧ n.length ≤ N ∧ N ≤ 1000000 := by
      split
      · exact ⟨_, rfl, by omega, by omega, by omega⟩
      · exact ⟨_, rfl, by omega, by omega, by omega⟩
    obtain ⟨N, hN, n1, n2, n3⟩ := hN
    obtain ⟨ps, r1, r2⟩ := sub_run3 D l m n h1 h3 (by omega) (by omega) (W_in16 _ _) h2 (by rw [W_len, hN]; omega) (W_in16 _ _) h4 (by rw [W_len, W_len, hN]; omega) (by omega)
    refine ⟨_, 100, _, _, _, fun w vs h => h, r1, r2, fun E v hv => ?_⟩
    have a1 := v16_range h1
    have a2 := v16_range h2
    have a3 := v16_range h3
    have b1 := H_mono n1
    have b2 := H_mono n2
    have b3 := H_double (show N < N + 1 by omega)
    rw [W_len, hN, mod_self_pow (x := v16 l + v16 n) ⟨by omega, by omega⟩, mod_self_pow ⟨by omega, by omega⟩] at hv
    exact hv
  · cases h

theorem mul3_ok (D : Dom) : FnOK Try.prog D 64 (mod3D D (fun a b _ => a * b) (fun _ _ _ => True)) := by
  refine fnOK_of (gamA_ok D) mixed Try.func64 (enters_of Try.func64 (by kernel_rfl) rfl) ?_
  intro xs r ps h hps
  unfold mod3D at h
  split at h
  · rename_i l m n
    simp only [Option.some.injEq, Prod.mk.injEq] at h
    obtain ⟨rfl, rfl⟩ := h
    have h1 : In16 l := hps _ (by simp)
    have h2 : In16 m := hps _ (by simp)
    have h3 : In16 n := hps _ (by simp)
    have h4 : 0 < v16 n := hps _ (by simp)
    have h5 : l.length ≤ 1000000 := hps _ (by simp)
    have h6 : m.length ≤ 1000000 := hps _ (by simp)
    have h7 : n.length ≤ 1000000 := hps _ (by simp)
    obtain ⟨ps, r1, r2⟩ := mul_run3 D l m n h1 h2 (by omega) (by omega) (W_in16 _ _) h3 h4 (by rw [W_len]; omega) (by omega)
    refine ⟨_, 100, _, _, _, fun w vs h => h, r1, r2, fun E v hv => ?_⟩
    have a1 := v16_range h1
    have a2 := v16_range h2
    have b0 : v16 l * v16 m ≤ H ^ l.length * H ^ m.length := Int.mul_le_mul (by omega) (by omega) a2.1 (by have := H_pos l.length; omega)
    rw [← Int.pow_add] at b0
    have b3 := H_double (show l.length + m.length < l.length + m.length + 1 by omega)
    have b4 := H_pos (l.length + m.length)
    rw [mod_self_pow ⟨Int.mul_nonneg a1.1 a2.1, by omega⟩] at hv
    exact hv
  · cases h



end Go.Num
