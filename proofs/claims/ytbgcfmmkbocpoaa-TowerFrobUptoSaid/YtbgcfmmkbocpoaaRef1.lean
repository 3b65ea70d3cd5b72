/- The reference's numbers in words of 16 bits: out of bytes, into bytes, which is less. -/
import Derived.Test.YtbgcfmmkbocpoaaSame
import Derived.Test.YtbgcfmmkbocpoaaN16
namespace Go.Num
open Go.Abs Go.Proofs Go.Shelf

/-! Number -/

def numSn (D : Dom) (l w : List Int) (k : Int) : Sn D.τ where
  slots := [(0, .v (.one (.words .u8 l))), (3, .v (.one (.own 0))), (4, .v (.one (.int .i64 false k)))]
  boxes := [(0, .dyn 43 (.ints .u32 w))]
  nt := 40

theorem num_round_r (D : Dom) (l w w' : List Int) (k : Int) : stepPs Try.prog D [] 100 (bodyOf Try.f61) 100 (numSn D l w k).st [.is true] .normal (numSn D l w' (k + 1)) =
    some [((decide (k < (((List.length l) : Nat) : Int))) = Bool.true), (Go.Abs.InI64 ((((List.length l) : Nat) : Int) - (1 : Int))), (Go.Abs.InI64 (((((List.length l) : Nat) : Int) - (1 : Int)) - k)), ((2 : Int) ≠ (0 : Int)), ((0 : Int) ≤ (Go.IntKind.wrap Go.IntKind.i64 (Int.tdiv k (2 : Int)))), ((Go.IntKind.wrap Go.IntKind.i64 (Int.tdiv k (2 : Int))) < (((List.length w) : Nat) : Int)), ((Int.toNat (Go.IntKind.wrap Go.IntKind.i64 (Int.tdiv k (2 : Int)))) < (List.length w)), ((0 : Int) ≤ (((((List.length l) : Nat) : Int) - (1 : Int)) - k)), ((((((List.length l) : Nat) : Int) - (1 : Int)) - k) < (((List.length l) : Nat) : Int)), (Go.Abs.InI64 ((8 : Int) * (Int.tmod k (2 : Int)))), ((0 : Int) ≤ (Go.IntKind.wrap Go.IntKind.u64 ((8 : Int) * (Int.tmod k (2 : Int))))), ((0 : Int) ≤ (Go.IntKind.wrap Go.IntKind.i64 (Int.tdiv k (2 : Int)))), ((Go.IntKind.wrap Go.IntKind.i64 (Int.tdiv k (2 : Int))) < (((List.length w) : Nat) : Int)), ((Int.toNat (Go.IntKind.wrap Go.IntKind.i64 (Int.tdiv k (2 : Int)))) < (List.length w)), ((some (1 : Nat)) = (some (1 : Nat))), (Go.Abs.InI64 (k + (1 : Int))), (l = l), ((k + (1 : Int)) = (k + (1 : Int))), ((List.set w (Int.toNat (Go.IntKind.wrap Go.IntKind.i64 (Int.tdiv k (2 : Int)))) (Go.Abs.bitsOf Go.BinOp.or Go.IntKind.u32 (List.getD w (Int.toNat (Go.IntKind.wrap Go.IntKind.i64 (Int.tdiv k (2 : Int)))) (0 : Int)) (Go.IntKind.wrap Go.IntKind.u32 ((Go.IntKind.wrap Go.IntKind.u32 (List.getD l (Int.toNat (((((List.length l) : Nat) : Int) - (1 : Int)) - k)) (0 : Int))) * ((2 : Int) ^ (min (Int.toNat (Go.IntKind.wrap Go.IntKind.u64 ((8 : Int) * (Int.tmod k (2 : Int))))) (32 : Nat))))))) = w')] := by kernel_rfl
theorem num_round (D : Dom) (l w w' : List Int) (k : Int)
    (h1 : ((decide (k < (((List.length l) : Nat) : Int))) = Bool.true))
    (h2 : (Go.Abs.InI64 ((((List.length l) : Nat) : Int) - (1 : Int))))
    (h3 : (Go.Abs.InI64 (((((List.length l) : Nat) : Int) - (1 : Int)) - k)))
    (h4 : ((0 : Int) ≤ (Go.IntKind.wrap Go.IntKind.i64 (Int.tdiv k (2 : Int)))))
    (h5 : ((Go.IntKind.wrap Go.IntKind.i64 (Int.tdiv k (2 : Int))) < (((List.length w) : Nat) : Int)))
    (h6 : ((Int.toNat (Go.IntKind.wrap Go.IntKind.i64 (Int.tdiv k (2 : Int)))) < (List.length w)))
    (h7 : ((0 : Int) ≤ (((((List.length l) : Nat) : Int) - (1 : Int)) - k)))
    (h8 : ((((((List.length l) : Nat) : Int) - (1 : Int)) - k) < (((List.length l) : Nat) : Int)))
    (h9 : (Go.Abs.InI64 ((8 : Int) * (Int.tmod k (2 : Int)))))
    (h10 : ((0 : Int) ≤ (Go.IntKind.wrap Go.IntKind.u64 ((8 : Int) * (Int.tmod k (2 : Int))))))
    (h11 : (Go.Abs.InI64 (k + (1 : Int))))
    (h12 : ((List.set w (Int.toNat (Go.IntKind.wrap Go.IntKind.i64 (Int.tdiv k (2 : Int)))) (Go.Abs.bitsOf Go.BinOp.or Go.IntKind.u32 (List.getD w (Int.toNat (Go.IntKind.wrap Go.IntKind.i64 (Int.tdiv k (2 : Int)))) (0 : Int)) (Go.IntKind.wrap Go.IntKind.u32 ((Go.IntKind.wrap Go.IntKind.u32 (List.getD l (Int.toNat (((((List.length l) : Nat) : Int) - (1 : Int)) - k)) (0 : Int))) * ((2 : Int) ^ (min (Int.toNat (Go.IntKind.wrap Go.IntKind.u64 ((8 : Int) * (Int.tmod k (2 : Int))))) (32 : Nat))))))) = w')) :
    ∃ ps, stepPs Try.prog D [] 100 (bodyOf Try.f61) 100 (numSn D l w k).st [.is true] .normal (numSn D l w' (k + 1)) = some ps ∧ AllQ ps := ⟨_, num_round_r D l w w' k, AllP.all ⟨h1, h2, h3, (show ((2 : Int) ≠ (0 : Int)) from by decide), h4, h5, h6, h7, h8, h9, h10, h4, h5, h6, rfl, h11, rfl, rfl, h12⟩⟩

theorem num_exit_r (D : Dom) (l w : List Int) (k : Int) : stepPs Try.prog D [] 100 (bodyOf Try.f61) 100 (numSn D l w k).st [.is false] (.exit 0) (numSn D l w k) =
    some [((decide (k < (((List.length l) : Nat) : Int))) = Bool.false), (l = l), (k = k), (w = w)] := by kernel_rfl
theorem num_exit (D : Dom) (l w : List Int) (k : Int)
    (h1 : ((decide (k < (((List.length l) : Nat) : Int))) = Bool.false)) :
    ∃ ps, stepPs Try.prog D [] 100 (bodyOf Try.f61) 100 (numSn D l w k).st [.is false] (.exit 0) (numSn D l w k) = some ps ∧ AllQ ps := ⟨_, num_exit_r D l w k, AllP.all ⟨h1, rfl, rfl, rfl⟩⟩

theorem num_run_r (D : Dom) (l w w' : List Int) (k : Int) : runF Try.prog D [] 100 Try.f61 [.one (.words .u8 l)] [.loop (loopL D (numSn D l w 0) (.exit 0) (numSn D l w' k))] =
    some ((Go.Abs.AV.v (Go.Abs.A0.one (Go.Abs.Part.fresh (0 : Nat) (43 : TypeId) Go.IntKind.u32 w'))), [(Go.Abs.InI64 ((((List.length l) : Nat) : Int) + (1 : Int))), ((2 : Int) ≠ (0 : Int)), ((0 : Int) ≤ (Go.IntKind.wrap Go.IntKind.i64 (Int.tdiv ((((List.length l) : Nat) : Int) + (1 : Int)) (2 : Int)))), ((Go.IntKind.wrap Go.IntKind.i64 (Int.tdiv ((((List.length l) : Nat) : Int) + (1 : Int)) (2 : Int))) ≤ (Go.IntKind.wrap Go.IntKind.i64 (Int.tdiv ((((List.length l) : Nat) : Int) + (1 : Int)) (2 : Int)))), ((Go.IntKind.wrap Go.IntKind.i64 (Int.tdiv ((((List.length l) : Nat) : Int) + (1 : Int)) (2 : Int))) ≤ (9223372036854775807 : Int)), (((((4 : Nat) : Nat) : Int) * (Go.IntKind.wrap Go.IntKind.i64 (Int.tdiv ((((List.length l) : Nat) : Int) + (1 : Int)) (2 : Int)))) ≤ (281474976710656 : Int)), SumOK Try.prog D (bodyOf Try.f61) (loopL D (numSn D l w 0) (.exit 0) (numSn D l w' k)), (l = l), ((0 : Int) = (0 : Int)), ((List.replicate (Int.toNat (Go.IntKind.wrap Go.IntKind.i64 (Int.tdiv ((((List.length l) : Nat) : Int) + (1 : Int)) (2 : Int)))) (0 : Int)) = w)]) := by kernel_rfl
theorem num_run (D : Dom) (l w w' : List Int) (k : Int)
    (h1 : (Go.Abs.InI64 ((((List.length l) : Nat) : Int) + (1 : Int))))
    (h2 : ((0 : Int) ≤ (Go.IntKind.wrap Go.IntKind.i64 (Int.tdiv ((((List.length l) : Nat) : Int) + (1 : Int)) (2 : Int)))))
    (h3 : ((Go.IntKind.wrap Go.IntKind.i64 (Int.tdiv ((((List.length l) : Nat) : Int) + (1 : Int)) (2 : Int))) ≤ (Go.IntKind.wrap Go.IntKind.i64 (Int.tdiv ((((List.length l) : Nat) : Int) + (1 : Int)) (2 : Int)))))
    (h4 : ((Go.IntKind.wrap Go.IntKind.i64 (Int.tdiv ((((List.length l) : Nat) : Int) + (1 : Int)) (2 : Int))) ≤ (9223372036854775807 : Int)))
    (h5 : (((((4 : Nat) : Nat) : Int) * (Go.IntKind.wrap Go.IntKind.i64 (Int.tdiv ((((List.length l) : Nat) : Int) + (1 : Int)) (2 : Int)))) ≤ (281474976710656 : Int)))
    (h6 : SumOK Try.prog D (bodyOf Try.f61) (loopL D (numSn D l w 0) (.exit 0) (numSn D l w' k)))
    (h7 : ((List.replicate (Int.toNat (Go.IntKind.wrap Go.IntKind.i64 (Int.tdiv ((((List.length l) : Nat) : Int) + (1 : Int)) (2 : Int)))) (0 : Int)) = w)) :
    ∃ ps, runF Try.prog D [] 100 Try.f61 [.one (.words .u8 l)] [.loop (loopL D (numSn D l w 0) (.exit 0) (numSn D l w' k))] = some ((Go.Abs.AV.v (Go.Abs.A0.one (Go.Abs.Part.fresh (0 : Nat) (43 : TypeId) Go.IntKind.u32 w'))), ps) ∧ AllQ ps := ⟨_, num_run_r D l w w' k, AllP.all ⟨h1, (show ((2 : Int) ≠ (0 : Int)) from by decide), h2, h3, h4, h5, h6, rfl, rfl, h7⟩⟩

/-! Bytes -/

def bytSn (D : Dom) (l w : List Int) (n k : Int) : Sn D.τ where
  slots := [(0, .v (.one (.words .u32 l))), (1, .v (.one (.int .i64 false n))), (5, .v (.one (.own 0))), (6, .v (.one (.int .i64 false k)))]
  boxes := [(0, .dyn 5 (.ints .u8 w))]
  nt := 39

theorem byt_round_r (D : Dom) (l w w' : List Int) (n k : Int) : stepPs Try.prog D [] 100 (bodyOf Try.f63) 100 (bytSn D l w n k).st [.is true, .is true] .normal (bytSn D l w' n (k + 1)) =
    some [((decide (k < n)) = Bool.true), (Go.Abs.InI64 (n - (1 : Int))), (Go.Abs.InI64 ((n - (1 : Int)) - k)), ((2 : Int) ≠ (0 : Int)), ((decide ((Go.IntKind.wrap Go.IntKind.i64 (Int.tdiv k (2 : Int))) < (((List.length l) : Nat) : Int))) = Bool.true), ((2 : Int) ≠ (0 : Int)), ((0 : Int) ≤ (Go.IntKind.wrap Go.IntKind.i64 (Int.tdiv k (2 : Int)))), ((Go.IntKind.wrap Go.IntKind.i64 (Int.tdiv k (2 : Int))) < (((List.length l) : Nat) : Int)), (Go.Abs.InI64 ((8 : Int) * (Int.tmod k (2 : Int)))), ((0 : Int) ≤ (Go.IntKind.wrap Go.IntKind.u64 ((8 : Int) * (Int.tmod k (2 : Int))))), ((0 : Int) ≤ ((n - (1 : Int)) - k)), (((n - (1 : Int)) - k) < (((List.length w) : Nat) : Int)), ((Int.toNat ((n - (1 : Int)) - k)) < (List.length w)), ((some (1 : Nat)) = (some (1 : Nat))), (Go.Abs.InI64 (k + (1 : Int))), (l = l), (n = n), ((k + (1 : Int)) = (k + (1 : Int))), ((List.set w (Int.toNat ((n - (1 : Int)) - k)) (Go.IntKind.wrap Go.IntKind.u8 (Int.fdiv (List.getD l (Int.toNat (Go.IntKind.wrap Go.IntKind.i64 (Int.tdiv k (2 : Int)))) (0 : Int)) ((2 : Int) ^ (min (Int.toNat (Go.IntKind.wrap Go.IntKind.u64 ((8 : Int) * (Int.tmod k (2 : Int))))) (32 : Nat)))))) = w')] := by kernel_rfl
theorem byt_round (D : Dom) (l w w' : List Int) (n k : Int)
    (h1 : ((decide (k < n)) = Bool.true))
    (h2 : (Go.Abs.InI64 (n - (1 : Int))))
    (h3 : (Go.Abs.InI64 ((n - (1 : Int)) - k)))
    (h4 : ((decide ((Go.IntKind.wrap Go.IntKind.i64 (Int.tdiv k (2 : Int))) < (((List.length l) : Nat) : Int))) = Bool.true))
    (h5 : ((0 : Int) ≤ (Go.IntKind.wrap Go.IntKind.i64 (Int.tdiv k (2 : Int)))))
    (h6 : ((Go.IntKind.wrap Go.IntKind.i64 (Int.tdiv k (2 : Int))) < (((List.length l) : Nat) : Int)))
    (h7 : (Go.Abs.InI64 ((8 : Int) * (Int.tmod k (2 : Int)))))
    (h8 : ((0 : Int) ≤ (Go.IntKind.wrap Go.IntKind.u64 ((8 : Int) * (Int.tmod k (2 : Int))))))
    (h9 : ((0 : Int) ≤ ((n - (1 : Int)) - k)))
    (h10 : (((n - (1 : Int)) - k) < (((List.length w) : Nat) : Int)))
    (h11 : ((Int.toNat ((n - (1 : Int)) - k)) < (List.length w)))
    (h12 : (Go.Abs.InI64 (k + (1 : Int))))
    (h13 : ((List.set w (Int.toNat ((n - (1 : Int)) - k)) (Go.IntKind.wrap Go.IntKind.u8 (Int.fdiv (List.getD l (Int.toNat (Go.IntKind.wrap Go.IntKind.i64 (Int.tdiv k (2 : Int)))) (0 : Int)) ((2 : Int) ^ (min (Int.toNat (Go.IntKind.wrap Go.IntKind.u64 ((8 : Int) * (Int.tmod k (2 : Int))))) (32 : Nat)))))) = w')) :
    ∃ ps, stepPs Try.prog D [] 100 (bodyOf Try.f63) 100 (bytSn D l w n k).st [.is true, .is true] .normal (bytSn D l w' n (k + 1)) = some ps ∧ AllQ ps := ⟨_, byt_round_r D l w w' n k, AllP.all ⟨h1, h2, h3, (show ((2 : Int) ≠ (0 : Int)) from by decide), h4, (show ((2 : Int) ≠ (0 : Int)) from by decide), h5, h6, h7, h8, h9, h10, h11, rfl, h12, rfl, rfl, rfl, h13⟩⟩

theorem byt_above_r (D : Dom) (l w w' : List Int) (n k : Int) : stepPs Try.prog D [] 100 (bodyOf Try.f63) 100 (bytSn D l w n k).st [.is true, .is false] .normal (bytSn D l w' n (k + 1)) =
    some [((decide (k < n)) = Bool.true), (Go.Abs.InI64 (n - (1 : Int))), (Go.Abs.InI64 ((n - (1 : Int)) - k)), ((2 : Int) ≠ (0 : Int)), ((decide ((Go.IntKind.wrap Go.IntKind.i64 (Int.tdiv k (2 : Int))) < (((List.length l) : Nat) : Int))) = Bool.false), (Go.Abs.InI64 (k + (1 : Int))), (l = l), (n = n), ((k + (1 : Int)) = (k + (1 : Int))), (w = w')] := by kernel_rfl
theorem byt_above (D : Dom) (l w w' : List Int) (n k : Int)
    (h1 : ((decide (k < n)) = Bool.true))
    (h2 : (Go.Abs.InI64 (n - (1 : Int))))
    (h3 : (Go.Abs.InI64 ((n - (1 : Int)) - k)))
    (h4 : ((decide ((Go.IntKind.wrap Go.IntKind.i64 (Int.tdiv k (2 : Int))) < (((List.length l) : Nat) : Int))) = Bool.false))
    (h5 : (Go.Abs.InI64 (k + (1 : Int))))
    (h6 : (w = w')) :
    ∃ ps, stepPs Try.prog D [] 100 (bodyOf Try.f63) 100 (bytSn D l w n k).st [.is true, .is false] .normal (bytSn D l w' n (k + 1)) = some ps ∧ AllQ ps := ⟨_, byt_above_r D l w w' n k, AllP.all ⟨h1, h2, h3, (show ((2 : Int) ≠ (0 : Int)) from by decide), h4, h5, rfl, rfl, rfl, h6⟩⟩

theorem byt_exit_r (D : Dom) (l w : List Int) (n k : Int) : stepPs Try.prog D [] 100 (bodyOf Try.f63) 100 (bytSn D l w n k).st [.is false] (.exit 0) (bytSn D l w n k) =
    some [((decide (k < n)) = Bool.false), (l = l), (n = n), (k = k), (w = w)] := by kernel_rfl
theorem byt_exit (D : Dom) (l w : List Int) (n k : Int)
    (h1 : ((decide (k < n)) = Bool.false)) :
    ∃ ps, stepPs Try.prog D [] 100 (bodyOf Try.f63) 100 (bytSn D l w n k).st [.is false] (.exit 0) (bytSn D l w n k) = some ps ∧ AllQ ps := ⟨_, byt_exit_r D l w n k, AllP.all ⟨h1, rfl, rfl, rfl, rfl⟩⟩

theorem byt_run_r (D : Dom) (l w w' : List Int) (n k : Int) : runF Try.prog D [] 100 Try.f63 [.one (.words .u32 l), .one (.int .i64 false n)] [.loop (loopL D (bytSn D l w n 0) (.exit 0) (bytSn D l w' n k))] =
    some ((Go.Abs.AV.v (Go.Abs.A0.one (Go.Abs.Part.fresh (0 : Nat) (5 : TypeId) Go.IntKind.u8 w'))), [((0 : Int) ≤ n), (n ≤ n), (n ≤ (9223372036854775807 : Int)), (((((1 : Nat) : Nat) : Int) * n) ≤ (281474976710656 : Int)), SumOK Try.prog D (bodyOf Try.f63) (loopL D (bytSn D l w n 0) (.exit 0) (bytSn D l w' n k)), (l = l), (n = n), ((0 : Int) = (0 : Int)), ((List.replicate (Int.toNat n) (0 : Int)) = w)]) := by kernel_rfl
theorem byt_run (D : Dom) (l w w' : List Int) (n k : Int)
    (h1 : ((0 : Int) ≤ n))
    (h2 : (n ≤ n))
    (h3 : (n ≤ (9223372036854775807 : Int)))
    (h4 : (((((1 : Nat) : Nat) : Int) * n) ≤ (281474976710656 : Int)))
    (h5 : SumOK Try.prog D (bodyOf Try.f63) (loopL D (bytSn D l w n 0) (.exit 0) (bytSn D l w' n k)))
    (h6 : ((List.replicate (Int.toNat n) (0 : Int)) = w)) :
    ∃ ps, runF Try.prog D [] 100 Try.f63 [.one (.words .u32 l), .one (.int .i64 false n)] [.loop (loopL D (bytSn D l w n 0) (.exit 0) (bytSn D l w' n k))] = some ((Go.Abs.AV.v (Go.Abs.A0.one (Go.Abs.Part.fresh (0 : Nat) (5 : TypeId) Go.IntKind.u8 w'))), ps) ∧ AllQ ps := ⟨_, byt_run_r D l w w' n k, AllP.all ⟨h1, h2, h3, h4, h5, rfl, rfl, rfl, h6⟩⟩

/-! word -/

def wordD (D : Dom) : FnD D
  | [.one (.words .u32 l), .one (.int .i64 _ i)] => some (.v (.one (.int .u32 false (l.getD i.toNat 0))), [0 ≤ i])
  | _ => none

theorem word_in_r (D : Dom) (l : List Int) (n : Int) : runF Try.prog D [] 100 Try.f81 [.one (.words .u32 l), .one (.int .i64 false n)] [.is true] =
    some ((Go.Abs.AV.v (Go.Abs.A0.one (Go.Abs.Part.int Go.IntKind.u32 Bool.false (List.getD l (Int.toNat n) (0 : Int))))), [((decide (n < (((List.length l) : Nat) : Int))) = Bool.true), ((0 : Int) ≤ n), (n < (((List.length l) : Nat) : Int))]) := by kernel_rfl
theorem word_in (D : Dom) (l : List Int) (n : Int)
    (h1 : ((decide (n < (((List.length l) : Nat) : Int))) = Bool.true))
    (h2 : ((0 : Int) ≤ n))
    (h3 : (n < (((List.length l) : Nat) : Int))) :
    ∃ ps, runF Try.prog D [] 100 Try.f81 [.one (.words .u32 l), .one (.int .i64 false n)] [.is true] = some ((Go.Abs.AV.v (Go.Abs.A0.one (Go.Abs.Part.int Go.IntKind.u32 Bool.false (List.getD l (Int.toNat n) (0 : Int))))), ps) ∧ AllQ ps := ⟨_, word_in_r D l n, AllP.all ⟨h1, h2, h3⟩⟩

theorem word_out_r (D : Dom) (l : List Int) (n : Int) : runF Try.prog D [] 100 Try.f81 [.one (.words .u32 l), .one (.int .i64 false n)] [.is false] =
    some ((Go.Abs.AV.v (Go.Abs.A0.one (Go.Abs.Part.int Go.IntKind.u32 Bool.true (0 : Int)))), [((decide (n < (((List.length l) : Nat) : Int))) = Bool.false)]) := by kernel_rfl
theorem word_out (D : Dom) (l : List Int) (n : Int)
    (h1 : ((decide (n < (((List.length l) : Nat) : Int))) = Bool.false)) :
    ∃ ps, runF Try.prog D [] 100 Try.f81 [.one (.words .u32 l), .one (.int .i64 false n)] [.is false] = some ((Go.Abs.AV.v (Go.Abs.A0.one (Go.Abs.Part.int Go.IntKind.u32 Bool.true (0 : Int)))), ps) ∧ AllQ ps := ⟨_, word_out_r D l n, AllP.all h1⟩

/-! Less -/

def gamL (D : Dom) : Gam D := [(81, wordD D)]

def lessSn (D : Dom) (l m : List Int) (k : Int) : Sn D.τ where
  slots := [(0, .v (.one (.words .u32 l))), (1, .v (.one (.words .u32 m))), (6, .v (.one (.int .i64 false k)))]
  boxes := []
  nt := 35
def lessEnd (D : Dom) (b : Bool) : Sn D.τ where
  slots := [(4, .v (.one (.bool false b)))]
  boxes := []
  nt := 35

theorem less_round_r (D : Dom) (l m : List Int) (k : Int) : stepPs Try.prog D (gamL D) 100 (bodyOf Try.f78) 100 (lessSn D l m k).st [.is true, .is false] .normal (lessSn D l m (k - 1)) =
    some [((decide (k ≥ (0 : Int))) = Bool.true), ((0 : Int) ≤ k), ((0 : Int) ≤ k), (((List.getD l (Int.toNat k) (0 : Int)) != (List.getD m (Int.toNat k) (0 : Int))) = Bool.false), (Go.Abs.InI64 (k - (1 : Int))), (l = l), (m = m), ((k - (1 : Int)) = (k - (1 : Int)))] := by kernel_rfl
theorem less_round (D : Dom) (l m : List Int) (k : Int)
    (h1 : ((decide (k ≥ (0 : Int))) = Bool.true))
    (h2 : ((0 : Int) ≤ k))
    (h3 : (((List.getD l (Int.toNat k) (0 : Int)) != (List.getD m (Int.toNat k) (0 : Int))) = Bool.false))
    (h4 : (Go.Abs.InI64 (k - (1 : Int)))) :
    ∃ ps, stepPs Try.prog D (gamL D) 100 (bodyOf Try.f78) 100 (lessSn D l m k).st [.is true, .is false] .normal (lessSn D l m (k - 1)) = some ps ∧ AllQ ps := ⟨_, less_round_r D l m k, AllP.all ⟨h1, h2, h2, h3, h4, rfl, rfl, rfl⟩⟩

theorem less_differ_r (D : Dom) (l m : List Int) (k : Int) (b : Bool) : stepPs Try.prog D (gamL D) 100 (bodyOf Try.f78) 100 (lessSn D l m k).st [.is true, .is true, .keep, .keep] .ret (lessEnd D b) =
    some [((decide (k ≥ (0 : Int))) = Bool.true), ((0 : Int) ≤ k), ((0 : Int) ≤ k), (((List.getD l (Int.toNat k) (0 : Int)) != (List.getD m (Int.toNat k) (0 : Int))) = Bool.true), ((0 : Int) ≤ k), ((0 : Int) ≤ k), ((decide ((List.getD l (Int.toNat k) (0 : Int)) < (List.getD m (Int.toNat k) (0 : Int)))) = b)] := by kernel_rfl
theorem less_differ (D : Dom) (l m : List Int) (k : Int) (b : Bool)
    (h1 : ((decide (k ≥ (0 : Int))) = Bool.true))
    (h2 : ((0 : Int) ≤ k))
    (h3 : (((List.getD l (Int.toNat k) (0 : Int)) != (List.getD m (Int.toNat k) (0 : Int))) = Bool.true))
    (h4 : ((decide ((List.getD l (Int.toNat k) (0 : Int)) < (List.getD m (Int.toNat k) (0 : Int)))) = b)) :
    ∃ ps, stepPs Try.prog D (gamL D) 100 (bodyOf Try.f78) 100 (lessSn D l m k).st [.is true, .is true, .keep, .keep] .ret (lessEnd D b) = some ps ∧ AllQ ps := ⟨_, less_differ_r D l m k b, AllP.all ⟨h1, h2, h2, h3, h2, h2, h4⟩⟩

theorem less_exit_r (D : Dom) (l m : List Int) (k : Int) : stepPs Try.prog D (gamL D) 100 (bodyOf Try.f78) 100 (lessSn D l m k).st [.is false] (.exit 0) (lessSn D l m k) =
    some [((decide (k ≥ (0 : Int))) = Bool.false), (l = l), (m = m), (k = k)] := by kernel_rfl
theorem less_exit (D : Dom) (l m : List Int) (k : Int)
    (h1 : ((decide (k ≥ (0 : Int))) = Bool.false)) :
    ∃ ps, stepPs Try.prog D (gamL D) 100 (bodyOf Try.f78) 100 (lessSn D l m k).st [.is false] (.exit 0) (lessSn D l m k) = some ps ∧ AllQ ps := ⟨_, less_exit_r D l m k, AllP.all ⟨h1, rfl, rfl, rfl⟩⟩

theorem less_runA_r (D : Dom) (l m : List Int) (k : Int) (b : Bool) : runF Try.prog D (gamL D) 100 Try.f78 [.one (.words .u32 l), .one (.words .u32 m)] [.is true, .loop (loopL D (lessSn D l m k) .ret (lessEnd D b))] =
    some ((Go.Abs.AV.v (Go.Abs.A0.one (Go.Abs.Part.bool Bool.false b))), [((decide ((((List.length m) : Nat) : Int) > (((List.length l) : Nat) : Int))) = Bool.true), (Go.Abs.InI64 ((((List.length m) : Nat) : Int) - (1 : Int))), SumOK Try.prog D (bodyOf Try.f78) (loopL D (lessSn D l m k) .ret (lessEnd D b)), (l = l), (m = m), (((((List.length m) : Nat) : Int) - (1 : Int)) = k)]) := by kernel_rfl
theorem less_runA (D : Dom) (l m : List Int) (k : Int) (b : Bool)
    (h1 : ((decide ((((List.length m) : Nat) : Int) > (((List.length l) : Nat) : Int))) = Bool.true))
    (h2 : (Go.Abs.InI64 ((((List.length m) : Nat) : Int) - (1 : Int))))
    (h3 : SumOK Try.prog D (bodyOf Try.f78) (loopL D (lessSn D l m k) .ret (lessEnd D b)))
    (h4 : (((((List.length m) : Nat) : Int) - (1 : Int)) = k)) :
    ∃ ps, runF Try.prog D (gamL D) 100 Try.f78 [.one (.words .u32 l), .one (.words .u32 m)] [.is true, .loop (loopL D (lessSn D l m k) .ret (lessEnd D b))] = some ((Go.Abs.AV.v (Go.Abs.A0.one (Go.Abs.Part.bool Bool.false b))), ps) ∧ AllQ ps := ⟨_, less_runA_r D l m k b, AllP.all ⟨h1, h2, h3, rfl, rfl, h4⟩⟩

theorem less_runB_r (D : Dom) (l m : List Int) (k : Int) (b : Bool) : runF Try.prog D (gamL D) 100 Try.f78 [.one (.words .u32 l), .one (.words .u32 m)] [.is false, .loop (loopL D (lessSn D l m k) .ret (lessEnd D b))] =
    some ((Go.Abs.AV.v (Go.Abs.A0.one (Go.Abs.Part.bool Bool.false b))), [((decide ((((List.length m) : Nat) : Int) > (((List.length l) : Nat) : Int))) = Bool.false), (Go.Abs.InI64 ((((List.length l) : Nat) : Int) - (1 : Int))), SumOK Try.prog D (bodyOf Try.f78) (loopL D (lessSn D l m k) .ret (lessEnd D b)), (l = l), (m = m), (((((List.length l) : Nat) : Int) - (1 : Int)) = k)]) := by kernel_rfl
theorem less_runB (D : Dom) (l m : List Int) (k : Int) (b : Bool)
    (h1 : ((decide ((((List.length m) : Nat) : Int) > (((List.length l) : Nat) : Int))) = Bool.false))
    (h2 : (Go.Abs.InI64 ((((List.length l) : Nat) : Int) - (1 : Int))))
    (h3 : SumOK Try.prog D (bodyOf Try.f78) (loopL D (lessSn D l m k) .ret (lessEnd D b)))
    (h4 : (((((List.length l) : Nat) : Int) - (1 : Int)) = k)) :
    ∃ ps, runF Try.prog D (gamL D) 100 Try.f78 [.one (.words .u32 l), .one (.words .u32 m)] [.is false, .loop (loopL D (lessSn D l m k) .ret (lessEnd D b))] = some ((Go.Abs.AV.v (Go.Abs.A0.one (Go.Abs.Part.bool Bool.false b))), ps) ∧ AllQ ps := ⟨_, less_runB_r D l m k b, AllP.all ⟨h1, h2, h3, rfl, rfl, h4⟩⟩

theorem less_runC_r (D : Dom) (l m : List Int) (k k' : Int) : runF Try.prog D (gamL D) 100 Try.f78 [.one (.words .u32 l), .one (.words .u32 m)] [.is true, .loop (loopL D (lessSn D l m k) (.exit 0) (lessSn D l m k'))] =
    some ((Go.Abs.AV.v (Go.Abs.A0.one (Go.Abs.Part.bool Bool.true Bool.false))), [((decide ((((List.length m) : Nat) : Int) > (((List.length l) : Nat) : Int))) = Bool.true), (Go.Abs.InI64 ((((List.length m) : Nat) : Int) - (1 : Int))), SumOK Try.prog D (bodyOf Try.f78) (loopL D (lessSn D l m k) (.exit 0) (lessSn D l m k')), (l = l), (m = m), (((((List.length m) : Nat) : Int) - (1 : Int)) = k)]) := by kernel_rfl
theorem less_runC (D : Dom) (l m : List Int) (k k' : Int)
    (h1 : ((decide ((((List.length m) : Nat) : Int) > (((List.length l) : Nat) : Int))) = Bool.true))
    (h2 : (Go.Abs.InI64 ((((List.length m) : Nat) : Int) - (1 : Int))))
    (h3 : SumOK Try.prog D (bodyOf Try.f78) (loopL D (lessSn D l m k) (.exit 0) (lessSn D l m k')))
    (h4 : (((((List.length m) : Nat) : Int) - (1 : Int)) = k)) :
    ∃ ps, runF Try.prog D (gamL D) 100 Try.f78 [.one (.words .u32 l), .one (.words .u32 m)] [.is true, .loop (loopL D (lessSn D l m k) (.exit 0) (lessSn D l m k'))] = some ((Go.Abs.AV.v (Go.Abs.A0.one (Go.Abs.Part.bool Bool.true Bool.false))), ps) ∧ AllQ ps := ⟨_, less_runC_r D l m k k', AllP.all ⟨h1, h2, h3, rfl, rfl, h4⟩⟩

theorem less_runD_r (D : Dom) (l m : List Int) (k k' : Int) : runF Try.prog D (gamL D) 100 Try.f78 [.one (.words .u32 l), .one (.words .u32 m)] [.is false, .loop (loopL D (lessSn D l m k) (.exit 0) (lessSn D l m k'))] =
    some ((Go.Abs.AV.v (Go.Abs.A0.one (Go.Abs.Part.bool Bool.true Bool.false))), [((decide ((((List.length m) : Nat) : Int) > (((List.length l) : Nat) : Int))) = Bool.false), (Go.Abs.InI64 ((((List.length l) : Nat) : Int) - (1 : Int))), SumOK Try.prog D (bodyOf Try.f78) (loopL D (lessSn D l m k) (.exit 0) (lessSn D l m k')), (l = l), (m = m), (((((List.length l) : Nat) : Int) - (1 : Int)) = k)]) := by kernel_rfl
theorem less_runD (D : Dom) (l m : List Int) (k k' : Int)
    (h1 : ((decide ((((List.length m) : Nat) : Int) > (((List.length l) : Nat) : Int))) = Bool.false))
    (h2 : (Go.Abs.InI64 ((((List.length l) : Nat) : Int) - (1 : Int))))
    (h3 : SumOK Try.prog D (bodyOf Try.f78) (loopL D (lessSn D l m k) (.exit 0) (lessSn D l m k')))
    (h4 : (((((List.length l) : Nat) : Int) - (1 : Int)) = k)) :
    ∃ ps, runF Try.prog D (gamL D) 100 Try.f78 [.one (.words .u32 l), .one (.words .u32 m)] [.is false, .loop (loopL D (lessSn D l m k) (.exit 0) (lessSn D l m k'))] = some ((Go.Abs.AV.v (Go.Abs.A0.one (Go.Abs.Part.bool Bool.true Bool.false))), ps) ∧ AllQ ps := ⟨_, less_runD_r D l m k k', AllP.all ⟨h1, h2, h3, rfl, rfl, h4⟩⟩

/-! The contracts -/

theorem or32 {b q t : Nat} (hb : b < 2 ^ t) (h : 2 ^ t * q + b < 4294967296) : bitsOf .or .u32 (b : Int) ((2 ^ t * q : Nat) : Int) = ((2 ^ t * q + b : Nat) : Int) := by
  have h1 : b ||| 2 ^ t * q < 2 ^ 32 := Nat.or_lt_two_pow (by omega) (by omega)
  show IntKind.u32.wrap (((BitVec.ofInt 32 (b : Int) ||| BitVec.ofInt 32 ((2 ^ t * q : Nat) : Int)).toNat : Nat) : Int) = _
  rw [BitVec.toNat_or, BitVec.ofInt_natCast, BitVec.ofInt_natCast, BitVec.toNat_ofNat, BitVec.toNat_ofNat, Nat.mod_eq_of_lt (by omega), Nat.mod_eq_of_lt (by omega), IntKind.wrap_u32, Nat.or_comm, ← Nat.two_pow_add_eq_or_of_lt hb]
  omega

theorem pow_half (k : Nat) : (256 : Int) ^ k = H ^ (k / 2) * 2 ^ (8 * (k % 2)) := by
  have h : k = 2 * (k / 2) + k % 2 := by omega
  calc (256 : Int) ^ k = 256 ^ (2 * (k / 2) + k % 2) := by rw [← h]
    _ = _ := by rw [Int.pow_add, Int.pow_mul, Int.pow_mul]; rfl

/-- The number of the last k bytes. -/
def lastN (l : List Int) (k : Nat) : Int := be (l.drop (l.length - k))

theorem lastN_succ {l : List Int} {k : Nat} (h : k < l.length) : lastN l (k + 1) = l.getD (l.length - 1 - k) 0 * 256 ^ k + lastN l k := by
  unfold lastN
  have e : l.getD (l.length - 1 - k) 0 = l[l.length - 1 - k] := by simp [List.getD_eq_getElem?_getD, List.getElem?_eq_getElem (show l.length - 1 - k < l.length by omega)]
  rw [show l.length - (k + 1) = l.length - 1 - k from by omega, List.drop_eq_getElem_cons (show l.length - 1 - k < l.length by omega), e, be]
  congr 2
  · rw [List.length_drop]; congr 1; omega
  · congr 2; omega

theorem lastN_range {l : List Int} (hb : InB l) {k : Nat} (h : k ≤ l.length) : 0 ≤ lastN l k ∧ lastN l k < 256 ^ k := by
  have := be_range (l := l.drop (l.length - k)) fun a ha => hb a (List.mem_of_mem_drop ha)
  rw [List.length_drop, show l.length - (l.length - k) = k from by omega] at this
  exact this

theorem tdiv_wrap {k c : Nat} (hk : k < 9223372036854775808) : IntKind.i64.wrap (Int.tdiv (k : Int) (c : Int)) = ((k / c : Nat) : Int) := by
  have h1 : k / c ≤ k := Nat.div_le_self k c
  rw [Int.tdiv_eq_ediv_of_nonneg (by omega), show (k : Int) / (c : Int) = ((k / c : Nat) : Int) from rfl, IntKind.wrap_i64]
  generalize k / c = q at *
  omega

theorem tmod_nat (k c : Nat) : Int.tmod (k : Int) (c : Int) = ((k % c : Nat) : Int) := rfl

theorem num_set {l : List Int} {N k : Nat} (hb : InB l) (hk : k < l.length) (hN : (l.length + 1) / 2 = N) :
    (W N (lastN l k)).set (k / 2) (bitsOf .or .u32 ((W N (lastN l k)).getD (k / 2) 0) (IntKind.u32.wrap (IntKind.u32.wrap (l.getD (l.length - 1 - k) 0) * 2 ^ (8 * (k % 2))))) = W N (lastN l (k + 1)) := by
  have hr := lastN_range hb (k := k) (by omega)
  have hs := lastN_succ hk
  have hi : k / 2 < N := by omega
  have hp := H_pos (k / 2)
  have hbyte : 0 ≤ l.getD (l.length - 1 - k) 0 ∧ l.getD (l.length - 1 - k) 0 < 256 := by
    have e : l.getD (l.length - 1 - k) 0 = l[l.length - 1 - k]'(by omega) := by simp [List.getD_eq_getElem?_getD, List.getElem?_eq_getElem (show l.length - 1 - k < l.length by omega)]
    rw [e]; exact hb _ (List.getElem_mem _)
  generalize l.getD (l.length - 1 - k) 0 = b at *
  obtain ⟨b, rfl⟩ := Int.eq_ofNat_of_zero_le hbyte.1
  have hb2 : b < 256 := by omega
  have hk2 : k % 2 = 0 ∨ k % 2 = 1 := by omega
  -- the word so far
  have hold : ∃ o : Nat, lastN l k / H ^ (k / 2) % H = (o : Int) ∧ o < 2 ^ (8 * (k % 2)) := by
    rw [pow_half] at hr
    have h1 : lastN l k / H ^ (k / 2) < 2 ^ (8 * (k % 2)) := Int.ediv_lt_of_lt_mul hp (by rw [Int.mul_comm]; exact hr.2)
    have h0 : 0 ≤ lastN l k / H ^ (k / 2) := Int.ediv_nonneg hr.1 (by omega)
    obtain ⟨o, ho⟩ := Int.eq_ofNat_of_zero_le h0
    rw [ho] at h1 ⊢
    have h2 : o < 2 ^ (8 * (k % 2)) := by
      have : ((o : Nat) : Int) < ((2 ^ (8 * (k % 2)) : Nat) : Int) := by simpa using h1
      omega
    refine ⟨o, ?_, h2⟩
    have : o < 65536 := by rcases hk2 with h | h <;> rw [h] at h2 <;> omega
    exact Int.emod_eq_of_lt (by omega) (by unfold H; omega)
  obtain ⟨o, ho, ho2⟩ := hold
  have hnew : IntKind.u32.wrap (IntKind.u32.wrap (b : Int) * 2 ^ (8 * (k % 2))) = ((2 ^ (8 * (k % 2)) * b : Nat) : Int) := by
    rw [IntKind.wrap_u32, IntKind.wrap_u32]
    rcases hk2 with h | h <;> rw [h] <;> omega
  have hlt : 2 ^ (8 * (k % 2)) * b + o < 65536 := by rcases hk2 with h | h <;> rw [h] at ho2 ⊢ <;> omega
  rw [W_getD hi, ho, hnew, or32 ho2 (by omega)]
  symm
  refine W_of (in16_set (W_in16 _ _) ⟨by omega, by unfold H; omega⟩) (by rw [List.length_set, W_len]) ?_
  have hpow : ∀ j, j ≤ l.length → 0 ≤ lastN l j ∧ lastN l j < H ^ N := by
    intro j hj
    have h1 := lastN_range hb hj
    have h2 : (256 : Int) ^ j ≤ 256 ^ (2 * N) := by
      rcases Nat.lt_or_ge j (2 * N) with h | h
      · exact Int.le_of_lt (Int.pow_lt_pow_of_lt (by decide) h)
      · rw [show j = 2 * N from by omega]; exact Int.le_refl _
    rw [Int.pow_mul] at h2
    have h3 : ((256 : Int) ^ 2) ^ N = H ^ N := rfl
    rw [h3] at h2
    exact ⟨h1.1, by omega⟩
  rw [v16_set _ (by rw [W_len]; exact hi), v16_W, W_getD hi, ho, Int.emod_eq_of_lt (hpow _ (by omega)).1 (hpow _ (by omega)).2, Int.emod_eq_of_lt (hpow k (by omega)).1 (hpow k (by omega)).2, hs, pow_half]
  have e : ((2 ^ (8 * (k % 2)) * b + o : Nat) : Int) - (o : Int) = 2 ^ (8 * (k % 2)) * (b : Int) := by push_cast; omega
  rw [e]
  generalize (2 : Int) ^ (8 * (k % 2)) = x
  generalize H ^ (k / 2) = y
  grind

def numD (D : Dom) : FnD D
  | [.one (.words .u8 l)] => some (.v (.one (.fresh 0 43 .u32 (W ((l.length + 1) / 2) (be l)))), [InB l, l.length ≤ 140737488351232])
  | _ => none

theorem num_loop (D : Dom) {l : List Int} (hb : InB l) (hl : l.length ≤ 140737488351232) :
    SumOK Try.prog D (bodyOf Try.f61) (loopL D (numSn D l (W ((l.length + 1) / 2) (lastN l 0)) (0 : Nat)) (.exit 0) (numSn D l (W ((l.length + 1) / 2) (lastN l l.length)) l.length)) := by
  refine sum_loop gam_nil mixed (fun k => numSn D l (W ((l.length + 1) / 2) (lastN l k)) k) l.length rfl (fun k hk => ⟨100, 100, [.is true], ?_⟩) ⟨100, 100, [.is false], ?_⟩
  · have e2 := tdiv_wrap (k := k) (c := 2) (by omega)
    have e3 := tmod_nat k 2
    have e4 : IntKind.u64.wrap (8 * ((k % 2 : Nat) : Int)) = ((8 * (k % 2) : Nat) : Int) := by rw [IntKind.wrap_u64]; omega
    refine num_round D l _ _ k (decide_eq_true (by omega)) ⟨by omega, by omega⟩ ⟨by omega, by omega⟩ ?_ ?_ ?_ (by omega) (by omega) ?_ ?_ ⟨by omega, by omega⟩ ?_
    · erw [e2]; omega
    · erw [e2]; rw [W_len]; omega
    · erw [e2]; rw [W_len]; omega
    · erw [e3]; exact ⟨by omega, by omega⟩
    · erw [e3, e4]; omega
    · erw [e2, e3, e4]
      rw [show (((8 * (k % 2) : Nat) : Int)).toNat = 8 * (k % 2) from by omega, show min (8 * (k % 2)) 32 = 8 * (k % 2) from by omega, show ((l.length : Int) - 1 - k).toNat = l.length - 1 - k from by omega]
      exact num_set hb hk rfl
  · exact num_exit D l _ _ (decide_eq_false (by omega))

theorem num_ok (D : Dom) : FnOK Try.prog D 61 (numD D) := by
  refine fnOK_of gam_nil mixed Try.func61 (enters_of Try.func61 (by kernel_rfl) rfl) ?_
  intro xs r ps h hps
  unfold numD at h
  split at h
  · rename_i l
    simp only [Option.some.injEq, Prod.mk.injEq] at h
    obtain ⟨rfl, rfl⟩ := h
    have hb : InB l := hps _ (by simp)
    have hl : l.length ≤ 140737488351232 := hps _ (by simp)
    have e1 : (l.length : Int) + 1 = ((l.length + 1 : Nat) : Int) := by omega
    have e2 := tdiv_wrap (k := l.length + 1) (c := 2) (by omega)
    obtain ⟨ps, h1, h2⟩ := num_run D l _ _ _ ⟨by omega, by omega⟩ (by rw [e1]; erw [e2]; omega) (Int.le_refl _) (by rw [e1]; erw [e2]; omega) (by rw [e1]; erw [e2]; omega) (num_loop D hb hl)
      (by rw [e1]; erw [e2]; rw [show lastN l 0 = 0 from by simp [lastN, be], W_zero]; rfl)
    refine ⟨_, 100, _, _, _, fun w vs h => h, h1, h2, fun E v hv => ?_⟩
    rw [show lastN l l.length = be l from by simp [lastN]] at hv
    exact hv
  · cases h

/-! Bytes -/

def bytD (D : Dom) : FnD D
  | [.one (.words .u32 l), .one (.int .i64 _ n)] => some (.v (.one (.fresh 0 5 .u8 (beB n.toNat (v16 l)))), [In16 l, 0 ≤ n, n ≤ 281474976710656])
  | _ => none

/-- The bytes behind k rounds. -/
def bytk (n : Nat) (x : Int) (k : Nat) : List Int := List.replicate (n - k) 0 ++ beB k x

theorem bytk_len {n k : Nat} (x : Int) (h : k ≤ n) : (bytk n x k).length = n := by simp [bytk, beB_len]; omega

theorem bytk_succ {n k : Nat} (x : Int) (h : k < n) : (bytk n x k).set (n - 1 - k) (x / 256 ^ k % 256) = bytk n x (k + 1) := by
  unfold bytk
  rw [List.set_append_left _ _ (by simp; omega), show n - k = (n - 1 - k) + 1 from by omega, List.replicate_succ', List.set_append_right _ _ (by simp)]
  simp only [List.length_replicate, Nat.sub_self, List.set_cons_zero, beB]
  rw [List.append_assoc, show n - (k + 1) = n - 1 - k from by omega]
  rfl

theorem bytk_above {n k : Nat} {x : Int} (h : k < n) (hx : x / 256 ^ k % 256 = 0) : bytk n x k = bytk n x (k + 1) := by
  rw [← bytk_succ x h, hx]
  unfold bytk
  rw [List.set_append_left _ _ (by simp; omega), show n - k = (n - 1 - k) + 1 from by omega, List.replicate_succ', List.set_append_right _ _ (by simp)]
  simp

theorem byt_loop (D : Dom) {l : List Int} (h16 : In16 l) {n : Nat} (hn : n ≤ 281474976710656) :
    SumOK Try.prog D (bodyOf Try.f63) (loopL D (bytSn D l (bytk n (v16 l) 0) n (0 : Nat)) (.exit 0) (bytSn D l (bytk n (v16 l) n) n n)) := by
  refine sum_loop gam_nil mixed (fun k => bytSn D l (bytk n (v16 l) k) n k) n rfl (fun k hk => ?_) ⟨100, 100, [.is false], ?_⟩
  · have e2 := tdiv_wrap (k := k) (c := 2) (by omega)
    have e3 := tmod_nat k 2
    have e4 : IntKind.u64.wrap (8 * ((k % 2 : Nat) : Int)) = ((8 * (k % 2) : Nat) : Int) := by rw [IntKind.wrap_u64]; omega
    have e5 : l.getD (k / 2) 0 = v16 l / H ^ (k / 2) % H := v16_getD h16 _
    by_cases hc : k / 2 < l.length
    · refine ⟨100, 100, [.is true, .is true], byt_round D l _ _ n k (decide_eq_true (by omega)) ⟨by omega, by omega⟩ ⟨by omega, by omega⟩ (by erw [e2]; exact decide_eq_true (by omega)) (by erw [e2]; omega) (by erw [e2]; omega) ?_ ?_ (by omega) ?_ ?_ ⟨by omega, by omega⟩ ?_⟩
      · erw [e3]; exact ⟨by omega, by omega⟩
      · erw [e3, e4]; omega
      · rw [bytk_len _ (by omega)]; omega
      · rw [bytk_len _ (by omega)]; omega
      · erw [e2, e3, e4]
        rw [show (((8 * (k % 2) : Nat) : Int)).toNat = 8 * (k % 2) from by omega, show min (8 * (k % 2)) 32 = 8 * (k % 2) from by omega, show ((n : Int) - 1 - k).toNat = n - 1 - k from by omega,
          show (((k / 2 : Nat) : Int)).toNat = k / 2 from by omega, e5, Int.fdiv_eq_ediv_of_nonneg _ (by have : (0 : Int) < 2 ^ (8 * (k % 2)) := Int.pow_pos (by decide); omega), IntKind.wrap_u8, byte_half]
        exact bytk_succ _ hk
    · refine ⟨100, 100, [.is true, .is false], byt_above D l _ _ n k (decide_eq_true (by omega)) ⟨by omega, by omega⟩ ⟨by omega, by omega⟩ (by erw [e2]; exact decide_eq_false (by omega)) ⟨by omega, by omega⟩ ?_⟩
      refine bytk_above hk ?_
      rw [← byte_half, ← e5, List.getD_eq_getElem?_getD, List.getElem?_eq_none (by omega)]
      simp
  · exact byt_exit D l _ n _ (decide_eq_false (by omega))

theorem byt_ok (D : Dom) : FnOK Try.prog D 63 (bytD D) := by
  refine fnOK_of gam_nil mixed Try.func63 (enters_of Try.func63 (by kernel_rfl) rfl) ?_
  intro xs r ps h hps
  unfold bytD at h
  split at h
  · rename_i l b n
    simp only [Option.some.injEq, Prod.mk.injEq] at h
    obtain ⟨rfl, rfl⟩ := h
    have h16 : In16 l := hps _ (by simp)
    have h0 : 0 ≤ n := hps _ (by simp)
    have hn : n ≤ 281474976710656 := hps _ (by simp)
    obtain ⟨n, rfl⟩ := Int.eq_ofNat_of_zero_le h0
    obtain ⟨ps, h1, h2⟩ := byt_run D l _ _ n n h0 (Int.le_refl _) (by omega) (by omega) (byt_loop D h16 (n := n) (by omega)) (by simp [bytk, beB])
    refine ⟨_, 100, _, _, _, fun w vs h => args2 (fun v h => h) (fun v h => one_int rfl h) h, h1, h2, fun E v hv => ?_⟩
    have e : bytk n (v16 l) n = beB n (v16 l) := by simp [bytk]
    rw [e] at hv
    exact hv
  · cases h

/-! word, Less -/

theorem word_ok (D : Dom) : FnOK Try.prog D 81 (wordD D) := by
  refine fnOK_of gam_nil mixed Try.func81 (enters_of Try.func81 (by kernel_rfl) rfl) ?_
  intro xs r ps h hps
  unfold wordD at h
  split at h
  · rename_i l b n
    simp only [Option.some.injEq, Prod.mk.injEq] at h
    obtain ⟨rfl, rfl⟩ := h
    have h0 : 0 ≤ n := hps _ (by simp)
    by_cases hc : n < l.length
    · obtain ⟨ps, h1, h2⟩ := word_in D l n (decide_eq_true hc) h0 hc
      exact ⟨_, 100, _, _, _, fun w vs h => args2 (fun v h => h) (fun v h => one_int rfl h) h, h1, h2, fun E v hv => hv⟩
    · obtain ⟨ps, h1, h2⟩ := word_out D l n (decide_eq_false hc)
      refine ⟨_, 100, _, _, _, fun w vs h => args2 (fun v h => h) (fun v h => one_int rfl h) h, h1, h2, fun E v hv => one_int ?_ hv⟩
      rw [List.getD_eq_getElem?_getD, List.getElem?_eq_none (by omega)]
      rfl
  · cases h

theorem gamL_ok (D : Dom) : GamOK Try.prog D (gamL D) := gam_cons (word_ok D) gam_nil

def lessD (D : Dom) : FnD D
  | [.one (.words .u32 l), .one (.words .u32 m)] => some (.v (.one (.bool false (decide (v16 l < v16 m)))), [In16 l, In16 m, l.length ≤ 281474976710656, m.length ≤ 281474976710656])
  | _ => none

/-- From the highest word down: either all are the same, or there is a first one that isn't. -/
theorem first_unlike {x y : Int} : ∀ {n : Nat}, x / H ^ n = y / H ^ n → (x = y) ∨ ∃ j, j < n ∧ x / H ^ (n - 1 - j) % H ≠ y / H ^ (n - 1 - j) % H ∧ x / H ^ (n - j) = y / H ^ (n - j) ∧ ∀ i, i < j → x / H ^ (n - 1 - i) % H = y / H ^ (n - 1 - i) % H
  | 0, h => by left; simpa using h
  | n + 1, h => by
    by_cases hd : x / H ^ n % H = y / H ^ n % H
    · rcases first_unlike (n := n) (div_step h hd) with h1 | ⟨j, h1, h2, h3, h4⟩
      · exact .inl h1
      · refine .inr ⟨j + 1, by omega, ?_, ?_, fun i hi => ?_⟩
        · rw [show n + 1 - 1 - (j + 1) = n - 1 - j from by omega]; exact h2
        · rw [show n + 1 - (j + 1) = n - j from by omega]; exact h3
        · rcases Nat.eq_zero_or_pos i with h0 | h0
          · subst h0; exact hd
          · have := h4 (i - 1) (by omega)
            rw [show n - 1 - (i - 1) = n + 1 - 1 - i from by omega] at this
            exact this
    · exact .inr ⟨0, by omega, hd, h, fun i hi => by omega⟩

theorem less_ok (D : Dom) : FnOK Try.prog D 78 (lessD D) := by
  refine fnOK_of (gamL_ok D) mixed Try.func78 (enters_of Try.func78 (by kernel_rfl) rfl) ?_
  intro xs r ps h hps
  unfold lessD at h
  split at h
  · rename_i l m
    simp only [Option.some.injEq, Prod.mk.injEq] at h
    obtain ⟨rfl, rfl⟩ := h
    have hl16 : In16 l := hps _ (by simp)
    have hm16 : In16 m := hps _ (by simp)
    have hl : l.length ≤ 281474976710656 := hps _ (by simp)
    have hm : m.length ≤ 281474976710656 := hps _ (by simp)
    -- n: the longer length
    obtain ⟨n, hn1, hn2, hn3⟩ : ∃ n : Nat, l.length ≤ n ∧ m.length ≤ n ∧ ((m.length > l.length ∧ n = m.length) ∨ (¬ m.length > l.length ∧ n = l.length)) := by
      by_cases h : m.length > l.length
      · exact ⟨m.length, by omega, by omega, .inl ⟨h, rfl⟩⟩
      · exact ⟨l.length, by omega, by omega, .inr ⟨h, rfl⟩⟩
    have step : ∀ k, k < n → v16 l / H ^ (n - 1 - k) % H = v16 m / H ^ (n - 1 - k) % H →
        ∃ fuel nid ds ps, stepPs Try.prog D (gamL D) fuel (bodyOf Try.f78) nid (lessSn D l m (((n : Int) - 1) - k)).st ds .normal (lessSn D l m (((n : Int) - 1) - (k + 1 : Nat))) = some ps ∧ AllQ ps := by
      intro k hk he
      have e : ((n : Int) - 1) - (k + 1 : Nat) = ((n : Int) - 1) - k - 1 := by omega
      rw [e]
      refine ⟨100, 100, [.is true, .is false], less_round D l m _ (decide_eq_true (by omega)) (by omega) ?_ ⟨by omega, by omega⟩⟩
      rw [show ((n : Int) - 1 - k).toNat = n - 1 - k from by omega, v16_getD hl16, v16_getD hm16, he]
      simp
    have h0 : ((n : Int) - 1) - (0 : Nat) = (n : Int) - 1 := by omega
    rcases first_unlike (x := v16 l) (y := v16 m) (n := n) (by rw [v16_div_zero hl16 hn1, v16_div_zero hm16 hn2]) with heq | ⟨j, hj1, hj2, hj3, hj4⟩
    · have hs : SumOK Try.prog D (bodyOf Try.f78) (loopL D (lessSn D l m ((n : Int) - 1)) (.exit 0) (lessSn D l m (-1))) := by
        have := sum_loop (gamL_ok D) mixed (fun k => lessSn D l m (((n : Int) - 1) - k)) n (e := .exit 0) (s := lessSn D l m (-1)) rfl (fun k hk => step k hk (by rw [heq])) ⟨100, 100, [.is false], by
          show ∃ ps, stepPs Try.prog D (gamL D) 100 (bodyOf Try.f78) 100 (lessSn D l m (((n : Int) - 1) - n)).st [.is false] (.exit 0) (lessSn D l m (-1)) = some ps ∧ AllQ ps
          rw [show ((n : Int) - 1) - n = -1 from by omega]
          exact less_exit D l m (-1) (by decide)⟩
        simp only [h0] at this
        exact this
      have hd : decide (v16 l < v16 m) = false := decide_eq_false (by omega)
      rw [hd]
      rcases hn3 with ⟨hgt, rfl⟩ | ⟨hgt, rfl⟩
      · obtain ⟨ps, h1, h2⟩ := less_runC D l m _ (-1) (decide_eq_true (by omega)) ⟨by omega, by omega⟩ hs rfl
        exact ⟨_, 100, _, _, _, fun w vs h => h, h1, h2, fun E v hv => one_bool rfl hv⟩
      · obtain ⟨ps, h1, h2⟩ := less_runD D l m _ (-1) (decide_eq_false (by omega)) ⟨by omega, by omega⟩ hs rfl
        exact ⟨_, 100, _, _, _, fun w vs h => h, h1, h2, fun E v hv => one_bool rfl hv⟩
    · have hs : SumOK Try.prog D (bodyOf Try.f78) (loopL D (lessSn D l m ((n : Int) - 1)) .ret (lessEnd D (decide (v16 l < v16 m)))) := by
        have := sum_loop (gamL_ok D) mixed (fun k => lessSn D l m (((n : Int) - 1) - k)) j (e := .ret) (s := lessEnd D (decide (v16 l < v16 m))) rfl (fun k hk => step k (by omega) (hj4 k hk)) ⟨100, 100, [.is true, .is true, .keep, .keep], by
          refine less_differ D l m _ _ (decide_eq_true (by omega)) (by omega) ?_ ?_
          · rw [show ((n : Int) - 1 - j).toNat = n - 1 - j from by omega, v16_getD hl16, v16_getD hm16]
            exact bne_iff_ne.2 hj2
          · rw [show ((n : Int) - 1 - j).toNat = n - 1 - j from by omega, v16_getD hl16, v16_getD hm16]
            rw [show n - j = n - 1 - j + 1 from by omega] at hj3
            exact decide_eq_decide.2 (less_at hj3 hj2).symm⟩
        simp only [h0] at this
        exact this
      rcases hn3 with ⟨hgt, rfl⟩ | ⟨hgt, rfl⟩
      · obtain ⟨ps, h1, h2⟩ := less_runA D l m _ _ (decide_eq_true (by omega)) ⟨by omega, by omega⟩ hs rfl
        exact ⟨_, 100, _, _, _, fun w vs h => h, h1, h2, fun E v hv => hv⟩
      · obtain ⟨ps, h1, h2⟩ := less_runB D l m _ _ (decide_eq_false (by omega)) ⟨by omega, by omega⟩ hs rfl
        exact ⟨_, 100, _, _, _, fun w vs h => h, h1, h2, fun E v hv => hv⟩
  · cases h

end Go.Num
