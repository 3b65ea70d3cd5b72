/- The reference's numbers in words of 16 bits: sums, differences, products, rests. -/
import Derived.Test.YtbgcfmmkbocpoaaRef1
namespace Go.Num
open Go.Abs Go.Proofs Go.Shelf

/-! Plus -/

def plusSn (D : Dom) (l m w : List Int) (n c k : Int) : Sn D.τ where
  slots := [(0, .v (.one (.words .u32 l))), (1, .v (.one (.words .u32 m))), (5, .v (.one (.int .i64 false n))), (6, .v (.one (.own 0))), (7, .v (.one (.int .u32 false c))), (8, .v (.one (.int .i64 false k)))]
  boxes := [(0, .dyn 43 (.ints .u32 w))]
  nt := 41

theorem plus_round_r (D : Dom) (l m w w' : List Int) (n c c' k : Int) : stepPs Try.prog D (gamL D) 100 (bodyOf Try.f68) 100 (plusSn D l m w n c k).st [.is true] .normal (plusSn D l m w' n c' (k + 1)) =
    some [((decide (k ≤ n)) = Bool.true), ((0 : Int) ≤ k), ((0 : Int) ≤ k), (((List.length w) + (1 : Nat)) ≤ (9223372036854775807 : Nat)), ((((List.length w) + (1 : Nat)) * (4 : Nat)) ≤ (140737488355328 : Nat)), (Go.Abs.InI64 (k + (1 : Int))), (l = l), (m = m), (n = n), ((Int.fdiv (Go.IntKind.wrap Go.IntKind.u32 ((Go.IntKind.wrap Go.IntKind.u32 ((List.getD l (Int.toNat k) (0 : Int)) + (List.getD m (Int.toNat k) (0 : Int)))) + c)) ((2 : Int) ^ (min (16 : Nat) (32 : Nat)))) = c'), ((k + (1 : Int)) = (k + (1 : Int))), ((w ++ ((Go.Abs.bitsOf Go.BinOp.and Go.IntKind.u32 (Go.IntKind.wrap Go.IntKind.u32 ((Go.IntKind.wrap Go.IntKind.u32 ((List.getD l (Int.toNat k) (0 : Int)) + (List.getD m (Int.toNat k) (0 : Int)))) + c)) (65535 : Int)) :: ([] : List (Int)))) = w')] := by kernel_rfl
theorem plus_round (D : Dom) (l m w w' : List Int) (n c c' k : Int)
    (h1 : ((decide (k ≤ n)) = Bool.true))
    (h2 : ((0 : Int) ≤ k))
    (h3 : (((List.length w) + (1 : Nat)) ≤ (9223372036854775807 : Nat)))
    (h4 : ((((List.length w) + (1 : Nat)) * (4 : Nat)) ≤ (140737488355328 : Nat)))
    (h5 : (Go.Abs.InI64 (k + (1 : Int))))
    (h6 : ((Int.fdiv (Go.IntKind.wrap Go.IntKind.u32 ((Go.IntKind.wrap Go.IntKind.u32 ((List.getD l (Int.toNat k) (0 : Int)) + (List.getD m (Int.toNat k) (0 : Int)))) + c)) ((2 : Int) ^ (min (16 : Nat) (32 : Nat)))) = c'))
    (h7 : ((w ++ ((Go.Abs.bitsOf Go.BinOp.and Go.IntKind.u32 (Go.IntKind.wrap Go.IntKind.u32 ((Go.IntKind.wrap Go.IntKind.u32 ((List.getD l (Int.toNat k) (0 : Int)) + (List.getD m (Int.toNat k) (0 : Int)))) + c)) (65535 : Int)) :: ([] : List (Int)))) = w')) :
    ∃ ps, stepPs Try.prog D (gamL D) 100 (bodyOf Try.f68) 100 (plusSn D l m w n c k).st [.is true] .normal (plusSn D l m w' n c' (k + 1)) = some ps ∧ AllQ ps := ⟨_, plus_round_r D l m w w' n c c' k, AllP.all ⟨h1, h2, h2, h3, h4, h5, rfl, rfl, rfl, h6, rfl, h7⟩⟩

theorem plus_exit_r (D : Dom) (l m w : List Int) (n c k : Int) : stepPs Try.prog D (gamL D) 100 (bodyOf Try.f68) 100 (plusSn D l m w n c k).st [.is false] (.exit 0) (plusSn D l m w n c k) =
    some [((decide (k ≤ n)) = Bool.false), (l = l), (m = m), (n = n), (c = c), (k = k), (w = w)] := by kernel_rfl
theorem plus_exit (D : Dom) (l m w : List Int) (n c k : Int)
    (h1 : ((decide (k ≤ n)) = Bool.false)) :
    ∃ ps, stepPs Try.prog D (gamL D) 100 (bodyOf Try.f68) 100 (plusSn D l m w n c k).st [.is false] (.exit 0) (plusSn D l m w n c k) = some ps ∧ AllQ ps := ⟨_, plus_exit_r D l m w n c k, AllP.all ⟨h1, rfl, rfl, rfl, rfl, rfl, rfl⟩⟩

theorem pl16_runA_r (D : Dom) (l m w w' : List Int) (n c c' k : Int) : runF Try.prog D (gamL D) 100 Try.f68 [.one (.words .u32 l), .one (.words .u32 m)] [.is true, .loop (loopL D (plusSn D l m w n c 0) (.exit 0) (plusSn D l m w' n c' k))] =
    some ((Go.Abs.AV.v (Go.Abs.A0.one (Go.Abs.Part.fresh (0 : Nat) (43 : TypeId) Go.IntKind.u32 w'))), [((decide ((((List.length m) : Nat) : Int) > (((List.length l) : Nat) : Int))) = Bool.true), SumOK Try.prog D (bodyOf Try.f68) (loopL D (plusSn D l m w n c 0) (.exit 0) (plusSn D l m w' n c' k)), (l = l), (m = m), ((((List.length m) : Nat) : Int) = n), ((0 : Int) = c), ((0 : Int) = (0 : Int)), (([] : List (Int)) = w)]) := by kernel_rfl
theorem pl16_runA (D : Dom) (l m w w' : List Int) (n c c' k : Int)
    (h1 : ((decide ((((List.length m) : Nat) : Int) > (((List.length l) : Nat) : Int))) = Bool.true))
    (h2 : SumOK Try.prog D (bodyOf Try.f68) (loopL D (plusSn D l m w n c 0) (.exit 0) (plusSn D l m w' n c' k)))
    (h3 : ((((List.length m) : Nat) : Int) = n))
    (h4 : ((0 : Int) = c))
    (h5 : (([] : List (Int)) = w)) :
    ∃ ps, runF Try.prog D (gamL D) 100 Try.f68 [.one (.words .u32 l), .one (.words .u32 m)] [.is true, .loop (loopL D (plusSn D l m w n c 0) (.exit 0) (plusSn D l m w' n c' k))] = some ((Go.Abs.AV.v (Go.Abs.A0.one (Go.Abs.Part.fresh (0 : Nat) (43 : TypeId) Go.IntKind.u32 w'))), ps) ∧ AllQ ps := ⟨_, pl16_runA_r D l m w w' n c c' k, AllP.all ⟨h1, h2, rfl, rfl, h3, h4, rfl, h5⟩⟩

theorem pl16_runB_r (D : Dom) (l m w w' : List Int) (n c c' k : Int) : runF Try.prog D (gamL D) 100 Try.f68 [.one (.words .u32 l), .one (.words .u32 m)] [.is false, .loop (loopL D (plusSn D l m w n c 0) (.exit 0) (plusSn D l m w' n c' k))] =
    some ((Go.Abs.AV.v (Go.Abs.A0.one (Go.Abs.Part.fresh (0 : Nat) (43 : TypeId) Go.IntKind.u32 w'))), [((decide ((((List.length m) : Nat) : Int) > (((List.length l) : Nat) : Int))) = Bool.false), SumOK Try.prog D (bodyOf Try.f68) (loopL D (plusSn D l m w n c 0) (.exit 0) (plusSn D l m w' n c' k)), (l = l), (m = m), ((((List.length l) : Nat) : Int) = n), ((0 : Int) = c), ((0 : Int) = (0 : Int)), (([] : List (Int)) = w)]) := by kernel_rfl
theorem pl16_runB (D : Dom) (l m w w' : List Int) (n c c' k : Int)
    (h1 : ((decide ((((List.length m) : Nat) : Int) > (((List.length l) : Nat) : Int))) = Bool.false))
    (h2 : SumOK Try.prog D (bodyOf Try.f68) (loopL D (plusSn D l m w n c 0) (.exit 0) (plusSn D l m w' n c' k)))
    (h3 : ((((List.length l) : Nat) : Int) = n))
    (h4 : ((0 : Int) = c))
    (h5 : (([] : List (Int)) = w)) :
    ∃ ps, runF Try.prog D (gamL D) 100 Try.f68 [.one (.words .u32 l), .one (.words .u32 m)] [.is false, .loop (loopL D (plusSn D l m w n c 0) (.exit 0) (plusSn D l m w' n c' k))] = some ((Go.Abs.AV.v (Go.Abs.A0.one (Go.Abs.Part.fresh (0 : Nat) (43 : TypeId) Go.IntKind.u32 w'))), ps) ∧ AllQ ps := ⟨_, pl16_runB_r D l m w w' n c c' k, AllP.all ⟨h1, h2, rfl, rfl, h3, h4, rfl, h5⟩⟩

/-! Minus -/

def minSn (D : Dom) (l m w : List Int) (c k : Int) : Sn D.τ where
  slots := [(0, .v (.one (.words .u32 l))), (1, .v (.one (.words .u32 m))), (5, .v (.one (.own 0))), (6, .v (.one (.int .u32 false c))), (11, .v (.one (.int .i64 false l.length))), (12, .v (.one (.int .i64 false k)))]
  boxes := [(0, .dyn 43 (.ints .u32 w))]
  nt := 36

theorem min_round_r (D : Dom) (l m w w' : List Int) (c c' k : Int) : stepPs Try.prog D (gamL D) 100 (bodyOf Try.f67) 100 (minSn D l m w c k).st [.is true] .normal (minSn D l m w' c' (k + 1)) =
    some [((decide (k < (((List.length l) : Nat) : Int))) = Bool.true), ((0 : Int) ≤ k), (k < (((List.length l) : Nat) : Int)), ((0 : Int) ≤ k), (((List.length w) + (1 : Nat)) ≤ (9223372036854775807 : Nat)), ((((List.length w) + (1 : Nat)) * (4 : Nat)) ≤ (140737488355328 : Nat)), (Go.Abs.InI64 (k + (1 : Int))), (l = l), (m = m), ((Go.IntKind.wrap Go.IntKind.u32 ((1 : Int) - (Int.fdiv (Go.IntKind.wrap Go.IntKind.u32 ((Go.IntKind.wrap Go.IntKind.u32 ((Go.IntKind.wrap Go.IntKind.u32 ((List.getD l (Int.toNat k) (0 : Int)) + (65536 : Int))) - (List.getD m (Int.toNat k) (0 : Int)))) - c)) ((2 : Int) ^ (min (16 : Nat) (32 : Nat)))))) = c'), ((((List.length l) : Nat) : Int) = (((List.length l) : Nat) : Int)), ((k + (1 : Int)) = (k + (1 : Int))), ((w ++ ((Go.Abs.bitsOf Go.BinOp.and Go.IntKind.u32 (Go.IntKind.wrap Go.IntKind.u32 ((Go.IntKind.wrap Go.IntKind.u32 ((Go.IntKind.wrap Go.IntKind.u32 ((List.getD l (Int.toNat k) (0 : Int)) + (65536 : Int))) - (List.getD m (Int.toNat k) (0 : Int)))) - c)) (65535 : Int)) :: ([] : List (Int)))) = w')] := by kernel_rfl
theorem min_round (D : Dom) (l m w w' : List Int) (c c' k : Int)
    (h1 : ((decide (k < (((List.length l) : Nat) : Int))) = Bool.true))
    (h2 : ((0 : Int) ≤ k))
    (h3 : (k < (((List.length l) : Nat) : Int)))
    (h4 : (((List.length w) + (1 : Nat)) ≤ (9223372036854775807 : Nat)))
    (h5 : ((((List.length w) + (1 : Nat)) * (4 : Nat)) ≤ (140737488355328 : Nat)))
    (h6 : (Go.Abs.InI64 (k + (1 : Int))))
    (h7 : ((Go.IntKind.wrap Go.IntKind.u32 ((1 : Int) - (Int.fdiv (Go.IntKind.wrap Go.IntKind.u32 ((Go.IntKind.wrap Go.IntKind.u32 ((Go.IntKind.wrap Go.IntKind.u32 ((List.getD l (Int.toNat k) (0 : Int)) + (65536 : Int))) - (List.getD m (Int.toNat k) (0 : Int)))) - c)) ((2 : Int) ^ (min (16 : Nat) (32 : Nat)))))) = c'))
    (h8 : ((w ++ ((Go.Abs.bitsOf Go.BinOp.and Go.IntKind.u32 (Go.IntKind.wrap Go.IntKind.u32 ((Go.IntKind.wrap Go.IntKind.u32 ((Go.IntKind.wrap Go.IntKind.u32 ((List.getD l (Int.toNat k) (0 : Int)) + (65536 : Int))) - (List.getD m (Int.toNat k) (0 : Int)))) - c)) (65535 : Int)) :: ([] : List (Int)))) = w')) :
    ∃ ps, stepPs Try.prog D (gamL D) 100 (bodyOf Try.f67) 100 (minSn D l m w c k).st [.is true] .normal (minSn D l m w' c' (k + 1)) = some ps ∧ AllQ ps := ⟨_, min_round_r D l m w w' c c' k, AllP.all ⟨h1, h2, h3, h2, h4, h5, h6, rfl, rfl, h7, rfl, rfl, h8⟩⟩

theorem min_exit_r (D : Dom) (l m w : List Int) (c k : Int) : stepPs Try.prog D (gamL D) 100 (bodyOf Try.f67) 100 (minSn D l m w c k).st [.is false] (.exit 0) (minSn D l m w c k) =
    some [((decide (k < (((List.length l) : Nat) : Int))) = Bool.false), (l = l), (m = m), (c = c), ((((List.length l) : Nat) : Int) = (((List.length l) : Nat) : Int)), (k = k), (w = w)] := by kernel_rfl
theorem min_exit (D : Dom) (l m w : List Int) (c k : Int)
    (h1 : ((decide (k < (((List.length l) : Nat) : Int))) = Bool.false)) :
    ∃ ps, stepPs Try.prog D (gamL D) 100 (bodyOf Try.f67) 100 (minSn D l m w c k).st [.is false] (.exit 0) (minSn D l m w c k) = some ps ∧ AllQ ps := ⟨_, min_exit_r D l m w c k, AllP.all ⟨h1, rfl, rfl, rfl, rfl, rfl, rfl⟩⟩

theorem min_run_r (D : Dom) (l m w w' : List Int) (c c' k : Int) : runF Try.prog D (gamL D) 100 Try.f67 [.one (.words .u32 l), .one (.words .u32 m)] [.loop (loopL D (minSn D l m w c 0) (.exit 0) (minSn D l m w' c' k))] =
    some ((Go.Abs.AV.v (Go.Abs.A0.one (Go.Abs.Part.fresh (0 : Nat) (43 : TypeId) Go.IntKind.u32 w'))), [SumOK Try.prog D (bodyOf Try.f67) (loopL D (minSn D l m w c 0) (.exit 0) (minSn D l m w' c' k)), (l = l), (m = m), ((0 : Int) = c), ((((List.length l) : Nat) : Int) = (((List.length l) : Nat) : Int)), ((0 : Int) = (0 : Int)), (([] : List (Int)) = w)]) := by kernel_rfl
theorem min_run (D : Dom) (l m w w' : List Int) (c c' k : Int)
    (h1 : SumOK Try.prog D (bodyOf Try.f67) (loopL D (minSn D l m w c 0) (.exit 0) (minSn D l m w' c' k)))
    (h2 : ((0 : Int) = c))
    (h3 : (([] : List (Int)) = w)) :
    ∃ ps, runF Try.prog D (gamL D) 100 Try.f67 [.one (.words .u32 l), .one (.words .u32 m)] [.loop (loopL D (minSn D l m w c 0) (.exit 0) (minSn D l m w' c' k))] = some ((Go.Abs.AV.v (Go.Abs.A0.one (Go.Abs.Part.fresh (0 : Nat) (43 : TypeId) Go.IntKind.u32 w'))), ps) ∧ AllQ ps := ⟨_, min_run_r D l m w w' c c' k, AllP.all ⟨h1, rfl, rfl, h2, rfl, rfl, h3⟩⟩

/-! Times -/

noncomputable def bodyOf2 (fn : Func) : Code := match loopOf 100 (bodyOf fn) with | some a => a | none => .skip

def timSn (D : Dom) (l m w : List Int) (i c j : Int) : Sn D.τ where
  slots := [(0, .v (.one (.words .u32 l))), (1, .v (.one (.words .u32 m))), (5, .v (.one (.own 0))), (6, .v (.one (.int .i64 false i))), (7, .v (.one (.int .u64 false c))), (8, .v (.one (.int .i64 false j))), (18, .v (.one (.int .i64 false l.length))), (19, .v (.one (.int .i64 false i)))]
  boxes := [(0, .dyn 43 (.ints .u32 w))]
  nt := 60
def timOut (D : Dom) (l m w : List Int) (i : Int) : Sn D.τ where
  slots := [(0, .v (.one (.words .u32 l))), (1, .v (.one (.words .u32 m))), (5, .v (.one (.own 0))), (18, .v (.one (.int .i64 false l.length))), (19, .v (.one (.int .i64 false i)))]
  boxes := [(0, .dyn 43 (.ints .u32 w))]
  nt := 60

theorem tim_inner_r (D : Dom) (l m w w' : List Int) (i c c' j : Int) : stepPs Try.prog D (gamL D) 100 (bodyOf2 Try.f80) 100 (timSn D l m w i c j).st [.is true] .normal (timSn D l m w' i c' (j + 1)) =
    some [((decide (j ≤ (((List.length m) : Nat) : Int))) = Bool.true), (Go.Abs.InI64 (i + j)), ((0 : Int) ≤ (i + j)), ((i + j) < (((List.length w) : Nat) : Int)), ((Int.toNat (i + j)) < (List.length w)), ((0 : Int) ≤ i), (i < (((List.length l) : Nat) : Int)), ((0 : Int) ≤ j), (Go.Abs.InI64 (i + j)), ((0 : Int) ≤ (i + j)), ((i + j) < (((List.length w) : Nat) : Int)), ((Int.toNat (i + j)) < (List.length w)), ((some (1 : Nat)) = (some (1 : Nat))), (Go.Abs.InI64 (j + (1 : Int))), (l = l), (m = m), (i = i), ((Int.fdiv (Go.IntKind.wrap Go.IntKind.u64 ((Go.IntKind.wrap Go.IntKind.u64 ((Go.IntKind.wrap Go.IntKind.u64 (List.getD w (Int.toNat (i + j)) (0 : Int))) + (Go.IntKind.wrap Go.IntKind.u64 ((Go.IntKind.wrap Go.IntKind.u64 (List.getD l (Int.toNat i) (0 : Int))) * (Go.IntKind.wrap Go.IntKind.u64 (List.getD m (Int.toNat j) (0 : Int))))))) + c)) ((2 : Int) ^ (min (16 : Nat) (64 : Nat)))) = c'), ((j + (1 : Int)) = (j + (1 : Int))), ((((List.length l) : Nat) : Int) = (((List.length l) : Nat) : Int)), (i = i), ((List.set w (Int.toNat (i + j)) (Go.IntKind.wrap Go.IntKind.u32 (Go.Abs.bitsOf Go.BinOp.and Go.IntKind.u64 (Go.IntKind.wrap Go.IntKind.u64 ((Go.IntKind.wrap Go.IntKind.u64 ((Go.IntKind.wrap Go.IntKind.u64 (List.getD w (Int.toNat (i + j)) (0 : Int))) + (Go.IntKind.wrap Go.IntKind.u64 ((Go.IntKind.wrap Go.IntKind.u64 (List.getD l (Int.toNat i) (0 : Int))) * (Go.IntKind.wrap Go.IntKind.u64 (List.getD m (Int.toNat j) (0 : Int))))))) + c)) (65535 : Int)))) = w')] := by kernel_rfl
theorem tim_inner (D : Dom) (l m w w' : List Int) (i c c' j : Int)
    (h1 : ((decide (j ≤ (((List.length m) : Nat) : Int))) = Bool.true))
    (h2 : (Go.Abs.InI64 (i + j)))
    (h3 : ((0 : Int) ≤ (i + j)))
    (h4 : ((i + j) < (((List.length w) : Nat) : Int)))
    (h5 : ((Int.toNat (i + j)) < (List.length w)))
    (h6 : ((0 : Int) ≤ i))
    (h7 : (i < (((List.length l) : Nat) : Int)))
    (h8 : ((0 : Int) ≤ j))
    (h9 : (Go.Abs.InI64 (j + (1 : Int))))
    (h10 : ((Int.fdiv (Go.IntKind.wrap Go.IntKind.u64 ((Go.IntKind.wrap Go.IntKind.u64 ((Go.IntKind.wrap Go.IntKind.u64 (List.getD w (Int.toNat (i + j)) (0 : Int))) + (Go.IntKind.wrap Go.IntKind.u64 ((Go.IntKind.wrap Go.IntKind.u64 (List.getD l (Int.toNat i) (0 : Int))) * (Go.IntKind.wrap Go.IntKind.u64 (List.getD m (Int.toNat j) (0 : Int))))))) + c)) ((2 : Int) ^ (min (16 : Nat) (64 : Nat)))) = c'))
    (h11 : ((List.set w (Int.toNat (i + j)) (Go.IntKind.wrap Go.IntKind.u32 (Go.Abs.bitsOf Go.BinOp.and Go.IntKind.u64 (Go.IntKind.wrap Go.IntKind.u64 ((Go.IntKind.wrap Go.IntKind.u64 ((Go.IntKind.wrap Go.IntKind.u64 (List.getD w (Int.toNat (i + j)) (0 : Int))) + (Go.IntKind.wrap Go.IntKind.u64 ((Go.IntKind.wrap Go.IntKind.u64 (List.getD l (Int.toNat i) (0 : Int))) * (Go.IntKind.wrap Go.IntKind.u64 (List.getD m (Int.toNat j) (0 : Int))))))) + c)) (65535 : Int)))) = w')) :
    ∃ ps, stepPs Try.prog D (gamL D) 100 (bodyOf2 Try.f80) 100 (timSn D l m w i c j).st [.is true] .normal (timSn D l m w' i c' (j + 1)) = some ps ∧ AllQ ps := ⟨_, tim_inner_r D l m w w' i c c' j, AllP.all ⟨h1, h2, h3, h4, h5, h6, h7, h8, h2, h3, h4, h5, rfl, h9, rfl, rfl, rfl, h10, rfl, rfl, rfl, h11⟩⟩

theorem tim_innerExit_r (D : Dom) (l m w : List Int) (i c j : Int) : stepPs Try.prog D (gamL D) 100 (bodyOf2 Try.f80) 100 (timSn D l m w i c j).st [.is false] (.exit 2) (timSn D l m w i c j) =
    some [((decide (j ≤ (((List.length m) : Nat) : Int))) = Bool.false), (l = l), (m = m), (i = i), (c = c), (j = j), ((((List.length l) : Nat) : Int) = (((List.length l) : Nat) : Int)), (i = i), (w = w)] := by kernel_rfl
theorem tim_innerExit (D : Dom) (l m w : List Int) (i c j : Int)
    (h1 : ((decide (j ≤ (((List.length m) : Nat) : Int))) = Bool.false)) :
    ∃ ps, stepPs Try.prog D (gamL D) 100 (bodyOf2 Try.f80) 100 (timSn D l m w i c j).st [.is false] (.exit 2) (timSn D l m w i c j) = some ps ∧ AllQ ps := ⟨_, tim_innerExit_r D l m w i c j, AllP.all ⟨h1, rfl, rfl, rfl, rfl, rfl, rfl, rfl, rfl⟩⟩

theorem tim_round_r (D : Dom) (l m w w' w'' : List Int) (i i' c c' j : Int) : stepPs Try.prog D (gamL D) 100 (bodyOf Try.f80) 100 (timOut D l m w i).st [.is true, .loop (loopL D (timSn D l m w'' i c 0) (.exit 2) (timSn D l m w' i c' j))] .normal (timOut D l m w' i') =
    some [((decide (i < (((List.length l) : Nat) : Int))) = Bool.true), SumOK Try.prog D (bodyOf2 Try.f80) (loopL D (timSn D l m w'' i c 0) (.exit 2) (timSn D l m w' i c' j)), (l = l), (m = m), (i = i), ((0 : Int) = c), ((0 : Int) = (0 : Int)), ((((List.length l) : Nat) : Int) = (((List.length l) : Nat) : Int)), (i = i), (w = w''), (Go.Abs.InI64 (i + (1 : Int))), (l = l), (m = m), ((((List.length l) : Nat) : Int) = (((List.length l) : Nat) : Int)), ((i + (1 : Int)) = i'), (w' = w')] := by kernel_rfl
theorem tim_round (D : Dom) (l m w w' w'' : List Int) (i i' c c' j : Int)
    (h1 : ((decide (i < (((List.length l) : Nat) : Int))) = Bool.true))
    (h2 : SumOK Try.prog D (bodyOf2 Try.f80) (loopL D (timSn D l m w'' i c 0) (.exit 2) (timSn D l m w' i c' j)))
    (h3 : ((0 : Int) = c))
    (h4 : (w = w''))
    (h5 : (Go.Abs.InI64 (i + (1 : Int))))
    (h6 : ((i + (1 : Int)) = i')) :
    ∃ ps, stepPs Try.prog D (gamL D) 100 (bodyOf Try.f80) 100 (timOut D l m w i).st [.is true, .loop (loopL D (timSn D l m w'' i c 0) (.exit 2) (timSn D l m w' i c' j))] .normal (timOut D l m w' i') = some ps ∧ AllQ ps := ⟨_, tim_round_r D l m w w' w'' i i' c c' j, AllP.all ⟨h1, h2, rfl, rfl, rfl, h3, rfl, rfl, rfl, h4, h5, rfl, rfl, rfl, h6, rfl⟩⟩

theorem tim_exit_r (D : Dom) (l m w : List Int) (i : Int) : stepPs Try.prog D (gamL D) 100 (bodyOf Try.f80) 100 (timOut D l m w i).st [.is false] (.exit 0) (timOut D l m w i) =
    some [((decide (i < (((List.length l) : Nat) : Int))) = Bool.false), (l = l), (m = m), ((((List.length l) : Nat) : Int) = (((List.length l) : Nat) : Int)), (i = i), (w = w)] := by kernel_rfl
theorem tim_exit (D : Dom) (l m w : List Int) (i : Int)
    (h1 : ((decide (i < (((List.length l) : Nat) : Int))) = Bool.false)) :
    ∃ ps, stepPs Try.prog D (gamL D) 100 (bodyOf Try.f80) 100 (timOut D l m w i).st [.is false] (.exit 0) (timOut D l m w i) = some ps ∧ AllQ ps := ⟨_, tim_exit_r D l m w i, AllP.all ⟨h1, rfl, rfl, rfl, rfl, rfl⟩⟩

theorem tim_run_r (D : Dom) (l m w w' : List Int) (i : Int) : runF Try.prog D (gamL D) 100 Try.f80 [.one (.words .u32 l), .one (.words .u32 m)] [.loop (loopL D (timOut D l m w 0) (.exit 0) (timOut D l m w' i))] =
    some ((Go.Abs.AV.v (Go.Abs.A0.one (Go.Abs.Part.fresh (0 : Nat) (43 : TypeId) Go.IntKind.u32 w'))), [(Go.Abs.InI64 ((((List.length l) : Nat) : Int) + (((List.length m) : Nat) : Int))), (Go.Abs.InI64 (((((List.length l) : Nat) : Int) + (((List.length m) : Nat) : Int)) + (1 : Int))), ((0 : Int) ≤ (((((List.length l) : Nat) : Int) + (((List.length m) : Nat) : Int)) + (1 : Int))), ((((((List.length l) : Nat) : Int) + (((List.length m) : Nat) : Int)) + (1 : Int)) ≤ (((((List.length l) : Nat) : Int) + (((List.length m) : Nat) : Int)) + (1 : Int))), ((((((List.length l) : Nat) : Int) + (((List.length m) : Nat) : Int)) + (1 : Int)) ≤ (9223372036854775807 : Int)), (((((4 : Nat) : Nat) : Int) * (((((List.length l) : Nat) : Int) + (((List.length m) : Nat) : Int)) + (1 : Int))) ≤ (281474976710656 : Int)), SumOK Try.prog D (bodyOf Try.f80) (loopL D (timOut D l m w 0) (.exit 0) (timOut D l m w' i)), (l = l), (m = m), ((((List.length l) : Nat) : Int) = (((List.length l) : Nat) : Int)), ((0 : Int) = (0 : Int)), ((List.replicate (Int.toNat (((((List.length l) : Nat) : Int) + (((List.length m) : Nat) : Int)) + (1 : Int))) (0 : Int)) = w)]) := by kernel_rfl
theorem tim_run (D : Dom) (l m w w' : List Int) (i : Int)
    (h1 : (Go.Abs.InI64 ((((List.length l) : Nat) : Int) + (((List.length m) : Nat) : Int))))
    (h2 : (Go.Abs.InI64 (((((List.length l) : Nat) : Int) + (((List.length m) : Nat) : Int)) + (1 : Int))))
    (h3 : ((0 : Int) ≤ (((((List.length l) : Nat) : Int) + (((List.length m) : Nat) : Int)) + (1 : Int))))
    (h4 : ((((((List.length l) : Nat) : Int) + (((List.length m) : Nat) : Int)) + (1 : Int)) ≤ (((((List.length l) : Nat) : Int) + (((List.length m) : Nat) : Int)) + (1 : Int))))
    (h5 : ((((((List.length l) : Nat) : Int) + (((List.length m) : Nat) : Int)) + (1 : Int)) ≤ (9223372036854775807 : Int)))
    (h6 : (((((4 : Nat) : Nat) : Int) * (((((List.length l) : Nat) : Int) + (((List.length m) : Nat) : Int)) + (1 : Int))) ≤ (281474976710656 : Int)))
    (h7 : SumOK Try.prog D (bodyOf Try.f80) (loopL D (timOut D l m w 0) (.exit 0) (timOut D l m w' i)))
    (h8 : ((List.replicate (Int.toNat (((((List.length l) : Nat) : Int) + (((List.length m) : Nat) : Int)) + (1 : Int))) (0 : Int)) = w)) :
    ∃ ps, runF Try.prog D (gamL D) 100 Try.f80 [.one (.words .u32 l), .one (.words .u32 m)] [.loop (loopL D (timOut D l m w 0) (.exit 0) (timOut D l m w' i))] = some ((Go.Abs.AV.v (Go.Abs.A0.one (Go.Abs.Part.fresh (0 : Nat) (43 : TypeId) Go.IntKind.u32 w'))), ps) ∧ AllQ ps := ⟨_, tim_run_r D l m w w' i, AllP.all ⟨h1, h2, h3, h4, h5, h6, h7, rfl, rfl, rfl, rfl, h8⟩⟩

/-! Mod -/

theorem and32 {x : Int} (h : 0 ≤ x ∧ x < 4294967296) : bitsOf .and .u32 x 65535 = x % 65536 := by
  obtain ⟨x, rfl⟩ := Int.eq_ofNat_of_zero_le h.1
  show IntKind.u32.wrap (((BitVec.ofInt 32 (x : Int) &&& BitVec.ofInt 32 ((65535 : Nat) : Int)).toNat : Nat) : Int) = _
  rw [BitVec.toNat_and, BitVec.ofInt_natCast, BitVec.ofInt_natCast, BitVec.toNat_ofNat, BitVec.toNat_ofNat, Nat.mod_eq_of_lt (by omega), Nat.mod_eq_of_lt (by omega), show 65535 = 2 ^ 16 - 1 from rfl, Nat.and_two_pow_sub_one_eq_mod, IntKind.wrap_u32]
  omega

theorem and64 {x : Int} (h : 0 ≤ x ∧ x < 18446744073709551616) : bitsOf .and .u64 x 65535 = x % 65536 := by
  obtain ⟨x, rfl⟩ := Int.eq_ofNat_of_zero_le h.1
  show IntKind.u64.wrap (((BitVec.ofInt 64 (x : Int) &&& BitVec.ofInt 64 ((65535 : Nat) : Int)).toNat : Nat) : Int) = _
  rw [BitVec.toNat_and, BitVec.ofInt_natCast, BitVec.ofInt_natCast, BitVec.toNat_ofNat, BitVec.toNat_ofNat, Nat.mod_eq_of_lt (by omega), Nat.mod_eq_of_lt (by omega), show 65535 = 2 ^ 16 - 1 from rfl, Nat.and_two_pow_sub_one_eq_mod, IntKind.wrap_u64]
  omega

def pl16D (D : Dom) : FnD D
  | [.one (.words .u32 l), .one (.words .u32 m)] => some (.v (.one (.fresh 0 43 .u32 (W ((if l.length < m.length then m.length else l.length) + 1) (v16 l + v16 m)))), [In16 l, In16 m, l.length ≤ 1099511627776, m.length ≤ 1099511627776])
  | _ => none

theorem plus_loop (D : Dom) {l m : List Int} (hl : In16 l) (hm : In16 m) {n : Nat} (hn : n ≤ 1099511627776) :
    SumOK Try.prog D (bodyOf Try.f68) (loopL D (plusSn D l m (W 0 (v16 l + v16 m)) n (carA (v16 l) (v16 m) 0) (0 : Nat)) (.exit 0) (plusSn D l m (W (n + 1) (v16 l + v16 m)) n (carA (v16 l) (v16 m) (n + 1)) (n + 1 : Nat))) := by
  refine sum_loop (gamL_ok D) mixed (fun k => plusSn D l m (W k (v16 l + v16 m)) n (carA (v16 l) (v16 m) k) k) (n + 1) rfl (fun k hk => ⟨100, 100, [.is true], ?_⟩) ⟨100, 100, [.is false], ?_⟩
  · have hx := mod_H (v16 l / H ^ k)
    have hy := mod_H (v16 m / H ^ k)
    have hc := carA_range (v16 l) (v16 m) k
    have hs : (v16 l + v16 m) / H ^ k % H = (v16 l / H ^ k % H + v16 m / H ^ k % H + carA (v16 l) (v16 m) k) % H := by
      rw [add_split]
      generalize v16 l / H ^ k = a
      generalize v16 m / H ^ k = b
      unfold H
      omega
    have hw : IntKind.u32.wrap (IntKind.u32.wrap (l.getD (k : Int).toNat 0 + m.getD (k : Int).toNat 0) + carA (v16 l) (v16 m) k) = v16 l / H ^ k % H + v16 m / H ^ k % H + carA (v16 l) (v16 m) k := by
      rw [show (k : Int).toNat = k from rfl, v16_getD hl, v16_getD hm, IntKind.wrap_u32, IntKind.wrap_u32]
      unfold H at *
      omega
    refine plus_round D l m _ _ n _ _ k (decide_eq_true (by omega)) (by omega) (by rw [W_len]; omega) (by rw [W_len]; omega) ⟨by omega, by omega⟩ ?_ ?_
    · rw [hw, carA_succ, Int.fdiv_eq_ediv_of_nonneg _ (by decide)]
      rfl
    · rw [hw, W_succ, hs, and32 (by unfold H at *; omega)]
  · exact plus_exit D l m _ n _ _ (decide_eq_false (by omega))

theorem pl16_ok (D : Dom) : FnOK Try.prog D 68 (pl16D D) := by
  refine fnOK_of (gamL_ok D) mixed Try.func68 (enters_of Try.func68 (by kernel_rfl) rfl) ?_
  intro xs r ps h hps
  unfold pl16D at h
  split at h
  · rename_i l m
    simp only [Option.some.injEq, Prod.mk.injEq] at h
    obtain ⟨rfl, rfl⟩ := h
    have hl16 : In16 l := hps _ (by simp)
    have hm16 : In16 m := hps _ (by simp)
    have hl : l.length ≤ 1099511627776 := hps _ (by simp)
    have hm : m.length ≤ 1099511627776 := hps _ (by simp)
    have h0 : carA (v16 l) (v16 m) 0 = 0 := by simp [carA, Int.emod_one]
    by_cases hc : l.length < m.length
    · rw [if_pos hc]
      obtain ⟨ps, h1, h2⟩ := pl16_runA D l m _ _ m.length _ _ _ (decide_eq_true (by omega)) (plus_loop D hl16 hm16 hm) rfl h0.symm rfl
      exact ⟨_, 100, _, _, _, fun w vs h => h, h1, h2, fun E v hv => hv⟩
    · rw [if_neg hc]
      obtain ⟨ps, h1, h2⟩ := pl16_runB D l m _ _ l.length _ _ _ (decide_eq_false (by omega)) (plus_loop D hl16 hm16 hl) rfl h0.symm rfl
      exact ⟨_, 100, _, _, _, fun w vs h => h, h1, h2, fun E v hv => hv⟩
  · cases h

def minD (D : Dom) : FnD D
  | [.one (.words .u32 l), .one (.words .u32 m)] => some (.v (.one (.fresh 0 43 .u32 (W l.length (v16 l - v16 m)))), [In16 l, In16 m, l.length ≤ 1099511627776])
  | _ => none

theorem min_loop (D : Dom) {l m : List Int} (hl : In16 l) (hm : In16 m) (hn : l.length ≤ 1099511627776) :
    SumOK Try.prog D (bodyOf Try.f67) (loopL D (minSn D l m (W 0 (v16 l - v16 m)) (borS (v16 l) (v16 m) 0) (0 : Nat)) (.exit 0) (minSn D l m (W l.length (v16 l - v16 m)) (borS (v16 l) (v16 m) l.length) l.length)) := by
  refine sum_loop (gamL_ok D) mixed (fun k => minSn D l m (W k (v16 l - v16 m)) (borS (v16 l) (v16 m) k) k) l.length rfl (fun k hk => ⟨100, 100, [.is true], ?_⟩) ⟨100, 100, [.is false], ?_⟩
  · have hx := mod_H (v16 l / H ^ k)
    have hy := mod_H (v16 m / H ^ k)
    have hc := borS_range (v16 l) (v16 m) k
    have hs : (v16 l - v16 m) / H ^ k % H = (v16 l / H ^ k % H + H - v16 m / H ^ k % H - borS (v16 l) (v16 m) k) % H := by
      rw [sub_split]
      generalize v16 l / H ^ k = a
      generalize v16 m / H ^ k = b
      unfold H
      omega
    have hw : IntKind.u32.wrap (IntKind.u32.wrap (IntKind.u32.wrap (l.getD (k : Int).toNat 0 + 65536) - m.getD (k : Int).toNat 0) - borS (v16 l) (v16 m) k) = v16 l / H ^ k % H + H - v16 m / H ^ k % H - borS (v16 l) (v16 m) k := by
      rw [show (k : Int).toNat = k from rfl, v16_getD hl, v16_getD hm, IntKind.wrap_u32, IntKind.wrap_u32, IntKind.wrap_u32]
      unfold H at *
      omega
    refine min_round D l m _ _ _ _ k (decide_eq_true (by omega)) (by omega) (by omega) (by rw [W_len]; omega) (by rw [W_len]; omega) ⟨by omega, by omega⟩ ?_ ?_
    · rw [hw, borS_succ, Int.fdiv_eq_ediv_of_nonneg _ (by decide), IntKind.wrap_u32]
      rw [show (2 : Int) ^ (min 16 32) = H from rfl]
      unfold H at *
      omega
    · rw [hw, W_succ, hs, and32 (by unfold H at *; omega)]
  · exact min_exit D l m _ _ _ (decide_eq_false (by omega))

theorem min_ok (D : Dom) : FnOK Try.prog D 67 (minD D) := by
  refine fnOK_of (gamL_ok D) mixed Try.func67 (enters_of Try.func67 (by kernel_rfl) rfl) ?_
  intro xs r ps h hps
  unfold minD at h
  split at h
  · rename_i l m
    simp only [Option.some.injEq, Prod.mk.injEq] at h
    obtain ⟨rfl, rfl⟩ := h
    have hl16 : In16 l := hps _ (by simp)
    have hm16 : In16 m := hps _ (by simp)
    have hl : l.length ≤ 1099511627776 := hps _ (by simp)
    have h0 : borS (v16 l) (v16 m) 0 = 0 := by simp [borS, Int.emod_one]
    obtain ⟨ps, h1, h2⟩ := min_run D l m _ _ _ _ _ (min_loop D hl16 hm16 hl) h0.symm rfl
    exact ⟨_, 100, _, _, _, fun w vs h => h, h1, h2, fun E v hv => hv⟩
  · cases h

def gamM (D : Dom) : Gam D := (78, lessD D) :: (67, minD D) :: gamL D
theorem gamM_ok (D : Dom) : GamOK Try.prog D (gamM D) := gam_cons (less_ok D) (gam_cons (min_ok D) (gamL_ok D))

def modSn (D : Dom) (l m w : List Int) (i c j : Int) : Sn D.τ where
  slots := [(0, .v (.one (.words .u32 l))), (1, .v (.one (.words .u32 m))), (5, .v (.one (.own 0))), (6, .v (.one (.int .i64 false i))), (7, .v (.one (.int .u32 false c))), (33, .v (.one (.int .i64 false w.length))), (34, .v (.one (.int .i64 false j)))]
  boxes := [(0, .dyn 43 (.ints .u32 w))]
  nt := 63
def modOut (D : Dom) (l m w : List Int) (i : Int) : Sn D.τ where
  slots := [(0, .v (.one (.words .u32 l))), (1, .v (.one (.words .u32 m))), (5, .v (.one (.own 0))), (6, .v (.one (.int .i64 false i)))]
  boxes := [(0, .dyn 43 (.ints .u32 w))]
  nt := 63

theorem mod_inner_r (D : Dom) (l m w w' : List Int) (i c c' j : Int) : stepPs Try.prog D (gamM D) 100 (bodyOf2 Try.f60) 100 (modSn D l m w i c j).st [.is true] .normal (modSn D l m w' i c' (j + 1)) =
    some [((decide (j < (((List.length w) : Nat) : Int))) = Bool.true), ((0 : Int) ≤ j), (j < (((List.length w) : Nat) : Int)), ((Int.toNat j) < (List.length w)), ((0 : Int) ≤ j), (j < (((List.length w) : Nat) : Int)), ((Int.toNat j) < (List.length w)), ((some (1 : Nat)) = (some (1 : Nat))), (Go.Abs.InI64 (j + (1 : Int))), (l = l), (m = m), (i = i), ((Int.fdiv (Go.Abs.bitsOf Go.BinOp.or Go.IntKind.u32 (Go.IntKind.wrap Go.IntKind.u32 ((List.getD w (Int.toNat j) (0 : Int)) * ((2 : Int) ^ (min (1 : Nat) (32 : Nat))))) c) ((2 : Int) ^ (min (16 : Nat) (32 : Nat)))) = c'), ((((List.length w) : Nat) : Int) = (((List.length w') : Nat) : Int)), ((j + (1 : Int)) = (j + (1 : Int))), ((List.set w (Int.toNat j) (Go.Abs.bitsOf Go.BinOp.and Go.IntKind.u32 (Go.Abs.bitsOf Go.BinOp.or Go.IntKind.u32 (Go.IntKind.wrap Go.IntKind.u32 ((List.getD w (Int.toNat j) (0 : Int)) * ((2 : Int) ^ (min (1 : Nat) (32 : Nat))))) c) (65535 : Int))) = w')] := by kernel_rfl
theorem mod_inner (D : Dom) (l m w w' : List Int) (i c c' j : Int)
    (h1 : ((decide (j < (((List.length w) : Nat) : Int))) = Bool.true))
    (h2 : ((0 : Int) ≤ j))
    (h3 : (j < (((List.length w) : Nat) : Int)))
    (h4 : ((Int.toNat j) < (List.length w)))
    (h5 : (Go.Abs.InI64 (j + (1 : Int))))
    (h6 : ((Int.fdiv (Go.Abs.bitsOf Go.BinOp.or Go.IntKind.u32 (Go.IntKind.wrap Go.IntKind.u32 ((List.getD w (Int.toNat j) (0 : Int)) * ((2 : Int) ^ (min (1 : Nat) (32 : Nat))))) c) ((2 : Int) ^ (min (16 : Nat) (32 : Nat)))) = c'))
    (h7 : ((((List.length w) : Nat) : Int) = (((List.length w') : Nat) : Int)))
    (h8 : ((List.set w (Int.toNat j) (Go.Abs.bitsOf Go.BinOp.and Go.IntKind.u32 (Go.Abs.bitsOf Go.BinOp.or Go.IntKind.u32 (Go.IntKind.wrap Go.IntKind.u32 ((List.getD w (Int.toNat j) (0 : Int)) * ((2 : Int) ^ (min (1 : Nat) (32 : Nat))))) c) (65535 : Int))) = w')) :
    ∃ ps, stepPs Try.prog D (gamM D) 100 (bodyOf2 Try.f60) 100 (modSn D l m w i c j).st [.is true] .normal (modSn D l m w' i c' (j + 1)) = some ps ∧ AllQ ps := ⟨_, mod_inner_r D l m w w' i c c' j, AllP.all ⟨h1, h2, h3, h4, h2, h3, h4, rfl, h5, rfl, rfl, rfl, h6, h7, rfl, h8⟩⟩

theorem mod_innerExit_r (D : Dom) (l m w : List Int) (i c j : Int) : stepPs Try.prog D (gamM D) 100 (bodyOf2 Try.f60) 100 (modSn D l m w i c j).st [.is false] (.exit 2) (modSn D l m w i c j) =
    some [((decide (j < (((List.length w) : Nat) : Int))) = Bool.false), (l = l), (m = m), (i = i), (c = c), ((((List.length w) : Nat) : Int) = (((List.length w) : Nat) : Int)), (j = j), (w = w)] := by kernel_rfl
theorem mod_innerExit (D : Dom) (l m w : List Int) (i c j : Int)
    (h1 : ((decide (j < (((List.length w) : Nat) : Int))) = Bool.false)) :
    ∃ ps, stepPs Try.prog D (gamM D) 100 (bodyOf2 Try.f60) 100 (modSn D l m w i c j).st [.is false] (.exit 2) (modSn D l m w i c j) = some ps ∧ AllQ ps := ⟨_, mod_innerExit_r D l m w i c j, AllP.all ⟨h1, rfl, rfl, rfl, rfl, rfl, rfl, rfl⟩⟩

theorem mod_less_r (D : Dom) (l m w w' w'' : List Int) (i c c' j : Int) : stepPs Try.prog D (gamM D) 100 (bodyOf Try.f60) 100 (modOut D l m w i).st [.is true, .loop (loopL D (modSn D l m w i c 0) (.exit 2) (modSn D l m w' i c' j)), .is true] .normal (modOut D l m w'' (i - 1)) =
    some [((decide (i ≥ (0 : Int))) = Bool.true), ((16 : Int) ≠ (0 : Int)), ((0 : Int) ≤ (Go.IntKind.wrap Go.IntKind.i64 (Int.tdiv i (16 : Int)))), ((Go.IntKind.wrap Go.IntKind.i64 (Int.tdiv i (16 : Int))) < (((List.length l) : Nat) : Int)), ((0 : Int) ≤ (Go.IntKind.wrap Go.IntKind.u64 (Int.tmod i (16 : Int)))), SumOK Try.prog D (bodyOf2 Try.f60) (loopL D (modSn D l m w i c 0) (.exit 2) (modSn D l m w' i c' j)), (l = l), (m = m), (i = i), ((Go.Abs.bitsOf Go.BinOp.and Go.IntKind.u32 (Int.fdiv (List.getD l (Int.toNat (Go.IntKind.wrap Go.IntKind.i64 (Int.tdiv i (16 : Int)))) (0 : Int)) ((2 : Int) ^ (min (Int.toNat (Go.IntKind.wrap Go.IntKind.u64 (Int.tmod i (16 : Int)))) (32 : Nat)))) (1 : Int)) = c), ((((List.length w) : Nat) : Int) = (((List.length w) : Nat) : Int)), ((0 : Int) = (0 : Int)), (w = w), ((decide ((Go.Num.v16 w') < (Go.Num.v16 m))) = Bool.true), (Go.Num.In16 w'), (Go.Num.In16 m), ((List.length w') ≤ (281474976710656 : Nat)), ((List.length m) ≤ (281474976710656 : Nat)), (Go.Abs.InI64 (i - (1 : Int))), (l = l), (m = m), ((i - (1 : Int)) = (i - (1 : Int))), (w' = w'')] := by kernel_rfl
theorem mod_less (D : Dom) (l m w w' w'' : List Int) (i c c' j : Int)
    (h1 : ((decide (i ≥ (0 : Int))) = Bool.true))
    (h2 : ((0 : Int) ≤ (Go.IntKind.wrap Go.IntKind.i64 (Int.tdiv i (16 : Int)))))
    (h3 : ((Go.IntKind.wrap Go.IntKind.i64 (Int.tdiv i (16 : Int))) < (((List.length l) : Nat) : Int)))
    (h4 : ((0 : Int) ≤ (Go.IntKind.wrap Go.IntKind.u64 (Int.tmod i (16 : Int)))))
    (h5 : SumOK Try.prog D (bodyOf2 Try.f60) (loopL D (modSn D l m w i c 0) (.exit 2) (modSn D l m w' i c' j)))
    (h6 : ((Go.Abs.bitsOf Go.BinOp.and Go.IntKind.u32 (Int.fdiv (List.getD l (Int.toNat (Go.IntKind.wrap Go.IntKind.i64 (Int.tdiv i (16 : Int)))) (0 : Int)) ((2 : Int) ^ (min (Int.toNat (Go.IntKind.wrap Go.IntKind.u64 (Int.tmod i (16 : Int)))) (32 : Nat)))) (1 : Int)) = c))
    (h7 : ((decide ((Go.Num.v16 w') < (Go.Num.v16 m))) = Bool.true))
    (h8 : (Go.Num.In16 w'))
    (h9 : (Go.Num.In16 m))
    (h10 : ((List.length w') ≤ (281474976710656 : Nat)))
    (h11 : ((List.length m) ≤ (281474976710656 : Nat)))
    (h12 : (Go.Abs.InI64 (i - (1 : Int))))
    (h13 : (w' = w'')) :
    ∃ ps, stepPs Try.prog D (gamM D) 100 (bodyOf Try.f60) 100 (modOut D l m w i).st [.is true, .loop (loopL D (modSn D l m w i c 0) (.exit 2) (modSn D l m w' i c' j)), .is true] .normal (modOut D l m w'' (i - 1)) = some ps ∧ AllQ ps := ⟨_, mod_less_r D l m w w' w'' i c c' j, AllP.all ⟨h1, (show ((16 : Int) ≠ (0 : Int)) from by decide), h2, h3, h4, h5, rfl, rfl, rfl, h6, rfl, rfl, rfl, h7, h8, h9, h10, h11, h12, rfl, rfl, rfl, h13⟩⟩

theorem mod_more_r (D : Dom) (l m w w' w'' : List Int) (i c c' j : Int) : stepPs Try.prog D (gamM D) 100 (bodyOf Try.f60) 100 (modOut D l m w i).st [.is true, .loop (loopL D (modSn D l m w i c 0) (.exit 2) (modSn D l m w' i c' j)), .is false] .normal (modOut D l m w'' (i - 1)) =
    some [((decide (i ≥ (0 : Int))) = Bool.true), ((16 : Int) ≠ (0 : Int)), ((0 : Int) ≤ (Go.IntKind.wrap Go.IntKind.i64 (Int.tdiv i (16 : Int)))), ((Go.IntKind.wrap Go.IntKind.i64 (Int.tdiv i (16 : Int))) < (((List.length l) : Nat) : Int)), ((0 : Int) ≤ (Go.IntKind.wrap Go.IntKind.u64 (Int.tmod i (16 : Int)))), SumOK Try.prog D (bodyOf2 Try.f60) (loopL D (modSn D l m w i c 0) (.exit 2) (modSn D l m w' i c' j)), (l = l), (m = m), (i = i), ((Go.Abs.bitsOf Go.BinOp.and Go.IntKind.u32 (Int.fdiv (List.getD l (Int.toNat (Go.IntKind.wrap Go.IntKind.i64 (Int.tdiv i (16 : Int)))) (0 : Int)) ((2 : Int) ^ (min (Int.toNat (Go.IntKind.wrap Go.IntKind.u64 (Int.tmod i (16 : Int)))) (32 : Nat)))) (1 : Int)) = c), ((((List.length w) : Nat) : Int) = (((List.length w) : Nat) : Int)), ((0 : Int) = (0 : Int)), (w = w), ((decide ((Go.Num.v16 w') < (Go.Num.v16 m))) = Bool.false), (Go.Num.In16 w'), (Go.Num.In16 m), ((List.length w') ≤ (281474976710656 : Nat)), ((List.length m) ≤ (281474976710656 : Nat)), (Go.Num.In16 w'), (Go.Num.In16 m), ((List.length w') ≤ (1099511627776 : Nat)), (Go.Abs.InI64 (i - (1 : Int))), (l = l), (m = m), ((i - (1 : Int)) = (i - (1 : Int))), ((Go.Num.W (List.length w') ((Go.Num.v16 w') - (Go.Num.v16 m))) = w'')] := by kernel_rfl
theorem mod_more (D : Dom) (l m w w' w'' : List Int) (i c c' j : Int)
    (h1 : ((decide (i ≥ (0 : Int))) = Bool.true))
    (h2 : ((0 : Int) ≤ (Go.IntKind.wrap Go.IntKind.i64 (Int.tdiv i (16 : Int)))))
    (h3 : ((Go.IntKind.wrap Go.IntKind.i64 (Int.tdiv i (16 : Int))) < (((List.length l) : Nat) : Int)))
    (h4 : ((0 : Int) ≤ (Go.IntKind.wrap Go.IntKind.u64 (Int.tmod i (16 : Int)))))
    (h5 : SumOK Try.prog D (bodyOf2 Try.f60) (loopL D (modSn D l m w i c 0) (.exit 2) (modSn D l m w' i c' j)))
    (h6 : ((Go.Abs.bitsOf Go.BinOp.and Go.IntKind.u32 (Int.fdiv (List.getD l (Int.toNat (Go.IntKind.wrap Go.IntKind.i64 (Int.tdiv i (16 : Int)))) (0 : Int)) ((2 : Int) ^ (min (Int.toNat (Go.IntKind.wrap Go.IntKind.u64 (Int.tmod i (16 : Int)))) (32 : Nat)))) (1 : Int)) = c))
    (h7 : ((decide ((Go.Num.v16 w') < (Go.Num.v16 m))) = Bool.false))
    (h8 : (Go.Num.In16 w'))
    (h9 : (Go.Num.In16 m))
    (h10 : ((List.length w') ≤ (281474976710656 : Nat)))
    (h11 : ((List.length m) ≤ (281474976710656 : Nat)))
    (h12 : ((List.length w') ≤ (1099511627776 : Nat)))
    (h13 : (Go.Abs.InI64 (i - (1 : Int))))
    (h14 : ((Go.Num.W (List.length w') ((Go.Num.v16 w') - (Go.Num.v16 m))) = w'')) :
    ∃ ps, stepPs Try.prog D (gamM D) 100 (bodyOf Try.f60) 100 (modOut D l m w i).st [.is true, .loop (loopL D (modSn D l m w i c 0) (.exit 2) (modSn D l m w' i c' j)), .is false] .normal (modOut D l m w'' (i - 1)) = some ps ∧ AllQ ps := ⟨_, mod_more_r D l m w w' w'' i c c' j, AllP.all ⟨h1, (show ((16 : Int) ≠ (0 : Int)) from by decide), h2, h3, h4, h5, rfl, rfl, rfl, h6, rfl, rfl, rfl, h7, h8, h9, h10, h11, h8, h9, h12, h13, rfl, rfl, rfl, h14⟩⟩

theorem mod_exit_r (D : Dom) (l m w : List Int) (i : Int) : stepPs Try.prog D (gamM D) 100 (bodyOf Try.f60) 100 (modOut D l m w i).st [.is false] (.exit 0) (modOut D l m w i) =
    some [((decide (i ≥ (0 : Int))) = Bool.false), (l = l), (m = m), (i = i), (w = w)] := by kernel_rfl
theorem mod_exit (D : Dom) (l m w : List Int) (i : Int)
    (h1 : ((decide (i ≥ (0 : Int))) = Bool.false)) :
    ∃ ps, stepPs Try.prog D (gamM D) 100 (bodyOf Try.f60) 100 (modOut D l m w i).st [.is false] (.exit 0) (modOut D l m w i) = some ps ∧ AllQ ps := ⟨_, mod_exit_r D l m w i, AllP.all ⟨h1, rfl, rfl, rfl, rfl⟩⟩

theorem mod_run_r (D : Dom) (l m w w' : List Int) (i i' : Int) : runF Try.prog D (gamM D) 100 Try.f60 [.one (.words .u32 l), .one (.words .u32 m)] [.loop (loopL D (modOut D l m w i) (.exit 0) (modOut D l m w' i'))] =
    some ((Go.Abs.AV.v (Go.Abs.A0.one (Go.Abs.Part.fresh (0 : Nat) (43 : TypeId) Go.IntKind.u32 (List.take (Int.toNat (((List.length m) : Nat) : Int)) w')))), [(Go.Abs.InI64 ((((List.length m) : Nat) : Int) + (1 : Int))), ((0 : Int) ≤ ((((List.length m) : Nat) : Int) + (1 : Int))), (((((List.length m) : Nat) : Int) + (1 : Int)) ≤ ((((List.length m) : Nat) : Int) + (1 : Int))), (((((List.length m) : Nat) : Int) + (1 : Int)) ≤ (9223372036854775807 : Int)), (((((4 : Nat) : Nat) : Int) * ((((List.length m) : Nat) : Int) + (1 : Int))) ≤ (281474976710656 : Int)), (Go.Abs.InI64 ((16 : Int) * (((List.length l) : Nat) : Int))), (Go.Abs.InI64 (((16 : Int) * (((List.length l) : Nat) : Int)) - (1 : Int))), SumOK Try.prog D (bodyOf Try.f60) (loopL D (modOut D l m w i) (.exit 0) (modOut D l m w' i')), (l = l), (m = m), ((((16 : Int) * (((List.length l) : Nat) : Int)) - (1 : Int)) = i), ((List.replicate (Int.toNat ((((List.length m) : Nat) : Int) + (1 : Int))) (0 : Int)) = w), ((0 : Int) ≤ (((List.length m) : Nat) : Int)), ((((List.length m) : Nat) : Int) ≤ (((List.length w') : Nat) : Int))]) := by kernel_rfl
theorem mod_run (D : Dom) (l m w w' : List Int) (i i' : Int)
    (h1 : (Go.Abs.InI64 ((((List.length m) : Nat) : Int) + (1 : Int))))
    (h2 : ((0 : Int) ≤ ((((List.length m) : Nat) : Int) + (1 : Int))))
    (h3 : (((((List.length m) : Nat) : Int) + (1 : Int)) ≤ ((((List.length m) : Nat) : Int) + (1 : Int))))
    (h4 : (((((List.length m) : Nat) : Int) + (1 : Int)) ≤ (9223372036854775807 : Int)))
    (h5 : (((((4 : Nat) : Nat) : Int) * ((((List.length m) : Nat) : Int) + (1 : Int))) ≤ (281474976710656 : Int)))
    (h6 : (Go.Abs.InI64 ((16 : Int) * (((List.length l) : Nat) : Int))))
    (h7 : (Go.Abs.InI64 (((16 : Int) * (((List.length l) : Nat) : Int)) - (1 : Int))))
    (h8 : SumOK Try.prog D (bodyOf Try.f60) (loopL D (modOut D l m w i) (.exit 0) (modOut D l m w' i')))
    (h9 : ((((16 : Int) * (((List.length l) : Nat) : Int)) - (1 : Int)) = i))
    (h10 : ((List.replicate (Int.toNat ((((List.length m) : Nat) : Int) + (1 : Int))) (0 : Int)) = w))
    (h11 : ((0 : Int) ≤ (((List.length m) : Nat) : Int)))
    (h12 : ((((List.length m) : Nat) : Int) ≤ (((List.length w') : Nat) : Int))) :
    ∃ ps, runF Try.prog D (gamM D) 100 Try.f60 [.one (.words .u32 l), .one (.words .u32 m)] [.loop (loopL D (modOut D l m w i) (.exit 0) (modOut D l m w' i'))] = some ((Go.Abs.AV.v (Go.Abs.A0.one (Go.Abs.Part.fresh (0 : Nat) (43 : TypeId) Go.IntKind.u32 (List.take (Int.toNat (((List.length m) : Nat) : Int)) w')))), ps) ∧ AllQ ps := ⟨_, mod_run_r D l m w w' i i', AllP.all ⟨h1, h2, h3, h4, h5, h6, h7, h8, rfl, rfl, h9, h10, h11, h12⟩⟩

end Go.Num
