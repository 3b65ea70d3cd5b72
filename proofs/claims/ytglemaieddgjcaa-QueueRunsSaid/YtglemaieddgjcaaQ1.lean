/- Queue: the rows of entries, and a heap's own steps. -/
import Derived.Test.YtglemaieddgjcaaCopy
import Derived.Test.YtglemaieddgjcaaSame
namespace Go.Num
open Go.Abs Go.Proofs Go.Shelf

def D0 : Dom where
  τ := Empty
  size := fun t => t.elim
  rel := fun t => t.elim
  eqv := fun t => t.elim
  eqs := fun t => t.elim
  len := fun t => t.elim
  one := fun t => t.elim

/-- An entry: when, whose, what, and how many were put ahead of it. -/
abbrev enSh : List FK := [.int .i64, .int .i64, .words .u8, .int .u64]

def lessR (a b : Rec) : Bool := if recI a 0 = recI b 0 then decide (recI a 3 < recI b 3) else decide (recI a 0 < recI b 0)

def lenQ : FnD D0
  | [.one (.prs sh ll)] => bif shEq sh enSh then some (.v (.one (.int .i64 false ll.length)), []) else none
  | _ => none

theorem lenq_run_r (ll : List Rec) : runF Try.prog D0 [] 100 Try.f44 [.one (.prs enSh ll)] [] =
    some ((Go.Abs.AV.v (Go.Abs.A0.one (Go.Abs.Part.int Go.IntKind.i64 Bool.false (((List.length ll) : Nat) : Int)))), []) := by kernel_rfl
theorem lenq_run (ll : List Rec) :
    ∃ ps, runF Try.prog D0 [] 100 Try.f44 [.one (.prs enSh ll)] [] = some ((Go.Abs.AV.v (Go.Abs.A0.one (Go.Abs.Part.int Go.IntKind.i64 Bool.false (((List.length ll) : Nat) : Int)))), ps) ∧ AllQ ps := ⟨_, lenq_run_r ll, allQ_nil⟩

def lessQ : FnD D0
  | [.one (.prs sh ll), .one (.int .i64 _ i), .one (.int .i64 _ j)] => bif shEq sh enSh then some (.v (.one (.bool false (lessR (ll.getD i.toNat []) (ll.getD j.toNat [])))), [0 ≤ i, i < ll.length, 0 ≤ j, j < ll.length]) else none
  | _ => none

theorem less_at_r (l1 l2 : Bool) (ll : List Rec) (i j : Int) : runF Try.prog D0 [] 100 Try.f45 [.one (.prs enSh ll), .one (.int .i64 l1 i), .one (.int .i64 l2 j)] [.is true, .keep, .keep] =
    some ((Go.Abs.AV.v (Go.Abs.A0.one (Go.Abs.Part.bool (Bool.false && Bool.false) (decide ((Go.Abs.recI (List.getD ll (Int.toNat i) ([] : List (Abs.Fd))) (0 : Nat)) < (Go.Abs.recI (List.getD ll (Int.toNat j) ([] : List (Abs.Fd))) (0 : Nat))))))), [((0 : Int) ≤ i), (i < (((List.length ll) : Nat) : Int)), ((0 : Int) ≤ j), (j < (((List.length ll) : Nat) : Int)), (((Go.Abs.recI (List.getD ll (Int.toNat i) ([] : List (Abs.Fd))) (0 : Nat)) != (Go.Abs.recI (List.getD ll (Int.toNat j) ([] : List (Abs.Fd))) (0 : Nat))) = Bool.true), ((0 : Int) ≤ i), (i < (((List.length ll) : Nat) : Int)), ((0 : Int) ≤ j), (j < (((List.length ll) : Nat) : Int))]) := by kernel_rfl
theorem less_at (l1 l2 : Bool) (ll : List Rec) (i j : Int)
    (h1 : ((0 : Int) ≤ i))
    (h2 : (i < (((List.length ll) : Nat) : Int)))
    (h3 : ((0 : Int) ≤ j))
    (h4 : (j < (((List.length ll) : Nat) : Int)))
    (h5 : (((Go.Abs.recI (List.getD ll (Int.toNat i) ([] : List (Abs.Fd))) (0 : Nat)) != (Go.Abs.recI (List.getD ll (Int.toNat j) ([] : List (Abs.Fd))) (0 : Nat))) = Bool.true)) :
    ∃ ps, runF Try.prog D0 [] 100 Try.f45 [.one (.prs enSh ll), .one (.int .i64 l1 i), .one (.int .i64 l2 j)] [.is true, .keep, .keep] = some ((Go.Abs.AV.v (Go.Abs.A0.one (Go.Abs.Part.bool (Bool.false && Bool.false) (decide ((Go.Abs.recI (List.getD ll (Int.toNat i) ([] : List (Abs.Fd))) (0 : Nat)) < (Go.Abs.recI (List.getD ll (Int.toNat j) ([] : List (Abs.Fd))) (0 : Nat))))))), ps) ∧ AllQ ps := ⟨_, less_at_r l1 l2 ll i j, AllP.all ⟨h1, h2, h3, h4, h5, h1, h2, h3, h4⟩⟩

theorem less_turn_r (l1 l2 : Bool) (ll : List Rec) (i j : Int) : runF Try.prog D0 [] 100 Try.f45 [.one (.prs enSh ll), .one (.int .i64 l1 i), .one (.int .i64 l2 j)] [.is false, .keep, .keep] =
    some ((Go.Abs.AV.v (Go.Abs.A0.one (Go.Abs.Part.bool (Bool.false && Bool.false) (decide ((Go.Abs.recI (List.getD ll (Int.toNat i) ([] : List (Abs.Fd))) ((((0 : Nat) + (1 : Nat)) + (1 : Nat)) + (1 : Nat))) < (Go.Abs.recI (List.getD ll (Int.toNat j) ([] : List (Abs.Fd))) ((((0 : Nat) + (1 : Nat)) + (1 : Nat)) + (1 : Nat)))))))), [((0 : Int) ≤ i), (i < (((List.length ll) : Nat) : Int)), ((0 : Int) ≤ j), (j < (((List.length ll) : Nat) : Int)), (((Go.Abs.recI (List.getD ll (Int.toNat i) ([] : List (Abs.Fd))) (0 : Nat)) != (Go.Abs.recI (List.getD ll (Int.toNat j) ([] : List (Abs.Fd))) (0 : Nat))) = Bool.false), ((0 : Int) ≤ i), (i < (((List.length ll) : Nat) : Int)), ((0 : Int) ≤ j), (j < (((List.length ll) : Nat) : Int))]) := by kernel_rfl
theorem less_turn (l1 l2 : Bool) (ll : List Rec) (i j : Int)
    (h1 : ((0 : Int) ≤ i))
    (h2 : (i < (((List.length ll) : Nat) : Int)))
    (h3 : ((0 : Int) ≤ j))
    (h4 : (j < (((List.length ll) : Nat) : Int)))
    (h5 : (((Go.Abs.recI (List.getD ll (Int.toNat i) ([] : List (Abs.Fd))) (0 : Nat)) != (Go.Abs.recI (List.getD ll (Int.toNat j) ([] : List (Abs.Fd))) (0 : Nat))) = Bool.false)) :
    ∃ ps, runF Try.prog D0 [] 100 Try.f45 [.one (.prs enSh ll), .one (.int .i64 l1 i), .one (.int .i64 l2 j)] [.is false, .keep, .keep] = some ((Go.Abs.AV.v (Go.Abs.A0.one (Go.Abs.Part.bool (Bool.false && Bool.false) (decide ((Go.Abs.recI (List.getD ll (Int.toNat i) ([] : List (Abs.Fd))) ((((0 : Nat) + (1 : Nat)) + (1 : Nat)) + (1 : Nat))) < (Go.Abs.recI (List.getD ll (Int.toNat j) ([] : List (Abs.Fd))) ((((0 : Nat) + (1 : Nat)) + (1 : Nat)) + (1 : Nat)))))))), ps) ∧ AllQ ps := ⟨_, less_turn_r l1 l2 ll i j, AllP.all ⟨h1, h2, h3, h4, h5, h1, h2, h3, h4⟩⟩

def swapL (ll : List Rec) (i j : Nat) : List Rec := (ll.set i (ll.getD j [])).set j (ll.getD i [])

def rowQ (ll : List Rec) : BoxSt D0.τ := .dyn 59 (.lrs enSh ll)

theorem swap_run_r (ll ll' : List Rec) (i j : Int) : runO Try.prog D0 [] 100 Try.f46 ([rowQ ll], [.one (.own 0), .one (.int .i64 false i), .one (.int .i64 false j)]) [] (.tup []) [rowQ ll'] =
    some [((0 : Int) ≤ j), (j < (((List.length ll) : Nat) : Int)), ((Int.toNat j) < (List.length ll)), ((0 : Int) ≤ i), (i < (((List.length ll) : Nat) : Int)), ((Int.toNat i) < (List.length ll)), ((0 : Int) ≤ i), (i < (((List.length ll) : Nat) : Int)), ((Int.toNat i) < (List.length ll)), ((4 : Nat) = ((Go.TypeInfo.mk (Go.TypeDesc.named "cresset/queue.entry" (58 : Nat)) "queue.entry" (4 : Nat) (48 : Nat) Bool.true (8 : Nat) (8 : Nat) (Option.some (Go.Value.agg (Array.mk ((Go.Value.int Go.IntKind.i64 (0 : Int)) :: ((Go.Value.int Go.IntKind.i64 (0 : Int)) :: ((Go.Value.slice (Option.none) (0 : Nat) (0 : Nat)) :: ((Go.Value.int Go.IntKind.u64 (0 : Int)) :: ([] : List (Value))))))))) Bool.false (Array.mk ([] : List (Method))))).3), ((0 : Int) ≤ j), (j < (((List.length (List.set ll (Int.toNat i) ((Go.Abs.Fd.i (Go.Abs.recI (List.getD ll (Int.toNat j) ([] : List (Abs.Fd))) (0 : Nat))) :: ((Go.Abs.Fd.i (Go.Abs.recI (List.getD ll (Int.toNat j) ([] : List (Abs.Fd))) ((0 : Nat) + (1 : Nat)))) :: ((Go.Abs.Fd.w (Go.Abs.recW (List.getD ll (Int.toNat j) ([] : List (Abs.Fd))) (((0 : Nat) + (1 : Nat)) + (1 : Nat)))) :: ((Go.Abs.Fd.i (Go.Abs.recI (List.getD ll (Int.toNat j) ([] : List (Abs.Fd))) ((((0 : Nat) + (1 : Nat)) + (1 : Nat)) + (1 : Nat)))) :: ([] : List (Abs.Fd)))))))) : Nat) : Int)), ((Int.toNat j) < (List.length (List.set ll (Int.toNat i) ((Go.Abs.Fd.i (Go.Abs.recI (List.getD ll (Int.toNat j) ([] : List (Abs.Fd))) (0 : Nat))) :: ((Go.Abs.Fd.i (Go.Abs.recI (List.getD ll (Int.toNat j) ([] : List (Abs.Fd))) ((0 : Nat) + (1 : Nat)))) :: ((Go.Abs.Fd.w (Go.Abs.recW (List.getD ll (Int.toNat j) ([] : List (Abs.Fd))) (((0 : Nat) + (1 : Nat)) + (1 : Nat)))) :: ((Go.Abs.Fd.i (Go.Abs.recI (List.getD ll (Int.toNat j) ([] : List (Abs.Fd))) ((((0 : Nat) + (1 : Nat)) + (1 : Nat)) + (1 : Nat)))) :: ([] : List (Abs.Fd))))))))), ((4 : Nat) = ((Go.TypeInfo.mk (Go.TypeDesc.named "cresset/queue.entry" (58 : Nat)) "queue.entry" (4 : Nat) (48 : Nat) Bool.true (8 : Nat) (8 : Nat) (Option.some (Go.Value.agg (Array.mk ((Go.Value.int Go.IntKind.i64 (0 : Int)) :: ((Go.Value.int Go.IntKind.i64 (0 : Int)) :: ((Go.Value.slice (Option.none) (0 : Nat) (0 : Nat)) :: ((Go.Value.int Go.IntKind.u64 (0 : Int)) :: ([] : List (Value))))))))) Bool.false (Array.mk ([] : List (Method))))).3), ((List.set (List.set ll (Int.toNat i) ((Go.Abs.Fd.i (Go.Abs.recI (List.getD ll (Int.toNat j) ([] : List (Abs.Fd))) (0 : Nat))) :: ((Go.Abs.Fd.i (Go.Abs.recI (List.getD ll (Int.toNat j) ([] : List (Abs.Fd))) ((0 : Nat) + (1 : Nat)))) :: ((Go.Abs.Fd.w (Go.Abs.recW (List.getD ll (Int.toNat j) ([] : List (Abs.Fd))) (((0 : Nat) + (1 : Nat)) + (1 : Nat)))) :: ((Go.Abs.Fd.i (Go.Abs.recI (List.getD ll (Int.toNat j) ([] : List (Abs.Fd))) ((((0 : Nat) + (1 : Nat)) + (1 : Nat)) + (1 : Nat)))) :: ([] : List (Abs.Fd))))))) (Int.toNat j) ((Go.Abs.Fd.i (Go.Abs.recI (List.getD ll (Int.toNat i) ([] : List (Abs.Fd))) (0 : Nat))) :: ((Go.Abs.Fd.i (Go.Abs.recI (List.getD ll (Int.toNat i) ([] : List (Abs.Fd))) ((0 : Nat) + (1 : Nat)))) :: ((Go.Abs.Fd.w (Go.Abs.recW (List.getD ll (Int.toNat i) ([] : List (Abs.Fd))) (((0 : Nat) + (1 : Nat)) + (1 : Nat)))) :: ((Go.Abs.Fd.i (Go.Abs.recI (List.getD ll (Int.toNat i) ([] : List (Abs.Fd))) ((((0 : Nat) + (1 : Nat)) + (1 : Nat)) + (1 : Nat)))) :: ([] : List (Abs.Fd))))))) = ll')] := by kernel_rfl
theorem swap_run (ll ll' : List Rec) (i j : Int)
    (h1 : ((0 : Int) ≤ j))
    (h2 : (j < (((List.length ll) : Nat) : Int)))
    (h3 : ((Int.toNat j) < (List.length ll)))
    (h4 : ((0 : Int) ≤ i))
    (h5 : (i < (((List.length ll) : Nat) : Int)))
    (h6 : ((Int.toNat i) < (List.length ll)))
    (h7 : (j < (((List.length (List.set ll (Int.toNat i) ((Go.Abs.Fd.i (Go.Abs.recI (List.getD ll (Int.toNat j) ([] : List (Abs.Fd))) (0 : Nat))) :: ((Go.Abs.Fd.i (Go.Abs.recI (List.getD ll (Int.toNat j) ([] : List (Abs.Fd))) ((0 : Nat) + (1 : Nat)))) :: ((Go.Abs.Fd.w (Go.Abs.recW (List.getD ll (Int.toNat j) ([] : List (Abs.Fd))) (((0 : Nat) + (1 : Nat)) + (1 : Nat)))) :: ((Go.Abs.Fd.i (Go.Abs.recI (List.getD ll (Int.toNat j) ([] : List (Abs.Fd))) ((((0 : Nat) + (1 : Nat)) + (1 : Nat)) + (1 : Nat)))) :: ([] : List (Abs.Fd)))))))) : Nat) : Int)))
    (h8 : ((Int.toNat j) < (List.length (List.set ll (Int.toNat i) ((Go.Abs.Fd.i (Go.Abs.recI (List.getD ll (Int.toNat j) ([] : List (Abs.Fd))) (0 : Nat))) :: ((Go.Abs.Fd.i (Go.Abs.recI (List.getD ll (Int.toNat j) ([] : List (Abs.Fd))) ((0 : Nat) + (1 : Nat)))) :: ((Go.Abs.Fd.w (Go.Abs.recW (List.getD ll (Int.toNat j) ([] : List (Abs.Fd))) (((0 : Nat) + (1 : Nat)) + (1 : Nat)))) :: ((Go.Abs.Fd.i (Go.Abs.recI (List.getD ll (Int.toNat j) ([] : List (Abs.Fd))) ((((0 : Nat) + (1 : Nat)) + (1 : Nat)) + (1 : Nat)))) :: ([] : List (Abs.Fd))))))))))
    (h9 : ((List.set (List.set ll (Int.toNat i) ((Go.Abs.Fd.i (Go.Abs.recI (List.getD ll (Int.toNat j) ([] : List (Abs.Fd))) (0 : Nat))) :: ((Go.Abs.Fd.i (Go.Abs.recI (List.getD ll (Int.toNat j) ([] : List (Abs.Fd))) ((0 : Nat) + (1 : Nat)))) :: ((Go.Abs.Fd.w (Go.Abs.recW (List.getD ll (Int.toNat j) ([] : List (Abs.Fd))) (((0 : Nat) + (1 : Nat)) + (1 : Nat)))) :: ((Go.Abs.Fd.i (Go.Abs.recI (List.getD ll (Int.toNat j) ([] : List (Abs.Fd))) ((((0 : Nat) + (1 : Nat)) + (1 : Nat)) + (1 : Nat)))) :: ([] : List (Abs.Fd))))))) (Int.toNat j) ((Go.Abs.Fd.i (Go.Abs.recI (List.getD ll (Int.toNat i) ([] : List (Abs.Fd))) (0 : Nat))) :: ((Go.Abs.Fd.i (Go.Abs.recI (List.getD ll (Int.toNat i) ([] : List (Abs.Fd))) ((0 : Nat) + (1 : Nat)))) :: ((Go.Abs.Fd.w (Go.Abs.recW (List.getD ll (Int.toNat i) ([] : List (Abs.Fd))) (((0 : Nat) + (1 : Nat)) + (1 : Nat)))) :: ((Go.Abs.Fd.i (Go.Abs.recI (List.getD ll (Int.toNat i) ([] : List (Abs.Fd))) ((((0 : Nat) + (1 : Nat)) + (1 : Nat)) + (1 : Nat)))) :: ([] : List (Abs.Fd))))))) = ll')) :
    ∃ ps, runO Try.prog D0 [] 100 Try.f46 ([rowQ ll], [.one (.own 0), .one (.int .i64 false i), .one (.int .i64 false j)]) [] (.tup []) [rowQ ll'] = some ps ∧ AllQ ps := ⟨_, swap_run_r ll ll' i j, AllP.all ⟨h1, h2, h3, h4, h5, h6, h4, h5, h6, (show ((4 : Nat) = ((Go.TypeInfo.mk (Go.TypeDesc.named "cresset/queue.entry" (58 : Nat)) "queue.entry" (4 : Nat) (48 : Nat) Bool.true (8 : Nat) (8 : Nat) (Option.some (Go.Value.agg (Array.mk ((Go.Value.int Go.IntKind.i64 (0 : Int)) :: ((Go.Value.int Go.IntKind.i64 (0 : Int)) :: ((Go.Value.slice (Option.none) (0 : Nat) (0 : Nat)) :: ((Go.Value.int Go.IntKind.u64 (0 : Int)) :: ([] : List (Value))))))))) Bool.false (Array.mk ([] : List (Method))))).3) from by decide), h1, h7, h8, (show ((4 : Nat) = ((Go.TypeInfo.mk (Go.TypeDesc.named "cresset/queue.entry" (58 : Nat)) "queue.entry" (4 : Nat) (48 : Nat) Bool.true (8 : Nat) (8 : Nat) (Option.some (Go.Value.agg (Array.mk ((Go.Value.int Go.IntKind.i64 (0 : Int)) :: ((Go.Value.int Go.IntKind.i64 (0 : Int)) :: ((Go.Value.slice (Option.none) (0 : Nat) (0 : Nat)) :: ((Go.Value.int Go.IntKind.u64 (0 : Int)) :: ([] : List (Value))))))))) Bool.false (Array.mk ([] : List (Method))))).3) from by decide), h9⟩⟩

def quP (n : Int) : List (Part D0.τ) := [.own 1, .int .u64 false n]

theorem push_run_r (ll ll' : List Rec) (n : Int) (r : Rec) : runO Try.prog D0 [] 100 Try.f48 ([.fixed 55 (quP n), rowQ ll], [.one (.ref 0 0), .one (.ifa 59 enSh r)]) [] (.tup []) [.fixed 55 [.own 2, .int .u64 false n], .dead, rowQ ll'] =
    some [((((List.length ll) + (1 : Nat)) * (48 : Nat)) ≤ (140737488355328 : Nat)), (((List.length ll) + (1 : Nat)) ≤ (9223372036854775807 : Nat)), (n = n), ((ll ++ (((Go.Abs.Fd.i (Go.Abs.recI r (0 : Nat))) :: ((Go.Abs.Fd.i (Go.Abs.recI r ((0 : Nat) + (1 : Nat)))) :: ((Go.Abs.Fd.w (Go.Abs.recW r (((0 : Nat) + (1 : Nat)) + (1 : Nat)))) :: ((Go.Abs.Fd.i (Go.Abs.recI r ((((0 : Nat) + (1 : Nat)) + (1 : Nat)) + (1 : Nat)))) :: ([] : List (Abs.Fd)))))) :: ([] : List (Rec)))) = ll')] := by kernel_rfl
theorem push_run (ll ll' : List Rec) (n : Int) (r : Rec)
    (h1 : ((((List.length ll) + (1 : Nat)) * (48 : Nat)) ≤ (140737488355328 : Nat)))
    (h2 : (((List.length ll) + (1 : Nat)) ≤ (9223372036854775807 : Nat)))
    (h3 : ((ll ++ (((Go.Abs.Fd.i (Go.Abs.recI r (0 : Nat))) :: ((Go.Abs.Fd.i (Go.Abs.recI r ((0 : Nat) + (1 : Nat)))) :: ((Go.Abs.Fd.w (Go.Abs.recW r (((0 : Nat) + (1 : Nat)) + (1 : Nat)))) :: ((Go.Abs.Fd.i (Go.Abs.recI r ((((0 : Nat) + (1 : Nat)) + (1 : Nat)) + (1 : Nat)))) :: ([] : List (Abs.Fd)))))) :: ([] : List (Rec)))) = ll')) :
    ∃ ps, runO Try.prog D0 [] 100 Try.f48 ([.fixed 55 (quP n), rowQ ll], [.one (.ref 0 0), .one (.ifa 59 enSh r)]) [] (.tup []) [.fixed 55 [.own 2, .int .u64 false n], .dead, rowQ ll'] = some ps ∧ AllQ ps := ⟨_, push_run_r ll ll' n r, AllP.all ⟨h1, h2, rfl, h3⟩⟩

theorem pop_run_r (ll ll' : List Rec) (n : Int) (r : Rec) : runO Try.prog D0 [] 100 Try.f47 ([.fixed 55 (quP n), rowQ ll], [.one (.ref 0 0)]) [] (.v (.one (.ifa 59 enSh r))) [.fixed 55 [.own 2, .int .u64 false n], .dead, rowQ ll'] =
    some [(Go.Abs.InI64 ((((List.length ll) : Nat) : Int) - (1 : Int))), ((0 : Int) ≤ ((((List.length ll) : Nat) : Int) - (1 : Int))), (((((List.length ll) : Nat) : Int) - (1 : Int)) < (((List.length ll) : Nat) : Int)), ((Int.toNat ((((List.length ll) : Nat) : Int) - (1 : Int))) < (List.length ll)), ((0 : Int) ≤ ((((List.length ll) : Nat) : Int) - (1 : Int))), (((((List.length ll) : Nat) : Int) - (1 : Int)) < (((List.length ll) : Nat) : Int)), ((Int.toNat ((((List.length ll) : Nat) : Int) - (1 : Int))) < (List.length ll)), ((4 : Nat) = ((Go.TypeInfo.mk (Go.TypeDesc.named "cresset/queue.entry" (58 : Nat)) "queue.entry" (4 : Nat) (48 : Nat) Bool.true (8 : Nat) (8 : Nat) (Option.some (Go.Value.agg (Array.mk ((Go.Value.int Go.IntKind.i64 (0 : Int)) :: ((Go.Value.int Go.IntKind.i64 (0 : Int)) :: ((Go.Value.slice (Option.none) (0 : Nat) (0 : Nat)) :: ((Go.Value.int Go.IntKind.u64 (0 : Int)) :: ([] : List (Value))))))))) Bool.false (Array.mk ([] : List (Method))))).3), ((0 : Int) ≤ ((((List.length ll) : Nat) : Int) - (1 : Int))), (((((List.length ll) : Nat) : Int) - (1 : Int)) ≤ (((List.length (List.set ll (Int.toNat ((((List.length ll) : Nat) : Int) - (1 : Int))) ((Go.Abs.Fd.i (0 : Int)) :: ((Go.Abs.Fd.i (0 : Int)) :: ((Go.Abs.Fd.w ([] : List (Int))) :: ((Go.Abs.Fd.i (0 : Int)) :: ([] : List (Abs.Fd)))))))) : Nat) : Int)), ((1 : Nat) ≤ ((1 : Nat) + ((1 : Nat) + ((1 : Nat) + ((1 : Nat) + (0 : Nat)))))), (((Go.Abs.Fd.i (Go.Abs.recI (List.getD ll (Int.toNat ((((List.length ll) : Nat) : Int) - (1 : Int))) ([] : List (Abs.Fd))) (0 : Nat))) :: ((Go.Abs.Fd.i (Go.Abs.recI (List.getD ll (Int.toNat ((((List.length ll) : Nat) : Int) - (1 : Int))) ([] : List (Abs.Fd))) ((0 : Nat) + (1 : Nat)))) :: ((Go.Abs.Fd.w (Go.Abs.recW (List.getD ll (Int.toNat ((((List.length ll) : Nat) : Int) - (1 : Int))) ([] : List (Abs.Fd))) (((0 : Nat) + (1 : Nat)) + (1 : Nat)))) :: ((Go.Abs.Fd.i (Go.Abs.recI (List.getD ll (Int.toNat ((((List.length ll) : Nat) : Int) - (1 : Int))) ([] : List (Abs.Fd))) ((((0 : Nat) + (1 : Nat)) + (1 : Nat)) + (1 : Nat)))) :: ([] : List (Abs.Fd)))))) = r), (n = n), ((List.take (Int.toNat ((((List.length ll) : Nat) : Int) - (1 : Int))) (List.set ll (Int.toNat ((((List.length ll) : Nat) : Int) - (1 : Int))) ((Go.Abs.Fd.i (0 : Int)) :: ((Go.Abs.Fd.i (0 : Int)) :: ((Go.Abs.Fd.w ([] : List (Int))) :: ((Go.Abs.Fd.i (0 : Int)) :: ([] : List (Abs.Fd)))))))) = ll')] := by kernel_rfl
theorem pop_run (ll ll' : List Rec) (n : Int) (r : Rec)
    (h1 : (Go.Abs.InI64 ((((List.length ll) : Nat) : Int) - (1 : Int))))
    (h2 : ((0 : Int) ≤ ((((List.length ll) : Nat) : Int) - (1 : Int))))
    (h3 : (((((List.length ll) : Nat) : Int) - (1 : Int)) < (((List.length ll) : Nat) : Int)))
    (h4 : ((Int.toNat ((((List.length ll) : Nat) : Int) - (1 : Int))) < (List.length ll)))
    (h5 : (((((List.length ll) : Nat) : Int) - (1 : Int)) ≤ (((List.length (List.set ll (Int.toNat ((((List.length ll) : Nat) : Int) - (1 : Int))) ((Go.Abs.Fd.i (0 : Int)) :: ((Go.Abs.Fd.i (0 : Int)) :: ((Go.Abs.Fd.w ([] : List (Int))) :: ((Go.Abs.Fd.i (0 : Int)) :: ([] : List (Abs.Fd)))))))) : Nat) : Int)))
    (h6 : (((Go.Abs.Fd.i (Go.Abs.recI (List.getD ll (Int.toNat ((((List.length ll) : Nat) : Int) - (1 : Int))) ([] : List (Abs.Fd))) (0 : Nat))) :: ((Go.Abs.Fd.i (Go.Abs.recI (List.getD ll (Int.toNat ((((List.length ll) : Nat) : Int) - (1 : Int))) ([] : List (Abs.Fd))) ((0 : Nat) + (1 : Nat)))) :: ((Go.Abs.Fd.w (Go.Abs.recW (List.getD ll (Int.toNat ((((List.length ll) : Nat) : Int) - (1 : Int))) ([] : List (Abs.Fd))) (((0 : Nat) + (1 : Nat)) + (1 : Nat)))) :: ((Go.Abs.Fd.i (Go.Abs.recI (List.getD ll (Int.toNat ((((List.length ll) : Nat) : Int) - (1 : Int))) ([] : List (Abs.Fd))) ((((0 : Nat) + (1 : Nat)) + (1 : Nat)) + (1 : Nat)))) :: ([] : List (Abs.Fd)))))) = r))
    (h7 : ((List.take (Int.toNat ((((List.length ll) : Nat) : Int) - (1 : Int))) (List.set ll (Int.toNat ((((List.length ll) : Nat) : Int) - (1 : Int))) ((Go.Abs.Fd.i (0 : Int)) :: ((Go.Abs.Fd.i (0 : Int)) :: ((Go.Abs.Fd.w ([] : List (Int))) :: ((Go.Abs.Fd.i (0 : Int)) :: ([] : List (Abs.Fd)))))))) = ll')) :
    ∃ ps, runO Try.prog D0 [] 100 Try.f47 ([.fixed 55 (quP n), rowQ ll], [.one (.ref 0 0)]) [] (.v (.one (.ifa 59 enSh r))) [.fixed 55 [.own 2, .int .u64 false n], .dead, rowQ ll'] = some ps ∧ AllQ ps := ⟨_, pop_run_r ll ll' n r, AllP.all ⟨h1, h2, h3, h4, h2, h3, h4, (show ((4 : Nat) = ((Go.TypeInfo.mk (Go.TypeDesc.named "cresset/queue.entry" (58 : Nat)) "queue.entry" (4 : Nat) (48 : Nat) Bool.true (8 : Nat) (8 : Nat) (Option.some (Go.Value.agg (Array.mk ((Go.Value.int Go.IntKind.i64 (0 : Int)) :: ((Go.Value.int Go.IntKind.i64 (0 : Int)) :: ((Go.Value.slice (Option.none) (0 : Nat) (0 : Nat)) :: ((Go.Value.int Go.IntKind.u64 (0 : Int)) :: ([] : List (Value))))))))) Bool.false (Array.mk ([] : List (Method))))).3) from by decide), h2, h5, (show ((1 : Nat) ≤ ((1 : Nat) + ((1 : Nat) + ((1 : Nat) + ((1 : Nat) + (0 : Nat)))))) from by decide), h6, rfl, h7⟩⟩

def enOK (r : Rec) : Prop := ∃ a b d t, r = [.i a, .i b, .w d, .i t]
def EnAll (ll : List Rec) : Prop := ∀ r ∈ ll, enOK r

theorem enOK.reb {r : Rec} (h : enOK r) : [Fd.i (recI r 0), .i (recI r 1), .w (recW r 2), .i (recI r 3)] = r := by
  obtain ⟨a, b, d, t, rfl⟩ := h
  rfl

theorem getD_mem {ll : List Rec} {i : Nat} (h : i < ll.length) : ll.getD i [] ∈ ll := by
  rw [List.getD_eq_getElem?_getD, List.getElem?_eq_getElem h]
  exact List.getElem_mem h

theorem EnAll.at {ll : List Rec} (h : EnAll ll) {i : Nat} (hi : i < ll.length) : enOK (ll.getD i []) := h _ (getD_mem hi)

theorem lenQ_ok : FnOK Try.prog D0 44 lenQ := by
  refine fnOK_of gam_nil mixed Try.func44 (enters_of Try.func44 (by kernel_rfl) rfl) ?_
  intro xs r ps h hps
  unfold lenQ at h
  split at h
  · rename_i sh ll
    cases hs : shEq sh enSh <;> simp only [hs, cond_true, cond_false] at h
    · cases h
    simp only [Option.some.injEq, Prod.mk.injEq] at h
    obtain ⟨rfl, rfl⟩ := h
    have := shEq_eq hs
    subst this
    exact ⟨_, 100, _, _, _, fun w vs h => h, lenq_run_r ll, allQ_nil, fun E v hv => hv⟩
  · cases h

theorem lessQ_ok : FnOK Try.prog D0 45 lessQ := by
  refine fnOK_of gam_nil mixed Try.func45 (enters_of Try.func45 (by kernel_rfl) rfl) ?_
  intro xs r ps h hps
  unfold lessQ at h
  split at h
  · rename_i sh ll l1 i l2 j
    cases hs : shEq sh enSh <;> simp only [hs, cond_true, cond_false] at h
    · cases h
    simp only [Option.some.injEq, Prod.mk.injEq] at h
    obtain ⟨rfl, rfl⟩ := h
    have := shEq_eq hs
    subst this
    have h1 : 0 ≤ i := hps _ (by simp)
    have h2 : i < ll.length := hps (i < ll.length) (by simp)
    have h3 : 0 ≤ j := hps (0 ≤ j) (by simp)
    have h4 : j < ll.length := hps (j < ll.length) (by simp)
    by_cases he : recI (ll.getD i.toNat []) 0 = recI (ll.getD j.toNat []) 0
    · obtain ⟨ps, e1, e2⟩ := less_turn l1 l2 ll i j h1 h2 h3 h4 (by rw [he]; simp)
      refine ⟨_, 100, _, _, _, fun w vs h => h, e1, e2, fun E v hv => ?_⟩
      unfold lessR
      rw [if_pos he]
      exact hv
    · obtain ⟨ps, e1, e2⟩ := less_at l1 l2 ll i j h1 h2 h3 h4 (by simpa using he)
      refine ⟨_, 100, _, _, _, fun w vs h => h, e1, e2, fun E v hv => ?_⟩
      unfold lessR
      rw [if_neg he]
      exact hv
  · cases h

def swRd : List (BoxSt D0.τ) → List (A0 D0.τ) → Option (List Rec × Int × Int)
  | [.dyn e (.lrs sh ll)], [.one (.own 0), .one (.int .i64 _ i), .one (.int .i64 _ j)] => bif Nat.beq e 59 && shEq sh enSh then some (ll, i, j) else none
  | _, _ => none
def swPre (t : List Rec × Int × Int) : List (BoxSt D0.τ) × List (A0 D0.τ) := ([rowQ t.1], [.one (.own 0), .one (.int .i64 false t.2.1), .one (.int .i64 false t.2.2)])
def swPost (t : List Rec × Int × Int) : Option (AV D0.τ × List (BoxSt D0.τ) × List Prop) :=
  some (.tup [], [rowQ (swapL t.1 t.2.1.toNat t.2.2.toNat)], [0 ≤ t.2.1, t.2.1 < t.1.length, 0 ≤ t.2.2, t.2.2 < t.1.length, EnAll t.1])
noncomputable def swapQ := mkF D0 Try.f46.ntmps swRd swPre swPost

theorem swap_ok : OpOK Try.prog D0 46 swapQ := by
  refine opOK_mk gam_nil mixed Try.func46 (enters_of Try.func46 (by kernel_rfl) rfl) ?_
  rintro ⟨ll, i, j⟩ r' bs' ps h hps
  simp only [swPost, Option.some.injEq, Prod.mk.injEq] at h
  obtain ⟨rfl, rfl, rfl⟩ := h
  have h1 : 0 ≤ i := hps (0 ≤ i) (by simp)
  have h2 : i < ll.length := hps (i < ll.length) (by simp)
  have h3 : 0 ≤ j := hps (0 ≤ j) (by simp)
  have h4 : j < ll.length := hps (j < ll.length) (by simp)
  have hE : EnAll ll := hps (EnAll ll) (by simp)
  have ei := (hE.at (i := i.toNat) (by omega)).reb
  have ej := (hE.at (i := j.toNat) (by omega)).reb
  refine ⟨_, _, swap_run ll _ i j h3 h4 (by omega) h1 h2 (by omega) (by rw [List.length_set]; omega) (by rw [List.length_set]; omega) ?_⟩
  show (ll.set i.toNat [Fd.i (recI (ll.getD j.toNat []) 0), .i (recI (ll.getD j.toNat []) 1), .w (recW (ll.getD j.toNat []) 2), .i (recI (ll.getD j.toNat []) 3)]).set j.toNat [Fd.i (recI (ll.getD i.toNat []) 0), .i (recI (ll.getD i.toNat []) 1), .w (recW (ll.getD i.toNat []) 2), .i (recI (ll.getD i.toNat []) 3)] = _
  rw [ei, ej]
  rfl

/-- A queue's own memory, and a record. -/
def psRd : List (BoxSt D0.τ) → List (A0 D0.τ) → Option (List Rec × Int × Rec)
  | [.fixed t ps, .dyn e (.lrs sh ll)], [.one (.ref 0 0), .one (.ifa u sh' r)] => match ps with
    | [.own 1, .int .u64 _ n] => bif (Nat.beq t 55 && Nat.beq e 59) && (shEq sh enSh && (Nat.beq u 59 && shEq sh' enSh)) then some (ll, n, r) else none
    | _ => none
  | _, _ => none
def psPre (t : List Rec × Int × Rec) : List (BoxSt D0.τ) × List (A0 D0.τ) := ([.fixed 55 (quP t.2.1), rowQ t.1], [.one (.ref 0 0), .one (.ifa 59 enSh t.2.2)])
def psPost (t : List Rec × Int × Rec) : Option (AV D0.τ × List (BoxSt D0.τ) × List Prop) :=
  some (.tup [], [.fixed 55 [.own 2, .int .u64 false t.2.1], .dead, rowQ (t.1 ++ [t.2.2])], [t.1.length ≤ 100000, enOK t.2.2])
noncomputable def pushQ := mkF D0 Try.f48.ntmps psRd psPre psPost

theorem push_ok : OpOK Try.prog D0 48 pushQ := by
  refine opOK_mk gam_nil mixed Try.func48 (enters_of Try.func48 (by kernel_rfl) rfl) ?_
  rintro ⟨ll, n, r⟩ r' bs' ps h hps
  simp only [psPost, Option.some.injEq, Prod.mk.injEq] at h
  obtain ⟨rfl, rfl, rfl⟩ := h
  have h1 : ll.length ≤ 100000 := hps (ll.length ≤ 100000) (by simp)
  have h2 : enOK r := hps (enOK r) (by simp)
  exact ⟨_, _, push_run ll _ n r (by omega) (by omega) (by rw [← h2.reb]; rfl)⟩

def ppRd : List (BoxSt D0.τ) → List (A0 D0.τ) → Option (List Rec × Int)
  | [.fixed t ps, .dyn e (.lrs sh ll)], [.one (.ref 0 0)] => match ps with
    | [.own 1, .int .u64 _ n] => bif (Nat.beq t 55 && Nat.beq e 59) && shEq sh enSh then some (ll, n) else none
    | _ => none
  | _, _ => none
def ppPre (t : List Rec × Int) : List (BoxSt D0.τ) × List (A0 D0.τ) := ([.fixed 55 (quP t.2), rowQ t.1], [.one (.ref 0 0)])
def ppPost (t : List Rec × Int) : Option (AV D0.τ × List (BoxSt D0.τ) × List Prop) :=
  some (.v (.one (.ifa 59 enSh (t.1.getD (t.1.length - 1) []))), [.fixed 55 [.own 2, .int .u64 false t.2], .dead, rowQ (t.1.take (t.1.length - 1))], [t.1.length ≤ 100000, 0 < t.1.length, EnAll t.1])
noncomputable def popQ := mkF D0 Try.f47.ntmps ppRd ppPre ppPost

theorem pop_ok : OpOK Try.prog D0 47 popQ := by
  refine opOK_mk gam_nil mixed Try.func47 (enters_of Try.func47 (by kernel_rfl) rfl) ?_
  rintro ⟨ll, n⟩ r' bs' ps h hps
  simp only [ppPost, Option.some.injEq, Prod.mk.injEq] at h
  obtain ⟨rfl, rfl, rfl⟩ := h
  have h1 : ll.length ≤ 100000 := hps (ll.length ≤ 100000) (by simp)
  have h2 : 0 < ll.length := hps (0 < ll.length) (by simp)
  have hE : EnAll ll := hps (EnAll ll) (by simp)
  have hn : Int.toNat ((ll.length : Int) - 1) = ll.length - 1 := by omega
  have e := (hE.at (i := ll.length - 1) (by omega)).reb
  refine ⟨_, _, pop_run ll _ n _ ⟨by omega, by omega⟩ (by omega) (by omega) (by omega) (by rw [List.length_set]; omega) ?_ ?_⟩
  · rw [hn]; exact e
  · rw [hn, List.take_set_of_le (by omega)]

end Go.Num
