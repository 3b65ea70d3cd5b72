/- Queue: QueueSorts. -/
import Derived.Test.YtglemaieddgjcaaQ7
namespace Go.Num
open Go.Abs Go.Proofs Go.Shelf

abbrev Op4 := List (BoxSt D0.τ) → List (A0 D0.τ) → Option (AV D0.τ × List (BoxSt D0.τ) × List Prop)
noncomputable def gamS (put due : Op4) : Gam D0 := [(7, .fn headQ), (8, .op [] newQ), (9, .op [true, false] put), (10, .op [true, false] due), (11, .op [true] qlenQ)]
theorem gamS_ok {put due : Op4} (h1 : OpOK Try.prog D0 9 put) (h2 : OpOK Try.prog D0 10 due) : GamOK Try.prog D0 (gamS put due) := gam_cons head_ok (gam_op new_ok (gam_op h1 (gam_op h2 (gam_op qlen_ok gam_nil))))

def quN (ll : List Rec) (t : Int) : List (Nat × BoxSt D0.τ) := [(0, .fixed 55 (quP t)), (1, rowQ ll)]

def soSn (ats : List Int) (now : Int) (ll : List Rec) (t n k : Int) : Sn D0.τ where
  slots := [(0, .v (.one (.words .i64 ats))), (1, .v (.one (.int .i64 false now))), (5, .v (.one (.ref 0 0))), (6, .v (.one (.int .i64 false n))), (17, .v (.one (.words .i64 ats))), (18, .v (.one (.int .i64 false ats.length))), (19, .v (.one (.int .i64 false k)))]
  boxes := quN ll t
  nt := 110
def soEd (ats : List Int) (now : Int) (ll : List Rec) (t n : Int) : Sn D0.τ where
  slots := [(0, .v (.one (.words .i64 ats))), (1, .v (.one (.int .i64 false now))), (5, .v (.one (.ref 0 0))), (6, .v (.one (.int .i64 false n)))]
  boxes := quN ll t
  nt := 110

theorem so_ok_r (ats : List Int) (now : Int) (ll ll' : List Rec) (t t' n n' k k' : Int) : stepPs Try.prog D0 (gamS putQ dueNoQ) 100 (bodyN Try.f3 0) 100 (soSn ats now ll t n k).st [.is true] .normal (soSn ats now ll' t' n' k') =
    some [((decide (k < (((List.length ats) : Nat) : Int))) = Bool.true), ((0 : Int) ≤ k), (k < (((List.length ats) : Nat) : Int)), ((List.getD ats (Int.toNat k) (0 : Int)) = (List.getD ats (Int.toNat k) (0 : Int))), (k = k), (([] : List (Int)) = ([] : List (Int))), (t = t), (ll = ll), ((0 : Int) ≤ (List.getD ats (Int.toNat k) (0 : Int))), ((List.getD ats (Int.toNat k) (0 : Int)) ≤ (1099511627776 : Int)), ((List.length ll) < (4096 : Nat)), ((0 : Nat) ≤ (140737488355328 : Nat)), (Go.Num.EnAll ll), (Go.Abs.InI64 (n + (1 : Int))), (Go.Abs.InI64 (k + (1 : Int))), (ats = ats), (now = now), ((n + (1 : Int)) = n'), (ats = ats), ((((List.length ats) : Nat) : Int) = (((List.length ats) : Nat) : Int)), ((k + (1 : Int)) = k'), ((Go.IntKind.wrap Go.IntKind.u64 (t + (1 : Int))) = t'), ((Go.Num.pushL ll (Go.Num.mkE (List.getD ats (Int.toNat k) (0 : Int)) k ([] : List (Int)) t)) = ll')] := by kernel_rfl
theorem so_ok (ats : List Int) (now : Int) (ll ll' : List Rec) (t t' n n' k k' : Int)
    (h1 : ((decide (k < (((List.length ats) : Nat) : Int))) = Bool.true))
    (h2 : ((0 : Int) ≤ k))
    (h3 : (k < (((List.length ats) : Nat) : Int)))
    (h4 : ((0 : Int) ≤ (List.getD ats (Int.toNat k) (0 : Int))))
    (h5 : ((List.getD ats (Int.toNat k) (0 : Int)) ≤ (1099511627776 : Int)))
    (h6 : ((List.length ll) < (4096 : Nat)))
    (h7 : (Go.Num.EnAll ll))
    (h8 : (Go.Abs.InI64 (n + (1 : Int))))
    (h9 : (Go.Abs.InI64 (k + (1 : Int))))
    (h10 : ((n + (1 : Int)) = n'))
    (h11 : ((k + (1 : Int)) = k'))
    (h12 : ((Go.IntKind.wrap Go.IntKind.u64 (t + (1 : Int))) = t'))
    (h13 : ((Go.Num.pushL ll (Go.Num.mkE (List.getD ats (Int.toNat k) (0 : Int)) k ([] : List (Int)) t)) = ll')) :
    ∃ ps, stepPs Try.prog D0 (gamS putQ dueNoQ) 100 (bodyN Try.f3 0) 100 (soSn ats now ll t n k).st [.is true] .normal (soSn ats now ll' t' n' k') = some ps ∧ AllQ ps := ⟨_, so_ok_r ats now ll ll' t t' n n' k k', AllP.all ⟨h1, h2, h3, rfl, rfl, rfl, rfl, rfl, h4, h5, h6, (show ((0 : Nat) ≤ (140737488355328 : Nat)) from by decide), h7, h8, h9, rfl, rfl, h10, rfl, rfl, h11, h12, h13⟩⟩

theorem so_arg_r (ats : List Int) (now : Int) (ll : List Rec) (t n k k' : Int) : stepPs Try.prog D0 (gamS putArgQ dueNoQ) 100 (bodyN Try.f3 0) 100 (soSn ats now ll t n k).st [.is true] .normal (soSn ats now ll t n k') =
    some [((decide (k < (((List.length ats) : Nat) : Int))) = Bool.true), ((0 : Int) ≤ k), (k < (((List.length ats) : Nat) : Int)), ((List.getD ats (Int.toNat k) (0 : Int)) = (List.getD ats (Int.toNat k) (0 : Int))), (k = k), (([] : List (Int)) = ([] : List (Int))), (t = t), (ll = ll), (((List.getD ats (Int.toNat k) (0 : Int)) < (0 : Int)) ∨ ((1099511627776 : Int) < (List.getD ats (Int.toNat k) (0 : Int)))), (Go.Abs.InI64 (k + (1 : Int))), (ats = ats), (now = now), (n = n), (ats = ats), ((((List.length ats) : Nat) : Int) = (((List.length ats) : Nat) : Int)), ((k + (1 : Int)) = k'), (t = t), (ll = ll)] := by kernel_rfl
theorem so_arg (ats : List Int) (now : Int) (ll : List Rec) (t n k k' : Int)
    (h1 : ((decide (k < (((List.length ats) : Nat) : Int))) = Bool.true))
    (h2 : ((0 : Int) ≤ k))
    (h3 : (k < (((List.length ats) : Nat) : Int)))
    (h4 : (((List.getD ats (Int.toNat k) (0 : Int)) < (0 : Int)) ∨ ((1099511627776 : Int) < (List.getD ats (Int.toNat k) (0 : Int)))))
    (h5 : (Go.Abs.InI64 (k + (1 : Int))))
    (h6 : ((k + (1 : Int)) = k')) :
    ∃ ps, stepPs Try.prog D0 (gamS putArgQ dueNoQ) 100 (bodyN Try.f3 0) 100 (soSn ats now ll t n k).st [.is true] .normal (soSn ats now ll t n k') = some ps ∧ AllQ ps := ⟨_, so_arg_r ats now ll t n k k', AllP.all ⟨h1, h2, h3, rfl, rfl, rfl, rfl, rfl, h4, h5, rfl, rfl, rfl, rfl, rfl, h6, rfl, rfl⟩⟩

theorem so_full_r (ats : List Int) (now : Int) (ll : List Rec) (t n k k' : Int) : stepPs Try.prog D0 (gamS putFullQ dueNoQ) 100 (bodyN Try.f3 0) 100 (soSn ats now ll t n k).st [.is true] .normal (soSn ats now ll t n k') =
    some [((decide (k < (((List.length ats) : Nat) : Int))) = Bool.true), ((0 : Int) ≤ k), (k < (((List.length ats) : Nat) : Int)), ((List.getD ats (Int.toNat k) (0 : Int)) = (List.getD ats (Int.toNat k) (0 : Int))), (k = k), (([] : List (Int)) = ([] : List (Int))), (t = t), (ll = ll), ((0 : Int) ≤ (List.getD ats (Int.toNat k) (0 : Int))), ((List.getD ats (Int.toNat k) (0 : Int)) ≤ (1099511627776 : Int)), ((4096 : Nat) ≤ (List.length ll)), (Go.Abs.InI64 (k + (1 : Int))), (ats = ats), (now = now), (n = n), (ats = ats), ((((List.length ats) : Nat) : Int) = (((List.length ats) : Nat) : Int)), ((k + (1 : Int)) = k'), (t = t), (ll = ll)] := by kernel_rfl
theorem so_full (ats : List Int) (now : Int) (ll : List Rec) (t n k k' : Int)
    (h1 : ((decide (k < (((List.length ats) : Nat) : Int))) = Bool.true))
    (h2 : ((0 : Int) ≤ k))
    (h3 : (k < (((List.length ats) : Nat) : Int)))
    (h4 : ((0 : Int) ≤ (List.getD ats (Int.toNat k) (0 : Int))))
    (h5 : ((List.getD ats (Int.toNat k) (0 : Int)) ≤ (1099511627776 : Int)))
    (h6 : ((4096 : Nat) ≤ (List.length ll)))
    (h7 : (Go.Abs.InI64 (k + (1 : Int))))
    (h8 : ((k + (1 : Int)) = k')) :
    ∃ ps, stepPs Try.prog D0 (gamS putFullQ dueNoQ) 100 (bodyN Try.f3 0) 100 (soSn ats now ll t n k).st [.is true] .normal (soSn ats now ll t n k') = some ps ∧ AllQ ps := ⟨_, so_full_r ats now ll t n k k', AllP.all ⟨h1, h2, h3, rfl, rfl, rfl, rfl, rfl, h4, h5, h6, h7, rfl, rfl, rfl, rfl, rfl, h8, rfl, rfl⟩⟩

theorem so_exit_r (ats : List Int) (now : Int) (ll : List Rec) (t n k : Int) : stepPs Try.prog D0 (gamS putQ dueNoQ) 100 (bodyN Try.f3 0) 100 (soSn ats now ll t n k).st [.is false] (.exit 0) (soEd ats now ll t n) =
    some [((decide (k < (((List.length ats) : Nat) : Int))) = Bool.false), (ats = ats), (now = now), (n = n), (t = t), (ll = ll)] := by kernel_rfl
theorem so_exit (ats : List Int) (now : Int) (ll : List Rec) (t n k : Int)
    (h1 : ((decide (k < (((List.length ats) : Nat) : Int))) = Bool.false)) :
    ∃ ps, stepPs Try.prog D0 (gamS putQ dueNoQ) 100 (bodyN Try.f3 0) 100 (soSn ats now ll t n k).st [.is false] (.exit 0) (soEd ats now ll t n) = some ps ∧ AllQ ps := ⟨_, so_exit_r ats now ll t n k, AllP.all ⟨h1, rfl, rfl, rfl, rfl, rfl⟩⟩

def s2Sn (ats : List Int) (now : Int) (ll : List Rec) (t n : Int) (last : Rec) : Sn D0.τ where
  slots := [(0, .v (.one (.words .i64 ats))), (1, .v (.one (.int .i64 false now))), (5, .v (.one (.ref 0 0))), (6, .v (.one (.int .i64 false n))), (9, .v (.one (.ref 2 0)))]
  boxes := [(0, .fixed 55 (quP t)), (1, rowQ ll), (2, .fixed 30 [.int .i64 false (recI last 0), .int .i64 false (recI last 1), .words .u8 (recW last 2)])]
  nt := 110

theorem s2_eq_r (ats : List Int) (now : Int) (ll ll' : List Rec) (t n n' : Int) (a b : Rec) : stepPs Try.prog D0 (gamS putQ dueQ) 100 (bodyN Try.f3 1) 100 (s2Sn ats now ll t n a).st [.is false, .is false, .is true, .is false, .is false, .is false] .normal (s2Sn ats now ll' t n' b) =
    some [(now = now), (t = t), (ll = ll), ((0 : Nat) < (List.length ll)), ((Go.Abs.recI (List.getD ll (0 : Nat) ([] : List (Abs.Fd))) (0 : Nat)) ≤ now), (Go.Num.EnAll ll), ((List.length ll) ≤ (100000 : Nat)), (Go.Abs.InI64 (n - (1 : Int))), ((decide ((Go.Abs.recI (Go.Num.popE ll) (0 : Nat)) > now)) = Bool.false), ((decide ((Go.Abs.recI (Go.Num.popE ll) (0 : Nat)) < (Go.Abs.recI a (0 : Nat)))) = Bool.false), (((Go.Abs.recI (Go.Num.popE ll) (0 : Nat)) == (Go.Abs.recI a (0 : Nat))) = Bool.true), ((decide ((Go.Abs.recI (Go.Num.popE ll) (1 : Nat)) ≤ (Go.Abs.recI a (1 : Nat)))) = Bool.false), ((decide ((Go.Abs.recI (Go.Num.popE ll) (1 : Nat)) ≥ (((List.length ats) : Nat) : Int))) = Bool.false), ((0 : Int) ≤ (Go.Abs.recI (Go.Num.popE ll) (1 : Nat))), ((Go.Abs.recI (Go.Num.popE ll) (1 : Nat)) < (((List.length ats) : Nat) : Int)), (((List.getD ats (Int.toNat (Go.Abs.recI (Go.Num.popE ll) (1 : Nat))) (0 : Int)) != (Go.Abs.recI (Go.Num.popE ll) (0 : Nat))) = Bool.false), (ats = ats), (now = now), ((n - (1 : Int)) = n'), (t = t), ((Go.Num.popL ll) = ll'), ((Go.Abs.recI (Go.Num.popE ll) (0 : Nat)) = (Go.Abs.recI b (0 : Nat))), ((Go.Abs.recI (Go.Num.popE ll) (1 : Nat)) = (Go.Abs.recI b (1 : Nat))), ((Go.Abs.recW (Go.Num.popE ll) (2 : Nat)) = (Go.Abs.recW b (2 : Nat)))] := by kernel_rfl
theorem s2_eq (ats : List Int) (now : Int) (ll ll' : List Rec) (t n n' : Int) (a b : Rec)
    (h1 : ((0 : Nat) < (List.length ll)))
    (h2 : ((Go.Abs.recI (List.getD ll (0 : Nat) ([] : List (Abs.Fd))) (0 : Nat)) ≤ now))
    (h3 : (Go.Num.EnAll ll))
    (h4 : ((List.length ll) ≤ (100000 : Nat)))
    (h5 : (Go.Abs.InI64 (n - (1 : Int))))
    (h6 : ((decide ((Go.Abs.recI (Go.Num.popE ll) (0 : Nat)) > now)) = Bool.false))
    (h7 : ((decide ((Go.Abs.recI (Go.Num.popE ll) (0 : Nat)) < (Go.Abs.recI a (0 : Nat)))) = Bool.false))
    (h8 : (((Go.Abs.recI (Go.Num.popE ll) (0 : Nat)) == (Go.Abs.recI a (0 : Nat))) = Bool.true))
    (h9 : ((decide ((Go.Abs.recI (Go.Num.popE ll) (1 : Nat)) ≤ (Go.Abs.recI a (1 : Nat)))) = Bool.false))
    (h10 : ((decide ((Go.Abs.recI (Go.Num.popE ll) (1 : Nat)) ≥ (((List.length ats) : Nat) : Int))) = Bool.false))
    (h11 : ((0 : Int) ≤ (Go.Abs.recI (Go.Num.popE ll) (1 : Nat))))
    (h12 : ((Go.Abs.recI (Go.Num.popE ll) (1 : Nat)) < (((List.length ats) : Nat) : Int)))
    (h13 : (((List.getD ats (Int.toNat (Go.Abs.recI (Go.Num.popE ll) (1 : Nat))) (0 : Int)) != (Go.Abs.recI (Go.Num.popE ll) (0 : Nat))) = Bool.false))
    (h14 : ((n - (1 : Int)) = n'))
    (h15 : ((Go.Num.popL ll) = ll'))
    (h16 : ((Go.Abs.recI (Go.Num.popE ll) (0 : Nat)) = (Go.Abs.recI b (0 : Nat))))
    (h17 : ((Go.Abs.recI (Go.Num.popE ll) (1 : Nat)) = (Go.Abs.recI b (1 : Nat))))
    (h18 : ((Go.Abs.recW (Go.Num.popE ll) (2 : Nat)) = (Go.Abs.recW b (2 : Nat)))) :
    ∃ ps, stepPs Try.prog D0 (gamS putQ dueQ) 100 (bodyN Try.f3 1) 100 (s2Sn ats now ll t n a).st [.is false, .is false, .is true, .is false, .is false, .is false] .normal (s2Sn ats now ll' t n' b) = some ps ∧ AllQ ps := ⟨_, s2_eq_r ats now ll ll' t n n' a b, AllP.all ⟨rfl, rfl, rfl, h1, h2, h3, h4, h5, h6, h7, h8, h9, h10, h11, h12, h13, rfl, rfl, h14, rfl, h15, h16, h17, h18⟩⟩

theorem s2_ne_r (ats : List Int) (now : Int) (ll ll' : List Rec) (t n n' : Int) (a b : Rec) : stepPs Try.prog D0 (gamS putQ dueQ) 100 (bodyN Try.f3 1) 100 (s2Sn ats now ll t n a).st [.is false, .is false, .is false, .is false, .is false] .normal (s2Sn ats now ll' t n' b) =
    some [(now = now), (t = t), (ll = ll), ((0 : Nat) < (List.length ll)), ((Go.Abs.recI (List.getD ll (0 : Nat) ([] : List (Abs.Fd))) (0 : Nat)) ≤ now), (Go.Num.EnAll ll), ((List.length ll) ≤ (100000 : Nat)), (Go.Abs.InI64 (n - (1 : Int))), ((decide ((Go.Abs.recI (Go.Num.popE ll) (0 : Nat)) > now)) = Bool.false), ((decide ((Go.Abs.recI (Go.Num.popE ll) (0 : Nat)) < (Go.Abs.recI a (0 : Nat)))) = Bool.false), (((Go.Abs.recI (Go.Num.popE ll) (0 : Nat)) == (Go.Abs.recI a (0 : Nat))) = Bool.false), ((decide ((Go.Abs.recI (Go.Num.popE ll) (1 : Nat)) ≥ (((List.length ats) : Nat) : Int))) = Bool.false), ((0 : Int) ≤ (Go.Abs.recI (Go.Num.popE ll) (1 : Nat))), ((Go.Abs.recI (Go.Num.popE ll) (1 : Nat)) < (((List.length ats) : Nat) : Int)), (((List.getD ats (Int.toNat (Go.Abs.recI (Go.Num.popE ll) (1 : Nat))) (0 : Int)) != (Go.Abs.recI (Go.Num.popE ll) (0 : Nat))) = Bool.false), (ats = ats), (now = now), ((n - (1 : Int)) = n'), (t = t), ((Go.Num.popL ll) = ll'), ((Go.Abs.recI (Go.Num.popE ll) (0 : Nat)) = (Go.Abs.recI b (0 : Nat))), ((Go.Abs.recI (Go.Num.popE ll) (1 : Nat)) = (Go.Abs.recI b (1 : Nat))), ((Go.Abs.recW (Go.Num.popE ll) (2 : Nat)) = (Go.Abs.recW b (2 : Nat)))] := by kernel_rfl
theorem s2_ne (ats : List Int) (now : Int) (ll ll' : List Rec) (t n n' : Int) (a b : Rec)
    (h1 : ((0 : Nat) < (List.length ll)))
    (h2 : ((Go.Abs.recI (List.getD ll (0 : Nat) ([] : List (Abs.Fd))) (0 : Nat)) ≤ now))
    (h3 : (Go.Num.EnAll ll))
    (h4 : ((List.length ll) ≤ (100000 : Nat)))
    (h5 : (Go.Abs.InI64 (n - (1 : Int))))
    (h6 : ((decide ((Go.Abs.recI (Go.Num.popE ll) (0 : Nat)) > now)) = Bool.false))
    (h7 : ((decide ((Go.Abs.recI (Go.Num.popE ll) (0 : Nat)) < (Go.Abs.recI a (0 : Nat)))) = Bool.false))
    (h8 : (((Go.Abs.recI (Go.Num.popE ll) (0 : Nat)) == (Go.Abs.recI a (0 : Nat))) = Bool.false))
    (h9 : ((decide ((Go.Abs.recI (Go.Num.popE ll) (1 : Nat)) ≥ (((List.length ats) : Nat) : Int))) = Bool.false))
    (h10 : ((0 : Int) ≤ (Go.Abs.recI (Go.Num.popE ll) (1 : Nat))))
    (h11 : ((Go.Abs.recI (Go.Num.popE ll) (1 : Nat)) < (((List.length ats) : Nat) : Int)))
    (h12 : (((List.getD ats (Int.toNat (Go.Abs.recI (Go.Num.popE ll) (1 : Nat))) (0 : Int)) != (Go.Abs.recI (Go.Num.popE ll) (0 : Nat))) = Bool.false))
    (h13 : ((n - (1 : Int)) = n'))
    (h14 : ((Go.Num.popL ll) = ll'))
    (h15 : ((Go.Abs.recI (Go.Num.popE ll) (0 : Nat)) = (Go.Abs.recI b (0 : Nat))))
    (h16 : ((Go.Abs.recI (Go.Num.popE ll) (1 : Nat)) = (Go.Abs.recI b (1 : Nat))))
    (h17 : ((Go.Abs.recW (Go.Num.popE ll) (2 : Nat)) = (Go.Abs.recW b (2 : Nat)))) :
    ∃ ps, stepPs Try.prog D0 (gamS putQ dueQ) 100 (bodyN Try.f3 1) 100 (s2Sn ats now ll t n a).st [.is false, .is false, .is false, .is false, .is false] .normal (s2Sn ats now ll' t n' b) = some ps ∧ AllQ ps := ⟨_, s2_ne_r ats now ll ll' t n n' a b, AllP.all ⟨rfl, rfl, rfl, h1, h2, h3, h4, h5, h6, h7, h8, h9, h10, h11, h12, rfl, rfl, h13, rfl, h14, h15, h16, h17⟩⟩

theorem s2_exit_r (ats : List Int) (now : Int) (ll : List Rec) (t n : Int) (a : Rec) : stepPs Try.prog D0 (gamS putQ dueNoQ) 100 (bodyN Try.f3 1) 100 (s2Sn ats now ll t n a).st [] (.exit 2) (soEd ats now ll t n) =
    some [(now = now), (t = t), (ll = ll), (Go.Num.noDue ll now), (ats = ats), (now = now), (n = n), (t = t), (ll = ll)] := by kernel_rfl
theorem s2_exit (ats : List Int) (now : Int) (ll : List Rec) (t n : Int) (a : Rec)
    (h1 : (Go.Num.noDue ll now)) :
    ∃ ps, stepPs Try.prog D0 (gamS putQ dueNoQ) 100 (bodyN Try.f3 1) 100 (s2Sn ats now ll t n a).st [] (.exit 2) (soEd ats now ll t n) = some ps ∧ AllQ ps := ⟨_, s2_exit_r ats now ll t n a, AllP.all ⟨rfl, rfl, rfl, h1, rfl, rfl, rfl, rfl, rfl⟩⟩

theorem so_none_r (ats : List Int) (now : Int) (l1 l2 : List Rec) (t n m : Int) (r : Rec) : runF Try.prog D0 (gamS putQ dueNoQ) 100 Try.f3 [.one (.words .i64 ats), .one (.int .i64 false now)] [.loop (loopL D0 (soSn ats now [] 0 0 0) (.exit 0) (soEd ats now l1 t n)), .loop (loopL D0 (s2Sn ats now l1 t n r) (.exit 2) (soEd ats now l2 t m)), .is false, .is false] =
    some ((Go.Abs.AV.v (Go.Abs.A0.one (Go.Abs.Part.bool Bool.true Bool.true))), [SumOK Try.prog D0 (bodyN Try.f3 0) (loopL D0 (soSn ats now [] 0 0 0) (.exit 0) (soEd ats now l1 t n)), (ats = ats), (now = now), ((0 : Int) = (0 : Int)), (ats = ats), ((((List.length ats) : Nat) : Int) = (((List.length ats) : Nat) : Int)), ((0 : Int) = (0 : Int)), ((0 : Int) = (0 : Int)), (([] : List (Rec)) = ([] : List (Rec))), SumOK Try.prog D0 (bodyN Try.f3 1) (loopL D0 (s2Sn ats now l1 t n r) (.exit 2) (soEd ats now l2 t m)), (ats = ats), (now = now), (n = n), (t = t), (l1 = l1), ((-(1 : Int)) = (Go.Abs.recI r (0 : Nat))), ((0 : Int) = (Go.Abs.recI r (1 : Nat))), (([] : List (Int)) = (Go.Abs.recW r (2 : Nat))), (t = t), (l2 = l2), (((((List.length l2) : Nat) : Int) != m) = Bool.false), ((1099511627776 : Int) = (1099511627776 : Int)), (t = t), (l2 = l2), (Go.Num.noDue l2 (1099511627776 : Int)), ((decide (m > (0 : Int))) = Bool.false)]) := by kernel_rfl
theorem so_none (ats : List Int) (now : Int) (l1 l2 : List Rec) (t n m : Int) (r : Rec)
    (h1 : SumOK Try.prog D0 (bodyN Try.f3 0) (loopL D0 (soSn ats now [] 0 0 0) (.exit 0) (soEd ats now l1 t n)))
    (h2 : SumOK Try.prog D0 (bodyN Try.f3 1) (loopL D0 (s2Sn ats now l1 t n r) (.exit 2) (soEd ats now l2 t m)))
    (h3 : ((-(1 : Int)) = (Go.Abs.recI r (0 : Nat))))
    (h4 : ((0 : Int) = (Go.Abs.recI r (1 : Nat))))
    (h5 : (([] : List (Int)) = (Go.Abs.recW r (2 : Nat))))
    (h6 : (((((List.length l2) : Nat) : Int) != m) = Bool.false))
    (h7 : (Go.Num.noDue l2 (1099511627776 : Int)))
    (h8 : ((decide (m > (0 : Int))) = Bool.false)) :
    ∃ ps, runF Try.prog D0 (gamS putQ dueNoQ) 100 Try.f3 [.one (.words .i64 ats), .one (.int .i64 false now)] [.loop (loopL D0 (soSn ats now [] 0 0 0) (.exit 0) (soEd ats now l1 t n)), .loop (loopL D0 (s2Sn ats now l1 t n r) (.exit 2) (soEd ats now l2 t m)), .is false, .is false] = some ((Go.Abs.AV.v (Go.Abs.A0.one (Go.Abs.Part.bool Bool.true Bool.true))), ps) ∧ AllQ ps := ⟨_, so_none_r ats now l1 l2 t n m r, AllP.all ⟨h1, rfl, rfl, rfl, rfl, rfl, rfl, rfl, rfl, h2, rfl, rfl, rfl, rfl, rfl, h3, h4, h5, rfl, rfl, h6, rfl, rfl, rfl, h7, h8⟩⟩

theorem so_some_r (ats : List Int) (now : Int) (l1 l2 : List Rec) (t n m : Int) (r : Rec) : runF Try.prog D0 (gamS putQ dueQ) 100 Try.f3 [.one (.words .i64 ats), .one (.int .i64 false now)] [.loop (loopL D0 (soSn ats now [] 0 0 0) (.exit 0) (soEd ats now l1 t n)), .loop (loopL D0 (s2Sn ats now l1 t n r) (.exit 2) (soEd ats now l2 t m)), .is false, .is true, .is true] =
    some ((Go.Abs.AV.v (Go.Abs.A0.one (Go.Abs.Part.bool Bool.true Bool.true))), [SumOK Try.prog D0 (bodyN Try.f3 0) (loopL D0 (soSn ats now [] 0 0 0) (.exit 0) (soEd ats now l1 t n)), (ats = ats), (now = now), ((0 : Int) = (0 : Int)), (ats = ats), ((((List.length ats) : Nat) : Int) = (((List.length ats) : Nat) : Int)), ((0 : Int) = (0 : Int)), ((0 : Int) = (0 : Int)), (([] : List (Rec)) = ([] : List (Rec))), SumOK Try.prog D0 (bodyN Try.f3 1) (loopL D0 (s2Sn ats now l1 t n r) (.exit 2) (soEd ats now l2 t m)), (ats = ats), (now = now), (n = n), (t = t), (l1 = l1), ((-(1 : Int)) = (Go.Abs.recI r (0 : Nat))), ((0 : Int) = (Go.Abs.recI r (1 : Nat))), (([] : List (Int)) = (Go.Abs.recW r (2 : Nat))), (t = t), (l2 = l2), (((((List.length l2) : Nat) : Int) != m) = Bool.false), ((1099511627776 : Int) = (1099511627776 : Int)), (t = t), (l2 = l2), ((0 : Nat) < (List.length l2)), ((Go.Abs.recI (List.getD l2 (0 : Nat) ([] : List (Abs.Fd))) (0 : Nat)) ≤ (1099511627776 : Int)), (Go.Num.EnAll l2), ((List.length l2) ≤ (100000 : Nat)), ((decide (m > (0 : Int))) = Bool.true), ((decide ((Go.Abs.recI (Go.Num.popE l2) (0 : Nat)) > now)) = Bool.true)]) := by kernel_rfl
theorem so_some (ats : List Int) (now : Int) (l1 l2 : List Rec) (t n m : Int) (r : Rec)
    (h1 : SumOK Try.prog D0 (bodyN Try.f3 0) (loopL D0 (soSn ats now [] 0 0 0) (.exit 0) (soEd ats now l1 t n)))
    (h2 : SumOK Try.prog D0 (bodyN Try.f3 1) (loopL D0 (s2Sn ats now l1 t n r) (.exit 2) (soEd ats now l2 t m)))
    (h3 : ((-(1 : Int)) = (Go.Abs.recI r (0 : Nat))))
    (h4 : ((0 : Int) = (Go.Abs.recI r (1 : Nat))))
    (h5 : (([] : List (Int)) = (Go.Abs.recW r (2 : Nat))))
    (h6 : (((((List.length l2) : Nat) : Int) != m) = Bool.false))
    (h7 : ((0 : Nat) < (List.length l2)))
    (h8 : ((Go.Abs.recI (List.getD l2 (0 : Nat) ([] : List (Abs.Fd))) (0 : Nat)) ≤ (1099511627776 : Int)))
    (h9 : (Go.Num.EnAll l2))
    (h10 : ((List.length l2) ≤ (100000 : Nat)))
    (h11 : ((decide (m > (0 : Int))) = Bool.true))
    (h12 : ((decide ((Go.Abs.recI (Go.Num.popE l2) (0 : Nat)) > now)) = Bool.true)) :
    ∃ ps, runF Try.prog D0 (gamS putQ dueQ) 100 Try.f3 [.one (.words .i64 ats), .one (.int .i64 false now)] [.loop (loopL D0 (soSn ats now [] 0 0 0) (.exit 0) (soEd ats now l1 t n)), .loop (loopL D0 (s2Sn ats now l1 t n r) (.exit 2) (soEd ats now l2 t m)), .is false, .is true, .is true] = some ((Go.Abs.AV.v (Go.Abs.A0.one (Go.Abs.Part.bool Bool.true Bool.true))), ps) ∧ AllQ ps := ⟨_, so_some_r ats now l1 l2 t n m r, AllP.all ⟨h1, rfl, rfl, rfl, rfl, rfl, rfl, rfl, rfl, h2, rfl, rfl, rfl, rfl, rfl, h3, h4, h5, rfl, rfl, h6, rfl, rfl, rfl, h7, h8, h9, h10, h11, h12⟩⟩

/-! The plain law. -/

/-- Of two entries that which was put later is of a later number. -/
def Tw (r s : Rec) : Prop := (recI r 3 < recI s 3 ∧ recI r 1 < recI s 1) ∨ (recI s 3 < recI r 3 ∧ recI s 1 < recI r 1)
theorem Tw.symm {r s : Rec} (h : Tw r s) : Tw s r := h.elim Or.inr Or.inl

structure Srt (ats : List Int) (ll : List Rec) (k : Nat) (T : Int) : Prop where
  heap : Heap ll 0 ll.length
  all : EnAll ll
  tw : ll.Pairwise Tw
  each : ∀ r ∈ ll, 0 ≤ recI r 1 ∧ recI r 1 < k ∧ ats.getD (recI r 1).toNat 0 = recI r 0 ∧ recI r 3 < T ∧ 0 ≤ recI r 0 ∧ recI r 0 ≤ 1099511627776
  few : ll.length ≤ 4096

def soL (ats : List Int) : Nat → List Rec
  | 0 => []
  | k + 1 => if (0 ≤ ats.getD k 0 ∧ ats.getD k 0 ≤ 1099511627776) ∧ (soL ats k).length < 4096 then pushL (soL ats k) (mkE (ats.getD k 0) k [] (soL ats k).length) else soL ats k

theorem Srt.more {ats : List Int} {ll : List Rec} {k : Nat} {T : Int} (h : Srt ats ll k T) : Srt ats ll (k + 1) T :=
  ⟨h.heap, h.all, h.tw, fun r hr => by have := h.each r hr; exact ⟨this.1, by omega, this.2.2⟩, h.few⟩

theorem Srt.push {ats : List Int} {ll : List Rec} {k : Nat} (h : Srt ats ll k ll.length) (h0 : 0 ≤ ats.getD k 0) (h1 : ats.getD k 0 ≤ 1099511627776) (hl : ll.length < 4096) :
    Srt ats (pushL ll (mkE (ats.getD k 0) k [] ll.length)) (k + 1) (ll.length + 1) := by
  have hi := pushL_inv h.all (⟨ats.getD k 0, k, [], ll.length, rfl⟩ : enOK (mkE (ats.getD k 0) k [] ll.length))
  obtain ⟨hh, hp⟩ := push_heap h.heap (mkE (ats.getD k 0) k [] ll.length)
  refine ⟨by rw [hi.2]; exact hh, hi.1, ?_, ?_, by rw [hi.2]; omega⟩
  · rw [hp.pairwise_iff Tw.symm, List.pairwise_append]
    refine ⟨h.tw, List.pairwise_singleton _ _, fun a ha b hb => ?_⟩
    rw [List.mem_singleton] at hb
    subst hb
    have := h.each a ha
    exact Or.inl ⟨this.2.2.2.1, this.2.1⟩
  · intro r hr
    rcases List.mem_append.1 (hp.mem_iff.1 hr) with hr | hr
    · have := h.each r hr
      exact ⟨this.1, by omega, this.2.2.1, by omega, this.2.2.2.2⟩
    · rw [List.mem_singleton] at hr
      subst hr
      refine ⟨by show (0 : Int) ≤ (k : Int); omega, by show (k : Int) < ((k + 1 : Nat) : Int); omega, ?_, by show (ll.length : Int) < _; omega, h0, h1⟩
      show ats.getD ((k : Int)).toNat 0 = ats.getD k 0
      rw [Int.toNat_natCast]

theorem soL_srt (ats : List Int) : ∀ k, Srt ats (soL ats k) k (soL ats k).length
  | 0 => ⟨fun k hk hkl => (by cases hkl), fun r hr => (by cases hr), List.Pairwise.nil, fun r hr => (by cases hr), Nat.zero_le _⟩
  | k + 1 => by
    have h := soL_srt ats k
    unfold soL
    split
    · rename_i hc
      have := h.push hc.1.1 hc.1.2 hc.2
      have hi := pushL_inv h.all (⟨ats.getD k 0, k, [], (soL ats k).length, rfl⟩ : enOK (mkE (ats.getD k 0) k [] (soL ats k).length))
      rw [hi.2]
      exact this
    · exact h.more

theorem so_loop (ats : List Int) (now : Int) (hl : ats.length ≤ 9223372036854775806) : SumOK Try.prog D0 (bodyN Try.f3 0) (loopL D0 (soSn ats now [] 0 0 0) (.exit 0) (soEd ats now (soL ats ats.length) (soL ats ats.length).length (soL ats ats.length).length)) := by
  refine sum_whileG mixed (fun k : Nat => soSn ats now (soL ats k) (soL ats k).length (soL ats k).length k) (fun k => if k < ats.length then some (k + 1) else none) (fun k => k ≤ ats.length) (fun k => ats.length - k) rfl 0 (Nat.zero_le _) (fun k y hk hn => ?_) (fun k hk hn _ => ?_)
  · split at hn
    · rename_i hlt
      cases hn
      refine ⟨by omega, by omega, ?_⟩
      have hs := soL_srt ats k
      have hf := hs.few
      have e := show soL ats (k + 1) = if (0 ≤ ats.getD k 0 ∧ ats.getD k 0 ≤ 1099511627776) ∧ (soL ats k).length < 4096 then pushL (soL ats k) (mkE (ats.getD k 0) k [] (soL ats k).length) else soL ats k from rfl
      have hi := pushL_inv hs.all (⟨ats.getD k 0, k, [], (soL ats k).length, rfl⟩ : enOK (mkE (ats.getD k 0) k [] (soL ats k).length))
      by_cases h0 : 0 ≤ ats.getD k 0 ∧ ats.getD k 0 ≤ 1099511627776
      · by_cases h1 : (soL ats k).length < 4096
        · rw [e, if_pos ⟨h0, h1⟩]
          exact ⟨_, _, _, _, (so_ok ats now (soL ats k) _ _ _ _ _ k _ (decide_eq_true (by omega)) (by omega) (by omega) h0.1 h0.2 h1 hs.all ⟨by omega, by omega⟩ ⟨by omega, by omega⟩ (by rw [hi.2]; rfl) (by omega) (by rw [hi.2, IntKind.wrap_u64]; omega) rfl).imp fun ps h => ⟨gamS_ok put_ok dueNo_ok, h⟩⟩
        · rw [e, if_neg (fun h => h1 h.2)]
          exact ⟨_, _, _, _, (so_full ats now (soL ats k) _ _ k _ (decide_eq_true (by omega)) (by omega) (by omega) h0.1 h0.2 (by omega) ⟨by omega, by omega⟩ (by omega)).imp fun ps h => ⟨gamS_ok putFull_ok dueNo_ok, h⟩⟩
      · rw [e, if_neg (fun h => h0 h.1)]
        exact ⟨_, _, _, _, (so_arg ats now (soL ats k) _ _ k _ (decide_eq_true (by omega)) (by omega) (by omega) (by show ats.getD k 0 < 0 ∨ 1099511627776 < ats.getD k 0; omega) ⟨by omega, by omega⟩ (by omega)).imp fun ps h => ⟨gamS_ok putArg_ok dueNo_ok, h⟩⟩
    · cases hn
  · split at hn
    · cases hn
    · rename_i hlt
      obtain rfl : k = ats.length := by omega
      exact ⟨_, _, _, _, (so_exit ats now _ _ _ ats.length (decide_eq_false (by omega))).imp fun ps h => ⟨gamS_ok put_ok dueNo_ok, h⟩⟩

theorem noDue_iff {ll : List Rec} {m : Int} : noDueB ll m = true ↔ noDue ll m := by
  unfold noDueB noDue
  cases ll with
  | nil => exact ⟨fun _ => Or.inl rfl, fun _ => rfl⟩
  | cons r l =>
    simp only [decide_eq_true_iff]
    exact ⟨fun h => Or.inr h, fun h => h.elim (fun h => by cases h) fun h => h⟩

theorem due_is {ll : List Rec} {m : Int} (h : noDueB ll m = false) : 0 < ll.length ∧ recI (ll.getD 0 []) 0 ≤ m := by
  cases ll with
  | nil => cases h
  | cons r l =>
    have h5 : ¬ m < recI r 0 := of_decide_eq_false h
    exact ⟨by simp, by show recI r 0 ≤ m; omega⟩

/-- What comes out of a heap comes ahead of what is left. -/
theorem Srt.pop {ats : List Int} {ll : List Rec} {k : Nat} {T : Int} (h : Srt ats ll k T) (h0 : 0 < ll.length) : Srt ats (popL ll) k T ∧ popE ll ∈ ll ∧ (∀ r ∈ popL ll, r ∈ ll) ∧ (∀ r ∈ popL ll, recI (popE ll) 0 < recI r 0 ∨ (recI (popE ll) 0 = recI r 0 ∧ recI (popE ll) 1 < recI r 1)) ∧ popE ll = ll.getD 0 [] ∧ (popL ll).length = ll.length - 1 := by
  obtain ⟨h1, h2, h3⟩ := pop_heap h.heap h0
  have hi := popL_inv h.all h0
  have hsub : ∀ r ∈ popL ll, r ∈ ll := fun r hr => h2.mem_iff.1 (List.mem_cons_of_mem _ hr)
  have htw := (h2.pairwise_iff Tw.symm).2 h.tw
  rw [List.pairwise_cons] at htw
  refine ⟨⟨h1, hi.1, htw.2, fun r hr => h.each r (hsub r hr), by rw [hi.2]; have := h.few; omega⟩, h2.mem_iff.1 (List.mem_cons_self ..), hsub, fun r hr => ?_, h3, hi.2⟩
  obtain ⟨i, hil, rfl⟩ := List.mem_iff_getElem.1 (hsub r hr)
  have hroot := heap_root h.heap i hil
  rw [← h3, List.getD_eq_getElem?_getD, List.getElem?_eq_getElem hil] at hroot
  have hq := htw.1 _ hr
  simp only [Option.getD_some] at hroot
  unfold leR at hroot
  unfold Tw at hq
  omega

def s2Nx (now : Int) (s : List Rec × Rec) : Option (List Rec × Rec) := if noDueB s.1 now then none else some (popL s.1, popE s.1)

/-- What is left comes behind what came last. -/
def Aft (ats : List Int) (s : List Rec × Rec) : Prop := Srt ats s.1 ats.length 4096 ∧ ∀ r ∈ s.1, recI s.2 0 < recI r 0 ∨ (recI s.2 0 = recI r 0 ∧ recI s.2 1 < recI r 1)

theorem aft_next {ats : List Int} {now : Int} {s y : List Rec × Rec} (h : Aft ats s) (hn : s2Nx now s = some y) : Aft ats y ∧ y.1.length = s.1.length - 1 ∧ 0 < s.1.length := by
  unfold s2Nx at hn
  split at hn
  · cases hn
  · rename_i hb
    cases hn
    have hd := due_is (Bool.eq_false_iff.2 hb)
    obtain ⟨h1, h2, h3, h4, h5, h6⟩ := h.1.pop hd.1
    exact ⟨⟨h1, h4⟩, h6, hd.1⟩

theorem s2_loop {ats : List Int} {now t : Int} {s : List Rec × Rec} (h : Aft ats s) : SumOK Try.prog D0 (bodyN Try.f3 1) (loopL D0 (s2Sn ats now s.1 t s.1.length s.2) (.exit 2) (soEd ats now (goOn (s2Nx now) s.1.length s).1 t (goOn (s2Nx now) s.1.length s).1.length)) := by
  refine sum_whileG mixed (fun s : List Rec × Rec => s2Sn ats now s.1 t s.1.length s.2) (s2Nx now) (Aft ats) (fun s => s.1.length) rfl s h (fun x y hx hn => ?_) (fun z hz hn he => ?_)
  · obtain ⟨h1, h2, h3⟩ := aft_next hx hn
    refine ⟨h1, by omega, ?_⟩
    unfold s2Nx at hn
    split at hn
    · cases hn
    rename_i hb
    cases hn
    obtain ⟨d1, d2⟩ := due_is (Bool.eq_false_iff.2 hb)
    obtain ⟨q1, q2, q3, q4, q5, q6⟩ := hx.1.pop d1
    have hf := hx.1.few
    have he := hx.1.each _ q2
    have ha := hx.2 _ q2
    have hle : recI (popE x.1) 0 ≤ now := by rw [q5]; exact d2
    simp only at h2 ⊢
    by_cases heq : recI (popE x.1) 0 = recI x.2 0
    · exact ⟨_, _, _, _, (s2_eq ats now x.1 _ t _ _ x.2 _ d1 d2 hx.1.all (by omega) ⟨by omega, by omega⟩ (decide_eq_false (by omega)) (decide_eq_false (by omega)) (by rw [heq]; exact beq_self_eq_true _) (decide_eq_false (by omega)) (decide_eq_false (by omega)) he.1 he.2.1 (by rw [he.2.2.1]; exact bne_self_eq_false _) (by omega) rfl rfl rfl rfl).imp fun ps h => ⟨gamS_ok put_ok due_ok, h⟩⟩
    · exact ⟨_, _, _, _, (s2_ne ats now x.1 _ t _ _ x.2 _ d1 d2 hx.1.all (by omega) ⟨by omega, by omega⟩ (decide_eq_false (by omega)) (decide_eq_false (by omega)) (beq_eq_false_iff_ne.2 heq) (decide_eq_false (by omega)) he.1 he.2.1 (by rw [he.2.2.1]; exact bne_self_eq_false _) (by omega) rfl rfl rfl rfl).imp fun ps h => ⟨gamS_ok put_ok due_ok, h⟩⟩
  · unfold s2Nx at hn
    split at hn
    · rename_i hb
      rw [← he]
      exact ⟨_, _, _, _, (s2_exit ats now z.1 t _ z.2 (noDue_iff.1 hb)).imp fun ps h => ⟨gamS_ok put_ok dueNo_ok, h⟩⟩
    · cases hn

theorem law_sorts {ats : List Int} {now : Int} (_ : ∀ x ∈ ats, InI64 x) (hl : ats.length * 8 ≤ 140737488351232) (_ : InI64 now) : ∃ Γ, GamOK Try.prog D0 Γ ∧ ∃ ds ps, runF Try.prog D0 Γ 100 Try.f3 [.one (.words .i64 ats), .one (.int .i64 false now)] ds = some (.v (.one (.bool true true)), ps) ∧ AllQ ps := by
  have hs := soL_srt ats ats.length
  have hf := hs.few
  have h1 : Aft ats (soL ats ats.length, mkE (-1) 0 [] 0) := ⟨⟨hs.heap, hs.all, hs.tw, fun r hr => by have := hs.each r hr; exact ⟨this.1, this.2.1, this.2.2.1, by omega, this.2.2.2.2⟩, hs.few⟩, fun r hr => Or.inl (by have := (hs.each r hr).2.2.2.2.1; show (-1 : Int) < _; omega)⟩
  have l1 := so_loop ats now (by omega)
  have l2 := s2_loop (now := now) (t := (soL ats ats.length).length) h1
  have hinv := goOn_inv (next := s2Nx now) (inv := Aft ats) (fun a b ha hb => (aft_next ha hb).1) (soL ats ats.length).length _ h1
  have hend := goOn_end (next := s2Nx now) (inv := Aft ats) (μ := fun s => s.1.length) (fun a b ha hb => ⟨(aft_next ha hb).1, by have := aft_next ha hb; omega⟩) (soL ats ats.length).length _ h1 (Nat.le_refl _)
  simp only at l2
  generalize goOn (s2Nx now) (soL ats ats.length).length (soL ats ats.length, mkE (-1) 0 [] 0) = z at hinv hend l2
  unfold s2Nx at hend
  split at hend
  · rename_i hb
    by_cases hz : z.1 = []
    · rw [hz] at l2
      exact ⟨_, gamS_ok put_ok dueNo_ok, _, so_none ats now _ [] _ _ 0 (mkE (-1) 0 [] 0) l1 l2 rfl rfl rfl (by decide) (Or.inl rfl) (by decide)⟩
    · have hp := List.length_pos_iff.2 hz
      have hz0 : z.1.getD 0 [] ∈ z.1 := getD_mem hp
      have he := hinv.1.each _ hz0
      have hf2 := hinv.1.few
      have hpp := hinv.1.pop hp
      have hnd := (noDue_iff.1 hb).resolve_left hz
      exact ⟨_, gamS_ok put_ok due_ok, _, so_some ats now _ z.1 _ _ _ (mkE (-1) 0 [] 0) l1 l2 rfl rfl rfl (bne_self_eq_false _) hp he.2.2.2.2.2 hinv.1.all (by omega) (decide_eq_true (by omega)) (decide_eq_true (by rw [hpp.2.2.2.2.1]; omega))⟩
  · cases hend

end Go.Num
