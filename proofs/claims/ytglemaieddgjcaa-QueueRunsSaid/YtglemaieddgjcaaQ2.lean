/- Queue: a heap's up and down. -/
import Derived.Test.YtglemaieddgjcaaQ1
import Derived.Test.YtglemaieddgjcaaLoop
namespace Go.Num
open Go.Abs Go.Proofs Go.Shelf

/-- The contracts that a heap leans on. -/
noncomputable def gamH : Gam D0 := [(44, .fn lenQ), (45, .fn lessQ), (46, .op [true, false, false] swapQ), (48, .op [true, false] pushQ), (47, .op [true] popQ)]

theorem gamH_ok : GamOK Try.prog D0 gamH := gam_cons lenQ_ok (gam_cons lessQ_ok (gam_op swap_ok (gam_op push_ok (gam_op pop_ok gam_nil))))

def hpS : Nat × AV D0.τ := (0, .v (.one (.ifr 57 0 0)))
def hpB (n : Int) (ll : List Rec) : List (Nat × BoxSt D0.τ) := [(0, .fixed 55 (quP n)), (1, rowQ ll)]

def upSn (n : Int) (ll : List Rec) (j : Int) : Sn D0.τ where
  slots := [hpS, (1, .v (.one (.int .i64 false j)))]
  boxes := hpB n ll
  nt := 23
  np := 2

def upEd (n : Int) (ll : List Rec) : Sn D0.τ where
  slots := []
  boxes := hpB n ll
  nt := 23
  np := 2

theorem up_round_r (n : Int) (ll ll' : List Rec) (j j' : Int) : stepPs Try.prog D0 gamH 100 (bodyN Try.f25 0) 100 (upSn n ll j).st [.is false, .is true] .normal (upSn n ll' j') =
    some [(Go.Abs.InI64 (j - (1 : Int))), ((2 : Int) ≠ (0 : Int)), (((Go.IntKind.wrap Go.IntKind.i64 (Int.tdiv (j - (1 : Int)) (2 : Int))) == j) = Bool.false), ((Go.Num.lessR (List.getD ll (Int.toNat j) ([] : List (Abs.Fd))) (List.getD ll (Int.toNat (Go.IntKind.wrap Go.IntKind.i64 (Int.tdiv (j - (1 : Int)) (2 : Int)))) ([] : List (Abs.Fd)))) = Bool.true), ((0 : Int) ≤ j), (j < (((List.length ll) : Nat) : Int)), ((0 : Int) ≤ (Go.IntKind.wrap Go.IntKind.i64 (Int.tdiv (j - (1 : Int)) (2 : Int)))), ((Go.IntKind.wrap Go.IntKind.i64 (Int.tdiv (j - (1 : Int)) (2 : Int))) < (((List.length ll) : Nat) : Int)), ((Go.IntKind.wrap Go.IntKind.i64 (Int.tdiv (j - (1 : Int)) (2 : Int))) = (Go.IntKind.wrap Go.IntKind.i64 (Int.tdiv (j - (1 : Int)) (2 : Int)))), (j = j), (ll = ll), ((0 : Int) ≤ (Go.IntKind.wrap Go.IntKind.i64 (Int.tdiv (j - (1 : Int)) (2 : Int)))), ((Go.IntKind.wrap Go.IntKind.i64 (Int.tdiv (j - (1 : Int)) (2 : Int))) < (((List.length ll) : Nat) : Int)), ((0 : Int) ≤ j), (j < (((List.length ll) : Nat) : Int)), (Go.Num.EnAll ll), ((Go.IntKind.wrap Go.IntKind.i64 (Int.tdiv (j - (1 : Int)) (2 : Int))) = j'), (n = n), ((Go.Num.swapL ll (Int.toNat (Go.IntKind.wrap Go.IntKind.i64 (Int.tdiv (j - (1 : Int)) (2 : Int)))) (Int.toNat j)) = ll')] := by kernel_rfl
theorem up_round (n : Int) (ll ll' : List Rec) (j j' : Int)
    (h1 : (Go.Abs.InI64 (j - (1 : Int))))
    (h2 : (((Go.IntKind.wrap Go.IntKind.i64 (Int.tdiv (j - (1 : Int)) (2 : Int))) == j) = Bool.false))
    (h3 : ((Go.Num.lessR (List.getD ll (Int.toNat j) ([] : List (Abs.Fd))) (List.getD ll (Int.toNat (Go.IntKind.wrap Go.IntKind.i64 (Int.tdiv (j - (1 : Int)) (2 : Int)))) ([] : List (Abs.Fd)))) = Bool.true))
    (h4 : ((0 : Int) ≤ j))
    (h5 : (j < (((List.length ll) : Nat) : Int)))
    (h6 : ((0 : Int) ≤ (Go.IntKind.wrap Go.IntKind.i64 (Int.tdiv (j - (1 : Int)) (2 : Int)))))
    (h7 : ((Go.IntKind.wrap Go.IntKind.i64 (Int.tdiv (j - (1 : Int)) (2 : Int))) < (((List.length ll) : Nat) : Int)))
    (h8 : (Go.Num.EnAll ll))
    (h9 : ((Go.IntKind.wrap Go.IntKind.i64 (Int.tdiv (j - (1 : Int)) (2 : Int))) = j'))
    (h10 : ((Go.Num.swapL ll (Int.toNat (Go.IntKind.wrap Go.IntKind.i64 (Int.tdiv (j - (1 : Int)) (2 : Int)))) (Int.toNat j)) = ll')) :
    ∃ ps, stepPs Try.prog D0 gamH 100 (bodyN Try.f25 0) 100 (upSn n ll j).st [.is false, .is true] .normal (upSn n ll' j') = some ps ∧ AllQ ps := ⟨_, up_round_r n ll ll' j j', AllP.all ⟨h1, (show ((2 : Int) ≠ (0 : Int)) from by decide), h2, h3, h4, h5, h6, h7, rfl, rfl, rfl, h6, h7, h4, h5, h8, h9, rfl, h10⟩⟩

theorem up_top_r (n : Int) (ll : List Rec) (j : Int) : stepPs Try.prog D0 gamH 100 (bodyN Try.f25 0) 100 (upSn n ll j).st [.is true] (.exit 0) (upEd n ll) =
    some [(Go.Abs.InI64 (j - (1 : Int))), ((2 : Int) ≠ (0 : Int)), (((Go.IntKind.wrap Go.IntKind.i64 (Int.tdiv (j - (1 : Int)) (2 : Int))) == j) = Bool.true), (n = n), (ll = ll)] := by kernel_rfl
theorem up_top (n : Int) (ll : List Rec) (j : Int)
    (h1 : (Go.Abs.InI64 (j - (1 : Int))))
    (h2 : (((Go.IntKind.wrap Go.IntKind.i64 (Int.tdiv (j - (1 : Int)) (2 : Int))) == j) = Bool.true)) :
    ∃ ps, stepPs Try.prog D0 gamH 100 (bodyN Try.f25 0) 100 (upSn n ll j).st [.is true] (.exit 0) (upEd n ll) = some ps ∧ AllQ ps := ⟨_, up_top_r n ll j, AllP.all ⟨h1, (show ((2 : Int) ≠ (0 : Int)) from by decide), h2, rfl, rfl⟩⟩

theorem up_stop_r (n : Int) (ll : List Rec) (j : Int) : stepPs Try.prog D0 gamH 100 (bodyN Try.f25 0) 100 (upSn n ll j).st [.is false, .is false] (.exit 0) (upEd n ll) =
    some [(Go.Abs.InI64 (j - (1 : Int))), ((2 : Int) ≠ (0 : Int)), (((Go.IntKind.wrap Go.IntKind.i64 (Int.tdiv (j - (1 : Int)) (2 : Int))) == j) = Bool.false), ((Go.Num.lessR (List.getD ll (Int.toNat j) ([] : List (Abs.Fd))) (List.getD ll (Int.toNat (Go.IntKind.wrap Go.IntKind.i64 (Int.tdiv (j - (1 : Int)) (2 : Int)))) ([] : List (Abs.Fd)))) = Bool.false), ((0 : Int) ≤ j), (j < (((List.length ll) : Nat) : Int)), ((0 : Int) ≤ (Go.IntKind.wrap Go.IntKind.i64 (Int.tdiv (j - (1 : Int)) (2 : Int)))), ((Go.IntKind.wrap Go.IntKind.i64 (Int.tdiv (j - (1 : Int)) (2 : Int))) < (((List.length ll) : Nat) : Int)), (n = n), (ll = ll)] := by kernel_rfl
theorem up_stop (n : Int) (ll : List Rec) (j : Int)
    (h1 : (Go.Abs.InI64 (j - (1 : Int))))
    (h2 : (((Go.IntKind.wrap Go.IntKind.i64 (Int.tdiv (j - (1 : Int)) (2 : Int))) == j) = Bool.false))
    (h3 : ((Go.Num.lessR (List.getD ll (Int.toNat j) ([] : List (Abs.Fd))) (List.getD ll (Int.toNat (Go.IntKind.wrap Go.IntKind.i64 (Int.tdiv (j - (1 : Int)) (2 : Int)))) ([] : List (Abs.Fd)))) = Bool.false))
    (h4 : ((0 : Int) ≤ j))
    (h5 : (j < (((List.length ll) : Nat) : Int)))
    (h6 : ((0 : Int) ≤ (Go.IntKind.wrap Go.IntKind.i64 (Int.tdiv (j - (1 : Int)) (2 : Int)))))
    (h7 : ((Go.IntKind.wrap Go.IntKind.i64 (Int.tdiv (j - (1 : Int)) (2 : Int))) < (((List.length ll) : Nat) : Int))) :
    ∃ ps, stepPs Try.prog D0 gamH 100 (bodyN Try.f25 0) 100 (upSn n ll j).st [.is false, .is false] (.exit 0) (upEd n ll) = some ps ∧ AllQ ps := ⟨_, up_stop_r n ll j, AllP.all ⟨h1, (show ((2 : Int) ≠ (0 : Int)) from by decide), h2, h3, h4, h5, h6, h7, rfl, rfl⟩⟩

def dnSn (n : Int) (ll : List Rec) (i0 i m : Int) : Sn D0.τ where
  slots := [hpS, (1, .v (.one (.int .i64 false i0))), (2, .v (.one (.int .i64 false m))), (6, .v (.one (.bool true false))), (7, .v (.one (.int .i64 false i)))]
  boxes := hpB n ll
  nt := 48
  np := 2
def dnEd (n : Int) (ll : List Rec) (i0 i : Int) : Sn D0.τ where
  slots := [(1, .v (.one (.int .i64 false i0))), (7, .v (.one (.int .i64 false i)))]
  boxes := hpB n ll
  nt := 48
  np := 2

theorem dn_right_r (n : Int) (ll ll' : List Rec) (i0 i i' m : Int) : stepPs Try.prog D0 gamH 100 (bodyN Try.f26 0) 100 (dnSn n ll i0 i m).st [.is false, .is false, .is true, .is true, .is true] .normal (dnSn n ll' i0 i' m) =
    some [(Go.Abs.InI64 ((2 : Int) * i)), (Go.Abs.InI64 (((2 : Int) * i) + (1 : Int))), ((decide ((((2 : Int) * i) + (1 : Int)) ≥ m)) = Bool.false), ((decide ((((2 : Int) * i) + (1 : Int)) < (0 : Int))) = Bool.false), (Go.Abs.InI64 ((((2 : Int) * i) + (1 : Int)) + (1 : Int))), ((decide (((((2 : Int) * i) + (1 : Int)) + (1 : Int)) < m)) = Bool.true), ((Go.Num.lessR (List.getD ll (Int.toNat ((((2 : Int) * i) + (1 : Int)) + (1 : Int))) ([] : List (Abs.Fd))) (List.getD ll (Int.toNat (((2 : Int) * i) + (1 : Int))) ([] : List (Abs.Fd)))) = Bool.true), ((0 : Int) ≤ ((((2 : Int) * i) + (1 : Int)) + (1 : Int))), (((((2 : Int) * i) + (1 : Int)) + (1 : Int)) < (((List.length ll) : Nat) : Int)), ((0 : Int) ≤ (((2 : Int) * i) + (1 : Int))), ((((2 : Int) * i) + (1 : Int)) < (((List.length ll) : Nat) : Int)), ((Go.Num.lessR (List.getD ll (Int.toNat ((((2 : Int) * i) + (1 : Int)) + (1 : Int))) ([] : List (Abs.Fd))) (List.getD ll (Int.toNat i) ([] : List (Abs.Fd)))) = Bool.true), ((0 : Int) ≤ ((((2 : Int) * i) + (1 : Int)) + (1 : Int))), (((((2 : Int) * i) + (1 : Int)) + (1 : Int)) < (((List.length ll) : Nat) : Int)), ((0 : Int) ≤ i), (i < (((List.length ll) : Nat) : Int)), (i = i), (((((2 : Int) * i) + (1 : Int)) + (1 : Int)) = ((((2 : Int) * i) + (1 : Int)) + (1 : Int))), (ll = ll), ((0 : Int) ≤ i), (i < (((List.length ll) : Nat) : Int)), ((0 : Int) ≤ ((((2 : Int) * i) + (1 : Int)) + (1 : Int))), (((((2 : Int) * i) + (1 : Int)) + (1 : Int)) < (((List.length ll) : Nat) : Int)), (Go.Num.EnAll ll), (i0 = i0), (m = m), (((((2 : Int) * i) + (1 : Int)) + (1 : Int)) = i'), (n = n), ((Go.Num.swapL ll (Int.toNat i) (Int.toNat ((((2 : Int) * i) + (1 : Int)) + (1 : Int)))) = ll')] := by kernel_rfl
theorem dn_right (n : Int) (ll ll' : List Rec) (i0 i i' m : Int)
    (h1 : (Go.Abs.InI64 ((2 : Int) * i)))
    (h2 : (Go.Abs.InI64 (((2 : Int) * i) + (1 : Int))))
    (h3 : ((decide ((((2 : Int) * i) + (1 : Int)) ≥ m)) = Bool.false))
    (h4 : ((decide ((((2 : Int) * i) + (1 : Int)) < (0 : Int))) = Bool.false))
    (h5 : (Go.Abs.InI64 ((((2 : Int) * i) + (1 : Int)) + (1 : Int))))
    (h6 : ((decide (((((2 : Int) * i) + (1 : Int)) + (1 : Int)) < m)) = Bool.true))
    (h7 : ((Go.Num.lessR (List.getD ll (Int.toNat ((((2 : Int) * i) + (1 : Int)) + (1 : Int))) ([] : List (Abs.Fd))) (List.getD ll (Int.toNat (((2 : Int) * i) + (1 : Int))) ([] : List (Abs.Fd)))) = Bool.true))
    (h8 : ((0 : Int) ≤ ((((2 : Int) * i) + (1 : Int)) + (1 : Int))))
    (h9 : (((((2 : Int) * i) + (1 : Int)) + (1 : Int)) < (((List.length ll) : Nat) : Int)))
    (h10 : ((0 : Int) ≤ (((2 : Int) * i) + (1 : Int))))
    (h11 : ((((2 : Int) * i) + (1 : Int)) < (((List.length ll) : Nat) : Int)))
    (h12 : ((Go.Num.lessR (List.getD ll (Int.toNat ((((2 : Int) * i) + (1 : Int)) + (1 : Int))) ([] : List (Abs.Fd))) (List.getD ll (Int.toNat i) ([] : List (Abs.Fd)))) = Bool.true))
    (h13 : ((0 : Int) ≤ i))
    (h14 : (i < (((List.length ll) : Nat) : Int)))
    (h15 : (Go.Num.EnAll ll))
    (h16 : (((((2 : Int) * i) + (1 : Int)) + (1 : Int)) = i'))
    (h17 : ((Go.Num.swapL ll (Int.toNat i) (Int.toNat ((((2 : Int) * i) + (1 : Int)) + (1 : Int)))) = ll')) :
    ∃ ps, stepPs Try.prog D0 gamH 100 (bodyN Try.f26 0) 100 (dnSn n ll i0 i m).st [.is false, .is false, .is true, .is true, .is true] .normal (dnSn n ll' i0 i' m) = some ps ∧ AllQ ps := ⟨_, dn_right_r n ll ll' i0 i i' m, AllP.all ⟨h1, h2, h3, h4, h5, h6, h7, h8, h9, h10, h11, h12, h8, h9, h13, h14, rfl, rfl, rfl, h13, h14, h8, h9, h15, rfl, rfl, h16, rfl, h17⟩⟩

theorem dn_left_r (n : Int) (ll ll' : List Rec) (i0 i i' m : Int) : stepPs Try.prog D0 gamH 100 (bodyN Try.f26 0) 100 (dnSn n ll i0 i m).st [.is false, .is false, .is true, .is false, .is true] .normal (dnSn n ll' i0 i' m) =
    some [(Go.Abs.InI64 ((2 : Int) * i)), (Go.Abs.InI64 (((2 : Int) * i) + (1 : Int))), ((decide ((((2 : Int) * i) + (1 : Int)) ≥ m)) = Bool.false), ((decide ((((2 : Int) * i) + (1 : Int)) < (0 : Int))) = Bool.false), (Go.Abs.InI64 ((((2 : Int) * i) + (1 : Int)) + (1 : Int))), ((decide (((((2 : Int) * i) + (1 : Int)) + (1 : Int)) < m)) = Bool.true), ((Go.Num.lessR (List.getD ll (Int.toNat ((((2 : Int) * i) + (1 : Int)) + (1 : Int))) ([] : List (Abs.Fd))) (List.getD ll (Int.toNat (((2 : Int) * i) + (1 : Int))) ([] : List (Abs.Fd)))) = Bool.false), ((0 : Int) ≤ ((((2 : Int) * i) + (1 : Int)) + (1 : Int))), (((((2 : Int) * i) + (1 : Int)) + (1 : Int)) < (((List.length ll) : Nat) : Int)), ((0 : Int) ≤ (((2 : Int) * i) + (1 : Int))), ((((2 : Int) * i) + (1 : Int)) < (((List.length ll) : Nat) : Int)), ((Go.Num.lessR (List.getD ll (Int.toNat (((2 : Int) * i) + (1 : Int))) ([] : List (Abs.Fd))) (List.getD ll (Int.toNat i) ([] : List (Abs.Fd)))) = Bool.true), ((0 : Int) ≤ (((2 : Int) * i) + (1 : Int))), ((((2 : Int) * i) + (1 : Int)) < (((List.length ll) : Nat) : Int)), ((0 : Int) ≤ i), (i < (((List.length ll) : Nat) : Int)), (i = i), ((((2 : Int) * i) + (1 : Int)) = (((2 : Int) * i) + (1 : Int))), (ll = ll), ((0 : Int) ≤ i), (i < (((List.length ll) : Nat) : Int)), ((0 : Int) ≤ (((2 : Int) * i) + (1 : Int))), ((((2 : Int) * i) + (1 : Int)) < (((List.length ll) : Nat) : Int)), (Go.Num.EnAll ll), (i0 = i0), (m = m), ((((2 : Int) * i) + (1 : Int)) = i'), (n = n), ((Go.Num.swapL ll (Int.toNat i) (Int.toNat (((2 : Int) * i) + (1 : Int)))) = ll')] := by kernel_rfl
theorem dn_left (n : Int) (ll ll' : List Rec) (i0 i i' m : Int)
    (h1 : (Go.Abs.InI64 ((2 : Int) * i)))
    (h2 : (Go.Abs.InI64 (((2 : Int) * i) + (1 : Int))))
    (h3 : ((decide ((((2 : Int) * i) + (1 : Int)) ≥ m)) = Bool.false))
    (h4 : ((decide ((((2 : Int) * i) + (1 : Int)) < (0 : Int))) = Bool.false))
    (h5 : (Go.Abs.InI64 ((((2 : Int) * i) + (1 : Int)) + (1 : Int))))
    (h6 : ((decide (((((2 : Int) * i) + (1 : Int)) + (1 : Int)) < m)) = Bool.true))
    (h7 : ((Go.Num.lessR (List.getD ll (Int.toNat ((((2 : Int) * i) + (1 : Int)) + (1 : Int))) ([] : List (Abs.Fd))) (List.getD ll (Int.toNat (((2 : Int) * i) + (1 : Int))) ([] : List (Abs.Fd)))) = Bool.false))
    (h8 : ((0 : Int) ≤ ((((2 : Int) * i) + (1 : Int)) + (1 : Int))))
    (h9 : (((((2 : Int) * i) + (1 : Int)) + (1 : Int)) < (((List.length ll) : Nat) : Int)))
    (h10 : ((0 : Int) ≤ (((2 : Int) * i) + (1 : Int))))
    (h11 : ((((2 : Int) * i) + (1 : Int)) < (((List.length ll) : Nat) : Int)))
    (h12 : ((Go.Num.lessR (List.getD ll (Int.toNat (((2 : Int) * i) + (1 : Int))) ([] : List (Abs.Fd))) (List.getD ll (Int.toNat i) ([] : List (Abs.Fd)))) = Bool.true))
    (h13 : ((0 : Int) ≤ i))
    (h14 : (i < (((List.length ll) : Nat) : Int)))
    (h15 : (Go.Num.EnAll ll))
    (h16 : ((((2 : Int) * i) + (1 : Int)) = i'))
    (h17 : ((Go.Num.swapL ll (Int.toNat i) (Int.toNat (((2 : Int) * i) + (1 : Int)))) = ll')) :
    ∃ ps, stepPs Try.prog D0 gamH 100 (bodyN Try.f26 0) 100 (dnSn n ll i0 i m).st [.is false, .is false, .is true, .is false, .is true] .normal (dnSn n ll' i0 i' m) = some ps ∧ AllQ ps := ⟨_, dn_left_r n ll ll' i0 i i' m, AllP.all ⟨h1, h2, h3, h4, h5, h6, h7, h8, h9, h10, h11, h12, h10, h11, h13, h14, rfl, rfl, rfl, h13, h14, h10, h11, h15, rfl, rfl, h16, rfl, h17⟩⟩

theorem dn_only_r (n : Int) (ll ll' : List Rec) (i0 i i' m : Int) : stepPs Try.prog D0 gamH 100 (bodyN Try.f26 0) 100 (dnSn n ll i0 i m).st [.is false, .is false, .is false, .is true] .normal (dnSn n ll' i0 i' m) =
    some [(Go.Abs.InI64 ((2 : Int) * i)), (Go.Abs.InI64 (((2 : Int) * i) + (1 : Int))), ((decide ((((2 : Int) * i) + (1 : Int)) ≥ m)) = Bool.false), ((decide ((((2 : Int) * i) + (1 : Int)) < (0 : Int))) = Bool.false), (Go.Abs.InI64 ((((2 : Int) * i) + (1 : Int)) + (1 : Int))), ((decide (((((2 : Int) * i) + (1 : Int)) + (1 : Int)) < m)) = Bool.false), ((Go.Num.lessR (List.getD ll (Int.toNat (((2 : Int) * i) + (1 : Int))) ([] : List (Abs.Fd))) (List.getD ll (Int.toNat i) ([] : List (Abs.Fd)))) = Bool.true), ((0 : Int) ≤ (((2 : Int) * i) + (1 : Int))), ((((2 : Int) * i) + (1 : Int)) < (((List.length ll) : Nat) : Int)), ((0 : Int) ≤ i), (i < (((List.length ll) : Nat) : Int)), (i = i), ((((2 : Int) * i) + (1 : Int)) = (((2 : Int) * i) + (1 : Int))), (ll = ll), ((0 : Int) ≤ i), (i < (((List.length ll) : Nat) : Int)), ((0 : Int) ≤ (((2 : Int) * i) + (1 : Int))), ((((2 : Int) * i) + (1 : Int)) < (((List.length ll) : Nat) : Int)), (Go.Num.EnAll ll), (i0 = i0), (m = m), ((((2 : Int) * i) + (1 : Int)) = i'), (n = n), ((Go.Num.swapL ll (Int.toNat i) (Int.toNat (((2 : Int) * i) + (1 : Int)))) = ll')] := by kernel_rfl
theorem dn_only (n : Int) (ll ll' : List Rec) (i0 i i' m : Int)
    (h1 : (Go.Abs.InI64 ((2 : Int) * i)))
    (h2 : (Go.Abs.InI64 (((2 : Int) * i) + (1 : Int))))
    (h3 : ((decide ((((2 : Int) * i) + (1 : Int)) ≥ m)) = Bool.false))
    (h4 : ((decide ((((2 : Int) * i) + (1 : Int)) < (0 : Int))) = Bool.false))
    (h5 : (Go.Abs.InI64 ((((2 : Int) * i) + (1 : Int)) + (1 : Int))))
    (h6 : ((decide (((((2 : Int) * i) + (1 : Int)) + (1 : Int)) < m)) = Bool.false))
    (h7 : ((Go.Num.lessR (List.getD ll (Int.toNat (((2 : Int) * i) + (1 : Int))) ([] : List (Abs.Fd))) (List.getD ll (Int.toNat i) ([] : List (Abs.Fd)))) = Bool.true))
    (h8 : ((0 : Int) ≤ (((2 : Int) * i) + (1 : Int))))
    (h9 : ((((2 : Int) * i) + (1 : Int)) < (((List.length ll) : Nat) : Int)))
    (h10 : ((0 : Int) ≤ i))
    (h11 : (i < (((List.length ll) : Nat) : Int)))
    (h12 : (Go.Num.EnAll ll))
    (h13 : ((((2 : Int) * i) + (1 : Int)) = i'))
    (h14 : ((Go.Num.swapL ll (Int.toNat i) (Int.toNat (((2 : Int) * i) + (1 : Int)))) = ll')) :
    ∃ ps, stepPs Try.prog D0 gamH 100 (bodyN Try.f26 0) 100 (dnSn n ll i0 i m).st [.is false, .is false, .is false, .is true] .normal (dnSn n ll' i0 i' m) = some ps ∧ AllQ ps := ⟨_, dn_only_r n ll ll' i0 i i' m, AllP.all ⟨h1, h2, h3, h4, h5, h6, h7, h8, h9, h10, h11, rfl, rfl, rfl, h10, h11, h8, h9, h12, rfl, rfl, h13, rfl, h14⟩⟩

theorem dn_leaf_r (n : Int) (ll : List Rec) (i0 i m : Int) : stepPs Try.prog D0 gamH 100 (bodyN Try.f26 0) 100 (dnSn n ll i0 i m).st [.is true] (.exit 0) (dnEd n ll i0 i) =
    some [(Go.Abs.InI64 ((2 : Int) * i)), (Go.Abs.InI64 (((2 : Int) * i) + (1 : Int))), ((decide ((((2 : Int) * i) + (1 : Int)) ≥ m)) = Bool.true), (i0 = i0), (i = i), (n = n), (ll = ll)] := by kernel_rfl
theorem dn_leaf (n : Int) (ll : List Rec) (i0 i m : Int)
    (h1 : (Go.Abs.InI64 ((2 : Int) * i)))
    (h2 : (Go.Abs.InI64 (((2 : Int) * i) + (1 : Int))))
    (h3 : ((decide ((((2 : Int) * i) + (1 : Int)) ≥ m)) = Bool.true)) :
    ∃ ps, stepPs Try.prog D0 gamH 100 (bodyN Try.f26 0) 100 (dnSn n ll i0 i m).st [.is true] (.exit 0) (dnEd n ll i0 i) = some ps ∧ AllQ ps := ⟨_, dn_leaf_r n ll i0 i m, AllP.all ⟨h1, h2, h3, rfl, rfl, rfl, rfl⟩⟩

theorem dn_rstop_r (n : Int) (ll : List Rec) (i0 i m : Int) : stepPs Try.prog D0 gamH 100 (bodyN Try.f26 0) 100 (dnSn n ll i0 i m).st [.is false, .is false, .is true, .is true, .is false] (.exit 0) (dnEd n ll i0 i) =
    some [(Go.Abs.InI64 ((2 : Int) * i)), (Go.Abs.InI64 (((2 : Int) * i) + (1 : Int))), ((decide ((((2 : Int) * i) + (1 : Int)) ≥ m)) = Bool.false), ((decide ((((2 : Int) * i) + (1 : Int)) < (0 : Int))) = Bool.false), (Go.Abs.InI64 ((((2 : Int) * i) + (1 : Int)) + (1 : Int))), ((decide (((((2 : Int) * i) + (1 : Int)) + (1 : Int)) < m)) = Bool.true), ((Go.Num.lessR (List.getD ll (Int.toNat ((((2 : Int) * i) + (1 : Int)) + (1 : Int))) ([] : List (Abs.Fd))) (List.getD ll (Int.toNat (((2 : Int) * i) + (1 : Int))) ([] : List (Abs.Fd)))) = Bool.true), ((0 : Int) ≤ ((((2 : Int) * i) + (1 : Int)) + (1 : Int))), (((((2 : Int) * i) + (1 : Int)) + (1 : Int)) < (((List.length ll) : Nat) : Int)), ((0 : Int) ≤ (((2 : Int) * i) + (1 : Int))), ((((2 : Int) * i) + (1 : Int)) < (((List.length ll) : Nat) : Int)), ((Go.Num.lessR (List.getD ll (Int.toNat ((((2 : Int) * i) + (1 : Int)) + (1 : Int))) ([] : List (Abs.Fd))) (List.getD ll (Int.toNat i) ([] : List (Abs.Fd)))) = Bool.false), ((0 : Int) ≤ ((((2 : Int) * i) + (1 : Int)) + (1 : Int))), (((((2 : Int) * i) + (1 : Int)) + (1 : Int)) < (((List.length ll) : Nat) : Int)), ((0 : Int) ≤ i), (i < (((List.length ll) : Nat) : Int)), (i0 = i0), (i = i), (n = n), (ll = ll)] := by kernel_rfl
theorem dn_rstop (n : Int) (ll : List Rec) (i0 i m : Int)
    (h1 : (Go.Abs.InI64 ((2 : Int) * i)))
    (h2 : (Go.Abs.InI64 (((2 : Int) * i) + (1 : Int))))
    (h3 : ((decide ((((2 : Int) * i) + (1 : Int)) ≥ m)) = Bool.false))
    (h4 : ((decide ((((2 : Int) * i) + (1 : Int)) < (0 : Int))) = Bool.false))
    (h5 : (Go.Abs.InI64 ((((2 : Int) * i) + (1 : Int)) + (1 : Int))))
    (h6 : ((decide (((((2 : Int) * i) + (1 : Int)) + (1 : Int)) < m)) = Bool.true))
    (h7 : ((Go.Num.lessR (List.getD ll (Int.toNat ((((2 : Int) * i) + (1 : Int)) + (1 : Int))) ([] : List (Abs.Fd))) (List.getD ll (Int.toNat (((2 : Int) * i) + (1 : Int))) ([] : List (Abs.Fd)))) = Bool.true))
    (h8 : ((0 : Int) ≤ ((((2 : Int) * i) + (1 : Int)) + (1 : Int))))
    (h9 : (((((2 : Int) * i) + (1 : Int)) + (1 : Int)) < (((List.length ll) : Nat) : Int)))
    (h10 : ((0 : Int) ≤ (((2 : Int) * i) + (1 : Int))))
    (h11 : ((((2 : Int) * i) + (1 : Int)) < (((List.length ll) : Nat) : Int)))
    (h12 : ((Go.Num.lessR (List.getD ll (Int.toNat ((((2 : Int) * i) + (1 : Int)) + (1 : Int))) ([] : List (Abs.Fd))) (List.getD ll (Int.toNat i) ([] : List (Abs.Fd)))) = Bool.false))
    (h13 : ((0 : Int) ≤ i))
    (h14 : (i < (((List.length ll) : Nat) : Int))) :
    ∃ ps, stepPs Try.prog D0 gamH 100 (bodyN Try.f26 0) 100 (dnSn n ll i0 i m).st [.is false, .is false, .is true, .is true, .is false] (.exit 0) (dnEd n ll i0 i) = some ps ∧ AllQ ps := ⟨_, dn_rstop_r n ll i0 i m, AllP.all ⟨h1, h2, h3, h4, h5, h6, h7, h8, h9, h10, h11, h12, h8, h9, h13, h14, rfl, rfl, rfl, rfl⟩⟩

theorem dn_lstop_r (n : Int) (ll : List Rec) (i0 i m : Int) : stepPs Try.prog D0 gamH 100 (bodyN Try.f26 0) 100 (dnSn n ll i0 i m).st [.is false, .is false, .is true, .is false, .is false] (.exit 0) (dnEd n ll i0 i) =
    some [(Go.Abs.InI64 ((2 : Int) * i)), (Go.Abs.InI64 (((2 : Int) * i) + (1 : Int))), ((decide ((((2 : Int) * i) + (1 : Int)) ≥ m)) = Bool.false), ((decide ((((2 : Int) * i) + (1 : Int)) < (0 : Int))) = Bool.false), (Go.Abs.InI64 ((((2 : Int) * i) + (1 : Int)) + (1 : Int))), ((decide (((((2 : Int) * i) + (1 : Int)) + (1 : Int)) < m)) = Bool.true), ((Go.Num.lessR (List.getD ll (Int.toNat ((((2 : Int) * i) + (1 : Int)) + (1 : Int))) ([] : List (Abs.Fd))) (List.getD ll (Int.toNat (((2 : Int) * i) + (1 : Int))) ([] : List (Abs.Fd)))) = Bool.false), ((0 : Int) ≤ ((((2 : Int) * i) + (1 : Int)) + (1 : Int))), (((((2 : Int) * i) + (1 : Int)) + (1 : Int)) < (((List.length ll) : Nat) : Int)), ((0 : Int) ≤ (((2 : Int) * i) + (1 : Int))), ((((2 : Int) * i) + (1 : Int)) < (((List.length ll) : Nat) : Int)), ((Go.Num.lessR (List.getD ll (Int.toNat (((2 : Int) * i) + (1 : Int))) ([] : List (Abs.Fd))) (List.getD ll (Int.toNat i) ([] : List (Abs.Fd)))) = Bool.false), ((0 : Int) ≤ (((2 : Int) * i) + (1 : Int))), ((((2 : Int) * i) + (1 : Int)) < (((List.length ll) : Nat) : Int)), ((0 : Int) ≤ i), (i < (((List.length ll) : Nat) : Int)), (i0 = i0), (i = i), (n = n), (ll = ll)] := by kernel_rfl
theorem dn_lstop (n : Int) (ll : List Rec) (i0 i m : Int)
    (h1 : (Go.Abs.InI64 ((2 : Int) * i)))
    (h2 : (Go.Abs.InI64 (((2 : Int) * i) + (1 : Int))))
    (h3 : ((decide ((((2 : Int) * i) + (1 : Int)) ≥ m)) = Bool.false))
    (h4 : ((decide ((((2 : Int) * i) + (1 : Int)) < (0 : Int))) = Bool.false))
    (h5 : (Go.Abs.InI64 ((((2 : Int) * i) + (1 : Int)) + (1 : Int))))
    (h6 : ((decide (((((2 : Int) * i) + (1 : Int)) + (1 : Int)) < m)) = Bool.true))
    (h7 : ((Go.Num.lessR (List.getD ll (Int.toNat ((((2 : Int) * i) + (1 : Int)) + (1 : Int))) ([] : List (Abs.Fd))) (List.getD ll (Int.toNat (((2 : Int) * i) + (1 : Int))) ([] : List (Abs.Fd)))) = Bool.false))
    (h8 : ((0 : Int) ≤ ((((2 : Int) * i) + (1 : Int)) + (1 : Int))))
    (h9 : (((((2 : Int) * i) + (1 : Int)) + (1 : Int)) < (((List.length ll) : Nat) : Int)))
    (h10 : ((0 : Int) ≤ (((2 : Int) * i) + (1 : Int))))
    (h11 : ((((2 : Int) * i) + (1 : Int)) < (((List.length ll) : Nat) : Int)))
    (h12 : ((Go.Num.lessR (List.getD ll (Int.toNat (((2 : Int) * i) + (1 : Int))) ([] : List (Abs.Fd))) (List.getD ll (Int.toNat i) ([] : List (Abs.Fd)))) = Bool.false))
    (h13 : ((0 : Int) ≤ i))
    (h14 : (i < (((List.length ll) : Nat) : Int))) :
    ∃ ps, stepPs Try.prog D0 gamH 100 (bodyN Try.f26 0) 100 (dnSn n ll i0 i m).st [.is false, .is false, .is true, .is false, .is false] (.exit 0) (dnEd n ll i0 i) = some ps ∧ AllQ ps := ⟨_, dn_lstop_r n ll i0 i m, AllP.all ⟨h1, h2, h3, h4, h5, h6, h7, h8, h9, h10, h11, h12, h10, h11, h13, h14, rfl, rfl, rfl, rfl⟩⟩

theorem dn_ostop_r (n : Int) (ll : List Rec) (i0 i m : Int) : stepPs Try.prog D0 gamH 100 (bodyN Try.f26 0) 100 (dnSn n ll i0 i m).st [.is false, .is false, .is false, .is false] (.exit 0) (dnEd n ll i0 i) =
    some [(Go.Abs.InI64 ((2 : Int) * i)), (Go.Abs.InI64 (((2 : Int) * i) + (1 : Int))), ((decide ((((2 : Int) * i) + (1 : Int)) ≥ m)) = Bool.false), ((decide ((((2 : Int) * i) + (1 : Int)) < (0 : Int))) = Bool.false), (Go.Abs.InI64 ((((2 : Int) * i) + (1 : Int)) + (1 : Int))), ((decide (((((2 : Int) * i) + (1 : Int)) + (1 : Int)) < m)) = Bool.false), ((Go.Num.lessR (List.getD ll (Int.toNat (((2 : Int) * i) + (1 : Int))) ([] : List (Abs.Fd))) (List.getD ll (Int.toNat i) ([] : List (Abs.Fd)))) = Bool.false), ((0 : Int) ≤ (((2 : Int) * i) + (1 : Int))), ((((2 : Int) * i) + (1 : Int)) < (((List.length ll) : Nat) : Int)), ((0 : Int) ≤ i), (i < (((List.length ll) : Nat) : Int)), (i0 = i0), (i = i), (n = n), (ll = ll)] := by kernel_rfl
theorem dn_ostop (n : Int) (ll : List Rec) (i0 i m : Int)
    (h1 : (Go.Abs.InI64 ((2 : Int) * i)))
    (h2 : (Go.Abs.InI64 (((2 : Int) * i) + (1 : Int))))
    (h3 : ((decide ((((2 : Int) * i) + (1 : Int)) ≥ m)) = Bool.false))
    (h4 : ((decide ((((2 : Int) * i) + (1 : Int)) < (0 : Int))) = Bool.false))
    (h5 : (Go.Abs.InI64 ((((2 : Int) * i) + (1 : Int)) + (1 : Int))))
    (h6 : ((decide (((((2 : Int) * i) + (1 : Int)) + (1 : Int)) < m)) = Bool.false))
    (h7 : ((Go.Num.lessR (List.getD ll (Int.toNat (((2 : Int) * i) + (1 : Int))) ([] : List (Abs.Fd))) (List.getD ll (Int.toNat i) ([] : List (Abs.Fd)))) = Bool.false))
    (h8 : ((0 : Int) ≤ (((2 : Int) * i) + (1 : Int))))
    (h9 : ((((2 : Int) * i) + (1 : Int)) < (((List.length ll) : Nat) : Int)))
    (h10 : ((0 : Int) ≤ i))
    (h11 : (i < (((List.length ll) : Nat) : Int))) :
    ∃ ps, stepPs Try.prog D0 gamH 100 (bodyN Try.f26 0) 100 (dnSn n ll i0 i m).st [.is false, .is false, .is false, .is false] (.exit 0) (dnEd n ll i0 i) = some ps ∧ AllQ ps := ⟨_, dn_ostop_r n ll i0 i m, AllP.all ⟨h1, h2, h3, h4, h5, h6, h7, h8, h9, h10, h11, rfl, rfl, rfl, rfl⟩⟩

theorem up_run_r (n : Int) (ll ll' : List Rec) (j : Int) : runO Try.prog D0 gamH 100 Try.f25 ([.fixed 55 (quP n), rowQ ll], [.one (.ifr 57 0 0), .one (.int .i64 false j)]) [.loop (loopL D0 (upSn n ll j) (.exit 0) (upEd n ll'))] (.tup []) [.fixed 55 (quP n), rowQ ll'] =
    some [SumOK Try.prog D0 (bodyN Try.f25 0) (loopL D0 (upSn n ll j) (.exit 0) (upEd n ll')), (j = j), (n = n), (ll = ll), (n = n), (ll' = ll')] := by kernel_rfl
theorem up_run (n : Int) (ll ll' : List Rec) (j : Int)
    (h1 : SumOK Try.prog D0 (bodyN Try.f25 0) (loopL D0 (upSn n ll j) (.exit 0) (upEd n ll'))) :
    ∃ ps, runO Try.prog D0 gamH 100 Try.f25 ([.fixed 55 (quP n), rowQ ll], [.one (.ifr 57 0 0), .one (.int .i64 false j)]) [.loop (loopL D0 (upSn n ll j) (.exit 0) (upEd n ll'))] (.tup []) [.fixed 55 (quP n), rowQ ll'] = some ps ∧ AllQ ps := ⟨_, up_run_r n ll ll' j, AllP.all ⟨h1, rfl, rfl, rfl, rfl, rfl⟩⟩

theorem dn_run_r (n : Int) (ll ll' : List Rec) (i0 i m : Int) : runO Try.prog D0 gamH 100 Try.f26 ([.fixed 55 (quP n), rowQ ll], [.one (.ifr 57 0 0), .one (.int .i64 false i0), .one (.int .i64 false m)]) [.loop (loopL D0 (dnSn n ll i0 i0 m) (.exit 0) (dnEd n ll' i0 i)), .keep, .keep] (.v (.one (.bool false (decide (i > i0))))) [.fixed 55 (quP n), rowQ ll'] =
    some [SumOK Try.prog D0 (bodyN Try.f26 0) (loopL D0 (dnSn n ll i0 i0 m) (.exit 0) (dnEd n ll' i0 i)), (i0 = i0), (m = m), (i0 = i0), (n = n), (ll = ll), ((decide (i > i0)) = (decide (i > i0))), (n = n), (ll' = ll')] := by kernel_rfl
theorem dn_run (n : Int) (ll ll' : List Rec) (i0 i m : Int)
    (h1 : SumOK Try.prog D0 (bodyN Try.f26 0) (loopL D0 (dnSn n ll i0 i0 m) (.exit 0) (dnEd n ll' i0 i))) :
    ∃ ps, runO Try.prog D0 gamH 100 Try.f26 ([.fixed 55 (quP n), rowQ ll], [.one (.ifr 57 0 0), .one (.int .i64 false i0), .one (.int .i64 false m)]) [.loop (loopL D0 (dnSn n ll i0 i0 m) (.exit 0) (dnEd n ll' i0 i)), .keep, .keep] (.v (.one (.bool false (decide (i > i0))))) [.fixed 55 (quP n), rowQ ll'] = some ps ∧ AllQ ps := ⟨_, dn_run_r n ll ll' i0 i m, AllP.all ⟨h1, rfl, rfl, rfl, rfl, rfl, rfl, rfl, rfl⟩⟩

def upNx (s : List Rec × Nat) : Option (List Rec × Nat) :=
  if s.2 = 0 then none else if lessR (s.1.getD s.2 []) (s.1.getD ((s.2 - 1) / 2) []) then some (swapL s.1 ((s.2 - 1) / 2) s.2, (s.2 - 1) / 2) else none
def upL (ll : List Rec) (j : Nat) : List Rec := (goOn upNx j (ll, j)).1

/-- The lesser child. -/
def kid (ll : List Rec) (m i : Nat) : Nat := if 2 * i + 2 < m ∧ lessR (ll.getD (2 * i + 2) []) (ll.getD (2 * i + 1) []) = true then 2 * i + 2 else 2 * i + 1
def dnNx (m : Nat) (s : List Rec × Nat) : Option (List Rec × Nat) :=
  if m ≤ 2 * s.2 + 1 then none else if lessR (s.1.getD (kid s.1 m s.2) []) (s.1.getD s.2 []) then some (swapL s.1 s.2 (kid s.1 m s.2), kid s.1 m s.2) else none
def dnR (ll : List Rec) (i m : Nat) : List Rec × Nat := goOn (dnNx m) (m - i) (ll, i)
def dnL (ll : List Rec) (i m : Nat) : List Rec := (dnR ll i m).1
def dnI (ll : List Rec) (i m : Nat) : Nat := (dnR ll i m).2

theorem swapL_len (ll : List Rec) (i j : Nat) : (swapL ll i j).length = ll.length := by simp [swapL]
theorem mem_set_of {α : Type} {l : List α} {i : Nat} {a b : α} (h : a ∈ l.set i b) : a ∈ l ∨ a = b := by
  rcases List.mem_or_eq_of_mem_set h with h | h
  · exact Or.inl h
  · exact Or.inr h
theorem swapL_all {ll : List Rec} (h : EnAll ll) {i j : Nat} (hi : i < ll.length) (hj : j < ll.length) : EnAll (swapL ll i j) := by
  intro r hr
  unfold swapL at hr
  rcases mem_set_of hr with hr | rfl
  · rcases mem_set_of hr with hr | rfl
    · exact h r hr
    · exact h.at hj
  · exact h.at hi

theorem tdiv2 {j : Nat} (h : 0 < j) (hj : j < 4000000) : IntKind.i64.wrap (((j : Int) - 1).tdiv 2) = (((j - 1) / 2 : Nat) : Int) := by
  have e : ((j : Int) - 1) = ((j - 1 : Nat) : Int) := by omega
  rw [e, show (2 : Int) = ((2 : Nat) : Int) from rfl, ← Int.ofNat_tdiv]
  rw [IntKind.wrap_i64]
  omega

theorem up_loop {n : Int} {ll : List Rec} {j : Nat} (hE : EnAll ll) (hj : j < ll.length) (hl : ll.length ≤ 1000000) :
    SumOK Try.prog D0 (bodyN Try.f25 0) (loopL D0 (upSn n ll j) (.exit 0) (upEd n (upL ll j))) := by
  refine sum_while gamH_ok mixed (fun s : List Rec × Nat => upSn n s.1 s.2) upNx (fun s => EnAll s.1 ∧ s.2 < s.1.length ∧ s.1.length = ll.length) (fun s => s.2) rfl (ll, j) ⟨hE, hj, rfl⟩ ?_ ?_
  · rintro ⟨l, i⟩ y ⟨h1, h2, h3⟩ hy
    simp only at h1 h2 h3
    unfold upNx at hy
    simp only at hy
    split at hy
    · cases hy
    rename_i h0
    split at hy
    · rename_i hless
      cases hy
      have hd := tdiv2 (j := i) (by omega) (by omega)
      refine ⟨⟨swapL_all h1 (by omega) h2, by rw [swapL_len]; omega, by rw [swapL_len]; exact h3⟩, by omega, ?_⟩
      exact ⟨_, _, _, up_round n l _ i _ ⟨by omega, by omega⟩ (by rw [hd, beq_eq_false_iff_ne]; omega) (by rw [hd]; exact hless) (by omega) (by omega) (by omega) (by omega) h1 hd (by rw [hd]; rfl)⟩
    · cases hy
  · rintro ⟨l, i⟩ ⟨h1, h2, h3⟩ hy hz
    simp only at h1 h2 h3
    have hz' : upL ll j = l := by unfold upL; rw [← hz]
    rw [hz']
    unfold upNx at hy
    simp only at hy
    split at hy
    · rename_i h0
      subst h0
      exact ⟨_, _, _, up_top n l 0 ⟨by decide, by decide⟩ (by decide)⟩
    rename_i h0
    split at hy
    · cases hy
    · rename_i hless
      have hd := tdiv2 (j := i) (by omega) (by omega)
      exact ⟨_, _, _, up_stop n l i ⟨by omega, by omega⟩ (by rw [hd, beq_eq_false_iff_ne]; omega) (by rw [hd]; exact Bool.eq_false_iff.2 hless) (by omega) (by omega) (by omega) (by omega)⟩

theorem kid_eq (ll : List Rec) (m i : Nat) : kid ll m i = 2 * i + 1 ∨ (kid ll m i = 2 * i + 2 ∧ 2 * i + 2 < m) := by
  unfold kid
  split
  · rename_i h
    exact Or.inr ⟨rfl, h.1⟩
  · exact Or.inl rfl

theorem dn_loop {n : Int} {ll : List Rec} {i0 m : Nat} (hE : EnAll ll) (hi : i0 < ll.length) (hm : m ≤ ll.length) (hl : ll.length ≤ 1000000) :
    SumOK Try.prog D0 (bodyN Try.f26 0) (loopL D0 (dnSn n ll i0 i0 m) (.exit 0) (dnEd n (dnR ll i0 m).1 i0 (dnR ll i0 m).2)) := by
  refine sum_while gamH_ok mixed (fun s : List Rec × Nat => dnSn n s.1 i0 s.2 m) (dnNx m) (fun s => EnAll s.1 ∧ s.2 < s.1.length ∧ s.1.length = ll.length) (fun s => m - s.2) rfl (ll, i0) ⟨hE, hi, rfl⟩ ?_ ?_
  · rintro ⟨l, i⟩ y ⟨h1, h2, h3⟩ hy
    simp only at h1 h2 h3
    unfold dnNx at hy
    simp only at hy
    split at hy
    · cases hy
    rename_i h0
    split at hy
    · rename_i hless
      cases hy
      have hk := kid_eq l m i
      have hkl : kid l m i < l.length := by omega
      refine ⟨⟨swapL_all h1 h2 hkl, by rw [swapL_len]; exact hkl, by rw [swapL_len]; exact h3⟩, by simp only; omega, ?_⟩
      by_cases hr : 2 * i + 2 < m
      · by_cases hq : lessR (l.getD (2 * i + 2) []) (l.getD (2 * i + 1) []) = true
        · have e : kid l m i = 2 * i + 2 := if_pos ⟨hr, hq⟩
          rw [e] at hless ⊢
          exact ⟨_, _, _, dn_right n l _ i0 i _ m ⟨by omega, by omega⟩ ⟨by omega, by omega⟩ (decide_eq_false (by omega)) (decide_eq_false (by omega)) ⟨by omega, by omega⟩ (decide_eq_true (by omega)) hq (by omega) (by omega) (by omega) (by omega) hless (by omega) (by omega) h1 (by omega) rfl⟩
        · have e : kid l m i = 2 * i + 1 := if_neg (fun h => hq h.2)
          rw [e] at hless ⊢
          exact ⟨_, _, _, dn_left n l _ i0 i _ m ⟨by omega, by omega⟩ ⟨by omega, by omega⟩ (decide_eq_false (by omega)) (decide_eq_false (by omega)) ⟨by omega, by omega⟩ (decide_eq_true (by omega)) (Bool.eq_false_iff.2 hq) (by omega) (by omega) (by omega) (by omega) hless (by omega) (by omega) h1 (by omega) rfl⟩
      · have e : kid l m i = 2 * i + 1 := if_neg (fun h => hr h.1)
        rw [e] at hless ⊢
        exact ⟨_, _, _, dn_only n l _ i0 i _ m ⟨by omega, by omega⟩ ⟨by omega, by omega⟩ (decide_eq_false (by omega)) (decide_eq_false (by omega)) ⟨by omega, by omega⟩ (decide_eq_false (by omega)) hless (by omega) (by omega) (by omega) (by omega) h1 (by omega) rfl⟩
    · cases hy
  · rintro ⟨l, i⟩ ⟨h1, h2, h3⟩ hy hz
    simp only at h1 h2 h3
    have hz' : dnR ll i0 m = (l, i) := by unfold dnR; rw [← hz]
    rw [hz']
    unfold dnNx at hy
    simp only at hy
    split at hy
    · exact ⟨_, _, _, dn_leaf n l i0 i m ⟨by omega, by omega⟩ ⟨by omega, by omega⟩ (decide_eq_true (by omega))⟩
    rename_i h0
    split at hy
    · cases hy
    rename_i hless
    have hless := Bool.eq_false_iff.2 hless
    by_cases hr : 2 * i + 2 < m
    · by_cases hq : lessR (l.getD (2 * i + 2) []) (l.getD (2 * i + 1) []) = true
      · have e : kid l m i = 2 * i + 2 := if_pos ⟨hr, hq⟩
        rw [e] at hless
        exact ⟨_, _, _, dn_rstop n l i0 i m ⟨by omega, by omega⟩ ⟨by omega, by omega⟩ (decide_eq_false (by omega)) (decide_eq_false (by omega)) ⟨by omega, by omega⟩ (decide_eq_true (by omega)) hq (by omega) (by omega) (by omega) (by omega) hless (by omega) (by omega)⟩
      · have e : kid l m i = 2 * i + 1 := if_neg (fun h => hq h.2)
        rw [e] at hless
        exact ⟨_, _, _, dn_lstop n l i0 i m ⟨by omega, by omega⟩ ⟨by omega, by omega⟩ (decide_eq_false (by omega)) (decide_eq_false (by omega)) ⟨by omega, by omega⟩ (decide_eq_true (by omega)) (Bool.eq_false_iff.2 hq) (by omega) (by omega) (by omega) (by omega) hless (by omega) (by omega)⟩
    · have e : kid l m i = 2 * i + 1 := if_neg (fun h => hr h.1)
      rw [e] at hless
      exact ⟨_, _, _, dn_ostop n l i0 i m ⟨by omega, by omega⟩ ⟨by omega, by omega⟩ (decide_eq_false (by omega)) (decide_eq_false (by omega)) ⟨by omega, by omega⟩ (decide_eq_false (by omega)) hless (by omega) (by omega) (by omega) (by omega)⟩

def upRd : List (BoxSt D0.τ) → List (A0 D0.τ) → Option (List Rec × Int × Int)
  | [.fixed t ps, .dyn e (.lrs sh ll)], [.one (.ifr u 0 0), .one (.int .i64 _ j)] => match ps with
    | [.own 1, .int .u64 _ n] => bif (Nat.beq t 55 && Nat.beq e 59) && (shEq sh enSh && Nat.beq u 57) then some (ll, n, j) else none
    | _ => none
  | _, _ => none
def upPre (t : List Rec × Int × Int) : List (BoxSt D0.τ) × List (A0 D0.τ) := ([.fixed 55 (quP t.2.1), rowQ t.1], [.one (.ifr 57 0 0), .one (.int .i64 false t.2.2)])
def upPost (t : List Rec × Int × Int) : Option (AV D0.τ × List (BoxSt D0.τ) × List Prop) :=
  some (.tup [], [.fixed 55 (quP t.2.1), rowQ (upL t.1 t.2.2.toNat)], [0 ≤ t.2.2, t.2.2 < t.1.length, EnAll t.1, t.1.length ≤ 1000000])
noncomputable def upQ := mkF D0 Try.f25.ntmps upRd upPre upPost

theorem up_ok : OpOK Try.prog D0 25 upQ := by
  refine opOK_mk gamH_ok mixed Try.func25 (enters_of Try.func25 (by kernel_rfl) rfl) ?_
  rintro ⟨ll, n, j⟩ r' bs' ps h hps
  simp only [upPost, Option.some.injEq, Prod.mk.injEq] at h
  obtain ⟨rfl, rfl, rfl⟩ := h
  have h1 : 0 ≤ j := hps (0 ≤ j) (by simp)
  have h2 : j < ll.length := hps (j < ll.length) (by simp)
  have h3 : EnAll ll := hps (EnAll ll) (by simp)
  have h4 : ll.length ≤ 1000000 := hps (ll.length ≤ 1000000) (by simp)
  have hl := up_loop (n := n) (j := j.toNat) h3 (by omega) h4
  rw [Int.toNat_of_nonneg h1] at hl
  exact ⟨_, _, up_run n ll _ j hl⟩

def dnRd : List (BoxSt D0.τ) → List (A0 D0.τ) → Option (List Rec × Int × Int × Int)
  | [.fixed t ps, .dyn e (.lrs sh ll)], [.one (.ifr u 0 0), .one (.int .i64 _ i), .one (.int .i64 _ m)] => match ps with
    | [.own 1, .int .u64 _ n] => bif (Nat.beq t 55 && Nat.beq e 59) && (shEq sh enSh && Nat.beq u 57) then some (ll, n, i, m) else none
    | _ => none
  | _, _ => none
def dnPre (t : List Rec × Int × Int × Int) : List (BoxSt D0.τ) × List (A0 D0.τ) := ([.fixed 55 (quP t.2.1), rowQ t.1], [.one (.ifr 57 0 0), .one (.int .i64 false t.2.2.1), .one (.int .i64 false t.2.2.2)])
def dnPost (t : List Rec × Int × Int × Int) : Option (AV D0.τ × List (BoxSt D0.τ) × List Prop) :=
  some (.v (.one (.bool false (decide ((dnI t.1 t.2.2.1.toNat t.2.2.2.toNat : Int) > t.2.2.1)))), [.fixed 55 (quP t.2.1), rowQ (dnL t.1 t.2.2.1.toNat t.2.2.2.toNat)], [0 ≤ t.2.2.1, t.2.2.1 < t.1.length, 0 ≤ t.2.2.2, t.2.2.2 ≤ t.1.length, EnAll t.1, t.1.length ≤ 1000000])
noncomputable def dnQ := mkF D0 Try.f26.ntmps dnRd dnPre dnPost

theorem dn_ok : OpOK Try.prog D0 26 dnQ := by
  refine opOK_mk gamH_ok mixed Try.func26 (enters_of Try.func26 (by kernel_rfl) rfl) ?_
  rintro ⟨ll, n, i, m⟩ r' bs' ps h hps
  simp only [dnPost, Option.some.injEq, Prod.mk.injEq] at h
  obtain ⟨rfl, rfl, rfl⟩ := h
  have h1 : 0 ≤ i := hps (0 ≤ i) (by simp)
  have h2 : i < ll.length := hps (i < ll.length) (by simp)
  have h3 : 0 ≤ m := hps (0 ≤ m) (by simp)
  have h4 : m ≤ ll.length := hps (m ≤ ll.length) (by simp)
  have h5 : EnAll ll := hps (EnAll ll) (by simp)
  have h6 : ll.length ≤ 1000000 := hps (ll.length ≤ 1000000) (by simp)
  have hl := dn_loop (n := n) (i0 := i.toNat) (m := m.toNat) h5 (by omega) (by omega) h6
  rw [Int.toNat_of_nonneg h1, Int.toNat_of_nonneg h3] at hl
  exact ⟨_, _, dn_run n ll _ i _ m hl⟩

theorem upL_inv {ll : List Rec} {j : Nat} (hE : EnAll ll) (hj : j < ll.length) : EnAll (upL ll j) ∧ (upL ll j).length = ll.length := by
  have := goOn_inv (next := upNx) (inv := fun s => EnAll s.1 ∧ s.2 < s.1.length ∧ s.1.length = ll.length) (fun a b ⟨h1, h2, h3⟩ hb => by
    unfold upNx at hb
    split at hb
    · cases hb
    split at hb
    · cases hb
      exact ⟨swapL_all h1 (by omega) h2, by rw [swapL_len]; omega, by rw [swapL_len]; exact h3⟩
    · cases hb) j (ll, j) ⟨hE, hj, rfl⟩
  exact ⟨this.1, this.2.2⟩

theorem dnL_inv {ll : List Rec} {i m : Nat} (hE : EnAll ll) (hi : i < ll.length) (hm : m ≤ ll.length) : EnAll (dnL ll i m) ∧ (dnL ll i m).length = ll.length := by
  have := goOn_inv (next := dnNx m) (inv := fun s => EnAll s.1 ∧ s.2 < s.1.length ∧ s.1.length = ll.length) (fun a b ⟨h1, h2, h3⟩ hb => by
    unfold dnNx at hb
    split at hb
    · cases hb
    split at hb
    · cases hb
      have hk := kid_eq a.1 m a.2
      exact ⟨swapL_all h1 h2 (by omega), by rw [swapL_len]; simp only; omega, by rw [swapL_len]; exact h3⟩
    · cases hb) (m - i) (ll, i) ⟨hE, hi, rfl⟩
  exact ⟨this.1, this.2.2⟩

end Go.Num
