/- Queue: QueueRuns: the runs. -/
import Derived.Test.YtglemaieddgjcaaQ11
namespace Go.Num
open Go.Abs Go.Proofs Go.Shelf

/-- A step of a script: what, for whom or when, an event. -/
abbrev opSh : List FK := [.int .i64, .int .i64, .int .i64, .int .i64, .words .u8]

noncomputable def gamV (rput put rdue due forg : Op4) : Gam D0 := [(7, .fn headQ), (8, .op [] newQ), (12, .fn (copyD D0)), (13, .op [true, false] rput), (9, .op [true, false] put), (14, .op [true, false] rdue), (10, .op [true, false] due), (15, .fn saQ), (16, .op [true, false] refForgetQ), (17, .op [true, false] forg), (11, .op [true] qlenQ)]
theorem gamV_ok {rput put rdue due forg : Op4} (h1 : OpOK Try.prog D0 13 rput) (h2 : OpOK Try.prog D0 9 put) (h3 : OpOK Try.prog D0 14 rdue) (h4 : OpOK Try.prog D0 10 due) (h5 : OpOK Try.prog D0 17 forg) : GamOK Try.prog D0 (gamV rput put rdue due forg) :=
  gam_cons head_ok (gam_op new_ok (gam_cons (copy_ok D0) (gam_op h1 (gam_op h2 (gam_op h3 (gam_op h4 (gam_cons sa_ok (gam_op refForget_ok (gam_op h5 (gam_op qlen_ok gam_nil))))))))))

def qrS (sc : List Rec) (i : Int) : List (Nat × AV D0.τ) := [(0, .v (.one (.prs opSh sc))), (3, .v (.one (.ref 0 0))), (4, .v (.one (.own 2))), (5, .v (.one (.int .i64 false i)))]
def qrB (ll : List Rec) (n : Int) (m : List Rec) : List (Nat × BoxSt D0.τ) := [(0, .fixed 55 (quP n)), (1, rowQ ll), (2, rowE m)]
def qrSn (sc ll : List Rec) (n : Int) (m : List Rec) (i : Int) : Sn D0.τ where
  slots := qrS sc i
  boxes := qrB ll n m
  nt := 114
def qrEd : Sn D0.τ where
  slots := []
  boxes := []
  nt := 114

def qxSn (sc ll : List Rec) (n : Int) (m : List Rec) (i a b : Int) (l : List Int) (j : Int) : Sn D0.τ where
  slots := qrS sc i ++ [(7, .v (.one (.ref 3 0))), (60, .v (.one (.int .i64 false l.length))), (61, .v (.one (.int .i64 false j)))]
  boxes := qrB ll n m ++ [(3, .fixed 30 [.int .i64 false a, .int .i64 false b, .own 4]), (4, .dyn 5 (.ints .u8 l))]
  nt := 114

theorem qx_round_r (sc ll : List Rec) (n : Int) (m : List Rec) (i a b : Int) (l l' : List Int) (j j' : Int) : stepPs Try.prog D0 [] 100 (bodyN Try.f4 1) 100 (qxSn sc ll n m i a b l j).st [.is true] .normal (qxSn sc ll n m i a b l' j') =
    some [((decide (j < (((List.length l) : Nat) : Int))) = Bool.true), ((0 : Int) ≤ j), (j < (((List.length l) : Nat) : Int)), ((Int.toNat j) < (List.length l)), ((0 : Int) ≤ j), (j < (((List.length l) : Nat) : Int)), ((Int.toNat j) < (List.length l)), ((some (1 : Nat)) = (some (1 : Nat))), (Go.Abs.InI64 (j + (1 : Int))), (sc = sc), (i = i), ((((List.length l) : Nat) : Int) = (((List.length l') : Nat) : Int)), ((j + (1 : Int)) = j'), (n = n), (ll = ll), (m = m), (a = a), (b = b), ((List.set l (Int.toNat j) (Go.Abs.bitsOf Go.BinOp.xor Go.IntKind.u8 (List.getD l (Int.toNat j) (0 : Int)) (255 : Int))) = l')] := by kernel_rfl
theorem qx_round (sc ll : List Rec) (n : Int) (m : List Rec) (i a b : Int) (l l' : List Int) (j j' : Int)
    (h1 : ((decide (j < (((List.length l) : Nat) : Int))) = Bool.true))
    (h2 : ((0 : Int) ≤ j))
    (h3 : (j < (((List.length l) : Nat) : Int)))
    (h4 : ((Int.toNat j) < (List.length l)))
    (h5 : (Go.Abs.InI64 (j + (1 : Int))))
    (h6 : ((((List.length l) : Nat) : Int) = (((List.length l') : Nat) : Int)))
    (h7 : ((j + (1 : Int)) = j'))
    (h8 : ((List.set l (Int.toNat j) (Go.Abs.bitsOf Go.BinOp.xor Go.IntKind.u8 (List.getD l (Int.toNat j) (0 : Int)) (255 : Int))) = l')) :
    ∃ ps, stepPs Try.prog D0 [] 100 (bodyN Try.f4 1) 100 (qxSn sc ll n m i a b l j).st [.is true] .normal (qxSn sc ll n m i a b l' j') = some ps ∧ AllQ ps := ⟨_, qx_round_r sc ll n m i a b l l' j j', AllP.all ⟨h1, h2, h3, h4, h2, h3, h4, rfl, h5, rfl, rfl, h6, h7, rfl, rfl, rfl, rfl, rfl, h8⟩⟩

theorem qx_exit_r (sc ll : List Rec) (n : Int) (m : List Rec) (i a b : Int) (l : List Int) (j : Int) : stepPs Try.prog D0 [] 100 (bodyN Try.f4 1) 100 (qxSn sc ll n m i a b l j).st [.is false] (.exit 3) (qrSn sc ll n m i) =
    some [((decide (j < (((List.length l) : Nat) : Int))) = Bool.false), (sc = sc), (i = i), (n = n), (ll = ll), (m = m)] := by kernel_rfl
theorem qx_exit (sc ll : List Rec) (n : Int) (m : List Rec) (i a b : Int) (l : List Int) (j : Int)
    (h1 : ((decide (j < (((List.length l) : Nat) : Int))) = Bool.false)) :
    ∃ ps, stepPs Try.prog D0 [] 100 (bodyN Try.f4 1) 100 (qxSn sc ll n m i a b l j).st [.is false] (.exit 3) (qrSn sc ll n m i) = some ps ∧ AllQ ps := ⟨_, qx_exit_r sc ll n m i a b l j, AllP.all ⟨h1, rfl, rfl, rfl, rfl, rfl⟩⟩

theorem qr_end_r (sc ll : List Rec) (n : Int) (m : List Rec) (i : Int) : stepPs Try.prog D0 [] 100 (bodyN Try.f4 0) 100 (qrSn sc ll n m i).st [.is false] (.exit 0) qrEd =
    some [((decide (i < (((List.length sc) : Nat) : Int))) = Bool.false)] := by kernel_rfl
theorem qr_end (sc ll : List Rec) (n : Int) (m : List Rec) (i : Int)
    (h1 : ((decide (i < (((List.length sc) : Nat) : Int))) = Bool.false)) :
    ∃ ps, stepPs Try.prog D0 [] 100 (bodyN Try.f4 0) 100 (qrSn sc ll n m i).st [.is false] (.exit 0) qrEd = some ps ∧ AllQ ps := ⟨_, qr_end_r sc ll n m i, AllP.all h1⟩

theorem qr_end2_r (sc ll : List Rec) (n : Int) (m : List Rec) (i : Int) : stepPs Try.prog D0 [] 100 (bodyN Try.f4 0) 100 (qrSn sc ll n m i).st [.is true, .is false] (.exit 0) qrEd =
    some [((decide (i < (((List.length sc) : Nat) : Int))) = Bool.true), ((decide (i < (200 : Int))) = Bool.false)] := by kernel_rfl
theorem qr_end2 (sc ll : List Rec) (n : Int) (m : List Rec) (i : Int)
    (h1 : ((decide (i < (((List.length sc) : Nat) : Int))) = Bool.true))
    (h2 : ((decide (i < (200 : Int))) = Bool.false)) :
    ∃ ps, stepPs Try.prog D0 [] 100 (bodyN Try.f4 0) 100 (qrSn sc ll n m i).st [.is true, .is false] (.exit 0) qrEd = some ps ∧ AllQ ps := ⟨_, qr_end2_r sc ll n m i, AllP.all ⟨h1, h2⟩⟩

theorem qr_put_r (sc ll ll' : List Rec) (n n' : Int) (m m' : List Rec) (i i' a b : Int) (l : List Int) : stepPs Try.prog D0 (gamV refPutQ putQ refDueNoQ dueNoQ forgetNoQ) 100 (bodyN Try.f4 0) 100 (qrSn sc ll n m i).st [.is true, .is true, .is true, .loop (loopL D0 (qxSn sc ll' n' m' i a b l (0 : Nat)) (.exit 3) (qrSn sc ll' n' m' i)), .is false] .normal (qrSn sc ll' n' m' i') =
    some [((decide (i < (((List.length sc) : Nat) : Int))) = Bool.true), ((decide (i < (200 : Int))) = Bool.true), ((0 : Int) ≤ i), (i < (((List.length sc) : Nat) : Int)), (((Go.Abs.recI (List.getD sc (Int.toNat i) ([] : List (Abs.Fd))) (0 : Nat)) == (0 : Int)) = Bool.true), ((List.length (Go.Abs.recW (List.getD sc (Int.toNat i) ([] : List (Abs.Fd))) (((((0 : Nat) + (1 : Nat)) + (1 : Nat)) + (1 : Nat)) + (1 : Nat)))) ≤ (281474976710656 : Nat)), ((Go.Abs.recI (List.getD sc (Int.toNat i) ([] : List (Abs.Fd))) (((0 : Nat) + (1 : Nat)) + (1 : Nat))) = (Go.Abs.recI (List.getD sc (Int.toNat i) ([] : List (Abs.Fd))) (((0 : Nat) + (1 : Nat)) + (1 : Nat)))), ((Go.Abs.recI (List.getD sc (Int.toNat i) ([] : List (Abs.Fd))) ((((0 : Nat) + (1 : Nat)) + (1 : Nat)) + (1 : Nat))) = (Go.Abs.recI (List.getD sc (Int.toNat i) ([] : List (Abs.Fd))) ((((0 : Nat) + (1 : Nat)) + (1 : Nat)) + (1 : Nat)))), ((Go.Abs.recW (List.getD sc (Int.toNat i) ([] : List (Abs.Fd))) (((((0 : Nat) + (1 : Nat)) + (1 : Nat)) + (1 : Nat)) + (1 : Nat))) = (Go.Abs.recW (List.getD sc (Int.toNat i) ([] : List (Abs.Fd))) (((((0 : Nat) + (1 : Nat)) + (1 : Nat)) + (1 : Nat)) + (1 : Nat)))), (m = m), (Go.Num.okA (Go.Abs.recI (List.getD sc (Int.toNat i) ([] : List (Abs.Fd))) (((0 : Nat) + (1 : Nat)) + (1 : Nat))) m), ((List.length (Go.Abs.recW (List.getD sc (Int.toNat i) ([] : List (Abs.Fd))) (((((0 : Nat) + (1 : Nat)) + (1 : Nat)) + (1 : Nat)) + (1 : Nat)))) ≤ (140737488355328 : Nat)), ((Go.Abs.recI (List.getD sc (Int.toNat i) ([] : List (Abs.Fd))) (((0 : Nat) + (1 : Nat)) + (1 : Nat))) = (Go.Abs.recI (List.getD sc (Int.toNat i) ([] : List (Abs.Fd))) (((0 : Nat) + (1 : Nat)) + (1 : Nat)))), ((Go.Abs.recI (List.getD sc (Int.toNat i) ([] : List (Abs.Fd))) ((((0 : Nat) + (1 : Nat)) + (1 : Nat)) + (1 : Nat))) = (Go.Abs.recI (List.getD sc (Int.toNat i) ([] : List (Abs.Fd))) ((((0 : Nat) + (1 : Nat)) + (1 : Nat)) + (1 : Nat)))), ((Go.Abs.recW (List.getD sc (Int.toNat i) ([] : List (Abs.Fd))) (((((0 : Nat) + (1 : Nat)) + (1 : Nat)) + (1 : Nat)) + (1 : Nat))) = (Go.Abs.recW (List.getD sc (Int.toNat i) ([] : List (Abs.Fd))) (((((0 : Nat) + (1 : Nat)) + (1 : Nat)) + (1 : Nat)) + (1 : Nat)))), (n = n), (ll = ll), ((0 : Int) ≤ (Go.Abs.recI (List.getD sc (Int.toNat i) ([] : List (Abs.Fd))) (((0 : Nat) + (1 : Nat)) + (1 : Nat)))), ((Go.Abs.recI (List.getD sc (Int.toNat i) ([] : List (Abs.Fd))) (((0 : Nat) + (1 : Nat)) + (1 : Nat))) ≤ (1099511627776 : Int)), ((List.length ll) < (4096 : Nat)), ((List.length (Go.Abs.recW (List.getD sc (Int.toNat i) ([] : List (Abs.Fd))) (((((0 : Nat) + (1 : Nat)) + (1 : Nat)) + (1 : Nat)) + (1 : Nat)))) ≤ (140737488355328 : Nat)), (Go.Num.EnAll ll), SumOK Try.prog D0 (bodyN Try.f4 1) (loopL D0 (qxSn sc ll' n' m' i a b l (0 : Nat)) (.exit 3) (qrSn sc ll' n' m' i)), (sc = sc), (i = i), ((((List.length (Go.Abs.recW (List.getD sc (Int.toNat i) ([] : List (Abs.Fd))) (((((0 : Nat) + (1 : Nat)) + (1 : Nat)) + (1 : Nat)) + (1 : Nat)))) : Nat) : Int) = (((List.length l) : Nat) : Int)), ((0 : Int) = (((0 : Nat) : Nat) : Int)), ((Go.IntKind.wrap Go.IntKind.u64 (n + (1 : Int))) = n'), ((Go.Num.pushL ll (Go.Num.mkE (Go.Abs.recI (List.getD sc (Int.toNat i) ([] : List (Abs.Fd))) (((0 : Nat) + (1 : Nat)) + (1 : Nat))) (Go.Abs.recI (List.getD sc (Int.toNat i) ([] : List (Abs.Fd))) ((((0 : Nat) + (1 : Nat)) + (1 : Nat)) + (1 : Nat))) (Go.Abs.recW (List.getD sc (Int.toNat i) ([] : List (Abs.Fd))) (((((0 : Nat) + (1 : Nat)) + (1 : Nat)) + (1 : Nat)) + (1 : Nat))) n)) = ll'), ((m ++ ((Go.Num.mkV (Go.Abs.recI (List.getD sc (Int.toNat i) ([] : List (Abs.Fd))) (((0 : Nat) + (1 : Nat)) + (1 : Nat))) (Go.Abs.recI (List.getD sc (Int.toNat i) ([] : List (Abs.Fd))) ((((0 : Nat) + (1 : Nat)) + (1 : Nat)) + (1 : Nat))) (Go.Abs.recW (List.getD sc (Int.toNat i) ([] : List (Abs.Fd))) (((((0 : Nat) + (1 : Nat)) + (1 : Nat)) + (1 : Nat)) + (1 : Nat)))) :: ([] : List (Rec)))) = m'), ((Go.Abs.recI (List.getD sc (Int.toNat i) ([] : List (Abs.Fd))) (((0 : Nat) + (1 : Nat)) + (1 : Nat))) = a), ((Go.Abs.recI (List.getD sc (Int.toNat i) ([] : List (Abs.Fd))) ((((0 : Nat) + (1 : Nat)) + (1 : Nat)) + (1 : Nat))) = b), ((Go.Abs.recW (List.getD sc (Int.toNat i) ([] : List (Abs.Fd))) (((((0 : Nat) + (1 : Nat)) + (1 : Nat)) + (1 : Nat)) + (1 : Nat))) = l), (n' = n'), (ll' = ll'), (((((List.length ll') : Nat) : Int) != (((List.length m') : Nat) : Int)) = Bool.false), (Go.Abs.InI64 (i + (1 : Int))), (sc = sc), ((i + (1 : Int)) = i'), (n' = n'), (ll' = ll'), (m' = m')] := by kernel_rfl
theorem qr_put (sc ll ll' : List Rec) (n n' : Int) (m m' : List Rec) (i i' a b : Int) (l : List Int)
    (h1 : ((decide (i < (((List.length sc) : Nat) : Int))) = Bool.true))
    (h2 : ((decide (i < (200 : Int))) = Bool.true))
    (h3 : ((0 : Int) ≤ i))
    (h4 : (i < (((List.length sc) : Nat) : Int)))
    (h5 : (((Go.Abs.recI (List.getD sc (Int.toNat i) ([] : List (Abs.Fd))) (0 : Nat)) == (0 : Int)) = Bool.true))
    (h6 : ((List.length (Go.Abs.recW (List.getD sc (Int.toNat i) ([] : List (Abs.Fd))) (((((0 : Nat) + (1 : Nat)) + (1 : Nat)) + (1 : Nat)) + (1 : Nat)))) ≤ (281474976710656 : Nat)))
    (h7 : (Go.Num.okA (Go.Abs.recI (List.getD sc (Int.toNat i) ([] : List (Abs.Fd))) (((0 : Nat) + (1 : Nat)) + (1 : Nat))) m))
    (h8 : ((List.length (Go.Abs.recW (List.getD sc (Int.toNat i) ([] : List (Abs.Fd))) (((((0 : Nat) + (1 : Nat)) + (1 : Nat)) + (1 : Nat)) + (1 : Nat)))) ≤ (140737488355328 : Nat)))
    (h9 : ((0 : Int) ≤ (Go.Abs.recI (List.getD sc (Int.toNat i) ([] : List (Abs.Fd))) (((0 : Nat) + (1 : Nat)) + (1 : Nat)))))
    (h10 : ((Go.Abs.recI (List.getD sc (Int.toNat i) ([] : List (Abs.Fd))) (((0 : Nat) + (1 : Nat)) + (1 : Nat))) ≤ (1099511627776 : Int)))
    (h11 : ((List.length ll) < (4096 : Nat)))
    (h12 : (Go.Num.EnAll ll))
    (h13 : SumOK Try.prog D0 (bodyN Try.f4 1) (loopL D0 (qxSn sc ll' n' m' i a b l (0 : Nat)) (.exit 3) (qrSn sc ll' n' m' i)))
    (h14 : ((((List.length (Go.Abs.recW (List.getD sc (Int.toNat i) ([] : List (Abs.Fd))) (((((0 : Nat) + (1 : Nat)) + (1 : Nat)) + (1 : Nat)) + (1 : Nat)))) : Nat) : Int) = (((List.length l) : Nat) : Int)))
    (h15 : ((Go.IntKind.wrap Go.IntKind.u64 (n + (1 : Int))) = n'))
    (h16 : ((Go.Num.pushL ll (Go.Num.mkE (Go.Abs.recI (List.getD sc (Int.toNat i) ([] : List (Abs.Fd))) (((0 : Nat) + (1 : Nat)) + (1 : Nat))) (Go.Abs.recI (List.getD sc (Int.toNat i) ([] : List (Abs.Fd))) ((((0 : Nat) + (1 : Nat)) + (1 : Nat)) + (1 : Nat))) (Go.Abs.recW (List.getD sc (Int.toNat i) ([] : List (Abs.Fd))) (((((0 : Nat) + (1 : Nat)) + (1 : Nat)) + (1 : Nat)) + (1 : Nat))) n)) = ll'))
    (h17 : ((m ++ ((Go.Num.mkV (Go.Abs.recI (List.getD sc (Int.toNat i) ([] : List (Abs.Fd))) (((0 : Nat) + (1 : Nat)) + (1 : Nat))) (Go.Abs.recI (List.getD sc (Int.toNat i) ([] : List (Abs.Fd))) ((((0 : Nat) + (1 : Nat)) + (1 : Nat)) + (1 : Nat))) (Go.Abs.recW (List.getD sc (Int.toNat i) ([] : List (Abs.Fd))) (((((0 : Nat) + (1 : Nat)) + (1 : Nat)) + (1 : Nat)) + (1 : Nat)))) :: ([] : List (Rec)))) = m'))
    (h18 : ((Go.Abs.recI (List.getD sc (Int.toNat i) ([] : List (Abs.Fd))) (((0 : Nat) + (1 : Nat)) + (1 : Nat))) = a))
    (h19 : ((Go.Abs.recI (List.getD sc (Int.toNat i) ([] : List (Abs.Fd))) ((((0 : Nat) + (1 : Nat)) + (1 : Nat)) + (1 : Nat))) = b))
    (h20 : ((Go.Abs.recW (List.getD sc (Int.toNat i) ([] : List (Abs.Fd))) (((((0 : Nat) + (1 : Nat)) + (1 : Nat)) + (1 : Nat)) + (1 : Nat))) = l))
    (h21 : (((((List.length ll') : Nat) : Int) != (((List.length m') : Nat) : Int)) = Bool.false))
    (h22 : (Go.Abs.InI64 (i + (1 : Int))))
    (h23 : ((i + (1 : Int)) = i')) :
    ∃ ps, stepPs Try.prog D0 (gamV refPutQ putQ refDueNoQ dueNoQ forgetNoQ) 100 (bodyN Try.f4 0) 100 (qrSn sc ll n m i).st [.is true, .is true, .is true, .loop (loopL D0 (qxSn sc ll' n' m' i a b l (0 : Nat)) (.exit 3) (qrSn sc ll' n' m' i)), .is false] .normal (qrSn sc ll' n' m' i') = some ps ∧ AllQ ps := ⟨_, qr_put_r sc ll ll' n n' m m' i i' a b l, AllP.all ⟨h1, h2, h3, h4, h5, h6, rfl, rfl, rfl, rfl, h7, h8, rfl, rfl, rfl, rfl, rfl, h9, h10, h11, h8, h12, h13, rfl, rfl, h14, (show ((0 : Int) = (((0 : Nat) : Nat) : Int)) from by decide), h15, h16, h17, h18, h19, h20, rfl, rfl, h21, h22, rfl, h23, rfl, rfl, rfl⟩⟩

theorem qr_putno_r (sc ll ll' : List Rec) (n n' : Int) (m m' : List Rec) (i i' a b : Int) (l : List Int) : stepPs Try.prog D0 (gamV refPutNoQ putNoQ refDueNoQ dueNoQ forgetNoQ) 100 (bodyN Try.f4 0) 100 (qrSn sc ll n m i).st [.is true, .is true, .is true, .is false, .loop (loopL D0 (qxSn sc ll' n' m' i a b l (0 : Nat)) (.exit 3) (qrSn sc ll' n' m' i)), .is false] .normal (qrSn sc ll' n' m' i') =
    some [((decide (i < (((List.length sc) : Nat) : Int))) = Bool.true), ((decide (i < (200 : Int))) = Bool.true), ((0 : Int) ≤ i), (i < (((List.length sc) : Nat) : Int)), (((Go.Abs.recI (List.getD sc (Int.toNat i) ([] : List (Abs.Fd))) (0 : Nat)) == (0 : Int)) = Bool.true), ((List.length (Go.Abs.recW (List.getD sc (Int.toNat i) ([] : List (Abs.Fd))) (((((0 : Nat) + (1 : Nat)) + (1 : Nat)) + (1 : Nat)) + (1 : Nat)))) ≤ (281474976710656 : Nat)), ((Go.Abs.recI (List.getD sc (Int.toNat i) ([] : List (Abs.Fd))) (((0 : Nat) + (1 : Nat)) + (1 : Nat))) = (Go.Abs.recI (List.getD sc (Int.toNat i) ([] : List (Abs.Fd))) (((0 : Nat) + (1 : Nat)) + (1 : Nat)))), ((Go.Abs.recI (List.getD sc (Int.toNat i) ([] : List (Abs.Fd))) ((((0 : Nat) + (1 : Nat)) + (1 : Nat)) + (1 : Nat))) = (Go.Abs.recI (List.getD sc (Int.toNat i) ([] : List (Abs.Fd))) ((((0 : Nat) + (1 : Nat)) + (1 : Nat)) + (1 : Nat)))), ((Go.Abs.recW (List.getD sc (Int.toNat i) ([] : List (Abs.Fd))) (((((0 : Nat) + (1 : Nat)) + (1 : Nat)) + (1 : Nat)) + (1 : Nat))) = (Go.Abs.recW (List.getD sc (Int.toNat i) ([] : List (Abs.Fd))) (((((0 : Nat) + (1 : Nat)) + (1 : Nat)) + (1 : Nat)) + (1 : Nat)))), (m = m), (¬ (Go.Num.okA (Go.Abs.recI (List.getD sc (Int.toNat i) ([] : List (Abs.Fd))) (((0 : Nat) + (1 : Nat)) + (1 : Nat))) m)), ((Go.Abs.recI (List.getD sc (Int.toNat i) ([] : List (Abs.Fd))) (((0 : Nat) + (1 : Nat)) + (1 : Nat))) = (Go.Abs.recI (List.getD sc (Int.toNat i) ([] : List (Abs.Fd))) (((0 : Nat) + (1 : Nat)) + (1 : Nat)))), ((Go.Abs.recI (List.getD sc (Int.toNat i) ([] : List (Abs.Fd))) ((((0 : Nat) + (1 : Nat)) + (1 : Nat)) + (1 : Nat))) = (Go.Abs.recI (List.getD sc (Int.toNat i) ([] : List (Abs.Fd))) ((((0 : Nat) + (1 : Nat)) + (1 : Nat)) + (1 : Nat)))), ((Go.Abs.recW (List.getD sc (Int.toNat i) ([] : List (Abs.Fd))) (((((0 : Nat) + (1 : Nat)) + (1 : Nat)) + (1 : Nat)) + (1 : Nat))) = (Go.Abs.recW (List.getD sc (Int.toNat i) ([] : List (Abs.Fd))) (((((0 : Nat) + (1 : Nat)) + (1 : Nat)) + (1 : Nat)) + (1 : Nat)))), (n = n), (ll = ll), (¬ ((((0 : Int) ≤ (Go.Abs.recI (List.getD sc (Int.toNat i) ([] : List (Abs.Fd))) (((0 : Nat) + (1 : Nat)) + (1 : Nat)))) ∧ ((Go.Abs.recI (List.getD sc (Int.toNat i) ([] : List (Abs.Fd))) (((0 : Nat) + (1 : Nat)) + (1 : Nat))) ≤ (1099511627776 : Int))) ∧ ((List.length ll) < (4096 : Nat)))), (((Go.Num.ptErr (Go.Abs.recI (List.getD sc (Int.toNat i) ([] : List (Abs.Fd))) (((0 : Nat) + (1 : Nat)) + (1 : Nat))) (List.length ll)) != (Go.Num.ptErr (Go.Abs.recI (List.getD sc (Int.toNat i) ([] : List (Abs.Fd))) (((0 : Nat) + (1 : Nat)) + (1 : Nat))) (List.length m))) = Bool.false), SumOK Try.prog D0 (bodyN Try.f4 1) (loopL D0 (qxSn sc ll' n' m' i a b l (0 : Nat)) (.exit 3) (qrSn sc ll' n' m' i)), (sc = sc), (i = i), ((((List.length (Go.Abs.recW (List.getD sc (Int.toNat i) ([] : List (Abs.Fd))) (((((0 : Nat) + (1 : Nat)) + (1 : Nat)) + (1 : Nat)) + (1 : Nat)))) : Nat) : Int) = (((List.length l) : Nat) : Int)), ((0 : Int) = (((0 : Nat) : Nat) : Int)), (n = n'), (ll = ll'), (m = m'), ((Go.Abs.recI (List.getD sc (Int.toNat i) ([] : List (Abs.Fd))) (((0 : Nat) + (1 : Nat)) + (1 : Nat))) = a), ((Go.Abs.recI (List.getD sc (Int.toNat i) ([] : List (Abs.Fd))) ((((0 : Nat) + (1 : Nat)) + (1 : Nat)) + (1 : Nat))) = b), ((Go.Abs.recW (List.getD sc (Int.toNat i) ([] : List (Abs.Fd))) (((((0 : Nat) + (1 : Nat)) + (1 : Nat)) + (1 : Nat)) + (1 : Nat))) = l), (n' = n'), (ll' = ll'), (((((List.length ll') : Nat) : Int) != (((List.length m') : Nat) : Int)) = Bool.false), (Go.Abs.InI64 (i + (1 : Int))), (sc = sc), ((i + (1 : Int)) = i'), (n' = n'), (ll' = ll'), (m' = m')] := by kernel_rfl
theorem qr_putno (sc ll ll' : List Rec) (n n' : Int) (m m' : List Rec) (i i' a b : Int) (l : List Int)
    (h1 : ((decide (i < (((List.length sc) : Nat) : Int))) = Bool.true))
    (h2 : ((decide (i < (200 : Int))) = Bool.true))
    (h3 : ((0 : Int) ≤ i))
    (h4 : (i < (((List.length sc) : Nat) : Int)))
    (h5 : (((Go.Abs.recI (List.getD sc (Int.toNat i) ([] : List (Abs.Fd))) (0 : Nat)) == (0 : Int)) = Bool.true))
    (h6 : ((List.length (Go.Abs.recW (List.getD sc (Int.toNat i) ([] : List (Abs.Fd))) (((((0 : Nat) + (1 : Nat)) + (1 : Nat)) + (1 : Nat)) + (1 : Nat)))) ≤ (281474976710656 : Nat)))
    (h7 : (¬ (Go.Num.okA (Go.Abs.recI (List.getD sc (Int.toNat i) ([] : List (Abs.Fd))) (((0 : Nat) + (1 : Nat)) + (1 : Nat))) m)))
    (h8 : (¬ ((((0 : Int) ≤ (Go.Abs.recI (List.getD sc (Int.toNat i) ([] : List (Abs.Fd))) (((0 : Nat) + (1 : Nat)) + (1 : Nat)))) ∧ ((Go.Abs.recI (List.getD sc (Int.toNat i) ([] : List (Abs.Fd))) (((0 : Nat) + (1 : Nat)) + (1 : Nat))) ≤ (1099511627776 : Int))) ∧ ((List.length ll) < (4096 : Nat)))))
    (h9 : (((Go.Num.ptErr (Go.Abs.recI (List.getD sc (Int.toNat i) ([] : List (Abs.Fd))) (((0 : Nat) + (1 : Nat)) + (1 : Nat))) (List.length ll)) != (Go.Num.ptErr (Go.Abs.recI (List.getD sc (Int.toNat i) ([] : List (Abs.Fd))) (((0 : Nat) + (1 : Nat)) + (1 : Nat))) (List.length m))) = Bool.false))
    (h10 : SumOK Try.prog D0 (bodyN Try.f4 1) (loopL D0 (qxSn sc ll' n' m' i a b l (0 : Nat)) (.exit 3) (qrSn sc ll' n' m' i)))
    (h11 : ((((List.length (Go.Abs.recW (List.getD sc (Int.toNat i) ([] : List (Abs.Fd))) (((((0 : Nat) + (1 : Nat)) + (1 : Nat)) + (1 : Nat)) + (1 : Nat)))) : Nat) : Int) = (((List.length l) : Nat) : Int)))
    (h12 : (n = n'))
    (h13 : (ll = ll'))
    (h14 : (m = m'))
    (h15 : ((Go.Abs.recI (List.getD sc (Int.toNat i) ([] : List (Abs.Fd))) (((0 : Nat) + (1 : Nat)) + (1 : Nat))) = a))
    (h16 : ((Go.Abs.recI (List.getD sc (Int.toNat i) ([] : List (Abs.Fd))) ((((0 : Nat) + (1 : Nat)) + (1 : Nat)) + (1 : Nat))) = b))
    (h17 : ((Go.Abs.recW (List.getD sc (Int.toNat i) ([] : List (Abs.Fd))) (((((0 : Nat) + (1 : Nat)) + (1 : Nat)) + (1 : Nat)) + (1 : Nat))) = l))
    (h18 : (((((List.length ll') : Nat) : Int) != (((List.length m') : Nat) : Int)) = Bool.false))
    (h19 : (Go.Abs.InI64 (i + (1 : Int))))
    (h20 : ((i + (1 : Int)) = i')) :
    ∃ ps, stepPs Try.prog D0 (gamV refPutNoQ putNoQ refDueNoQ dueNoQ forgetNoQ) 100 (bodyN Try.f4 0) 100 (qrSn sc ll n m i).st [.is true, .is true, .is true, .is false, .loop (loopL D0 (qxSn sc ll' n' m' i a b l (0 : Nat)) (.exit 3) (qrSn sc ll' n' m' i)), .is false] .normal (qrSn sc ll' n' m' i') = some ps ∧ AllQ ps := ⟨_, qr_putno_r sc ll ll' n n' m m' i i' a b l, AllP.all ⟨h1, h2, h3, h4, h5, h6, rfl, rfl, rfl, rfl, h7, rfl, rfl, rfl, rfl, rfl, h8, h9, h10, rfl, rfl, h11, (show ((0 : Int) = (((0 : Nat) : Nat) : Int)) from by decide), h12, h13, h14, h15, h16, h17, rfl, rfl, h18, h19, rfl, h20, rfl, rfl, rfl⟩⟩

theorem qr_due_r (sc ll ll' : List Rec) (n n' : Int) (m m' : List Rec) (i i' : Int) : stepPs Try.prog D0 (gamV refPutQ putQ refDueQ dueQ forgetNoQ) 100 (bodyN Try.f4 0) 100 (qrSn sc ll n m i).st [.is true, .is true, .is false, .is true, .is false] .normal (qrSn sc ll' n' m' i') =
    some [((decide (i < (((List.length sc) : Nat) : Int))) = Bool.true), ((decide (i < (200 : Int))) = Bool.true), ((0 : Int) ≤ i), (i < (((List.length sc) : Nat) : Int)), (((Go.Abs.recI (List.getD sc (Int.toNat i) ([] : List (Abs.Fd))) (0 : Nat)) == (0 : Int)) = Bool.false), (((Go.Abs.recI (List.getD sc (Int.toNat i) ([] : List (Abs.Fd))) (0 : Nat)) == (1 : Int)) = Bool.true), ((Go.Abs.recI (List.getD sc (Int.toNat i) ([] : List (Abs.Fd))) ((0 : Nat) + (1 : Nat))) = (Go.Abs.recI (List.getD sc (Int.toNat i) ([] : List (Abs.Fd))) ((0 : Nat) + (1 : Nat)))), (m = m), ((List.length m) ≤ (100000 : Nat)), ((0 : Int) ≤ (Go.Num.bF m (Go.Abs.recI (List.getD sc (Int.toNat i) ([] : List (Abs.Fd))) ((0 : Nat) + (1 : Nat))) (List.length m))), (Go.Num.EvAll m), ((Go.Abs.recI (List.getD sc (Int.toNat i) ([] : List (Abs.Fd))) ((0 : Nat) + (1 : Nat))) = (Go.Abs.recI (List.getD sc (Int.toNat i) ([] : List (Abs.Fd))) ((0 : Nat) + (1 : Nat)))), (n = n), (ll = ll), ((0 : Nat) < (List.length ll)), ((Go.Abs.recI (List.getD ll (0 : Nat) ([] : List (Abs.Fd))) (0 : Nat)) ≤ (Go.Abs.recI (List.getD sc (Int.toNat i) ([] : List (Abs.Fd))) ((0 : Nat) + (1 : Nat)))), (Go.Num.EnAll ll), ((List.length ll) ≤ (100000 : Nat)), ((Go.Abs.recI (Go.Num.popE ll) (0 : Nat)) = (Go.Abs.recI (List.getD m (Int.toNat (Go.Num.bF m (Go.Abs.recI (List.getD sc (Int.toNat i) ([] : List (Abs.Fd))) ((0 : Nat) + (1 : Nat))) (List.length m))) ([] : List (Abs.Fd))) (0 : Nat))), ((Go.Abs.recI (Go.Num.popE ll) (1 : Nat)) = (Go.Abs.recI (List.getD m (Int.toNat (Go.Num.bF m (Go.Abs.recI (List.getD sc (Int.toNat i) ([] : List (Abs.Fd))) ((0 : Nat) + (1 : Nat))) (List.length m))) ([] : List (Abs.Fd))) (1 : Nat))), ((Go.Abs.recW (Go.Num.popE ll) (2 : Nat)) = (Go.Abs.recW (List.getD m (Int.toNat (Go.Num.bF m (Go.Abs.recI (List.getD sc (Int.toNat i) ([] : List (Abs.Fd))) ((0 : Nat) + (1 : Nat))) (List.length m))) ([] : List (Abs.Fd))) (2 : Nat))), ((List.length (Go.Abs.recW (Go.Num.popE ll) (2 : Nat))) ≤ (9223372036854775807 : Nat)), (n = n), ((Go.Num.popL ll) = (Go.Num.popL ll)), (((((List.length (Go.Num.popL ll)) : Nat) : Int) != (((List.length (List.eraseIdx m (Int.toNat (Go.Num.bF m (Go.Abs.recI (List.getD sc (Int.toNat i) ([] : List (Abs.Fd))) ((0 : Nat) + (1 : Nat))) (List.length m))))) : Nat) : Int)) = Bool.false), (Go.Abs.InI64 (i + (1 : Int))), (sc = sc), ((i + (1 : Int)) = i'), (n = n'), ((Go.Num.popL ll) = ll'), ((List.eraseIdx m (Int.toNat (Go.Num.bF m (Go.Abs.recI (List.getD sc (Int.toNat i) ([] : List (Abs.Fd))) ((0 : Nat) + (1 : Nat))) (List.length m)))) = m')] := by kernel_rfl
theorem qr_due (sc ll ll' : List Rec) (n n' : Int) (m m' : List Rec) (i i' : Int)
    (h1 : ((decide (i < (((List.length sc) : Nat) : Int))) = Bool.true))
    (h2 : ((decide (i < (200 : Int))) = Bool.true))
    (h3 : ((0 : Int) ≤ i))
    (h4 : (i < (((List.length sc) : Nat) : Int)))
    (h5 : (((Go.Abs.recI (List.getD sc (Int.toNat i) ([] : List (Abs.Fd))) (0 : Nat)) == (0 : Int)) = Bool.false))
    (h6 : (((Go.Abs.recI (List.getD sc (Int.toNat i) ([] : List (Abs.Fd))) (0 : Nat)) == (1 : Int)) = Bool.true))
    (h7 : ((List.length m) ≤ (100000 : Nat)))
    (h8 : ((0 : Int) ≤ (Go.Num.bF m (Go.Abs.recI (List.getD sc (Int.toNat i) ([] : List (Abs.Fd))) ((0 : Nat) + (1 : Nat))) (List.length m))))
    (h9 : (Go.Num.EvAll m))
    (h10 : ((0 : Nat) < (List.length ll)))
    (h11 : ((Go.Abs.recI (List.getD ll (0 : Nat) ([] : List (Abs.Fd))) (0 : Nat)) ≤ (Go.Abs.recI (List.getD sc (Int.toNat i) ([] : List (Abs.Fd))) ((0 : Nat) + (1 : Nat)))))
    (h12 : (Go.Num.EnAll ll))
    (h13 : ((List.length ll) ≤ (100000 : Nat)))
    (h14 : ((Go.Abs.recI (Go.Num.popE ll) (0 : Nat)) = (Go.Abs.recI (List.getD m (Int.toNat (Go.Num.bF m (Go.Abs.recI (List.getD sc (Int.toNat i) ([] : List (Abs.Fd))) ((0 : Nat) + (1 : Nat))) (List.length m))) ([] : List (Abs.Fd))) (0 : Nat))))
    (h15 : ((Go.Abs.recI (Go.Num.popE ll) (1 : Nat)) = (Go.Abs.recI (List.getD m (Int.toNat (Go.Num.bF m (Go.Abs.recI (List.getD sc (Int.toNat i) ([] : List (Abs.Fd))) ((0 : Nat) + (1 : Nat))) (List.length m))) ([] : List (Abs.Fd))) (1 : Nat))))
    (h16 : ((Go.Abs.recW (Go.Num.popE ll) (2 : Nat)) = (Go.Abs.recW (List.getD m (Int.toNat (Go.Num.bF m (Go.Abs.recI (List.getD sc (Int.toNat i) ([] : List (Abs.Fd))) ((0 : Nat) + (1 : Nat))) (List.length m))) ([] : List (Abs.Fd))) (2 : Nat))))
    (h17 : ((List.length (Go.Abs.recW (Go.Num.popE ll) (2 : Nat))) ≤ (9223372036854775807 : Nat)))
    (h18 : (((((List.length (Go.Num.popL ll)) : Nat) : Int) != (((List.length (List.eraseIdx m (Int.toNat (Go.Num.bF m (Go.Abs.recI (List.getD sc (Int.toNat i) ([] : List (Abs.Fd))) ((0 : Nat) + (1 : Nat))) (List.length m))))) : Nat) : Int)) = Bool.false))
    (h19 : (Go.Abs.InI64 (i + (1 : Int))))
    (h20 : ((i + (1 : Int)) = i'))
    (h21 : (n = n'))
    (h22 : ((Go.Num.popL ll) = ll'))
    (h23 : ((List.eraseIdx m (Int.toNat (Go.Num.bF m (Go.Abs.recI (List.getD sc (Int.toNat i) ([] : List (Abs.Fd))) ((0 : Nat) + (1 : Nat))) (List.length m)))) = m')) :
    ∃ ps, stepPs Try.prog D0 (gamV refPutQ putQ refDueQ dueQ forgetNoQ) 100 (bodyN Try.f4 0) 100 (qrSn sc ll n m i).st [.is true, .is true, .is false, .is true, .is false] .normal (qrSn sc ll' n' m' i') = some ps ∧ AllQ ps := ⟨_, qr_due_r sc ll ll' n n' m m' i i', AllP.all ⟨h1, h2, h3, h4, h5, h6, rfl, rfl, h7, h8, h9, rfl, rfl, rfl, h10, h11, h12, h13, h14, h15, h16, h17, rfl, rfl, h18, h19, rfl, h20, h21, h22, h23⟩⟩

theorem qr_dueno_r (sc ll ll' : List Rec) (n n' : Int) (m m' : List Rec) (i i' : Int) : stepPs Try.prog D0 (gamV refPutQ putQ refDueNoQ dueNoQ forgetNoQ) 100 (bodyN Try.f4 0) 100 (qrSn sc ll n m i).st [.is true, .is true, .is false, .is true, .is false] .normal (qrSn sc ll' n' m' i') =
    some [((decide (i < (((List.length sc) : Nat) : Int))) = Bool.true), ((decide (i < (200 : Int))) = Bool.true), ((0 : Int) ≤ i), (i < (((List.length sc) : Nat) : Int)), (((Go.Abs.recI (List.getD sc (Int.toNat i) ([] : List (Abs.Fd))) (0 : Nat)) == (0 : Int)) = Bool.false), (((Go.Abs.recI (List.getD sc (Int.toNat i) ([] : List (Abs.Fd))) (0 : Nat)) == (1 : Int)) = Bool.true), ((Go.Abs.recI (List.getD sc (Int.toNat i) ([] : List (Abs.Fd))) ((0 : Nat) + (1 : Nat))) = (Go.Abs.recI (List.getD sc (Int.toNat i) ([] : List (Abs.Fd))) ((0 : Nat) + (1 : Nat)))), (m = m), ((List.length m) ≤ (100000 : Nat)), ((Go.Num.bF m (Go.Abs.recI (List.getD sc (Int.toNat i) ([] : List (Abs.Fd))) ((0 : Nat) + (1 : Nat))) (List.length m)) < (0 : Int)), ((Go.Abs.recI (List.getD sc (Int.toNat i) ([] : List (Abs.Fd))) ((0 : Nat) + (1 : Nat))) = (Go.Abs.recI (List.getD sc (Int.toNat i) ([] : List (Abs.Fd))) ((0 : Nat) + (1 : Nat)))), (n = n), (ll = ll), (Go.Num.noDue ll (Go.Abs.recI (List.getD sc (Int.toNat i) ([] : List (Abs.Fd))) ((0 : Nat) + (1 : Nat)))), ((0 : Int) = (0 : Int)), ((0 : Int) = (0 : Int)), (([] : List (Int)) = ([] : List (Int))), ((0 : Nat) ≤ (9223372036854775807 : Nat)), (n = n), (ll = ll), (((((List.length ll) : Nat) : Int) != (((List.length m) : Nat) : Int)) = Bool.false), (Go.Abs.InI64 (i + (1 : Int))), (sc = sc), ((i + (1 : Int)) = i'), (n = n'), (ll = ll'), (m = m')] := by kernel_rfl
theorem qr_dueno (sc ll ll' : List Rec) (n n' : Int) (m m' : List Rec) (i i' : Int)
    (h1 : ((decide (i < (((List.length sc) : Nat) : Int))) = Bool.true))
    (h2 : ((decide (i < (200 : Int))) = Bool.true))
    (h3 : ((0 : Int) ≤ i))
    (h4 : (i < (((List.length sc) : Nat) : Int)))
    (h5 : (((Go.Abs.recI (List.getD sc (Int.toNat i) ([] : List (Abs.Fd))) (0 : Nat)) == (0 : Int)) = Bool.false))
    (h6 : (((Go.Abs.recI (List.getD sc (Int.toNat i) ([] : List (Abs.Fd))) (0 : Nat)) == (1 : Int)) = Bool.true))
    (h7 : ((List.length m) ≤ (100000 : Nat)))
    (h8 : ((Go.Num.bF m (Go.Abs.recI (List.getD sc (Int.toNat i) ([] : List (Abs.Fd))) ((0 : Nat) + (1 : Nat))) (List.length m)) < (0 : Int)))
    (h9 : (Go.Num.noDue ll (Go.Abs.recI (List.getD sc (Int.toNat i) ([] : List (Abs.Fd))) ((0 : Nat) + (1 : Nat)))))
    (h10 : (((((List.length ll) : Nat) : Int) != (((List.length m) : Nat) : Int)) = Bool.false))
    (h11 : (Go.Abs.InI64 (i + (1 : Int))))
    (h12 : ((i + (1 : Int)) = i'))
    (h13 : (n = n'))
    (h14 : (ll = ll'))
    (h15 : (m = m')) :
    ∃ ps, stepPs Try.prog D0 (gamV refPutQ putQ refDueNoQ dueNoQ forgetNoQ) 100 (bodyN Try.f4 0) 100 (qrSn sc ll n m i).st [.is true, .is true, .is false, .is true, .is false] .normal (qrSn sc ll' n' m' i') = some ps ∧ AllQ ps := ⟨_, qr_dueno_r sc ll ll' n n' m m' i i', AllP.all ⟨h1, h2, h3, h4, h5, h6, rfl, rfl, h7, h8, rfl, rfl, rfl, h9, rfl, rfl, rfl, (show ((0 : Nat) ≤ (9223372036854775807 : Nat)) from by decide), rfl, rfl, h10, h11, rfl, h12, h13, h14, h15⟩⟩

theorem qr_forget_r (sc ll ll' : List Rec) (n n' : Int) (m m' : List Rec) (i i' : Int) : stepPs Try.prog D0 (gamV refPutQ putQ refDueNoQ dueNoQ forgetQ) 100 (bodyN Try.f4 0) 100 (qrSn sc ll n m i).st [.is true, .is true, .is false, .is false, .is true, .is false] .normal (qrSn sc ll' n' m' i') =
    some [((decide (i < (((List.length sc) : Nat) : Int))) = Bool.true), ((decide (i < (200 : Int))) = Bool.true), ((0 : Int) ≤ i), (i < (((List.length sc) : Nat) : Int)), (((Go.Abs.recI (List.getD sc (Int.toNat i) ([] : List (Abs.Fd))) (0 : Nat)) == (0 : Int)) = Bool.false), (((Go.Abs.recI (List.getD sc (Int.toNat i) ([] : List (Abs.Fd))) (0 : Nat)) == (1 : Int)) = Bool.false), (((Go.Abs.recI (List.getD sc (Int.toNat i) ([] : List (Abs.Fd))) (0 : Nat)) == (2 : Int)) = Bool.true), ((Go.Abs.recI (List.getD sc (Int.toNat i) ([] : List (Abs.Fd))) ((0 : Nat) + (1 : Nat))) = (Go.Abs.recI (List.getD sc (Int.toNat i) ([] : List (Abs.Fd))) ((0 : Nat) + (1 : Nat)))), (m = m), ((List.length m) ≤ (100000 : Nat)), (Go.Num.EvAll m), ((Go.Abs.recI (List.getD sc (Int.toNat i) ([] : List (Abs.Fd))) ((0 : Nat) + (1 : Nat))) = (Go.Abs.recI (List.getD sc (Int.toNat i) ([] : List (Abs.Fd))) ((0 : Nat) + (1 : Nat)))), (n = n), (ll = ll), ((List.length ll) ≤ (100000 : Nat)), (Go.Num.EnAll ll), (¬ (Go.Num.noW (Go.Abs.recI (List.getD sc (Int.toNat i) ([] : List (Abs.Fd))) ((0 : Nat) + (1 : Nat))) ll)), (n = n), ((Go.Num.initL (Go.Num.keepW (Go.Abs.recI (List.getD sc (Int.toNat i) ([] : List (Abs.Fd))) ((0 : Nat) + (1 : Nat))) ll)) = (Go.Num.initL (Go.Num.keepW (Go.Abs.recI (List.getD sc (Int.toNat i) ([] : List (Abs.Fd))) ((0 : Nat) + (1 : Nat))) ll))), (((((List.length (Go.Num.initL (Go.Num.keepW (Go.Abs.recI (List.getD sc (Int.toNat i) ([] : List (Abs.Fd))) ((0 : Nat) + (1 : Nat))) ll))) : Nat) : Int) != (((List.length (Go.Num.keepW (Go.Abs.recI (List.getD sc (Int.toNat i) ([] : List (Abs.Fd))) ((0 : Nat) + (1 : Nat))) m)) : Nat) : Int)) = Bool.false), (Go.Abs.InI64 (i + (1 : Int))), (sc = sc), ((i + (1 : Int)) = i'), (n = n'), ((Go.Num.initL (Go.Num.keepW (Go.Abs.recI (List.getD sc (Int.toNat i) ([] : List (Abs.Fd))) ((0 : Nat) + (1 : Nat))) ll)) = ll'), ((Go.Num.keepW (Go.Abs.recI (List.getD sc (Int.toNat i) ([] : List (Abs.Fd))) ((0 : Nat) + (1 : Nat))) m) = m')] := by kernel_rfl
theorem qr_forget (sc ll ll' : List Rec) (n n' : Int) (m m' : List Rec) (i i' : Int)
    (h1 : ((decide (i < (((List.length sc) : Nat) : Int))) = Bool.true))
    (h2 : ((decide (i < (200 : Int))) = Bool.true))
    (h3 : ((0 : Int) ≤ i))
    (h4 : (i < (((List.length sc) : Nat) : Int)))
    (h5 : (((Go.Abs.recI (List.getD sc (Int.toNat i) ([] : List (Abs.Fd))) (0 : Nat)) == (0 : Int)) = Bool.false))
    (h6 : (((Go.Abs.recI (List.getD sc (Int.toNat i) ([] : List (Abs.Fd))) (0 : Nat)) == (1 : Int)) = Bool.false))
    (h7 : (((Go.Abs.recI (List.getD sc (Int.toNat i) ([] : List (Abs.Fd))) (0 : Nat)) == (2 : Int)) = Bool.true))
    (h8 : ((List.length m) ≤ (100000 : Nat)))
    (h9 : (Go.Num.EvAll m))
    (h10 : ((List.length ll) ≤ (100000 : Nat)))
    (h11 : (Go.Num.EnAll ll))
    (h12 : (¬ (Go.Num.noW (Go.Abs.recI (List.getD sc (Int.toNat i) ([] : List (Abs.Fd))) ((0 : Nat) + (1 : Nat))) ll)))
    (h13 : (((((List.length (Go.Num.initL (Go.Num.keepW (Go.Abs.recI (List.getD sc (Int.toNat i) ([] : List (Abs.Fd))) ((0 : Nat) + (1 : Nat))) ll))) : Nat) : Int) != (((List.length (Go.Num.keepW (Go.Abs.recI (List.getD sc (Int.toNat i) ([] : List (Abs.Fd))) ((0 : Nat) + (1 : Nat))) m)) : Nat) : Int)) = Bool.false))
    (h14 : (Go.Abs.InI64 (i + (1 : Int))))
    (h15 : ((i + (1 : Int)) = i'))
    (h16 : (n = n'))
    (h17 : ((Go.Num.initL (Go.Num.keepW (Go.Abs.recI (List.getD sc (Int.toNat i) ([] : List (Abs.Fd))) ((0 : Nat) + (1 : Nat))) ll)) = ll'))
    (h18 : ((Go.Num.keepW (Go.Abs.recI (List.getD sc (Int.toNat i) ([] : List (Abs.Fd))) ((0 : Nat) + (1 : Nat))) m) = m')) :
    ∃ ps, stepPs Try.prog D0 (gamV refPutQ putQ refDueNoQ dueNoQ forgetQ) 100 (bodyN Try.f4 0) 100 (qrSn sc ll n m i).st [.is true, .is true, .is false, .is false, .is true, .is false] .normal (qrSn sc ll' n' m' i') = some ps ∧ AllQ ps := ⟨_, qr_forget_r sc ll ll' n n' m m' i i', AllP.all ⟨h1, h2, h3, h4, h5, h6, h7, rfl, rfl, h8, h9, rfl, rfl, rfl, h10, h11, h12, rfl, rfl, h13, h14, rfl, h15, h16, h17, h18⟩⟩

theorem qr_forgetno_r (sc ll ll' : List Rec) (n n' : Int) (m m' : List Rec) (i i' : Int) : stepPs Try.prog D0 (gamV refPutQ putQ refDueNoQ dueNoQ forgetNoQ) 100 (bodyN Try.f4 0) 100 (qrSn sc ll n m i).st [.is true, .is true, .is false, .is false, .is true, .is false] .normal (qrSn sc ll' n' m' i') =
    some [((decide (i < (((List.length sc) : Nat) : Int))) = Bool.true), ((decide (i < (200 : Int))) = Bool.true), ((0 : Int) ≤ i), (i < (((List.length sc) : Nat) : Int)), (((Go.Abs.recI (List.getD sc (Int.toNat i) ([] : List (Abs.Fd))) (0 : Nat)) == (0 : Int)) = Bool.false), (((Go.Abs.recI (List.getD sc (Int.toNat i) ([] : List (Abs.Fd))) (0 : Nat)) == (1 : Int)) = Bool.false), (((Go.Abs.recI (List.getD sc (Int.toNat i) ([] : List (Abs.Fd))) (0 : Nat)) == (2 : Int)) = Bool.true), ((Go.Abs.recI (List.getD sc (Int.toNat i) ([] : List (Abs.Fd))) ((0 : Nat) + (1 : Nat))) = (Go.Abs.recI (List.getD sc (Int.toNat i) ([] : List (Abs.Fd))) ((0 : Nat) + (1 : Nat)))), (m = m), ((List.length m) ≤ (100000 : Nat)), (Go.Num.EvAll m), ((Go.Abs.recI (List.getD sc (Int.toNat i) ([] : List (Abs.Fd))) ((0 : Nat) + (1 : Nat))) = (Go.Abs.recI (List.getD sc (Int.toNat i) ([] : List (Abs.Fd))) ((0 : Nat) + (1 : Nat)))), (n = n), (ll = ll), ((List.length ll) ≤ (100000 : Nat)), (Go.Num.EnAll ll), (Go.Num.noW (Go.Abs.recI (List.getD sc (Int.toNat i) ([] : List (Abs.Fd))) ((0 : Nat) + (1 : Nat))) ll), (n = n), ((Go.Num.initL ll) = (Go.Num.initL ll)), (((((List.length (Go.Num.initL ll)) : Nat) : Int) != (((List.length (Go.Num.keepW (Go.Abs.recI (List.getD sc (Int.toNat i) ([] : List (Abs.Fd))) ((0 : Nat) + (1 : Nat))) m)) : Nat) : Int)) = Bool.false), (Go.Abs.InI64 (i + (1 : Int))), (sc = sc), ((i + (1 : Int)) = i'), (n = n'), ((Go.Num.initL ll) = ll'), ((Go.Num.keepW (Go.Abs.recI (List.getD sc (Int.toNat i) ([] : List (Abs.Fd))) ((0 : Nat) + (1 : Nat))) m) = m')] := by kernel_rfl
theorem qr_forgetno (sc ll ll' : List Rec) (n n' : Int) (m m' : List Rec) (i i' : Int)
    (h1 : ((decide (i < (((List.length sc) : Nat) : Int))) = Bool.true))
    (h2 : ((decide (i < (200 : Int))) = Bool.true))
    (h3 : ((0 : Int) ≤ i))
    (h4 : (i < (((List.length sc) : Nat) : Int)))
    (h5 : (((Go.Abs.recI (List.getD sc (Int.toNat i) ([] : List (Abs.Fd))) (0 : Nat)) == (0 : Int)) = Bool.false))
    (h6 : (((Go.Abs.recI (List.getD sc (Int.toNat i) ([] : List (Abs.Fd))) (0 : Nat)) == (1 : Int)) = Bool.false))
    (h7 : (((Go.Abs.recI (List.getD sc (Int.toNat i) ([] : List (Abs.Fd))) (0 : Nat)) == (2 : Int)) = Bool.true))
    (h8 : ((List.length m) ≤ (100000 : Nat)))
    (h9 : (Go.Num.EvAll m))
    (h10 : ((List.length ll) ≤ (100000 : Nat)))
    (h11 : (Go.Num.EnAll ll))
    (h12 : (Go.Num.noW (Go.Abs.recI (List.getD sc (Int.toNat i) ([] : List (Abs.Fd))) ((0 : Nat) + (1 : Nat))) ll))
    (h13 : (((((List.length (Go.Num.initL ll)) : Nat) : Int) != (((List.length (Go.Num.keepW (Go.Abs.recI (List.getD sc (Int.toNat i) ([] : List (Abs.Fd))) ((0 : Nat) + (1 : Nat))) m)) : Nat) : Int)) = Bool.false))
    (h14 : (Go.Abs.InI64 (i + (1 : Int))))
    (h15 : ((i + (1 : Int)) = i'))
    (h16 : (n = n'))
    (h17 : ((Go.Num.initL ll) = ll'))
    (h18 : ((Go.Num.keepW (Go.Abs.recI (List.getD sc (Int.toNat i) ([] : List (Abs.Fd))) ((0 : Nat) + (1 : Nat))) m) = m')) :
    ∃ ps, stepPs Try.prog D0 (gamV refPutQ putQ refDueNoQ dueNoQ forgetNoQ) 100 (bodyN Try.f4 0) 100 (qrSn sc ll n m i).st [.is true, .is true, .is false, .is false, .is true, .is false] .normal (qrSn sc ll' n' m' i') = some ps ∧ AllQ ps := ⟨_, qr_forgetno_r sc ll ll' n n' m m' i i', AllP.all ⟨h1, h2, h3, h4, h5, h6, h7, rfl, rfl, h8, h9, rfl, rfl, rfl, h10, h11, h12, rfl, rfl, h13, h14, rfl, h15, h16, h17, h18⟩⟩

theorem qr_none_r (sc ll ll' : List Rec) (n n' : Int) (m m' : List Rec) (i i' : Int) : stepPs Try.prog D0 (gamV refPutQ putQ refDueNoQ dueNoQ forgetNoQ) 100 (bodyN Try.f4 0) 100 (qrSn sc ll n m i).st [.is true, .is true, .is false, .is false, .is false, .is false] .normal (qrSn sc ll' n' m' i') =
    some [((decide (i < (((List.length sc) : Nat) : Int))) = Bool.true), ((decide (i < (200 : Int))) = Bool.true), ((0 : Int) ≤ i), (i < (((List.length sc) : Nat) : Int)), (((Go.Abs.recI (List.getD sc (Int.toNat i) ([] : List (Abs.Fd))) (0 : Nat)) == (0 : Int)) = Bool.false), (((Go.Abs.recI (List.getD sc (Int.toNat i) ([] : List (Abs.Fd))) (0 : Nat)) == (1 : Int)) = Bool.false), (((Go.Abs.recI (List.getD sc (Int.toNat i) ([] : List (Abs.Fd))) (0 : Nat)) == (2 : Int)) = Bool.false), (n = n), (ll = ll), (((((List.length ll) : Nat) : Int) != (((List.length m) : Nat) : Int)) = Bool.false), (Go.Abs.InI64 (i + (1 : Int))), (sc = sc), ((i + (1 : Int)) = i'), (n = n'), (ll = ll'), (m = m')] := by kernel_rfl
theorem qr_none (sc ll ll' : List Rec) (n n' : Int) (m m' : List Rec) (i i' : Int)
    (h1 : ((decide (i < (((List.length sc) : Nat) : Int))) = Bool.true))
    (h2 : ((decide (i < (200 : Int))) = Bool.true))
    (h3 : ((0 : Int) ≤ i))
    (h4 : (i < (((List.length sc) : Nat) : Int)))
    (h5 : (((Go.Abs.recI (List.getD sc (Int.toNat i) ([] : List (Abs.Fd))) (0 : Nat)) == (0 : Int)) = Bool.false))
    (h6 : (((Go.Abs.recI (List.getD sc (Int.toNat i) ([] : List (Abs.Fd))) (0 : Nat)) == (1 : Int)) = Bool.false))
    (h7 : (((Go.Abs.recI (List.getD sc (Int.toNat i) ([] : List (Abs.Fd))) (0 : Nat)) == (2 : Int)) = Bool.false))
    (h8 : (((((List.length ll) : Nat) : Int) != (((List.length m) : Nat) : Int)) = Bool.false))
    (h9 : (Go.Abs.InI64 (i + (1 : Int))))
    (h10 : ((i + (1 : Int)) = i'))
    (h11 : (n = n'))
    (h12 : (ll = ll'))
    (h13 : (m = m')) :
    ∃ ps, stepPs Try.prog D0 (gamV refPutQ putQ refDueNoQ dueNoQ forgetNoQ) 100 (bodyN Try.f4 0) 100 (qrSn sc ll n m i).st [.is true, .is true, .is false, .is false, .is false, .is false] .normal (qrSn sc ll' n' m' i') = some ps ∧ AllQ ps := ⟨_, qr_none_r sc ll ll' n n' m m' i i', AllP.all ⟨h1, h2, h3, h4, h5, h6, h7, rfl, rfl, h8, h9, rfl, h10, h11, h12, h13⟩⟩

theorem qr_run_r (sc : List Rec) : runF Try.prog D0 (gamV refPutQ putQ refDueNoQ dueNoQ forgetNoQ) 100 Try.f4 [.one (.prs opSh sc)] [.loop (loopL D0 (qrSn sc [] 0 [] (0 : Nat)) (.exit 0) qrEd)] =
    some ((Go.Abs.AV.v (Go.Abs.A0.one (Go.Abs.Part.bool Bool.true Bool.true))), [SumOK Try.prog D0 (bodyN Try.f4 0) (loopL D0 (qrSn sc [] 0 [] (0 : Nat)) (.exit 0) qrEd), (sc = sc), ((0 : Int) = (((0 : Nat) : Nat) : Int)), ((0 : Int) = (0 : Int)), (([] : List (Rec)) = ([] : List (Rec))), (([] : List (Rec)) = ([] : List (Rec)))]) := by kernel_rfl
theorem qr_run (sc : List Rec)
    (h1 : SumOK Try.prog D0 (bodyN Try.f4 0) (loopL D0 (qrSn sc [] 0 [] (0 : Nat)) (.exit 0) qrEd)) :
    ∃ ps, runF Try.prog D0 (gamV refPutQ putQ refDueNoQ dueNoQ forgetNoQ) 100 Try.f4 [.one (.prs opSh sc)] [.loop (loopL D0 (qrSn sc [] 0 [] (0 : Nat)) (.exit 0) qrEd)] = some ((Go.Abs.AV.v (Go.Abs.A0.one (Go.Abs.Part.bool Bool.true Bool.true))), ps) ∧ AllQ ps := ⟨_, qr_run_r sc, AllP.all ⟨h1, rfl, (show ((0 : Int) = (((0 : Nat) : Nat) : Int)) from by decide), rfl, rfl, rfl⟩⟩

end Go.Num
