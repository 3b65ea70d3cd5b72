/- Queue: the document's way: Put, Due, Forget. -/
import Derived.Test.YtglemaieddgjcaaQ10
namespace Go.Num
open Go.Abs Go.Proofs Go.Shelf

/-- An event: when, whose, what. -/
abbrev evSh : List FK := [.int .i64, .int .i64, .words .u8]
def rowE (m : List Rec) : BoxSt D0.τ := .dyn 30 (.lrs evSh m)
def evOK (r : Rec) : Prop := ∃ a b d, r = [.i a, .i b, .w d]
def EvAll (m : List Rec) : Prop := ∀ r ∈ m, evOK r
theorem evOK.reb {r : Rec} (h : evOK r) : [Fd.i (recI r 0), .i (recI r 1), .w (recW r 2)] = r := by
  obtain ⟨a, b, d, rfl⟩ := h
  rfl
theorem EvAll.at {m : List Rec} (h : EvAll m) {i : Nat} (hi : i < m.length) : evOK (m.getD i []) := h _ (getD_mem hi)

noncomputable def gamR : Gam D0 := [(12, .fz (copyD D0))]
theorem gamR_ok : GamOK Try.prog D0 gamR := gam_fz (copy_ok D0) gam_nil

theorem rp_less_r (m : List Rec) (a b e : Int) (d : List Int) : runO Try.prog D0 gamR 100 Try.f13 ([rowE m], [.one (.own 0), evP a b d]) [.is true] (.tup [.one (.own 0), .one (.int .i64 false e)]) [rowE m] =
    some [((decide (a < (0 : Int))) = Bool.true), ((1 : Int) = e), (m = m)] := by kernel_rfl
theorem rp_less (m : List Rec) (a b e : Int) (d : List Int)
    (h1 : ((decide (a < (0 : Int))) = Bool.true))
    (h2 : ((1 : Int) = e)) :
    ∃ ps, runO Try.prog D0 gamR 100 Try.f13 ([rowE m], [.one (.own 0), evP a b d]) [.is true] (.tup [.one (.own 0), .one (.int .i64 false e)]) [rowE m] = some ps ∧ AllQ ps := ⟨_, rp_less_r m a b e d, AllP.all ⟨h1, h2, rfl⟩⟩

theorem rp_more_r (m : List Rec) (a b e : Int) (d : List Int) : runO Try.prog D0 gamR 100 Try.f13 ([rowE m], [.one (.own 0), evP a b d]) [.is false, .is true] (.tup [.one (.own 0), .one (.int .i64 false e)]) [rowE m] =
    some [((decide (a < (0 : Int))) = Bool.false), ((decide (a > (1099511627776 : Int))) = Bool.true), ((1 : Int) = e), (m = m)] := by kernel_rfl
theorem rp_more (m : List Rec) (a b e : Int) (d : List Int)
    (h1 : ((decide (a < (0 : Int))) = Bool.false))
    (h2 : ((decide (a > (1099511627776 : Int))) = Bool.true))
    (h3 : ((1 : Int) = e)) :
    ∃ ps, runO Try.prog D0 gamR 100 Try.f13 ([rowE m], [.one (.own 0), evP a b d]) [.is false, .is true] (.tup [.one (.own 0), .one (.int .i64 false e)]) [rowE m] = some ps ∧ AllQ ps := ⟨_, rp_more_r m a b e d, AllP.all ⟨h1, h2, h3, rfl⟩⟩

theorem rp_full_r (m : List Rec) (a b e : Int) (d : List Int) : runO Try.prog D0 gamR 100 Try.f13 ([rowE m], [.one (.own 0), evP a b d]) [.is false, .is false, .is true] (.tup [.one (.own 0), .one (.int .i64 false e)]) [rowE m] =
    some [((decide (a < (0 : Int))) = Bool.false), ((decide (a > (1099511627776 : Int))) = Bool.false), ((decide ((((List.length m) : Nat) : Int) ≥ (4096 : Int))) = Bool.true), ((42 : Int) = e), (m = m)] := by kernel_rfl
theorem rp_full (m : List Rec) (a b e : Int) (d : List Int)
    (h1 : ((decide (a < (0 : Int))) = Bool.false))
    (h2 : ((decide (a > (1099511627776 : Int))) = Bool.false))
    (h3 : ((decide ((((List.length m) : Nat) : Int) ≥ (4096 : Int))) = Bool.true))
    (h4 : ((42 : Int) = e)) :
    ∃ ps, runO Try.prog D0 gamR 100 Try.f13 ([rowE m], [.one (.own 0), evP a b d]) [.is false, .is false, .is true] (.tup [.one (.own 0), .one (.int .i64 false e)]) [rowE m] = some ps ∧ AllQ ps := ⟨_, rp_full_r m a b e d, AllP.all ⟨h1, h2, h3, h4, rfl⟩⟩

theorem rp_ok_r (m m' : List Rec) (a b : Int) (d : List Int) : runO Try.prog D0 gamR 100 Try.f13 ([rowE m], [.one (.own 0), evP a b d]) [.is false, .is false, .is false] (.tup [.one (.own 1), .one (.int .i64 true 0)]) [.dead, rowE m'] =
    some [((decide (a < (0 : Int))) = Bool.false), ((decide (a > (1099511627776 : Int))) = Bool.false), ((decide ((((List.length m) : Nat) : Int) ≥ (4096 : Int))) = Bool.false), ((List.length d) ≤ (281474976710656 : Nat)), ((((List.length m) + (1 : Nat)) * (40 : Nat)) ≤ (140737488355328 : Nat)), (((List.length m) + (1 : Nat)) ≤ (9223372036854775807 : Nat)), ((m ++ (((Go.Abs.Fd.i a) :: ((Go.Abs.Fd.i b) :: ((Go.Abs.Fd.w d) :: ([] : List (Abs.Fd))))) :: ([] : List (Rec)))) = m')] := by kernel_rfl
theorem rp_ok (m m' : List Rec) (a b : Int) (d : List Int)
    (h1 : ((decide (a < (0 : Int))) = Bool.false))
    (h2 : ((decide (a > (1099511627776 : Int))) = Bool.false))
    (h3 : ((decide ((((List.length m) : Nat) : Int) ≥ (4096 : Int))) = Bool.false))
    (h4 : ((List.length d) ≤ (281474976710656 : Nat)))
    (h5 : ((((List.length m) + (1 : Nat)) * (40 : Nat)) ≤ (140737488355328 : Nat)))
    (h6 : (((List.length m) + (1 : Nat)) ≤ (9223372036854775807 : Nat)))
    (h7 : ((m ++ (((Go.Abs.Fd.i a) :: ((Go.Abs.Fd.i b) :: ((Go.Abs.Fd.w d) :: ([] : List (Abs.Fd))))) :: ([] : List (Rec)))) = m')) :
    ∃ ps, runO Try.prog D0 gamR 100 Try.f13 ([rowE m], [.one (.own 0), evP a b d]) [.is false, .is false, .is false] (.tup [.one (.own 1), .one (.int .i64 true 0)]) [.dead, rowE m'] = some ps ∧ AllQ ps := ⟨_, rp_ok_r m m' a b d, AllP.all ⟨h1, h2, h3, h4, h5, h6, h7⟩⟩

def rdSn (m : List Rec) (now b k : Int) : Sn D0.τ where
  slots := [(0, .v (.one (.own 0))), (1, .v (.one (.int .i64 false now))), (5, .v (.one (.ref 1 0))), (7, .v (.one (.int .i64 false b))), (13, .v (.one (.int .i64 false m.length))), (14, .v (.one (.int .i64 false k)))]
  boxes := [(0, rowE m), (1, .fixed 30 [.int .i64 true 0, .int .i64 true 0, .nil])]
  nt := 70
  np := 1
def rdEd (m : List Rec) (now b : Int) : Sn D0.τ where
  slots := [(0, .v (.one (.own 0))), (5, .v (.one (.ref 1 0))), (7, .v (.one (.int .i64 false b)))]
  boxes := [(0, rowE m), (1, .fixed 30 [.int .i64 true 0, .int .i64 true 0, .nil])]
  nt := 70
  np := 1

theorem rd_late_r (m : List Rec) (now b k k' : Int) : stepPs Try.prog D0 [] 100 (bodyN Try.f14 0) 100 (rdSn m now b k).st [.is true, .is false] .normal (rdSn m now b k') =
    some [((decide (k < (((List.length m) : Nat) : Int))) = Bool.true), ((0 : Int) ≤ k), (k < (((List.length m) : Nat) : Int)), ((Int.toNat k) < (List.length m)), ((decide ((Go.Abs.recI (List.getD m (Int.toNat k) ([] : List (Abs.Fd))) (0 : Nat)) ≤ now)) = Bool.false), (Go.Abs.InI64 (k + (1 : Int))), (now = now), (b = b), ((((List.length m) : Nat) : Int) = (((List.length m) : Nat) : Int)), ((k + (1 : Int)) = k'), (m = m)] := by kernel_rfl
theorem rd_late (m : List Rec) (now b k k' : Int)
    (h1 : ((decide (k < (((List.length m) : Nat) : Int))) = Bool.true))
    (h2 : ((0 : Int) ≤ k))
    (h3 : (k < (((List.length m) : Nat) : Int)))
    (h4 : ((Int.toNat k) < (List.length m)))
    (h5 : ((decide ((Go.Abs.recI (List.getD m (Int.toNat k) ([] : List (Abs.Fd))) (0 : Nat)) ≤ now)) = Bool.false))
    (h6 : (Go.Abs.InI64 (k + (1 : Int))))
    (h7 : ((k + (1 : Int)) = k')) :
    ∃ ps, stepPs Try.prog D0 [] 100 (bodyN Try.f14 0) 100 (rdSn m now b k).st [.is true, .is false] .normal (rdSn m now b k') = some ps ∧ AllQ ps := ⟨_, rd_late_r m now b k k', AllP.all ⟨h1, h2, h3, h4, h5, h6, rfl, rfl, rfl, h7, rfl⟩⟩

theorem rd_first_r (m : List Rec) (now b b' k k' : Int) : stepPs Try.prog D0 [] 100 (bodyN Try.f14 0) 100 (rdSn m now b k).st [.is true, .is true, .is true] .normal (rdSn m now b' k') =
    some [((decide (k < (((List.length m) : Nat) : Int))) = Bool.true), ((0 : Int) ≤ k), (k < (((List.length m) : Nat) : Int)), ((Int.toNat k) < (List.length m)), ((decide ((Go.Abs.recI (List.getD m (Int.toNat k) ([] : List (Abs.Fd))) (0 : Nat)) ≤ now)) = Bool.true), ((decide (b < (0 : Int))) = Bool.true), (Go.Abs.InI64 (k + (1 : Int))), (now = now), (k = b'), ((((List.length m) : Nat) : Int) = (((List.length m) : Nat) : Int)), ((k + (1 : Int)) = k'), (m = m)] := by kernel_rfl
theorem rd_first (m : List Rec) (now b b' k k' : Int)
    (h1 : ((decide (k < (((List.length m) : Nat) : Int))) = Bool.true))
    (h2 : ((0 : Int) ≤ k))
    (h3 : (k < (((List.length m) : Nat) : Int)))
    (h4 : ((Int.toNat k) < (List.length m)))
    (h5 : ((decide ((Go.Abs.recI (List.getD m (Int.toNat k) ([] : List (Abs.Fd))) (0 : Nat)) ≤ now)) = Bool.true))
    (h6 : ((decide (b < (0 : Int))) = Bool.true))
    (h7 : (Go.Abs.InI64 (k + (1 : Int))))
    (h8 : (k = b'))
    (h9 : ((k + (1 : Int)) = k')) :
    ∃ ps, stepPs Try.prog D0 [] 100 (bodyN Try.f14 0) 100 (rdSn m now b k).st [.is true, .is true, .is true] .normal (rdSn m now b' k') = some ps ∧ AllQ ps := ⟨_, rd_first_r m now b b' k k', AllP.all ⟨h1, h2, h3, h4, h5, h6, h7, rfl, h8, rfl, h9, rfl⟩⟩

theorem rd_less_r (m : List Rec) (now b b' k k' : Int) : stepPs Try.prog D0 [] 100 (bodyN Try.f14 0) 100 (rdSn m now b k).st [.is true, .is true, .is false, .is true] .normal (rdSn m now b' k') =
    some [((decide (k < (((List.length m) : Nat) : Int))) = Bool.true), ((0 : Int) ≤ k), (k < (((List.length m) : Nat) : Int)), ((Int.toNat k) < (List.length m)), ((decide ((Go.Abs.recI (List.getD m (Int.toNat k) ([] : List (Abs.Fd))) (0 : Nat)) ≤ now)) = Bool.true), ((decide (b < (0 : Int))) = Bool.false), ((0 : Int) ≤ k), (k < (((List.length m) : Nat) : Int)), ((Int.toNat k) < (List.length m)), ((0 : Int) ≤ b), (b < (((List.length m) : Nat) : Int)), ((Int.toNat b) < (List.length m)), ((decide ((Go.Abs.recI (List.getD m (Int.toNat k) ([] : List (Abs.Fd))) (0 : Nat)) < (Go.Abs.recI (List.getD m (Int.toNat b) ([] : List (Abs.Fd))) (0 : Nat)))) = Bool.true), (Go.Abs.InI64 (k + (1 : Int))), (now = now), (k = b'), ((((List.length m) : Nat) : Int) = (((List.length m) : Nat) : Int)), ((k + (1 : Int)) = k'), (m = m)] := by kernel_rfl
theorem rd_less (m : List Rec) (now b b' k k' : Int)
    (h1 : ((decide (k < (((List.length m) : Nat) : Int))) = Bool.true))
    (h2 : ((0 : Int) ≤ k))
    (h3 : (k < (((List.length m) : Nat) : Int)))
    (h4 : ((Int.toNat k) < (List.length m)))
    (h5 : ((decide ((Go.Abs.recI (List.getD m (Int.toNat k) ([] : List (Abs.Fd))) (0 : Nat)) ≤ now)) = Bool.true))
    (h6 : ((decide (b < (0 : Int))) = Bool.false))
    (h7 : ((0 : Int) ≤ b))
    (h8 : (b < (((List.length m) : Nat) : Int)))
    (h9 : ((Int.toNat b) < (List.length m)))
    (h10 : ((decide ((Go.Abs.recI (List.getD m (Int.toNat k) ([] : List (Abs.Fd))) (0 : Nat)) < (Go.Abs.recI (List.getD m (Int.toNat b) ([] : List (Abs.Fd))) (0 : Nat)))) = Bool.true))
    (h11 : (Go.Abs.InI64 (k + (1 : Int))))
    (h12 : (k = b'))
    (h13 : ((k + (1 : Int)) = k')) :
    ∃ ps, stepPs Try.prog D0 [] 100 (bodyN Try.f14 0) 100 (rdSn m now b k).st [.is true, .is true, .is false, .is true] .normal (rdSn m now b' k') = some ps ∧ AllQ ps := ⟨_, rd_less_r m now b b' k k', AllP.all ⟨h1, h2, h3, h4, h5, h6, h2, h3, h4, h7, h8, h9, h10, h11, rfl, h12, rfl, h13, rfl⟩⟩

theorem rd_not_r (m : List Rec) (now b k k' : Int) : stepPs Try.prog D0 [] 100 (bodyN Try.f14 0) 100 (rdSn m now b k).st [.is true, .is true, .is false, .is false] .normal (rdSn m now b k') =
    some [((decide (k < (((List.length m) : Nat) : Int))) = Bool.true), ((0 : Int) ≤ k), (k < (((List.length m) : Nat) : Int)), ((Int.toNat k) < (List.length m)), ((decide ((Go.Abs.recI (List.getD m (Int.toNat k) ([] : List (Abs.Fd))) (0 : Nat)) ≤ now)) = Bool.true), ((decide (b < (0 : Int))) = Bool.false), ((0 : Int) ≤ k), (k < (((List.length m) : Nat) : Int)), ((Int.toNat k) < (List.length m)), ((0 : Int) ≤ b), (b < (((List.length m) : Nat) : Int)), ((Int.toNat b) < (List.length m)), ((decide ((Go.Abs.recI (List.getD m (Int.toNat k) ([] : List (Abs.Fd))) (0 : Nat)) < (Go.Abs.recI (List.getD m (Int.toNat b) ([] : List (Abs.Fd))) (0 : Nat)))) = Bool.false), (Go.Abs.InI64 (k + (1 : Int))), (now = now), (b = b), ((((List.length m) : Nat) : Int) = (((List.length m) : Nat) : Int)), ((k + (1 : Int)) = k'), (m = m)] := by kernel_rfl
theorem rd_not (m : List Rec) (now b k k' : Int)
    (h1 : ((decide (k < (((List.length m) : Nat) : Int))) = Bool.true))
    (h2 : ((0 : Int) ≤ k))
    (h3 : (k < (((List.length m) : Nat) : Int)))
    (h4 : ((Int.toNat k) < (List.length m)))
    (h5 : ((decide ((Go.Abs.recI (List.getD m (Int.toNat k) ([] : List (Abs.Fd))) (0 : Nat)) ≤ now)) = Bool.true))
    (h6 : ((decide (b < (0 : Int))) = Bool.false))
    (h7 : ((0 : Int) ≤ b))
    (h8 : (b < (((List.length m) : Nat) : Int)))
    (h9 : ((Int.toNat b) < (List.length m)))
    (h10 : ((decide ((Go.Abs.recI (List.getD m (Int.toNat k) ([] : List (Abs.Fd))) (0 : Nat)) < (Go.Abs.recI (List.getD m (Int.toNat b) ([] : List (Abs.Fd))) (0 : Nat)))) = Bool.false))
    (h11 : (Go.Abs.InI64 (k + (1 : Int))))
    (h12 : ((k + (1 : Int)) = k')) :
    ∃ ps, stepPs Try.prog D0 [] 100 (bodyN Try.f14 0) 100 (rdSn m now b k).st [.is true, .is true, .is false, .is false] .normal (rdSn m now b k') = some ps ∧ AllQ ps := ⟨_, rd_not_r m now b k k', AllP.all ⟨h1, h2, h3, h4, h5, h6, h2, h3, h4, h7, h8, h9, h10, h11, rfl, rfl, rfl, h12, rfl⟩⟩

theorem rd_exit_r (m : List Rec) (now b k : Int) : stepPs Try.prog D0 [] 100 (bodyN Try.f14 0) 100 (rdSn m now b k).st [.is false] (.exit 0) (rdEd m now b) =
    some [((decide (k < (((List.length m) : Nat) : Int))) = Bool.false), (b = b), (m = m)] := by kernel_rfl
theorem rd_exit (m : List Rec) (now b k : Int)
    (h1 : ((decide (k < (((List.length m) : Nat) : Int))) = Bool.false)) :
    ∃ ps, stepPs Try.prog D0 [] 100 (bodyN Try.f14 0) 100 (rdSn m now b k).st [.is false] (.exit 0) (rdEd m now b) = some ps ∧ AllQ ps := ⟨_, rd_exit_r m now b k, AllP.all ⟨h1, rfl, rfl⟩⟩

def exSn (m : List Rec) (b : Int) (r : Rec) (o : List Rec) (k : Int) : Sn D0.τ where
  slots := [(0, .v (.one (.own 0))), (5, .v (.one (.ref 1 0))), (7, .v (.one (.int .i64 false b))), (9, .v (.one (.ref 2 0))), (10, .v (.one (.own 3))), (53, .v (.one (.int .i64 false m.length))), (54, .v (.one (.int .i64 false k)))]
  boxes := [(0, rowE m), (1, .fixed 30 [.int .i64 true 0, .int .i64 true 0, .nil]), (2, .fixed 30 [.int .i64 false (recI r 0), .int .i64 false (recI r 1), .pw .u8 (recW r 2)]), (3, rowE o)]
  nt := 70
  np := 1
def exEd (m : List Rec) (r : Rec) (o : List Rec) : Sn D0.τ where
  slots := [(5, .v (.one (.ref 1 0))), (9, .v (.one (.ref 2 0))), (10, .v (.one (.own 3)))]
  boxes := [(0, rowE m), (1, .fixed 30 [.int .i64 true 0, .int .i64 true 0, .nil]), (2, .fixed 30 [.int .i64 false (recI r 0), .int .i64 false (recI r 1), .pw .u8 (recW r 2)]), (3, rowE o)]
  nt := 70
  np := 1
theorem ex_skip_r (m : List Rec) (b : Int) (r : Rec) (o : List Rec) (k k' : Int) : stepPs Try.prog D0 [] 100 (bodyN Try.f14 1) 100 (exSn m b r o k).st [.is true, .is false] .normal (exSn m b r o k') =
    some [((decide (k < (((List.length m) : Nat) : Int))) = Bool.true), ((k != b) = Bool.false), (Go.Abs.InI64 (k + (1 : Int))), (b = b), ((((List.length m) : Nat) : Int) = (((List.length m) : Nat) : Int)), ((k + (1 : Int)) = k'), (m = m), ((Go.Abs.recI r (0 : Nat)) = (Go.Abs.recI r (0 : Nat))), ((Go.Abs.recI r (1 : Nat)) = (Go.Abs.recI r (1 : Nat))), ((Go.Abs.recW r (2 : Nat)) = (Go.Abs.recW r (2 : Nat))), (o = o)] := by kernel_rfl
theorem ex_skip (m : List Rec) (b : Int) (r : Rec) (o : List Rec) (k k' : Int)
    (h1 : ((decide (k < (((List.length m) : Nat) : Int))) = Bool.true))
    (h2 : ((k != b) = Bool.false))
    (h3 : (Go.Abs.InI64 (k + (1 : Int))))
    (h4 : ((k + (1 : Int)) = k')) :
    ∃ ps, stepPs Try.prog D0 [] 100 (bodyN Try.f14 1) 100 (exSn m b r o k).st [.is true, .is false] .normal (exSn m b r o k') = some ps ∧ AllQ ps := ⟨_, ex_skip_r m b r o k k', AllP.all ⟨h1, h2, h3, rfl, rfl, h4, rfl, rfl, rfl, rfl, rfl⟩⟩

theorem ex_take_r (m : List Rec) (b : Int) (r : Rec) (o o' : List Rec) (k k' : Int) : stepPs Try.prog D0 [] 100 (bodyN Try.f14 1) 100 (exSn m b r o k).st [.is true, .is true] .normal (exSn m b r o' k') =
    some [((decide (k < (((List.length m) : Nat) : Int))) = Bool.true), ((k != b) = Bool.true), ((0 : Int) ≤ k), (k < (((List.length m) : Nat) : Int)), ((Int.toNat k) < (List.length m)), ((((List.length o) + (1 : Nat)) * (40 : Nat)) ≤ (140737488355328 : Nat)), (((List.length o) + (1 : Nat)) ≤ (9223372036854775807 : Nat)), (Go.Abs.InI64 (k + (1 : Int))), (b = b), ((((List.length m) : Nat) : Int) = (((List.length m) : Nat) : Int)), ((k + (1 : Int)) = k'), (m = m), ((Go.Abs.recI r (0 : Nat)) = (Go.Abs.recI r (0 : Nat))), ((Go.Abs.recI r (1 : Nat)) = (Go.Abs.recI r (1 : Nat))), ((Go.Abs.recW r (2 : Nat)) = (Go.Abs.recW r (2 : Nat))), ((o ++ (((Go.Abs.Fd.i (Go.Abs.recI (List.getD m (Int.toNat k) ([] : List (Abs.Fd))) (0 : Nat))) :: ((Go.Abs.Fd.i (Go.Abs.recI (List.getD m (Int.toNat k) ([] : List (Abs.Fd))) ((0 : Nat) + (1 : Nat)))) :: ((Go.Abs.Fd.w (Go.Abs.recW (List.getD m (Int.toNat k) ([] : List (Abs.Fd))) (((0 : Nat) + (1 : Nat)) + (1 : Nat)))) :: ([] : List (Abs.Fd))))) :: ([] : List (Rec)))) = o')] := by kernel_rfl
theorem ex_take (m : List Rec) (b : Int) (r : Rec) (o o' : List Rec) (k k' : Int)
    (h1 : ((decide (k < (((List.length m) : Nat) : Int))) = Bool.true))
    (h2 : ((k != b) = Bool.true))
    (h3 : ((0 : Int) ≤ k))
    (h4 : (k < (((List.length m) : Nat) : Int)))
    (h5 : ((Int.toNat k) < (List.length m)))
    (h6 : ((((List.length o) + (1 : Nat)) * (40 : Nat)) ≤ (140737488355328 : Nat)))
    (h7 : (((List.length o) + (1 : Nat)) ≤ (9223372036854775807 : Nat)))
    (h8 : (Go.Abs.InI64 (k + (1 : Int))))
    (h9 : ((k + (1 : Int)) = k'))
    (h10 : ((o ++ (((Go.Abs.Fd.i (Go.Abs.recI (List.getD m (Int.toNat k) ([] : List (Abs.Fd))) (0 : Nat))) :: ((Go.Abs.Fd.i (Go.Abs.recI (List.getD m (Int.toNat k) ([] : List (Abs.Fd))) ((0 : Nat) + (1 : Nat)))) :: ((Go.Abs.Fd.w (Go.Abs.recW (List.getD m (Int.toNat k) ([] : List (Abs.Fd))) (((0 : Nat) + (1 : Nat)) + (1 : Nat)))) :: ([] : List (Abs.Fd))))) :: ([] : List (Rec)))) = o')) :
    ∃ ps, stepPs Try.prog D0 [] 100 (bodyN Try.f14 1) 100 (exSn m b r o k).st [.is true, .is true] .normal (exSn m b r o' k') = some ps ∧ AllQ ps := ⟨_, ex_take_r m b r o o' k k', AllP.all ⟨h1, h2, h3, h4, h5, h6, h7, h8, rfl, rfl, h9, rfl, rfl, rfl, rfl, h10⟩⟩

theorem ex_exit_r (m : List Rec) (b : Int) (r : Rec) (o : List Rec) (k : Int) : stepPs Try.prog D0 [] 100 (bodyN Try.f14 1) 100 (exSn m b r o k).st [.is false] (.exit 2) (exEd m r o) =
    some [((decide (k < (((List.length m) : Nat) : Int))) = Bool.false), (m = m), ((Go.Abs.recI r (0 : Nat)) = (Go.Abs.recI r (0 : Nat))), ((Go.Abs.recI r (1 : Nat)) = (Go.Abs.recI r (1 : Nat))), ((Go.Abs.recW r (2 : Nat)) = (Go.Abs.recW r (2 : Nat))), (o = o)] := by kernel_rfl
theorem ex_exit (m : List Rec) (b : Int) (r : Rec) (o : List Rec) (k : Int)
    (h1 : ((decide (k < (((List.length m) : Nat) : Int))) = Bool.false)) :
    ∃ ps, stepPs Try.prog D0 [] 100 (bodyN Try.f14 1) 100 (exSn m b r o k).st [.is false] (.exit 2) (exEd m r o) = some ps ∧ AllQ ps := ⟨_, ex_exit_r m b r o k, AllP.all ⟨h1, rfl, rfl, rfl, rfl, rfl⟩⟩

theorem rd_none_r (m : List Rec) (now b : Int) : runO Try.prog D0 [] 100 Try.f14 ([rowE m], [.one (.own 0), .one (.int .i64 false now)]) [.loop (loopL D0 (rdSn m now (-1) 0) (.exit 0) (rdEd m now b)), .is true] (.tup [.one (.own 0), evZ, .one (.bool true false)]) [rowE m] =
    some [SumOK Try.prog D0 (bodyN Try.f14 0) (loopL D0 (rdSn m now (-1) 0) (.exit 0) (rdEd m now b)), (now = now), ((-(1 : Int)) = (-(1 : Int))), ((((List.length m) : Nat) : Int) = (((List.length m) : Nat) : Int)), ((0 : Int) = (0 : Int)), (m = m), ((decide (b < (0 : Int))) = Bool.true), (m = m)] := by kernel_rfl
theorem rd_none (m : List Rec) (now b : Int)
    (h1 : SumOK Try.prog D0 (bodyN Try.f14 0) (loopL D0 (rdSn m now (-1) 0) (.exit 0) (rdEd m now b)))
    (h2 : ((decide (b < (0 : Int))) = Bool.true)) :
    ∃ ps, runO Try.prog D0 [] 100 Try.f14 ([rowE m], [.one (.own 0), .one (.int .i64 false now)]) [.loop (loopL D0 (rdSn m now (-1) 0) (.exit 0) (rdEd m now b)), .is true] (.tup [.one (.own 0), evZ, .one (.bool true false)]) [rowE m] = some ps ∧ AllQ ps := ⟨_, rd_none_r m now b, AllP.all ⟨h1, rfl, rfl, rfl, rfl, rfl, h2, rfl⟩⟩

theorem rd_some_r (m : List Rec) (now b : Int) (r : Rec) (o : List Rec) : runO Try.prog D0 [] 100 Try.f14 ([rowE m], [.one (.own 0), .one (.int .i64 false now)]) [.loop (loopL D0 (rdSn m now (-1) 0) (.exit 0) (rdEd m now b)), .is false, .loop (loopL D0 (exSn m b r [] 0) (.exit 2) (exEd m r o))] (.tup [.one (.own 1), evW r, .one (.bool true true)]) [rowE m, rowE o] =
    some [SumOK Try.prog D0 (bodyN Try.f14 0) (loopL D0 (rdSn m now (-1) 0) (.exit 0) (rdEd m now b)), (now = now), ((-(1 : Int)) = (-(1 : Int))), ((((List.length m) : Nat) : Int) = (((List.length m) : Nat) : Int)), ((0 : Int) = (0 : Int)), (m = m), ((decide (b < (0 : Int))) = Bool.false), ((0 : Int) ≤ b), (b < (((List.length m) : Nat) : Int)), ((Int.toNat b) < (List.length m)), SumOK Try.prog D0 (bodyN Try.f14 1) (loopL D0 (exSn m b r [] 0) (.exit 2) (exEd m r o)), (b = b), ((((List.length m) : Nat) : Int) = (((List.length m) : Nat) : Int)), ((0 : Int) = (0 : Int)), (m = m), ((Go.Abs.recI (List.getD m (Int.toNat b) ([] : List (Abs.Fd))) (0 : Nat)) = (Go.Abs.recI r (0 : Nat))), ((Go.Abs.recI (List.getD m (Int.toNat b) ([] : List (Abs.Fd))) ((0 : Nat) + (1 : Nat))) = (Go.Abs.recI r (1 : Nat))), ((Go.Abs.recW (List.getD m (Int.toNat b) ([] : List (Abs.Fd))) (((0 : Nat) + (1 : Nat)) + (1 : Nat))) = (Go.Abs.recW r (2 : Nat))), (([] : List (Rec)) = ([] : List (Rec))), ((Go.Abs.recI r (0 : Nat)) = (Go.Abs.recI r (0 : Nat))), ((Go.Abs.recI r (1 : Nat)) = (Go.Abs.recI r (1 : Nat))), ((Go.Abs.recW r (2 : Nat)) = (Go.Abs.recW r (2 : Nat))), (m = m), (o = o)] := by kernel_rfl
theorem rd_some (m : List Rec) (now b : Int) (r : Rec) (o : List Rec)
    (h1 : SumOK Try.prog D0 (bodyN Try.f14 0) (loopL D0 (rdSn m now (-1) 0) (.exit 0) (rdEd m now b)))
    (h2 : ((decide (b < (0 : Int))) = Bool.false))
    (h3 : ((0 : Int) ≤ b))
    (h4 : (b < (((List.length m) : Nat) : Int)))
    (h5 : ((Int.toNat b) < (List.length m)))
    (h6 : SumOK Try.prog D0 (bodyN Try.f14 1) (loopL D0 (exSn m b r [] 0) (.exit 2) (exEd m r o)))
    (h7 : ((Go.Abs.recI (List.getD m (Int.toNat b) ([] : List (Abs.Fd))) (0 : Nat)) = (Go.Abs.recI r (0 : Nat))))
    (h8 : ((Go.Abs.recI (List.getD m (Int.toNat b) ([] : List (Abs.Fd))) ((0 : Nat) + (1 : Nat))) = (Go.Abs.recI r (1 : Nat))))
    (h9 : ((Go.Abs.recW (List.getD m (Int.toNat b) ([] : List (Abs.Fd))) (((0 : Nat) + (1 : Nat)) + (1 : Nat))) = (Go.Abs.recW r (2 : Nat)))) :
    ∃ ps, runO Try.prog D0 [] 100 Try.f14 ([rowE m], [.one (.own 0), .one (.int .i64 false now)]) [.loop (loopL D0 (rdSn m now (-1) 0) (.exit 0) (rdEd m now b)), .is false, .loop (loopL D0 (exSn m b r [] 0) (.exit 2) (exEd m r o))] (.tup [.one (.own 1), evW r, .one (.bool true true)]) [rowE m, rowE o] = some ps ∧ AllQ ps := ⟨_, rd_some_r m now b r o, AllP.all ⟨h1, rfl, rfl, rfl, rfl, rfl, h2, h3, h4, h5, h6, rfl, rfl, rfl, rfl, h7, h8, h9, rfl, rfl, rfl, rfl, rfl, rfl⟩⟩

def rfSn (m : List Rec) (w : Int) (o : List Rec) (k : Int) : Sn D0.τ where
  slots := [(0, .v (.one (.own 0))), (1, .v (.one (.int .i64 false w))), (5, .v (.one (.own 1))), (9, .v (.one (.int .i64 false m.length))), (10, .v (.one (.int .i64 false k)))]
  boxes := [(0, rowE m), (1, rowE o)]
  nt := 29
  np := 1
def rfEd (m : List Rec) (o : List Rec) : Sn D0.τ where
  slots := [(5, .v (.one (.own 1)))]
  boxes := [(0, rowE m), (1, rowE o)]
  nt := 29
  np := 1
theorem rf_skip_r (m : List Rec) (w : Int) (o : List Rec) (k k' : Int) : stepPs Try.prog D0 [] 100 (bodyN Try.f16 0) 100 (rfSn m w o k).st [.is true, .is false] .normal (rfSn m w o k') =
    some [((decide (k < (((List.length m) : Nat) : Int))) = Bool.true), ((0 : Int) ≤ k), (k < (((List.length m) : Nat) : Int)), ((Int.toNat k) < (List.length m)), (((Go.Abs.recI (List.getD m (Int.toNat k) ([] : List (Abs.Fd))) ((0 : Nat) + (1 : Nat))) != w) = Bool.false), (Go.Abs.InI64 (k + (1 : Int))), (w = w), ((((List.length m) : Nat) : Int) = (((List.length m) : Nat) : Int)), ((k + (1 : Int)) = k'), (m = m), (o = o)] := by kernel_rfl
theorem rf_skip (m : List Rec) (w : Int) (o : List Rec) (k k' : Int)
    (h1 : ((decide (k < (((List.length m) : Nat) : Int))) = Bool.true))
    (h2 : ((0 : Int) ≤ k))
    (h3 : (k < (((List.length m) : Nat) : Int)))
    (h4 : ((Int.toNat k) < (List.length m)))
    (h5 : (((Go.Abs.recI (List.getD m (Int.toNat k) ([] : List (Abs.Fd))) ((0 : Nat) + (1 : Nat))) != w) = Bool.false))
    (h6 : (Go.Abs.InI64 (k + (1 : Int))))
    (h7 : ((k + (1 : Int)) = k')) :
    ∃ ps, stepPs Try.prog D0 [] 100 (bodyN Try.f16 0) 100 (rfSn m w o k).st [.is true, .is false] .normal (rfSn m w o k') = some ps ∧ AllQ ps := ⟨_, rf_skip_r m w o k k', AllP.all ⟨h1, h2, h3, h4, h5, h6, rfl, rfl, h7, rfl, rfl⟩⟩

theorem rf_take_r (m : List Rec) (w : Int) (o o' : List Rec) (k k' : Int) : stepPs Try.prog D0 [] 100 (bodyN Try.f16 0) 100 (rfSn m w o k).st [.is true, .is true] .normal (rfSn m w o' k') =
    some [((decide (k < (((List.length m) : Nat) : Int))) = Bool.true), ((0 : Int) ≤ k), (k < (((List.length m) : Nat) : Int)), ((Int.toNat k) < (List.length m)), (((Go.Abs.recI (List.getD m (Int.toNat k) ([] : List (Abs.Fd))) ((0 : Nat) + (1 : Nat))) != w) = Bool.true), ((0 : Int) ≤ k), (k < (((List.length m) : Nat) : Int)), ((Int.toNat k) < (List.length m)), ((((List.length o) + (1 : Nat)) * (40 : Nat)) ≤ (140737488355328 : Nat)), (((List.length o) + (1 : Nat)) ≤ (9223372036854775807 : Nat)), (Go.Abs.InI64 (k + (1 : Int))), (w = w), ((((List.length m) : Nat) : Int) = (((List.length m) : Nat) : Int)), ((k + (1 : Int)) = k'), (m = m), ((o ++ (((Go.Abs.Fd.i (Go.Abs.recI (List.getD m (Int.toNat k) ([] : List (Abs.Fd))) (0 : Nat))) :: ((Go.Abs.Fd.i (Go.Abs.recI (List.getD m (Int.toNat k) ([] : List (Abs.Fd))) ((0 : Nat) + (1 : Nat)))) :: ((Go.Abs.Fd.w (Go.Abs.recW (List.getD m (Int.toNat k) ([] : List (Abs.Fd))) (((0 : Nat) + (1 : Nat)) + (1 : Nat)))) :: ([] : List (Abs.Fd))))) :: ([] : List (Rec)))) = o')] := by kernel_rfl
theorem rf_take (m : List Rec) (w : Int) (o o' : List Rec) (k k' : Int)
    (h1 : ((decide (k < (((List.length m) : Nat) : Int))) = Bool.true))
    (h2 : ((0 : Int) ≤ k))
    (h3 : (k < (((List.length m) : Nat) : Int)))
    (h4 : ((Int.toNat k) < (List.length m)))
    (h5 : (((Go.Abs.recI (List.getD m (Int.toNat k) ([] : List (Abs.Fd))) ((0 : Nat) + (1 : Nat))) != w) = Bool.true))
    (h6 : ((((List.length o) + (1 : Nat)) * (40 : Nat)) ≤ (140737488355328 : Nat)))
    (h7 : (((List.length o) + (1 : Nat)) ≤ (9223372036854775807 : Nat)))
    (h8 : (Go.Abs.InI64 (k + (1 : Int))))
    (h9 : ((k + (1 : Int)) = k'))
    (h10 : ((o ++ (((Go.Abs.Fd.i (Go.Abs.recI (List.getD m (Int.toNat k) ([] : List (Abs.Fd))) (0 : Nat))) :: ((Go.Abs.Fd.i (Go.Abs.recI (List.getD m (Int.toNat k) ([] : List (Abs.Fd))) ((0 : Nat) + (1 : Nat)))) :: ((Go.Abs.Fd.w (Go.Abs.recW (List.getD m (Int.toNat k) ([] : List (Abs.Fd))) (((0 : Nat) + (1 : Nat)) + (1 : Nat)))) :: ([] : List (Abs.Fd))))) :: ([] : List (Rec)))) = o')) :
    ∃ ps, stepPs Try.prog D0 [] 100 (bodyN Try.f16 0) 100 (rfSn m w o k).st [.is true, .is true] .normal (rfSn m w o' k') = some ps ∧ AllQ ps := ⟨_, rf_take_r m w o o' k k', AllP.all ⟨h1, h2, h3, h4, h5, h2, h3, h4, h6, h7, h8, rfl, rfl, h9, rfl, h10⟩⟩

theorem rf_exit_r (m : List Rec) (w : Int) (o : List Rec) (k : Int) : stepPs Try.prog D0 [] 100 (bodyN Try.f16 0) 100 (rfSn m w o k).st [.is false] (.exit 0) (rfEd m o) =
    some [((decide (k < (((List.length m) : Nat) : Int))) = Bool.false), (m = m), (o = o)] := by kernel_rfl
theorem rf_exit (m : List Rec) (w : Int) (o : List Rec) (k : Int)
    (h1 : ((decide (k < (((List.length m) : Nat) : Int))) = Bool.false)) :
    ∃ ps, stepPs Try.prog D0 [] 100 (bodyN Try.f16 0) 100 (rfSn m w o k).st [.is false] (.exit 0) (rfEd m o) = some ps ∧ AllQ ps := ⟨_, rf_exit_r m w o k, AllP.all ⟨h1, rfl, rfl⟩⟩

theorem rf_run_r (m : List Rec) (w : Int) (o : List Rec) : runO Try.prog D0 [] 100 Try.f16 ([rowE m], [.one (.own 0), .one (.int .i64 false w)]) [.loop (loopL D0 (rfSn m w [] 0) (.exit 0) (rfEd m o))] (.v (.one (.own 1))) [rowE m, rowE o] =
    some [SumOK Try.prog D0 (bodyN Try.f16 0) (loopL D0 (rfSn m w [] 0) (.exit 0) (rfEd m o)), (w = w), ((((List.length m) : Nat) : Int) = (((List.length m) : Nat) : Int)), ((0 : Int) = (0 : Int)), (m = m), (([] : List (Rec)) = ([] : List (Rec))), (m = m), (o = o)] := by kernel_rfl
theorem rf_run (m : List Rec) (w : Int) (o : List Rec)
    (h1 : SumOK Try.prog D0 (bodyN Try.f16 0) (loopL D0 (rfSn m w [] 0) (.exit 0) (rfEd m o))) :
    ∃ ps, runO Try.prog D0 [] 100 Try.f16 ([rowE m], [.one (.own 0), .one (.int .i64 false w)]) [.loop (loopL D0 (rfSn m w [] 0) (.exit 0) (rfEd m o))] (.v (.one (.own 1))) [rowE m, rowE o] = some ps ∧ AllQ ps := ⟨_, rf_run_r m w o, AllP.all ⟨h1, rfl, rfl, rfl, rfl, rfl, rfl, rfl⟩⟩

/-! Put -/

def mkV (a b : Int) (d : List Int) : Rec := [.i a, .i b, .w d]
def rpRd : List (BoxSt D0.τ) → List (A0 D0.τ) → Option (List Rec × Int × Int × List Int)
  | [.dyn e (.lrs sh m)], [.one (.own 0), .agg qs] => match qs with
    | [.int .i64 _ a, .int .i64 _ b, x] => bif Nat.beq e 30 && shEq sh evSh then (wdOf x).map fun d => (m, a, b, d) else none
    | _ => none
  | _, _ => none
def rpPre (t : List Rec × Int × Int × List Int) : List (BoxSt D0.τ) × List (A0 D0.τ) := ([rowE t.1], [.one (.own 0), evP t.2.1 t.2.2.1 t.2.2.2])
noncomputable def refPutQ := mkF D0 Try.f13.ntmps rpRd rpPre (fun t => some (.tup [.one (.own 1), .one (.int .i64 true 0)], [.dead, rowE (t.1 ++ [mkV t.2.1 t.2.2.1 t.2.2.2])], [okA t.2.1 t.1, t.2.2.2.length ≤ 140737488355328]))
noncomputable def refPutNoQ := mkF D0 Try.f13.ntmps rpRd rpPre (fun t => some (.tup [.one (.own 0), .one (.int .i64 false (ptErr t.2.1 t.1.length))], [rowE t.1], [¬ okA t.2.1 t.1]))

theorem refPut_ok : OpOK Try.prog D0 13 refPutQ := by
  refine opOK_mk gamR_ok mixed Try.func13 (enters_of Try.func13 (by kernel_rfl) rfl) ?_
  rintro ⟨m, a, b, d⟩ r' bs' ps h hps
  simp only [Option.some.injEq, Prod.mk.injEq] at h
  obtain ⟨rfl, rfl, rfl⟩ := h
  have h1 : okA a m := hps (okA a m) (by simp)
  have h2 : d.length ≤ 140737488355328 := hps (d.length ≤ 140737488355328) (by simp)
  have h3 := h1.2
  exact ⟨_, _, rp_ok m _ a b d (decide_eq_false (by have := h1.1; omega)) (decide_eq_false (by have := h1.1; omega)) (decide_eq_false (by omega)) (by omega) (by omega) (by omega) rfl⟩

theorem refPutNo_ok : OpOK Try.prog D0 13 refPutNoQ := by
  refine opOK_mk gamR_ok mixed Try.func13 (enters_of Try.func13 (by kernel_rfl) rfl) ?_
  rintro ⟨m, a, b, d⟩ r' bs' ps h hps
  simp only [Option.some.injEq, Prod.mk.injEq] at h
  obtain ⟨rfl, rfl, rfl⟩ := h
  have h1 : ¬ okA a m := hps (¬ okA a m) (by simp)
  unfold okA at h1
  by_cases h0 : 0 ≤ a ∧ a ≤ 1099511627776
  · exact ⟨_, _, rp_full m a b _ d (decide_eq_false (by omega)) (decide_eq_false (by omega)) (decide_eq_true (by omega)) (by unfold ptErr; rw [if_pos h0])⟩
  · by_cases h2 : a < 0
    · exact ⟨_, _, rp_less m a b _ d (decide_eq_true h2) (by unfold ptErr; rw [if_neg h0])⟩
    · exact ⟨_, _, rp_more m a b _ d (decide_eq_false h2) (decide_eq_true (by omega)) (by unfold ptErr; rw [if_neg h0])⟩

/-! Due -/

/-- The first one of the least time, of the first so many. -/
def bF (m : List Rec) (now : Int) : Nat → Int
  | 0 => -1
  | k + 1 => if recI (m.getD k []) 0 ≤ now ∧ (bF m now k < 0 ∨ recI (m.getD k []) 0 < recI (m.getD (bF m now k).toNat []) 0) then k else bF m now k

theorem bF_inv (m : List Rec) (now : Int) : ∀ k, (bF m now k = -1 ∧ ∀ i, i < k → now < recI (m.getD i []) 0) ∨ (0 ≤ bF m now k ∧ bF m now k < k ∧ recI (m.getD (bF m now k).toNat []) 0 ≤ now ∧ ∀ i : Nat, i < k → recI (m.getD (bF m now k).toNat []) 0 ≤ recI (m.getD i []) 0 ∧ ((i : Int) < bF m now k → recI (m.getD (bF m now k).toNat []) 0 < recI (m.getD i []) 0))
  | 0 => Or.inl ⟨rfl, fun i hi => by cases hi⟩
  | k + 1 => by
    have ih := bF_inv m now k
    unfold bF
    split
    · rename_i hc
      right
      rw [Int.toNat_natCast]
      refine ⟨by omega, by omega, hc.1, fun i hi => ?_⟩
      by_cases hik : i = k
      · subst hik
        exact ⟨Int.le_refl _, fun h => by omega⟩
      · rcases ih with ⟨h1, h2⟩ | ⟨h1, h2, h3, h4⟩
        · have := h2 i (by omega)
          exact ⟨by omega, fun _ => by omega⟩
        · have h5 := (h4 i (by omega)).1
          have h6 := hc.2.resolve_left (by omega)
          exact ⟨by omega, fun _ => by omega⟩
    · rename_i hc
      rcases ih with ⟨h1, h2⟩ | ⟨h1, h2, h3, h4⟩
      · left
        refine ⟨h1, fun i hi => ?_⟩
        by_cases hik : i = k
        · subst hik
          omega
        · exact h2 i (by omega)
      · right
        refine ⟨h1, by omega, h3, fun i hi => ?_⟩
        by_cases hik : i = k
        · subst hik
          exact ⟨by omega, fun h => by omega⟩
        · exact h4 i (by omega)

theorem rd_loop {m : List Rec} {now : Int} (hl : m.length ≤ 100000) : SumOK Try.prog D0 (bodyN Try.f14 0) (loopL D0 (rdSn m now (-1) 0) (.exit 0) (rdEd m now (bF m now m.length))) := by
  refine sum_loop gam_nil mixed (fun k => rdSn m now (bF m now k) k) m.length rfl (fun k hk => ?_) ?_
  · have d1 : decide ((k : Int) < m.length) = true := decide_eq_true (by omega)
    have i1 : InI64 ((k : Int) + 1) := ⟨by omega, by omega⟩
    have e : bF m now (k + 1) = if recI (m.getD k []) 0 ≤ now ∧ (bF m now k < 0 ∨ recI (m.getD k []) 0 < recI (m.getD (bF m now k).toNat []) 0) then (k : Int) else bF m now k := rfl
    have hin := bF_inv m now k
    by_cases c1 : recI (m.getD k []) 0 ≤ now
    · by_cases c2 : bF m now k < 0
      · rw [e, if_pos ⟨c1, Or.inl c2⟩]
        exact ⟨_, _, _, rd_first m now _ _ k _ d1 (by omega) (by omega) (by omega) (decide_eq_true c1) (decide_eq_true c2) i1 rfl rfl⟩
      · by_cases c3 : recI (m.getD k []) 0 < recI (m.getD (bF m now k).toNat []) 0
        · rw [e, if_pos ⟨c1, Or.inr c3⟩]
          exact ⟨_, _, _, rd_less m now _ _ k _ d1 (by omega) (by omega) (by omega) (decide_eq_true c1) (decide_eq_false c2) (by omega) (by omega) (by omega) (decide_eq_true c3) i1 rfl rfl⟩
        · rw [e, if_neg (fun h => h.2.elim c2 c3)]
          exact ⟨_, _, _, rd_not m now _ k _ d1 (by omega) (by omega) (by omega) (decide_eq_true c1) (decide_eq_false c2) (by omega) (by omega) (by omega) (decide_eq_false c3) i1 rfl⟩
    · rw [e, if_neg (fun h => c1 h.1)]
      exact ⟨_, _, _, rd_late m now _ k _ d1 (by omega) (by omega) (by omega) (decide_eq_false c1) i1 rfl⟩
  · exact ⟨_, _, _, rd_exit m now _ _ (decide_eq_false (by omega))⟩

theorem erase_take {m : List Rec} (b : Nat) {k : Nat} (hk : k < m.length) : (m.take (k + 1)).eraseIdx b = if k = b then (m.take k).eraseIdx b else (m.take k).eraseIdx b ++ [m.getD k []] := by
  have hl : (m.take k).length = k := by rw [List.length_take]; omega
  rw [take_getD hk]
  by_cases hkb : k = b
  · subst hkb
    rw [if_pos rfl, List.eraseIdx_append_of_length_le (by omega), hl, Nat.sub_self, List.eraseIdx_of_length_le (l := m.take k) (by omega)]
    exact List.append_nil _
  · rw [if_neg hkb]
    by_cases hlt : b < k
    · rw [List.eraseIdx_append_of_lt_length (by omega)]
    · rw [List.eraseIdx_append_of_length_le (by omega), hl, List.eraseIdx_of_length_le (l := m.take k) (by omega), List.eraseIdx_of_length_le (l := [m.getD k []]) (by simp only [List.length_singleton]; omega)]

theorem ex_loop {m : List Rec} {b : Nat} {r : Rec} (hE : EvAll m) (hl : m.length ≤ 100000) : SumOK Try.prog D0 (bodyN Try.f14 1) (loopL D0 (exSn m b r [] 0) (.exit 2) (exEd m r (m.eraseIdx b))) := by
  have hs := sum_loop gam_nil mixed (c := bodyN Try.f14 1) (fun k => exSn m b r ((m.take k).eraseIdx b) k) m.length (e := .exit 2) (s := exEd m r ((m.take m.length).eraseIdx b)) rfl (fun k hk => ?_) ?_
  · rw [List.take_length] at hs
    exact hs
  · have d1 : decide ((k : Int) < m.length) = true := decide_eq_true (by omega)
    have i1 : InI64 ((k : Int) + 1) := ⟨by omega, by omega⟩
    have hle : ((m.take k).eraseIdx b).length ≤ k := Nat.le_trans (List.length_eraseIdx_le ..) (by rw [List.length_take]; omega)
    rw [erase_take b hk]
    by_cases hkb : k = b
    · rw [if_pos hkb]
      exact ⟨_, _, _, ex_skip m b r _ k _ d1 (by rw [hkb]; exact bne_self_eq_false _) i1 rfl⟩
    · rw [if_neg hkb]
      refine ⟨_, _, _, ex_take m b r _ _ k _ d1 (bne_iff_ne.2 (by omega)) (by omega) (by omega) (by omega) (by omega) (by omega) i1 rfl ?_⟩
      rw [Int.toNat_natCast]
      show _ ++ [[Fd.i (recI (m.getD k []) 0), .i (recI (m.getD k []) 1), .w (recW (m.getD k []) 2)]] = _
      rw [(hE.at hk).reb]
  · exact ⟨_, _, _, ex_exit m b r _ _ (decide_eq_false (by omega))⟩

def rdRd : List (BoxSt D0.τ) → List (A0 D0.τ) → Option (List Rec × Int)
  | [.dyn e (.lrs sh m)], [.one (.own 0), .one (.int .i64 _ now)] => bif Nat.beq e 30 && shEq sh evSh then some (m, now) else none
  | _, _ => none
def rdPre (t : List Rec × Int) : List (BoxSt D0.τ) × List (A0 D0.τ) := ([rowE t.1], [.one (.own 0), .one (.int .i64 false t.2)])
noncomputable def refDueNoQ := mkF D0 Try.f14.ntmps rdRd rdPre (fun t => some (.tup [.one (.own 0), evZ, .one (.bool true false)], [rowE t.1], [t.1.length ≤ 100000, bF t.1 t.2 t.1.length < 0]))
noncomputable def refDueQ := mkF D0 Try.f14.ntmps rdRd rdPre (fun t => some (.tup [.one (.own 1), evW (t.1.getD (bF t.1 t.2 t.1.length).toNat []), .one (.bool true true)], [rowE t.1, rowE (t.1.eraseIdx (bF t.1 t.2 t.1.length).toNat)], [t.1.length ≤ 100000, 0 ≤ bF t.1 t.2 t.1.length, EvAll t.1]))

theorem refDueNo_ok : OpOK Try.prog D0 14 refDueNoQ := by
  refine opOK_mk gam_nil mixed Try.func14 (enters_of Try.func14 (by kernel_rfl) rfl) ?_
  rintro ⟨m, now⟩ r' bs' ps h hps
  simp only [Option.some.injEq, Prod.mk.injEq] at h
  obtain ⟨rfl, rfl, rfl⟩ := h
  have h1 : m.length ≤ 100000 := hps (m.length ≤ 100000) (by simp)
  have h2 : bF m now m.length < 0 := hps (bF m now m.length < 0) (by simp)
  exact ⟨_, _, rd_none m now _ (rd_loop h1) (decide_eq_true h2)⟩

theorem refDue_ok : OpOK Try.prog D0 14 refDueQ := by
  refine opOK_mk gam_nil mixed Try.func14 (enters_of Try.func14 (by kernel_rfl) rfl) ?_
  rintro ⟨m, now⟩ r' bs' ps h hps
  simp only [Option.some.injEq, Prod.mk.injEq] at h
  obtain ⟨rfl, rfl, rfl⟩ := h
  have h1 : m.length ≤ 100000 := hps (m.length ≤ 100000) (by simp)
  have h2 : 0 ≤ bF m now m.length := hps (0 ≤ bF m now m.length) (by simp)
  have h3 : EvAll m := hps (EvAll m) (by simp)
  have h4 := bF_inv m now m.length
  have hx := ex_loop (b := (bF m now m.length).toNat) (r := m.getD (bF m now m.length).toNat []) h3 h1
  rw [Int.toNat_of_nonneg h2] at hx
  exact ⟨_, _, rd_some m now _ _ _ (rd_loop h1) (decide_eq_false (by omega)) h2 (by omega) (by omega) hx rfl rfl rfl⟩

/-! Forget -/

theorem rf_loop {m : List Rec} {w : Int} (hE : EvAll m) (hl : m.length ≤ 100000) : SumOK Try.prog D0 (bodyN Try.f16 0) (loopL D0 (rfSn m w [] 0) (.exit 0) (rfEd m (keepW w m))) := by
  have hs := sum_loop gam_nil mixed (c := bodyN Try.f16 0) (fun k => rfSn m w (keepW w (m.take k)) k) m.length (e := .exit 0) (s := rfEd m (keepW w (m.take m.length))) rfl (fun k hk => ?_) ?_
  · rw [List.take_length] at hs
    exact hs
  · have d1 : decide ((k : Int) < m.length) = true := decide_eq_true (by omega)
    have i1 : InI64 ((k : Int) + 1) := ⟨by omega, by omega⟩
    have hle : (keepW w (m.take k)).length ≤ k := Nat.le_trans (List.length_filter_le ..) (by rw [List.length_take]; omega)
    have e : keepW w (m.take (k + 1)) = keepW w (m.take k) ++ keepW w [m.getD k []] := by
      rw [take_getD hk]
      exact List.filter_append ..
    rw [e]
    by_cases hw : recI (m.getD k []) 1 = w
    · have e2 : keepW w [m.getD k []] = [] := by
        unfold keepW isW
        simp only [List.filter, hw, beq_self_eq_true, Bool.not_true]
      rw [e2, List.append_nil]
      exact ⟨_, _, _, rf_skip m w _ k _ d1 (by omega) (by omega) (by omega) (by rw [Int.toNat_natCast, hw]; exact bne_self_eq_false _) i1 rfl⟩
    · have e2 : keepW w [m.getD k []] = [m.getD k []] := by
        unfold keepW isW
        simp only [List.filter, beq_eq_false_iff_ne.2 hw, Bool.not_false]
      rw [e2]
      refine ⟨_, _, _, rf_take m w _ _ k _ d1 (by omega) (by omega) (by omega) (by rw [Int.toNat_natCast]; exact bne_iff_ne.2 hw) (by omega) (by omega) i1 rfl ?_⟩
      rw [Int.toNat_natCast]
      show _ ++ [[Fd.i (recI (m.getD k []) 0), .i (recI (m.getD k []) 1), .w (recW (m.getD k []) 2)]] = _
      rw [(hE.at hk).reb]
  · exact ⟨_, _, _, rf_exit m w _ _ (decide_eq_false (by omega))⟩

noncomputable def refForgetQ := mkF D0 Try.f16.ntmps rdRd rdPre (fun t => some (.v (.one (.own 1)), [rowE t.1, rowE (keepW t.2 t.1)], [t.1.length ≤ 100000, EvAll t.1]))
theorem refForget_ok : OpOK Try.prog D0 16 refForgetQ := by
  refine opOK_mk gam_nil mixed Try.func16 (enters_of Try.func16 (by kernel_rfl) rfl) ?_
  rintro ⟨m, w⟩ r' bs' ps h hps
  simp only [Option.some.injEq, Prod.mk.injEq] at h
  obtain ⟨rfl, rfl, rfl⟩ := h
  have h1 : m.length ≤ 100000 := hps (m.length ≤ 100000) (by simp)
  have h3 : EvAll m := hps (EvAll m) (by simp)
  exact ⟨_, _, rf_run m w _ (rf_loop h3 h1)⟩

end Go.Num
