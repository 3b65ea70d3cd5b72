/- Queue: a heap's Push, Pop and Init; a copy of bytes. -/
import Derived.Test.YtglemaieddgjcaaQ2
namespace Go.Num
open Go.Abs Go.Proofs Go.Shelf

/-- The contracts that a heap's functions lean on. -/
noncomputable def gamI : Gam D0 := (25, .op [true, false] upQ) :: (26, .op [true, false, false] dnQ) :: gamH

theorem gamI_ok : GamOK Try.prog D0 gamI := gam_op up_ok (gam_op dn_ok gamH_ok)

theorem hpush_run_r (ll ll' : List Rec) (n : Int) (r : Rec) : runO Try.prog D0 gamI 100 Try.f19 ([.fixed 55 (quP n), rowQ ll], [.one (.ifr 57 0 0), .one (.ifa 59 enSh r)]) [] (.tup []) [.fixed 55 [.own 2, .int .u64 false n], .dead, rowQ ll'] =
    some [(r = r), (n = n), (ll = ll), ((List.length ll) ≤ (100000 : Nat)), (Go.Num.enOK r), (Go.Abs.InI64 ((((List.length (ll ++ (r :: ([] : List (Rec))))) : Nat) : Int) - (1 : Int))), (((((List.length (ll ++ (r :: ([] : List (Rec))))) : Nat) : Int) - (1 : Int)) = ((((List.length (ll ++ (r :: ([] : List (Rec))))) : Nat) : Int) - (1 : Int))), (n = n), ((ll ++ (r :: ([] : List (Rec)))) = (ll ++ (r :: ([] : List (Rec))))), ((0 : Int) ≤ ((((List.length (ll ++ (r :: ([] : List (Rec))))) : Nat) : Int) - (1 : Int))), (((((List.length (ll ++ (r :: ([] : List (Rec))))) : Nat) : Int) - (1 : Int)) < (((List.length (ll ++ (r :: ([] : List (Rec))))) : Nat) : Int)), (Go.Num.EnAll (ll ++ (r :: ([] : List (Rec))))), ((List.length (ll ++ (r :: ([] : List (Rec))))) ≤ (1000000 : Nat)), (n = n), ((Go.Num.upL (ll ++ (r :: ([] : List (Rec)))) (Int.toNat ((((List.length (ll ++ (r :: ([] : List (Rec))))) : Nat) : Int) - (1 : Int)))) = ll')] := by kernel_rfl
theorem hpush_run (ll ll' : List Rec) (n : Int) (r : Rec)
    (h1 : ((List.length ll) ≤ (100000 : Nat)))
    (h2 : (Go.Num.enOK r))
    (h3 : (Go.Abs.InI64 ((((List.length (ll ++ (r :: ([] : List (Rec))))) : Nat) : Int) - (1 : Int))))
    (h4 : ((0 : Int) ≤ ((((List.length (ll ++ (r :: ([] : List (Rec))))) : Nat) : Int) - (1 : Int))))
    (h5 : (((((List.length (ll ++ (r :: ([] : List (Rec))))) : Nat) : Int) - (1 : Int)) < (((List.length (ll ++ (r :: ([] : List (Rec))))) : Nat) : Int)))
    (h6 : (Go.Num.EnAll (ll ++ (r :: ([] : List (Rec))))))
    (h7 : ((List.length (ll ++ (r :: ([] : List (Rec))))) ≤ (1000000 : Nat)))
    (h8 : ((Go.Num.upL (ll ++ (r :: ([] : List (Rec)))) (Int.toNat ((((List.length (ll ++ (r :: ([] : List (Rec))))) : Nat) : Int) - (1 : Int)))) = ll')) :
    ∃ ps, runO Try.prog D0 gamI 100 Try.f19 ([.fixed 55 (quP n), rowQ ll], [.one (.ifr 57 0 0), .one (.ifa 59 enSh r)]) [] (.tup []) [.fixed 55 [.own 2, .int .u64 false n], .dead, rowQ ll'] = some ps ∧ AllQ ps := ⟨_, hpush_run_r ll ll' n r, AllP.all ⟨rfl, rfl, rfl, h1, h2, h3, rfl, rfl, rfl, h4, h5, h6, h7, rfl, h8⟩⟩

theorem hpop_run_r (ll ll' : List Rec) (n : Int) (r : Rec) : runO Try.prog D0 gamI 100 Try.f20 ([.fixed 55 (quP n), rowQ ll], [.one (.ifr 57 0 0)]) [.keep] (.v (.one (.ifa 59 enSh r))) [.fixed 55 [.own 2, .int .u64 false n], .dead, rowQ ll'] =
    some [(Go.Abs.InI64 ((((List.length ll) : Nat) : Int) - (1 : Int))), ((0 : Int) = (0 : Int)), (((((List.length ll) : Nat) : Int) - (1 : Int)) = ((((List.length ll) : Nat) : Int) - (1 : Int))), (ll = ll), ((0 : Int) ≤ (0 : Int)), ((0 : Int) < (((List.length ll) : Nat) : Int)), ((0 : Int) ≤ ((((List.length ll) : Nat) : Int) - (1 : Int))), (((((List.length ll) : Nat) : Int) - (1 : Int)) < (((List.length ll) : Nat) : Int)), (Go.Num.EnAll ll), ((0 : Int) = (0 : Int)), (((((List.length ll) : Nat) : Int) - (1 : Int)) = ((((List.length ll) : Nat) : Int) - (1 : Int))), (n = n), ((Go.Num.swapL ll (0 : Nat) (Int.toNat ((((List.length ll) : Nat) : Int) - (1 : Int)))) = (Go.Num.swapL ll (0 : Nat) (Int.toNat ((((List.length ll) : Nat) : Int) - (1 : Int))))), ((0 : Int) ≤ (0 : Int)), ((0 : Int) < (((List.length (Go.Num.swapL ll (0 : Nat) (Int.toNat ((((List.length ll) : Nat) : Int) - (1 : Int))))) : Nat) : Int)), ((0 : Int) ≤ ((((List.length ll) : Nat) : Int) - (1 : Int))), (((((List.length ll) : Nat) : Int) - (1 : Int)) ≤ (((List.length (Go.Num.swapL ll (0 : Nat) (Int.toNat ((((List.length ll) : Nat) : Int) - (1 : Int))))) : Nat) : Int)), (Go.Num.EnAll (Go.Num.swapL ll (0 : Nat) (Int.toNat ((((List.length ll) : Nat) : Int) - (1 : Int))))), ((List.length (Go.Num.swapL ll (0 : Nat) (Int.toNat ((((List.length ll) : Nat) : Int) - (1 : Int))))) ≤ (1000000 : Nat)), (n = n), ((Go.Num.dnL (Go.Num.swapL ll (0 : Nat) (Int.toNat ((((List.length ll) : Nat) : Int) - (1 : Int)))) (0 : Nat) (Int.toNat ((((List.length ll) : Nat) : Int) - (1 : Int)))) = (Go.Num.dnL (Go.Num.swapL ll (0 : Nat) (Int.toNat ((((List.length ll) : Nat) : Int) - (1 : Int)))) (0 : Nat) (Int.toNat ((((List.length ll) : Nat) : Int) - (1 : Int))))), ((List.length (Go.Num.dnL (Go.Num.swapL ll (0 : Nat) (Int.toNat ((((List.length ll) : Nat) : Int) - (1 : Int)))) (0 : Nat) (Int.toNat ((((List.length ll) : Nat) : Int) - (1 : Int))))) ≤ (100000 : Nat)), ((0 : Nat) < (List.length (Go.Num.dnL (Go.Num.swapL ll (0 : Nat) (Int.toNat ((((List.length ll) : Nat) : Int) - (1 : Int)))) (0 : Nat) (Int.toNat ((((List.length ll) : Nat) : Int) - (1 : Int)))))), (Go.Num.EnAll (Go.Num.dnL (Go.Num.swapL ll (0 : Nat) (Int.toNat ((((List.length ll) : Nat) : Int) - (1 : Int)))) (0 : Nat) (Int.toNat ((((List.length ll) : Nat) : Int) - (1 : Int))))), ((List.getD (Go.Num.dnL (Go.Num.swapL ll (0 : Nat) (Int.toNat ((((List.length ll) : Nat) : Int) - (1 : Int)))) (0 : Nat) (Int.toNat ((((List.length ll) : Nat) : Int) - (1 : Int)))) ((List.length (Go.Num.dnL (Go.Num.swapL ll (0 : Nat) (Int.toNat ((((List.length ll) : Nat) : Int) - (1 : Int)))) (0 : Nat) (Int.toNat ((((List.length ll) : Nat) : Int) - (1 : Int))))) - (1 : Nat)) ([] : List (Abs.Fd))) = r), (n = n), ((List.take ((List.length (Go.Num.dnL (Go.Num.swapL ll (0 : Nat) (Int.toNat ((((List.length ll) : Nat) : Int) - (1 : Int)))) (0 : Nat) (Int.toNat ((((List.length ll) : Nat) : Int) - (1 : Int))))) - (1 : Nat)) (Go.Num.dnL (Go.Num.swapL ll (0 : Nat) (Int.toNat ((((List.length ll) : Nat) : Int) - (1 : Int)))) (0 : Nat) (Int.toNat ((((List.length ll) : Nat) : Int) - (1 : Int))))) = ll')] := by kernel_rfl
theorem hpop_run (ll ll' : List Rec) (n : Int) (r : Rec)
    (h1 : (Go.Abs.InI64 ((((List.length ll) : Nat) : Int) - (1 : Int))))
    (h2 : ((0 : Int) < (((List.length ll) : Nat) : Int)))
    (h3 : ((0 : Int) ≤ ((((List.length ll) : Nat) : Int) - (1 : Int))))
    (h4 : (((((List.length ll) : Nat) : Int) - (1 : Int)) < (((List.length ll) : Nat) : Int)))
    (h5 : (Go.Num.EnAll ll))
    (h6 : ((0 : Int) < (((List.length (Go.Num.swapL ll (0 : Nat) (Int.toNat ((((List.length ll) : Nat) : Int) - (1 : Int))))) : Nat) : Int)))
    (h7 : (((((List.length ll) : Nat) : Int) - (1 : Int)) ≤ (((List.length (Go.Num.swapL ll (0 : Nat) (Int.toNat ((((List.length ll) : Nat) : Int) - (1 : Int))))) : Nat) : Int)))
    (h8 : (Go.Num.EnAll (Go.Num.swapL ll (0 : Nat) (Int.toNat ((((List.length ll) : Nat) : Int) - (1 : Int))))))
    (h9 : ((List.length (Go.Num.swapL ll (0 : Nat) (Int.toNat ((((List.length ll) : Nat) : Int) - (1 : Int))))) ≤ (1000000 : Nat)))
    (h10 : ((List.length (Go.Num.dnL (Go.Num.swapL ll (0 : Nat) (Int.toNat ((((List.length ll) : Nat) : Int) - (1 : Int)))) (0 : Nat) (Int.toNat ((((List.length ll) : Nat) : Int) - (1 : Int))))) ≤ (100000 : Nat)))
    (h11 : ((0 : Nat) < (List.length (Go.Num.dnL (Go.Num.swapL ll (0 : Nat) (Int.toNat ((((List.length ll) : Nat) : Int) - (1 : Int)))) (0 : Nat) (Int.toNat ((((List.length ll) : Nat) : Int) - (1 : Int)))))))
    (h12 : (Go.Num.EnAll (Go.Num.dnL (Go.Num.swapL ll (0 : Nat) (Int.toNat ((((List.length ll) : Nat) : Int) - (1 : Int)))) (0 : Nat) (Int.toNat ((((List.length ll) : Nat) : Int) - (1 : Int))))))
    (h13 : ((List.getD (Go.Num.dnL (Go.Num.swapL ll (0 : Nat) (Int.toNat ((((List.length ll) : Nat) : Int) - (1 : Int)))) (0 : Nat) (Int.toNat ((((List.length ll) : Nat) : Int) - (1 : Int)))) ((List.length (Go.Num.dnL (Go.Num.swapL ll (0 : Nat) (Int.toNat ((((List.length ll) : Nat) : Int) - (1 : Int)))) (0 : Nat) (Int.toNat ((((List.length ll) : Nat) : Int) - (1 : Int))))) - (1 : Nat)) ([] : List (Abs.Fd))) = r))
    (h14 : ((List.take ((List.length (Go.Num.dnL (Go.Num.swapL ll (0 : Nat) (Int.toNat ((((List.length ll) : Nat) : Int) - (1 : Int)))) (0 : Nat) (Int.toNat ((((List.length ll) : Nat) : Int) - (1 : Int))))) - (1 : Nat)) (Go.Num.dnL (Go.Num.swapL ll (0 : Nat) (Int.toNat ((((List.length ll) : Nat) : Int) - (1 : Int)))) (0 : Nat) (Int.toNat ((((List.length ll) : Nat) : Int) - (1 : Int))))) = ll')) :
    ∃ ps, runO Try.prog D0 gamI 100 Try.f20 ([.fixed 55 (quP n), rowQ ll], [.one (.ifr 57 0 0)]) [.keep] (.v (.one (.ifa 59 enSh r))) [.fixed 55 [.own 2, .int .u64 false n], .dead, rowQ ll'] = some ps ∧ AllQ ps := ⟨_, hpop_run_r ll ll' n r, AllP.all ⟨h1, rfl, rfl, rfl, (show ((0 : Int) ≤ (0 : Int)) from by decide), h2, h3, h4, h5, rfl, rfl, rfl, rfl, (show ((0 : Int) ≤ (0 : Int)) from by decide), h6, h3, h7, h8, h9, rfl, rfl, h10, h11, h12, h13, rfl, h14⟩⟩

def inSn (n : Int) (ll : List Rec) (m i : Int) : Sn D0.τ where
  slots := [hpS, (2, .v (.one (.int .i64 false m))), (3, .v (.one (.int .i64 false i)))]
  boxes := hpB n ll
  nt := 17
  np := 2
def inEd (n : Int) (ll : List Rec) : Sn D0.τ where
  slots := []
  boxes := hpB n ll
  nt := 17
  np := 2

theorem in_round_r (n : Int) (ll ll' : List Rec) (m i i' : Int) : stepPs Try.prog D0 gamI 100 (bodyN Try.f24 0) 100 (inSn n ll m i).st [.is true, .keep] .normal (inSn n ll' m i') =
    some [((decide (i ≥ (0 : Int))) = Bool.true), (i = i), (m = m), (n = n), (ll = ll), ((0 : Int) ≤ i), (i < (((List.length ll) : Nat) : Int)), ((0 : Int) ≤ m), (m ≤ (((List.length ll) : Nat) : Int)), (Go.Num.EnAll ll), ((List.length ll) ≤ (1000000 : Nat)), (Go.Abs.InI64 (i - (1 : Int))), (m = m), ((i - (1 : Int)) = i'), (n = n), ((Go.Num.dnL ll (Int.toNat i) (Int.toNat m)) = ll')] := by kernel_rfl
theorem in_round (n : Int) (ll ll' : List Rec) (m i i' : Int)
    (h1 : ((decide (i ≥ (0 : Int))) = Bool.true))
    (h2 : ((0 : Int) ≤ i))
    (h3 : (i < (((List.length ll) : Nat) : Int)))
    (h4 : ((0 : Int) ≤ m))
    (h5 : (m ≤ (((List.length ll) : Nat) : Int)))
    (h6 : (Go.Num.EnAll ll))
    (h7 : ((List.length ll) ≤ (1000000 : Nat)))
    (h8 : (Go.Abs.InI64 (i - (1 : Int))))
    (h9 : ((i - (1 : Int)) = i'))
    (h10 : ((Go.Num.dnL ll (Int.toNat i) (Int.toNat m)) = ll')) :
    ∃ ps, stepPs Try.prog D0 gamI 100 (bodyN Try.f24 0) 100 (inSn n ll m i).st [.is true, .keep] .normal (inSn n ll' m i') = some ps ∧ AllQ ps := ⟨_, in_round_r n ll ll' m i i', AllP.all ⟨h1, rfl, rfl, rfl, rfl, h2, h3, h4, h5, h6, h7, h8, rfl, h9, rfl, h10⟩⟩

theorem in_exit_r (n : Int) (ll : List Rec) (m i : Int) : stepPs Try.prog D0 gamI 100 (bodyN Try.f24 0) 100 (inSn n ll m i).st [.is false] (.exit 0) (inEd n ll) =
    some [((decide (i ≥ (0 : Int))) = Bool.false), (n = n), (ll = ll)] := by kernel_rfl
theorem in_exit (n : Int) (ll : List Rec) (m i : Int)
    (h1 : ((decide (i ≥ (0 : Int))) = Bool.false)) :
    ∃ ps, stepPs Try.prog D0 gamI 100 (bodyN Try.f24 0) 100 (inSn n ll m i).st [.is false] (.exit 0) (inEd n ll) = some ps ∧ AllQ ps := ⟨_, in_exit_r n ll m i, AllP.all ⟨h1, rfl, rfl⟩⟩

theorem in_run_r (n i : Int) (ll ll' : List Rec) : runO Try.prog D0 gamI 100 Try.f24 ([.fixed 55 (quP n), rowQ ll], [.one (.ifr 57 0 0)]) [.loop (loopL D0 (inSn n ll ll.length i) (.exit 0) (inEd n ll'))] (.tup []) [.fixed 55 (quP n), rowQ ll'] =
    some [((2 : Int) ≠ (0 : Int)), (Go.Abs.InI64 ((Go.IntKind.wrap Go.IntKind.i64 (Int.tdiv (((List.length ll) : Nat) : Int) (2 : Int))) - (1 : Int))), SumOK Try.prog D0 (bodyN Try.f24 0) (loopL D0 (inSn n ll ll.length i) (.exit 0) (inEd n ll')), ((((List.length ll) : Nat) : Int) = (((List.length ll) : Nat) : Int)), (((Go.IntKind.wrap Go.IntKind.i64 (Int.tdiv (((List.length ll) : Nat) : Int) (2 : Int))) - (1 : Int)) = i), (n = n), (ll = ll), (n = n), (ll' = ll')] := by kernel_rfl
theorem in_run (n i : Int) (ll ll' : List Rec)
    (h1 : (Go.Abs.InI64 ((Go.IntKind.wrap Go.IntKind.i64 (Int.tdiv (((List.length ll) : Nat) : Int) (2 : Int))) - (1 : Int))))
    (h2 : SumOK Try.prog D0 (bodyN Try.f24 0) (loopL D0 (inSn n ll ll.length i) (.exit 0) (inEd n ll')))
    (h3 : (((Go.IntKind.wrap Go.IntKind.i64 (Int.tdiv (((List.length ll) : Nat) : Int) (2 : Int))) - (1 : Int)) = i)) :
    ∃ ps, runO Try.prog D0 gamI 100 Try.f24 ([.fixed 55 (quP n), rowQ ll], [.one (.ifr 57 0 0)]) [.loop (loopL D0 (inSn n ll ll.length i) (.exit 0) (inEd n ll'))] (.tup []) [.fixed 55 (quP n), rowQ ll'] = some ps ∧ AllQ ps := ⟨_, in_run_r n i ll ll', AllP.all ⟨(show ((2 : Int) ≠ (0 : Int)) from by decide), h1, h2, rfl, h3, rfl, rfl, rfl, rfl⟩⟩

theorem clone_nil_r  : runF Try.prog D0 [] 100 Try.f18 [.one .nil] [] =
    some ((Go.Abs.AV.v (Go.Abs.A0.one (Go.Abs.Part.nil))), []) := by kernel_rfl
theorem clone_nil  :
    ∃ ps, runF Try.prog D0 [] 100 Try.f18 [.one .nil] [] = some ((Go.Abs.AV.v (Go.Abs.A0.one (Go.Abs.Part.nil))), ps) ∧ AllQ ps := ⟨_, clone_nil_r , allQ_nil⟩

theorem clone_some_r (l : List Int) : runF Try.prog D0 [] 100 Try.f18 [.one (.nnw .u8 l)] [] =
    some ((Go.Abs.AV.v (Go.Abs.A0.one (Go.Abs.Part.fresh (0 : Nat) (5 : Nat) Go.IntKind.u8 (([] : List (Int)) ++ l)))), [(((0 : Nat) + (List.length l)) ≤ (9223372036854775807 : Nat)), ((((0 : Nat) + (List.length l)) * (1 : Nat)) ≤ (140737488355328 : Nat))]) := by kernel_rfl
theorem clone_some (l : List Int)
    (h1 : (((0 : Nat) + (List.length l)) ≤ (9223372036854775807 : Nat)))
    (h2 : ((((0 : Nat) + (List.length l)) * (1 : Nat)) ≤ (140737488355328 : Nat))) :
    ∃ ps, runF Try.prog D0 [] 100 Try.f18 [.one (.nnw .u8 l)] [] = some ((Go.Abs.AV.v (Go.Abs.A0.one (Go.Abs.Part.fresh (0 : Nat) (5 : Nat) Go.IntKind.u8 (([] : List (Int)) ++ l)))), ps) ∧ AllQ ps := ⟨_, clone_some_r l, AllP.all ⟨h1, h2⟩⟩

def pushL (ll : List Rec) (r : Rec) : List Rec := upL (ll ++ [r]) ll.length
/-- The heap behind Pop's two first steps. -/
def popD (ll : List Rec) : List Rec := dnL (swapL ll 0 (ll.length - 1)) 0 (ll.length - 1)
def popL (ll : List Rec) : List Rec := (popD ll).take (ll.length - 1)
def popE (ll : List Rec) : Rec := (popD ll).getD (ll.length - 1) []

theorem pushL_inv {ll : List Rec} {r : Rec} (hE : EnAll ll) (hr : enOK r) : EnAll (pushL ll r) ∧ (pushL ll r).length = ll.length + 1 := by
  have h := upL_inv (ll := ll ++ [r]) (j := ll.length) (fun x hx => by rcases List.mem_append.1 hx with h | h; exact hE x h; rw [List.mem_singleton.1 h]; exact hr) (by simp)
  exact ⟨h.1, by rw [pushL, h.2, List.length_append]; rfl⟩

theorem popD_inv {ll : List Rec} (hE : EnAll ll) (h : 0 < ll.length) : EnAll (popD ll) ∧ (popD ll).length = ll.length := by
  have h1 := swapL_all hE (i := 0) (j := ll.length - 1) h (by omega)
  have h2 := dnL_inv (i := 0) (m := ll.length - 1) h1 (by rw [swapL_len]; exact h) (by rw [swapL_len]; omega)
  exact ⟨h2.1, by rw [popD, h2.2, swapL_len]⟩

theorem popL_inv {ll : List Rec} (hE : EnAll ll) (h : 0 < ll.length) : EnAll (popL ll) ∧ (popL ll).length = ll.length - 1 := by
  have h1 := popD_inv hE h
  exact ⟨fun x hx => h1.1 x (List.mem_of_mem_take hx), by rw [popL, List.length_take, h1.2]; omega⟩
theorem popE_ok {ll : List Rec} (hE : EnAll ll) (h : 0 < ll.length) : enOK (popE ll) := by
  have h1 := popD_inv hE h
  exact h1.1.at (by rw [h1.2]; omega)

def hpsRd : List (BoxSt D0.τ) → List (A0 D0.τ) → Option (List Rec × Int × Rec)
  | [.fixed t ps, .dyn e (.lrs sh ll)], [.one (.ifr v 0 0), .one (.ifa u sh' r)] => match ps with
    | [.own 1, .int .u64 _ n] => bif (Nat.beq t 55 && (Nat.beq e 59 && Nat.beq v 57)) && (shEq sh enSh && (Nat.beq u 59 && shEq sh' enSh)) then some (ll, n, r) else none
    | _ => none
  | _, _ => none
def hpsPre (t : List Rec × Int × Rec) : List (BoxSt D0.τ) × List (A0 D0.τ) := ([.fixed 55 (quP t.2.1), rowQ t.1], [.one (.ifr 57 0 0), .one (.ifa 59 enSh t.2.2)])
def hpsPost (t : List Rec × Int × Rec) : Option (AV D0.τ × List (BoxSt D0.τ) × List Prop) :=
  some (.tup [], [.fixed 55 [.own 2, .int .u64 false t.2.1], .dead, rowQ (pushL t.1 t.2.2)], [t.1.length ≤ 100000, enOK t.2.2, EnAll t.1])
noncomputable def hpushQ := mkF D0 Try.f19.ntmps hpsRd hpsPre hpsPost

theorem hpush_ok : OpOK Try.prog D0 19 hpushQ := by
  refine opOK_mk gamI_ok mixed Try.func19 (enters_of Try.func19 (by kernel_rfl) rfl) ?_
  rintro ⟨ll, n, r⟩ r' bs' ps h hps
  simp only [hpsPost, Option.some.injEq, Prod.mk.injEq] at h
  obtain ⟨rfl, rfl, rfl⟩ := h
  have h1 : ll.length ≤ 100000 := hps (ll.length ≤ 100000) (by simp)
  have h2 : enOK r := hps (enOK r) (by simp)
  have h3 : EnAll ll := hps (EnAll ll) (by simp)
  have hl : (ll ++ [r]).length = ll.length + 1 := by simp
  exact ⟨_, _, hpush_run ll _ n r h1 h2 (by rw [hl]; exact ⟨by omega, by omega⟩) (by rw [hl]; omega) (by omega) (fun x hx => by rcases List.mem_append.1 hx with h | h; exact h3 x h; rw [List.mem_singleton.1 h]; exact h2) (by omega) (by rw [hl, show (((ll.length + 1 : Nat) : Int) - 1).toNat = ll.length from by omega]; rfl)⟩

def hppRd : List (BoxSt D0.τ) → List (A0 D0.τ) → Option (List Rec × Int)
  | [.fixed t ps, .dyn e (.lrs sh ll)], [.one (.ifr u 0 0)] => match ps with
    | [.own 1, .int .u64 _ n] => bif (Nat.beq t 55 && (Nat.beq e 59 && Nat.beq u 57)) && shEq sh enSh then some (ll, n) else none
    | _ => none
  | _, _ => none
def hppPre (t : List Rec × Int) : List (BoxSt D0.τ) × List (A0 D0.τ) := ([.fixed 55 (quP t.2), rowQ t.1], [.one (.ifr 57 0 0)])
def hppPost (t : List Rec × Int) : Option (AV D0.τ × List (BoxSt D0.τ) × List Prop) :=
  some (.v (.one (.ifa 59 enSh (popE t.1))), [.fixed 55 [.own 2, .int .u64 false t.2], .dead, rowQ (popL t.1)], [t.1.length ≤ 100000, 0 < t.1.length, EnAll t.1])
noncomputable def hpopQ := mkF D0 Try.f20.ntmps hppRd hppPre hppPost

theorem hpop_ok : OpOK Try.prog D0 20 hpopQ := by
  refine opOK_mk gamI_ok mixed Try.func20 (enters_of Try.func20 (by kernel_rfl) rfl) ?_
  rintro ⟨ll, n⟩ r' bs' ps h hps
  simp only [hppPost, Option.some.injEq, Prod.mk.injEq] at h
  obtain ⟨rfl, rfl, rfl⟩ := h
  have h1 : ll.length ≤ 100000 := hps (ll.length ≤ 100000) (by simp)
  have h2 : 0 < ll.length := hps (0 < ll.length) (by simp)
  have hE : EnAll ll := hps (EnAll ll) (by simp)
  have hn : Int.toNat ((ll.length : Int) - 1) = ll.length - 1 := by omega
  have hs := swapL_all hE (i := 0) (j := ll.length - 1) h2 (by omega)
  have hp := popD_inv hE h2
  unfold popD at hp
  have hsl := swapL_len ll 0 (ll.length - 1)
  refine ⟨_, _, hpop_run ll _ n _ ⟨by omega, by omega⟩ (by omega) (by omega) (by omega) hE (by rw [hn]; omega) (by rw [hn]; omega) (by rw [hn]; exact hs) (by rw [hn]; omega) (by rw [hn]; exact Nat.le_trans (Nat.le_of_eq hp.2) h1) (by rw [hn]; exact Nat.lt_of_lt_of_eq h2 hp.2.symm) (by rw [hn]; exact hp.1) ?_ ?_⟩
  · rw [hn]
    show (dnL (swapL ll 0 (ll.length - 1)) 0 (ll.length - 1)).getD ((dnL (swapL ll 0 (ll.length - 1)) 0 (ll.length - 1)).length - 1) [] = popE ll
    rw [hp.2]
    rfl
  · rw [hn]
    show (dnL (swapL ll 0 (ll.length - 1)) 0 (ll.length - 1)).take ((dnL (swapL ll 0 (ll.length - 1)) 0 (ll.length - 1)).length - 1) = popL ll
    rw [hp.2]
    rfl

/-! Init -/

def inNx (m : Nat) (s : List Rec × Nat) : Option (List Rec × Nat) := if s.2 = 0 then none else some (dnL s.1 (s.2 - 1) m, s.2 - 1)
def initL (ll : List Rec) : List Rec := (goOn (inNx ll.length) (ll.length / 2) (ll, ll.length / 2)).1

theorem in_loop {n : Int} {ll : List Rec} (hE : EnAll ll) (hl : ll.length ≤ 1000000) :
    SumOK Try.prog D0 (bodyN Try.f24 0) (loopL D0 (inSn n ll ll.length (((ll.length / 2 : Nat) : Int) - 1)) (.exit 0) (inEd n (initL ll))) := by
  refine sum_while gamI_ok mixed (fun s : List Rec × Nat => inSn n s.1 ll.length ((s.2 : Int) - 1)) (inNx ll.length) (fun s => EnAll s.1 ∧ (s.2 = 0 ∨ s.2 < ll.length) ∧ s.1.length = ll.length) (fun s => s.2) rfl (ll, ll.length / 2) ⟨hE, by omega, rfl⟩ ?_ ?_
  · rintro ⟨l, i⟩ y ⟨h1, h2, h3⟩ hy
    simp only at h1 h2 h3
    unfold inNx at hy
    simp only at hy
    split at hy
    · cases hy
    rename_i h0
    cases hy
    have hd := dnL_inv (i := i - 1) (m := ll.length) h1 (by omega) (by omega)
    have hi : ((i : Int) - 1).toNat = i - 1 := by omega
    refine ⟨⟨hd.1, by simp only; omega, by rw [hd.2]; exact h3⟩, by simp only; omega, ?_⟩
    exact ⟨_, _, _, in_round n l _ ll.length _ _ (decide_eq_true (by omega)) (by omega) (by omega) (by omega) (by omega) h1 (by omega) ⟨by omega, by omega⟩ (by simp only; omega) (by rw [hi]; rfl)⟩
  · rintro ⟨l, i⟩ ⟨h1, h2, h3⟩ hy hz
    simp only at h1 h2 h3
    have hz' : initL ll = l := by unfold initL; rw [← hz]
    rw [hz']
    unfold inNx at hy
    simp only at hy
    split at hy
    · rename_i h0
      subst h0
      exact ⟨_, _, _, in_exit n l ll.length _ (decide_eq_false (by simp only; omega))⟩
    · cases hy

theorem initL_inv {ll : List Rec} (hE : EnAll ll) : EnAll (initL ll) ∧ (initL ll).length = ll.length := by
  have := goOn_inv (next := inNx ll.length) (inv := fun s => EnAll s.1 ∧ (s.2 = 0 ∨ s.2 < ll.length) ∧ s.1.length = ll.length) (fun a b ⟨h1, h2, h3⟩ hb => by
    unfold inNx at hb
    split at hb
    · cases hb
    cases hb
    have hd := dnL_inv (i := a.2 - 1) (m := ll.length) h1 (by omega) (by omega)
    exact ⟨hd.1, by simp only; omega, by rw [hd.2]; exact h3⟩) (ll.length / 2) (ll, ll.length / 2) ⟨hE, by omega, rfl⟩
  exact ⟨this.1, this.2.2⟩

def hinPost (t : List Rec × Int) : Option (AV D0.τ × List (BoxSt D0.τ) × List Prop) :=
  some (.tup [], [.fixed 55 (quP t.2), rowQ (initL t.1)], [t.1.length ≤ 100000, EnAll t.1])
noncomputable def hinitQ := mkF D0 Try.f24.ntmps hppRd hppPre hinPost

theorem hinit_ok : OpOK Try.prog D0 24 hinitQ := by
  refine opOK_mk gamI_ok mixed Try.func24 (enters_of Try.func24 (by kernel_rfl) rfl) ?_
  rintro ⟨ll, n⟩ r' bs' ps h hps
  simp only [hinPost, Option.some.injEq, Prod.mk.injEq] at h
  obtain ⟨rfl, rfl, rfl⟩ := h
  have h1 : ll.length ≤ 100000 := hps (ll.length ≤ 100000) (by simp)
  have hE : EnAll ll := hps (EnAll ll) (by simp)
  have hd : IntKind.i64.wrap ((ll.length : Int).tdiv 2) = ((ll.length / 2 : Nat) : Int) := by
    rw [show (2 : Int) = ((2 : Nat) : Int) from rfl, ← Int.ofNat_tdiv, IntKind.wrap_i64]
    omega
  exact ⟨_, _, in_run n _ ll _ (by rw [hd]; exact ⟨by omega, by omega⟩) (in_loop hE (by omega)) (by rw [hd])⟩

/-! bytes.Clone -/

def clD : FnD D0
  | [.one (.words .u8 l)] => some (.v (.one (.fresh 0 5 .u8 l)), [l.length ≤ 140737488355328])
  | _ => none

theorem clone_ok : FnOK Try.prog D0 18 clD := by
  intro xs r ps hF hps w vs hgl hx
  unfold clD at hF
  split at hF
  · rename_i l
    simp only [Option.some.injEq, Prod.mk.injEq] at hF
    obtain ⟨rfl, rfl⟩ := hF
    have hlen : l.length ≤ 140737488355328 := hps _ (List.mem_cons_self ..)
    obtain ⟨v, us, rfl, ⟨hone, u, hu, M, W, hB, hS⟩, h3⟩ := hx
    cases h3
    simp only [List.cons.injEq, and_true] at hu
    subst hu
    have h2 : SlRel (cenv w).M (cenv w).w0 .u8 l v := by
      rcases hB with ⟨rfl, rfl⟩ | ⟨rfl, rfl⟩
      · exact hS
      · obtain ⟨ao, cap, e, q1, q2, q3, q4⟩ := hS
        refine ⟨ao, cap, e, q1, q2, q3, fun i hi => ?_⟩
        obtain ⟨b, off, r1, r2, r3⟩ := q4 i hi
        exact ⟨b, off, r1, fun h => h.elim, r3⟩
    obtain ⟨ao, cap, rfl, q1, q2, q3, q4⟩ := h2
    refine ⟨_, enters_of Try.func18 (by kernel_rfl) rfl _ w, ?_⟩
    cases ao with
    | none =>
      have hc := q3 rfl
      subst hc
      have hl0 : l = [] := List.length_eq_zero_iff.1 (by omega)
      subst hl0
      obtain ⟨ps, r1, r2⟩ := clone_nil
      refine (runF_calls gam_nil mixed Try.func18 r1 r2 hgl ⟨_, [], rfl, ⟨rfl, rfl⟩, rfl⟩).mono ?_
      rintro e w' ⟨v, he, ⟨ν, _, hr⟩, hb⟩
      have hv : [v] = [Value.slice none 0 0] := hr.2
      simp only [List.cons.injEq, and_true] at hv
      subst hv
      exact ⟨_, he, ⟨nilν, nilν_disj, rfl, fresh_nil⟩, hb⟩
    | some a =>
      obtain ⟨ps, r1, r2⟩ := clone_some l (by omega) (by omega)
      refine (runF_calls gam_nil mixed Try.func18 r1 r2 hgl ⟨_, [], rfl, ⟨rfl, a, l.length, cap, rfl, some a, cap, rfl, q1, q2, q3, q4⟩, rfl⟩).mono ?_
      rintro e w' ⟨v, he, hr, hb⟩
      exact ⟨v, he, hr, hb⟩
  · cases hF

end Go.Num
