/- Queue: New, Put, Due, Len, Forget: the runs. -/
import Derived.Test.YtglemaieddgjcaaQ3
namespace Go.Num
open Go.Abs Go.Proofs Go.Shelf

theorem new_run_r  : runO Try.prog D0 [] 100 Try.f8 ([], []) [] (.v (.one (.ref 0 0))) [.fixed 55 (quP 0), rowQ []] =
    some [((0 : Int) = (0 : Int)), (([] : List (Rec)) = ([] : List (Rec)))] := by kernel_rfl
theorem new_run  :
    ∃ ps, runO Try.prog D0 [] 100 Try.f8 ([], []) [] (.v (.one (.ref 0 0))) [.fixed 55 (quP 0), rowQ []] = some ps ∧ AllQ ps := ⟨_, new_run_r , AllP.all ⟨rfl, rfl⟩⟩

noncomputable def gamP : Gam D0 := [(18, .fz clD), (19, .op [true, false] hpushQ), (20, .op [true] hpopQ)]
theorem gamP_ok : GamOK Try.prog D0 gamP := gam_fz clone_ok (gam_op hpush_ok (gam_op hpop_ok gam_nil))

def evP (at' who : Int) (d : List Int) : A0 D0.τ := .agg [.int .i64 false at', .int .i64 false who, .words .u8 d]
def quB (ll : List Rec) (n : Int) : List (BoxSt D0.τ) := [.fixed 55 (quP n), rowQ ll]
def quB2 (ll : List Rec) (n : Int) : List (BoxSt D0.τ) := [.fixed 55 [.own 2, .int .u64 false n], .dead, rowQ ll]

theorem put_nil_r (a b : Int) (d : List Int) : runO Try.prog D0 gamP 100 Try.f9 ([], [.one .nilp, evP a b d]) [] (.v (.one (.int .i64 true 1))) [] =
    some [] := by kernel_rfl
theorem put_nil (a b : Int) (d : List Int) :
    ∃ ps, runO Try.prog D0 gamP 100 Try.f9 ([], [.one .nilp, evP a b d]) [] (.v (.one (.int .i64 true 1))) [] = some ps ∧ AllQ ps := ⟨_, put_nil_r a b d, allQ_nil⟩

theorem put_less_r (ll : List Rec) (n a b : Int) (d : List Int) : runO Try.prog D0 gamP 100 Try.f9 (quB ll n, [.one (.ref 0 0), evP a b d]) [.is true] (.v (.one (.int .i64 true 1))) (quB ll n) =
    some [((decide (a < (0 : Int))) = Bool.true), (n = n), (ll = ll)] := by kernel_rfl
theorem put_less (ll : List Rec) (n a b : Int) (d : List Int)
    (h1 : ((decide (a < (0 : Int))) = Bool.true)) :
    ∃ ps, runO Try.prog D0 gamP 100 Try.f9 (quB ll n, [.one (.ref 0 0), evP a b d]) [.is true] (.v (.one (.int .i64 true 1))) (quB ll n) = some ps ∧ AllQ ps := ⟨_, put_less_r ll n a b d, AllP.all ⟨h1, rfl, rfl⟩⟩

theorem put_more_r (ll : List Rec) (n a b : Int) (d : List Int) : runO Try.prog D0 gamP 100 Try.f9 (quB ll n, [.one (.ref 0 0), evP a b d]) [.is false, .is true] (.v (.one (.int .i64 true 1))) (quB ll n) =
    some [((decide (a < (0 : Int))) = Bool.false), ((decide (a > (1099511627776 : Int))) = Bool.true), (n = n), (ll = ll)] := by kernel_rfl
theorem put_more (ll : List Rec) (n a b : Int) (d : List Int)
    (h1 : ((decide (a < (0 : Int))) = Bool.false))
    (h2 : ((decide (a > (1099511627776 : Int))) = Bool.true)) :
    ∃ ps, runO Try.prog D0 gamP 100 Try.f9 (quB ll n, [.one (.ref 0 0), evP a b d]) [.is false, .is true] (.v (.one (.int .i64 true 1))) (quB ll n) = some ps ∧ AllQ ps := ⟨_, put_more_r ll n a b d, AllP.all ⟨h1, h2, rfl, rfl⟩⟩

theorem put_full_r (ll : List Rec) (n a b : Int) (d : List Int) : runO Try.prog D0 gamP 100 Try.f9 (quB ll n, [.one (.ref 0 0), evP a b d]) [.is false, .is false, .is true] (.v (.one (.int .i64 true 42))) (quB ll n) =
    some [((decide (a < (0 : Int))) = Bool.false), ((decide (a > (1099511627776 : Int))) = Bool.false), ((decide ((((List.length ll) : Nat) : Int) ≥ (4096 : Int))) = Bool.true), (n = n), (ll = ll)] := by kernel_rfl
theorem put_full (ll : List Rec) (n a b : Int) (d : List Int)
    (h1 : ((decide (a < (0 : Int))) = Bool.false))
    (h2 : ((decide (a > (1099511627776 : Int))) = Bool.false))
    (h3 : ((decide ((((List.length ll) : Nat) : Int) ≥ (4096 : Int))) = Bool.true)) :
    ∃ ps, runO Try.prog D0 gamP 100 Try.f9 (quB ll n, [.one (.ref 0 0), evP a b d]) [.is false, .is false, .is true] (.v (.one (.int .i64 true 42))) (quB ll n) = some ps ∧ AllQ ps := ⟨_, put_full_r ll n a b d, AllP.all ⟨h1, h2, h3, rfl, rfl⟩⟩

theorem put_run_r (ll ll' : List Rec) (n n' a b : Int) (d : List Int) : runO Try.prog D0 gamP 100 Try.f9 (quB ll n, [.one (.ref 0 0), evP a b d]) [.is false, .is false, .is false] (.v (.one (.int .i64 true 0))) (quB2 ll' n') =
    some [((decide (a < (0 : Int))) = Bool.false), ((decide (a > (1099511627776 : Int))) = Bool.false), ((decide ((((List.length ll) : Nat) : Int) ≥ (4096 : Int))) = Bool.false), ((List.length d) ≤ (140737488355328 : Nat)), (((Go.Abs.Fd.i a) :: ((Go.Abs.Fd.i b) :: ((Go.Abs.Fd.w d) :: ((Go.Abs.Fd.i n) :: ([] : List (Abs.Fd)))))) = ((Go.Abs.Fd.i a) :: ((Go.Abs.Fd.i b) :: ((Go.Abs.Fd.w d) :: ((Go.Abs.Fd.i n) :: ([] : List (Abs.Fd))))))), (n = n), (ll = ll), ((List.length ll) ≤ (100000 : Nat)), (Go.Num.enOK ((Go.Abs.Fd.i a) :: ((Go.Abs.Fd.i b) :: ((Go.Abs.Fd.w d) :: ((Go.Abs.Fd.i n) :: ([] : List (Abs.Fd))))))), (Go.Num.EnAll ll), ((Go.IntKind.wrap Go.IntKind.u64 (n + (1 : Int))) = n'), ((Go.Num.pushL ll ((Go.Abs.Fd.i a) :: ((Go.Abs.Fd.i b) :: ((Go.Abs.Fd.w d) :: ((Go.Abs.Fd.i n) :: ([] : List (Abs.Fd))))))) = ll')] := by kernel_rfl
theorem put_run (ll ll' : List Rec) (n n' a b : Int) (d : List Int)
    (h1 : ((decide (a < (0 : Int))) = Bool.false))
    (h2 : ((decide (a > (1099511627776 : Int))) = Bool.false))
    (h3 : ((decide ((((List.length ll) : Nat) : Int) ≥ (4096 : Int))) = Bool.false))
    (h4 : ((List.length d) ≤ (140737488355328 : Nat)))
    (h5 : ((List.length ll) ≤ (100000 : Nat)))
    (h6 : (Go.Num.enOK ((Go.Abs.Fd.i a) :: ((Go.Abs.Fd.i b) :: ((Go.Abs.Fd.w d) :: ((Go.Abs.Fd.i n) :: ([] : List (Abs.Fd))))))))
    (h7 : (Go.Num.EnAll ll))
    (h8 : ((Go.IntKind.wrap Go.IntKind.u64 (n + (1 : Int))) = n'))
    (h9 : ((Go.Num.pushL ll ((Go.Abs.Fd.i a) :: ((Go.Abs.Fd.i b) :: ((Go.Abs.Fd.w d) :: ((Go.Abs.Fd.i n) :: ([] : List (Abs.Fd))))))) = ll')) :
    ∃ ps, runO Try.prog D0 gamP 100 Try.f9 (quB ll n, [.one (.ref 0 0), evP a b d]) [.is false, .is false, .is false] (.v (.one (.int .i64 true 0))) (quB2 ll' n') = some ps ∧ AllQ ps := ⟨_, put_run_r ll ll' n n' a b d, AllP.all ⟨h1, h2, h3, h4, rfl, rfl, rfl, h5, h6, h7, h8, h9⟩⟩

def evW (r : Rec) : A0 D0.τ := .agg [.int .i64 false (recI r 0), .int .i64 false (recI r 1), .pw .u8 (recW r 2)]
def evZ : A0 D0.τ := .agg [.int .i64 true 0, .int .i64 true 0, .nil]

theorem due_nil_r (m : Int) : runO Try.prog D0 gamP 100 Try.f10 ([], [.one .nilp, .one (.int .i64 false m)]) [] (.tup [evZ, .one (.bool true false)]) [] =
    some [] := by kernel_rfl
theorem due_nil (m : Int) :
    ∃ ps, runO Try.prog D0 gamP 100 Try.f10 ([], [.one .nilp, .one (.int .i64 false m)]) [] (.tup [evZ, .one (.bool true false)]) [] = some ps ∧ AllQ ps := ⟨_, due_nil_r m, allQ_nil⟩

theorem due_none_r (ll : List Rec) (n m : Int) : runO Try.prog D0 gamP 100 Try.f10 (quB ll n, [.one (.ref 0 0), .one (.int .i64 false m)]) [.is true] (.tup [evZ, .one (.bool true false)]) (quB ll n) =
    some [(((((List.length ll) : Nat) : Int) == (0 : Int)) = Bool.true), (n = n), (ll = ll)] := by kernel_rfl
theorem due_none (ll : List Rec) (n m : Int)
    (h1 : (((((List.length ll) : Nat) : Int) == (0 : Int)) = Bool.true)) :
    ∃ ps, runO Try.prog D0 gamP 100 Try.f10 (quB ll n, [.one (.ref 0 0), .one (.int .i64 false m)]) [.is true] (.tup [evZ, .one (.bool true false)]) (quB ll n) = some ps ∧ AllQ ps := ⟨_, due_none_r ll n m, AllP.all ⟨h1, rfl, rfl⟩⟩

theorem due_not_r (ll : List Rec) (n m : Int) : runO Try.prog D0 gamP 100 Try.f10 (quB ll n, [.one (.ref 0 0), .one (.int .i64 false m)]) [.is false, .is true] (.tup [evZ, .one (.bool true false)]) (quB ll n) =
    some [(((((List.length ll) : Nat) : Int) == (0 : Int)) = Bool.false), ((0 : Int) ≤ (0 : Int)), ((0 : Int) < (((List.length ll) : Nat) : Int)), ((0 : Nat) < (List.length ll)), ((decide ((Go.Abs.recI (List.getD ll (0 : Nat) ([] : List (Abs.Fd))) (0 : Nat)) > m)) = Bool.true), (n = n), (ll = ll)] := by kernel_rfl
theorem due_not (ll : List Rec) (n m : Int)
    (h1 : (((((List.length ll) : Nat) : Int) == (0 : Int)) = Bool.false))
    (h2 : ((0 : Int) < (((List.length ll) : Nat) : Int)))
    (h3 : ((0 : Nat) < (List.length ll)))
    (h4 : ((decide ((Go.Abs.recI (List.getD ll (0 : Nat) ([] : List (Abs.Fd))) (0 : Nat)) > m)) = Bool.true)) :
    ∃ ps, runO Try.prog D0 gamP 100 Try.f10 (quB ll n, [.one (.ref 0 0), .one (.int .i64 false m)]) [.is false, .is true] (.tup [evZ, .one (.bool true false)]) (quB ll n) = some ps ∧ AllQ ps := ⟨_, due_not_r ll n m, AllP.all ⟨h1, (show ((0 : Int) ≤ (0 : Int)) from by decide), h2, h3, h4, rfl, rfl⟩⟩

theorem due_run_r (ll ll' : List Rec) (n m : Int) (r : Rec) : runO Try.prog D0 gamP 100 Try.f10 (quB ll n, [.one (.ref 0 0), .one (.int .i64 false m)]) [.is false, .is false] (.tup [evW r, .one (.bool true true)]) (quB2 ll' n) =
    some [(((((List.length ll) : Nat) : Int) == (0 : Int)) = Bool.false), ((0 : Int) ≤ (0 : Int)), ((0 : Int) < (((List.length ll) : Nat) : Int)), ((0 : Nat) < (List.length ll)), ((decide ((Go.Abs.recI (List.getD ll (0 : Nat) ([] : List (Abs.Fd))) (0 : Nat)) > m)) = Bool.false), (n = n), (ll = ll), ((List.length ll) ≤ (100000 : Nat)), ((0 : Nat) < (List.length ll)), (Go.Num.EnAll ll), ((Go.Abs.recI (Go.Num.popE ll) (0 : Nat)) = (Go.Abs.recI r (0 : Nat))), ((Go.Abs.recI (Go.Num.popE ll) ((0 : Nat) + (1 : Nat))) = (Go.Abs.recI r (1 : Nat))), ((Go.Abs.recW (Go.Num.popE ll) (((0 : Nat) + (1 : Nat)) + (1 : Nat))) = (Go.Abs.recW r (2 : Nat))), (n = n), ((Go.Num.popL ll) = ll')] := by kernel_rfl
theorem due_run (ll ll' : List Rec) (n m : Int) (r : Rec)
    (h1 : (((((List.length ll) : Nat) : Int) == (0 : Int)) = Bool.false))
    (h2 : ((0 : Int) < (((List.length ll) : Nat) : Int)))
    (h3 : ((0 : Nat) < (List.length ll)))
    (h4 : ((decide ((Go.Abs.recI (List.getD ll (0 : Nat) ([] : List (Abs.Fd))) (0 : Nat)) > m)) = Bool.false))
    (h5 : ((List.length ll) ≤ (100000 : Nat)))
    (h6 : (Go.Num.EnAll ll))
    (h7 : ((Go.Abs.recI (Go.Num.popE ll) (0 : Nat)) = (Go.Abs.recI r (0 : Nat))))
    (h8 : ((Go.Abs.recI (Go.Num.popE ll) ((0 : Nat) + (1 : Nat))) = (Go.Abs.recI r (1 : Nat))))
    (h9 : ((Go.Abs.recW (Go.Num.popE ll) (((0 : Nat) + (1 : Nat)) + (1 : Nat))) = (Go.Abs.recW r (2 : Nat))))
    (h10 : ((Go.Num.popL ll) = ll')) :
    ∃ ps, runO Try.prog D0 gamP 100 Try.f10 (quB ll n, [.one (.ref 0 0), .one (.int .i64 false m)]) [.is false, .is false] (.tup [evW r, .one (.bool true true)]) (quB2 ll' n) = some ps ∧ AllQ ps := ⟨_, due_run_r ll ll' n m r, AllP.all ⟨h1, (show ((0 : Int) ≤ (0 : Int)) from by decide), h2, h3, h4, rfl, rfl, h5, h3, h6, h7, h8, h9, rfl, h10⟩⟩

theorem len_nil_r  : runO Try.prog D0 [] 100 Try.f11 ([], [.one .nilp]) [] (.v (.one (.int .i64 true 0))) [] =
    some [] := by kernel_rfl
theorem len_nil  :
    ∃ ps, runO Try.prog D0 [] 100 Try.f11 ([], [.one .nilp]) [] (.v (.one (.int .i64 true 0))) [] = some ps ∧ AllQ ps := ⟨_, len_nil_r , allQ_nil⟩

theorem len_run_r (ll : List Rec) (n : Int) : runO Try.prog D0 [] 100 Try.f11 (quB ll n, [.one (.ref 0 0)]) [] (.v (.one (.int .i64 false ll.length))) (quB ll n) =
    some [((((List.length ll) : Nat) : Int) = (((List.length ll) : Nat) : Int)), (n = n), (ll = ll)] := by kernel_rfl
theorem len_run (ll : List Rec) (n : Int) :
    ∃ ps, runO Try.prog D0 [] 100 Try.f11 (quB ll n, [.one (.ref 0 0)]) [] (.v (.one (.int .i64 false ll.length))) (quB ll n) = some ps ∧ AllQ ps := ⟨_, len_run_r ll n, AllP.all ⟨rfl, rfl, rfl⟩⟩

/-! Contracts -/

/-- A contract, or else another one. -/
def orF {D : Dom} (F G : List (BoxSt D.τ) → List (A0 D.τ) → Option (AV D.τ × List (BoxSt D.τ) × List Prop)) (bs : List (BoxSt D.τ)) (xs : List (A0 D.τ)) : Option (AV D.τ × List (BoxSt D.τ) × List Prop) :=
  match F bs xs with
  | some r => some r
  | none => G bs xs

theorem opOK_or {P : Program} {D : Dom} {f : FuncId} {F G : List (BoxSt D.τ) → List (A0 D.τ) → Option (AV D.τ × List (BoxSt D.τ) × List Prop)} (hF : OpOK P D f F) (hG : OpOK P D f G) :
    OpOK P D f (orF F G) := by
  intro bs xs r bs' ps h
  unfold orF at h
  split at h
  · rename_i q hq
    cases h
    exact hF bs xs r bs' ps hq
  · exact hG bs xs r bs' ps h

def newRd : List (BoxSt D0.τ) → List (A0 D0.τ) → Option Unit
  | [], [] => some ()
  | _, _ => none
noncomputable def newQ := mkF D0 Try.f8.ntmps newRd (fun _ => ([], [])) (fun _ => some (.v (.one (.ref 0 0)), quB [] 0, []))
theorem new_ok : OpOK Try.prog D0 8 newQ := by
  refine opOK_mk gam_nil mixed Try.func8 (enters_of Try.func8 (by kernel_rfl) rfl) ?_
  rintro ⟨⟩ r' bs' ps h hps
  simp only [Option.some.injEq, Prod.mk.injEq] at h
  obtain ⟨rfl, rfl, rfl⟩ := h
  exact ⟨_, _, new_run⟩

/-- Words, or none. -/
def wdOf : Part D0.τ → Option (List Int)
  | .words .u8 d => some d
  | .nil => some []
  | _ => none

def ptRd : List (BoxSt D0.τ) → List (A0 D0.τ) → Option (List Rec × Int × Int × Int × List Int)
  | [.fixed t ps, .dyn e (.lrs sh ll)], [.one (.ref 0 0), .agg qs] => match ps, qs with
    | [.own 1, .int .u64 _ n], [.int .i64 _ a, .int .i64 _ b, x] => bif (Nat.beq t 55 && Nat.beq e 59) && shEq sh enSh then (wdOf x).map fun d => (ll, n, a, b, d) else none
    | _, _ => none
  | _, _ => none
def ptPre (t : List Rec × Int × Int × Int × List Int) : List (BoxSt D0.τ) × List (A0 D0.τ) := (quB t.1 t.2.1, [.one (.ref 0 0), evP t.2.2.1 t.2.2.2.1 t.2.2.2.2])
def mkE (a b : Int) (d : List Int) (n : Int) : Rec := [.i a, .i b, .w d, .i n]
def ptOk (t : List Rec × Int × Int × Int × List Int) : Option (AV D0.τ × List (BoxSt D0.τ) × List Prop) :=
  some (.v (.one (.int .i64 true 0)), quB2 (pushL t.1 (mkE t.2.2.1 t.2.2.2.1 t.2.2.2.2 t.2.1)) (IntKind.u64.wrap (t.2.1 + 1)), [0 ≤ t.2.2.1, t.2.2.1 ≤ 1099511627776, t.1.length < 4096, t.2.2.2.2.length ≤ 140737488355328, EnAll t.1])
def ptArg (t : List Rec × Int × Int × Int × List Int) : Option (AV D0.τ × List (BoxSt D0.τ) × List Prop) :=
  some (.v (.one (.int .i64 true 1)), quB t.1 t.2.1, [t.2.2.1 < 0 ∨ 1099511627776 < t.2.2.1])
def ptFull (t : List Rec × Int × Int × Int × List Int) : Option (AV D0.τ × List (BoxSt D0.τ) × List Prop) :=
  some (.v (.one (.int .i64 true 42)), quB t.1 t.2.1, [0 ≤ t.2.2.1, t.2.2.1 ≤ 1099511627776, 4096 ≤ t.1.length])
noncomputable def putQ := mkF D0 Try.f9.ntmps ptRd ptPre ptOk
noncomputable def putArgQ := mkF D0 Try.f9.ntmps ptRd ptPre ptArg
noncomputable def putFullQ := mkF D0 Try.f9.ntmps ptRd ptPre ptFull

theorem put_ok : OpOK Try.prog D0 9 putQ := by
  refine opOK_mk gamP_ok mixed Try.func9 (enters_of Try.func9 (by kernel_rfl) rfl) ?_
  rintro ⟨ll, n, a, b, d⟩ r' bs' ps h hps
  simp only [ptOk, Option.some.injEq, Prod.mk.injEq] at h
  obtain ⟨rfl, rfl, rfl⟩ := h
  have h1 : 0 ≤ a := hps (0 ≤ a) (by simp)
  have h2 : a ≤ 1099511627776 := hps (a ≤ 1099511627776) (by simp)
  have h3 : ll.length < 4096 := hps (ll.length < 4096) (by simp)
  have h4 : d.length ≤ 140737488355328 := hps (d.length ≤ 140737488355328) (by simp)
  have h5 : EnAll ll := hps (EnAll ll) (by simp)
  exact ⟨_, _, put_run ll _ n _ a b d (decide_eq_false (by omega)) (decide_eq_false (by omega)) (decide_eq_false (by omega)) h4 (by omega) ⟨a, b, d, n, rfl⟩ h5 rfl rfl⟩

theorem putArg_ok : OpOK Try.prog D0 9 putArgQ := by
  refine opOK_mk gamP_ok mixed Try.func9 (enters_of Try.func9 (by kernel_rfl) rfl) ?_
  rintro ⟨ll, n, a, b, d⟩ r' bs' ps h hps
  simp only [ptArg, Option.some.injEq, Prod.mk.injEq] at h
  obtain ⟨rfl, rfl, rfl⟩ := h
  have h1 : a < 0 ∨ 1099511627776 < a := hps (a < 0 ∨ 1099511627776 < a) (by simp)
  by_cases h0 : a < 0
  · exact ⟨_, _, put_less ll n a b d (decide_eq_true h0)⟩
  · exact ⟨_, _, put_more ll n a b d (decide_eq_false h0) (decide_eq_true (by omega))⟩

theorem putFull_ok : OpOK Try.prog D0 9 putFullQ := by
  refine opOK_mk gamP_ok mixed Try.func9 (enters_of Try.func9 (by kernel_rfl) rfl) ?_
  rintro ⟨ll, n, a, b, d⟩ r' bs' ps h hps
  simp only [ptFull, Option.some.injEq, Prod.mk.injEq] at h
  obtain ⟨rfl, rfl, rfl⟩ := h
  have h1 : 0 ≤ a := hps (0 ≤ a) (by simp)
  have h2 : a ≤ 1099511627776 := hps (a ≤ 1099511627776) (by simp)
  have h3 : 4096 ≤ ll.length := hps (4096 ≤ ll.length) (by simp)
  exact ⟨_, _, put_full ll n a b d (decide_eq_false (by omega)) (decide_eq_false (by omega)) (decide_eq_true (by omega))⟩

def ptzRd : List (BoxSt D0.τ) → List (A0 D0.τ) → Option (Int × Int × List Int)
  | [], [.one .nilp, .agg qs] => match qs with
    | [.int .i64 _ a, .int .i64 _ b, x] => (wdOf x).map fun d => (a, b, d)
    | _ => none
  | _, _ => none
def ptzPre (t : Int × Int × List Int) : List (BoxSt D0.τ) × List (A0 D0.τ) := ([], [.one .nilp, evP t.1 t.2.1 t.2.2])
noncomputable def putNilQ := mkF D0 Try.f9.ntmps ptzRd ptzPre (fun _ => some (.v (.one (.int .i64 true 1)), [], []))
theorem putNil_ok : OpOK Try.prog D0 9 putNilQ := by
  refine opOK_mk gamP_ok mixed Try.func9 (enters_of Try.func9 (by kernel_rfl) rfl) ?_
  rintro ⟨a, b, d⟩ r' bs' ps h hps
  simp only [Option.some.injEq, Prod.mk.injEq] at h
  obtain ⟨rfl, rfl, rfl⟩ := h
  exact ⟨_, _, put_nil a b d⟩

def duRd : List (BoxSt D0.τ) → List (A0 D0.τ) → Option (List Rec × Int × Int)
  | [.fixed t ps, .dyn e (.lrs sh ll)], [.one (.ref 0 0), .one (.int .i64 _ m)] => match ps with
    | [.own 1, .int .u64 _ n] => bif (Nat.beq t 55 && Nat.beq e 59) && shEq sh enSh then some (ll, n, m) else none
    | _ => none
  | _, _ => none
def duPre (t : List Rec × Int × Int) : List (BoxSt D0.τ) × List (A0 D0.τ) := (quB t.1 t.2.1, [.one (.ref 0 0), .one (.int .i64 false t.2.2)])
def noDue (ll : List Rec) (m : Int) : Prop := ll = [] ∨ m < recI (ll.getD 0 []) 0
noncomputable def dueNoQ := mkF D0 Try.f10.ntmps duRd duPre (fun t => some (.tup [evZ, .one (.bool true false)], quB t.1 t.2.1, [noDue t.1 t.2.2]))
noncomputable def dueQ := mkF D0 Try.f10.ntmps duRd duPre (fun t => some (.tup [evW (popE t.1), .one (.bool true true)], quB2 (popL t.1) t.2.1, [0 < t.1.length, recI (t.1.getD 0 []) 0 ≤ t.2.2, EnAll t.1, t.1.length ≤ 100000]))

theorem dueNo_ok : OpOK Try.prog D0 10 dueNoQ := by
  refine opOK_mk gamP_ok mixed Try.func10 (enters_of Try.func10 (by kernel_rfl) rfl) ?_
  rintro ⟨ll, n, m⟩ r' bs' ps h hps
  simp only [Option.some.injEq, Prod.mk.injEq] at h
  obtain ⟨rfl, rfl, rfl⟩ := h
  have h1 : noDue ll m := hps (noDue ll m) (by simp)
  by_cases h0 : ll = []
  · subst h0
    exact ⟨_, _, due_none [] n m (by decide)⟩
  · have hl := List.length_pos_iff.2 h0
    exact ⟨_, _, due_not ll n m (by rw [beq_eq_false_iff_ne]; omega) (by omega) (by omega) (decide_eq_true (h1.resolve_left h0))⟩

theorem due_ok : OpOK Try.prog D0 10 dueQ := by
  refine opOK_mk gamP_ok mixed Try.func10 (enters_of Try.func10 (by kernel_rfl) rfl) ?_
  rintro ⟨ll, n, m⟩ r' bs' ps h hps
  simp only [Option.some.injEq, Prod.mk.injEq] at h
  obtain ⟨rfl, rfl, rfl⟩ := h
  have h1 : 0 < ll.length := hps (0 < ll.length) (by simp)
  have h2 : recI (ll.getD 0 []) 0 ≤ m := hps (recI (ll.getD 0 []) 0 ≤ m) (by simp)
  have h3 : EnAll ll := hps (EnAll ll) (by simp)
  have h4 : ll.length ≤ 100000 := hps (ll.length ≤ 100000) (by simp)
  exact ⟨_, _, due_run ll _ n m _ (by rw [beq_eq_false_iff_ne]; omega) (by omega) (by omega) (decide_eq_false (by omega)) h4 h3 rfl rfl rfl rfl⟩

def duzRd : List (BoxSt D0.τ) → List (A0 D0.τ) → Option Int
  | [], [.one .nilp, .one (.int .i64 _ m)] => some m
  | _, _ => none
noncomputable def dueNilQ := mkF D0 Try.f10.ntmps duzRd (fun m => ([], [.one .nilp, .one (.int .i64 false m)])) (fun _ => some (.tup [evZ, .one (.bool true false)], [], []))
theorem dueNil_ok : OpOK Try.prog D0 10 dueNilQ := by
  refine opOK_mk gamP_ok mixed Try.func10 (enters_of Try.func10 (by kernel_rfl) rfl) ?_
  rintro m r' bs' ps h hps
  simp only [Option.some.injEq, Prod.mk.injEq] at h
  obtain ⟨rfl, rfl, rfl⟩ := h
  exact ⟨_, _, due_nil m⟩

def lnRd : List (BoxSt D0.τ) → List (A0 D0.τ) → Option (List Rec × Int)
  | [.fixed t ps, .dyn e (.lrs sh ll)], [.one (.ref 0 0)] => match ps with
    | [.own 1, .int .u64 _ n] => bif (Nat.beq t 55 && Nat.beq e 59) && shEq sh enSh then some (ll, n) else none
    | _ => none
  | _, _ => none
noncomputable def qlenQ := mkF D0 Try.f11.ntmps lnRd (fun t => (quB t.1 t.2, [.one (.ref 0 0)])) (fun t => some (.v (.one (.int .i64 false t.1.length)), quB t.1 t.2, []))
theorem qlen_ok : OpOK Try.prog D0 11 qlenQ := by
  refine opOK_mk gam_nil mixed Try.func11 (enters_of Try.func11 (by kernel_rfl) rfl) ?_
  rintro ⟨ll, n⟩ r' bs' ps h hps
  simp only [Option.some.injEq, Prod.mk.injEq] at h
  obtain ⟨rfl, rfl, rfl⟩ := h
  exact ⟨_, _, len_run ll n⟩
def lnzRd : List (BoxSt D0.τ) → List (A0 D0.τ) → Option Unit
  | [], [.one .nilp] => some ()
  | _, _ => none
noncomputable def qlenNilQ := mkF D0 Try.f11.ntmps lnzRd (fun _ => ([], [.one .nilp])) (fun _ => some (.v (.one (.int .i64 true 0)), [], []))
theorem qlenNil_ok : OpOK Try.prog D0 11 qlenNilQ := by
  refine opOK_mk gam_nil mixed Try.func11 (enters_of Try.func11 (by kernel_rfl) rfl) ?_
  rintro ⟨⟩ r' bs' ps h hps
  simp only [Option.some.injEq, Prod.mk.injEq] at h
  obtain ⟨rfl, rfl, rfl⟩ := h
  exact ⟨_, _, len_nil⟩

end Go.Num
