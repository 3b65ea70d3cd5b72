/- Queue: Forget and what it leans on: the runs. -/
import Derived.Test.YtglemaieddgjcaaQ4
namespace Go.Num
open Go.Abs Go.Proofs Go.Shelf

def whoB (w : Int) : BoxSt D0.τ := .fixed 3 [.int .i64 false w]
def enW (r : Rec) : A0 D0.τ := .agg [.int .i64 false (recI r 0), .int .i64 false (recI r 1), .words .u8 (recW r 2), .int .u64 false (recI r 3)]
def isW (w : Int) (r : Rec) : Bool := recI r 1 == w

theorem fg1_run_r (w a b t : Int) (d : List Int) : runO Try.prog D0 [] 100 Try.f23 ([whoB w], [.agg [.int .i64 false a, .int .i64 false b, .words .u8 d, .int .u64 false t], .one (.ref 0 0)]) [.keep, .keep] (.v (.one (.bool false (b == w)))) [whoB w] =
    some [((b == w) = (b == w)), (w = w)] := by kernel_rfl
theorem fg1_run (w a b t : Int) (d : List Int) :
    ∃ ps, runO Try.prog D0 [] 100 Try.f23 ([whoB w], [.agg [.int .i64 false a, .int .i64 false b, .words .u8 d, .int .u64 false t], .one (.ref 0 0)]) [.keep, .keep] (.v (.one (.bool false (b == w)))) [whoB w] = some ps ∧ AllQ ps := ⟨_, fg1_run_r w a b t d, AllP.all ⟨rfl, rfl⟩⟩

def f1Rd : List (BoxSt D0.τ) → List (A0 D0.τ) → Option (Int × Int × Int × List Int × Int)
  | [.fixed t ps], [.agg qs, .one (.ref 0 0)] => match ps, qs with
    | [.int .i64 _ w], [.int .i64 _ a, .int .i64 _ b, .words .u8 d, .int .u64 _ n] => bif Nat.beq t 3 then some (w, a, b, d, n) else none
    | _, _ => none
  | _, _ => none
def f1Pre (t : Int × Int × Int × List Int × Int) : List (BoxSt D0.τ) × List (A0 D0.τ) := ([whoB t.1], [.agg [.int .i64 false t.2.1, .int .i64 false t.2.2.1, .words .u8 t.2.2.2.1, .int .u64 false t.2.2.2.2], .one (.ref 0 0)])
def f1Post (t : Int × Int × Int × List Int × Int) : Option (AV D0.τ × List (BoxSt D0.τ) × List Prop) := some (.v (.one (.bool false (t.2.2.1 == t.1))), [whoB t.1], [])
noncomputable def f1Q := mkF D0 Try.f23.ntmps f1Rd f1Pre f1Post

theorem f1_ok : OpOK Try.prog D0 23 f1Q := by
  refine opOK_mk gam_nil mixed Try.func23 (enters_of Try.func23 (by kernel_rfl) rfl) ?_
  rintro ⟨w, a, b, d, t⟩ r' bs' ps h hps
  simp only [f1Post, Option.some.injEq, Prod.mk.injEq] at h
  obtain ⟨rfl, rfl, rfl⟩ := h
  exact ⟨_, _, fg1_run w a b t d⟩

noncomputable def gamF : Gam D0 := [(23, .op [false, true] f1Q)]
theorem gamF_ok : GamOK Try.prog D0 gamF := gam_op f1_ok gam_nil

def cloS : Nat × AV D0.τ := (1, .v (.one (.clo 23 [1])))
def rwS : Nat × AV D0.τ := (0, .v (.one (.own 0)))
def rwB (w : Int) (ll : List Rec) : List (Nat × BoxSt D0.τ) := [(0, rowQ ll), (1, whoB w)]

def ixSn (w : Int) (ll : List Rec) (i : Int) : Sn D0.τ where
  slots := [rwS, cloS, (7, .v (.one (.int .i64 false ll.length))), (8, .v (.one (.int .i64 false i)))]
  boxes := rwB w ll
  nt := 19
  np := 2
def ixEd (w : Int) (ll : List Rec) : Sn D0.τ where
  slots := []
  boxes := rwB w ll
  nt := 19
  np := 2
def ixEr (w : Int) (ll : List Rec) (i : Int) : Sn D0.τ where
  slots := [(4, .v (.one (.int .i64 false i)))]
  boxes := rwB w ll
  nt := 19
  np := 2

theorem ix_round_r (w : Int) (ll : List Rec) (i i' : Int) : stepPs Try.prog D0 gamF 100 (bodyN Try.f27 0) 100 (ixSn w ll i).st [.is true, .is false] .normal (ixSn w ll i') =
    some [((decide (i < (((List.length ll) : Nat) : Int))) = Bool.true), ((0 : Int) ≤ i), (i < (((List.length ll) : Nat) : Int)), ((Int.toNat i) < (List.length ll)), (((Go.Abs.recI (List.getD ll (Int.toNat i) ([] : List (Abs.Fd))) ((0 : Nat) + (1 : Nat))) == w) = Bool.false), ((Go.Abs.recI (List.getD ll (Int.toNat i) ([] : List (Abs.Fd))) (0 : Nat)) = (Go.Abs.recI (List.getD ll (Int.toNat i) ([] : List (Abs.Fd))) (0 : Nat))), ((Go.Abs.recI (List.getD ll (Int.toNat i) ([] : List (Abs.Fd))) ((0 : Nat) + (1 : Nat))) = (Go.Abs.recI (List.getD ll (Int.toNat i) ([] : List (Abs.Fd))) ((0 : Nat) + (1 : Nat)))), ((Go.Abs.recW (List.getD ll (Int.toNat i) ([] : List (Abs.Fd))) (((0 : Nat) + (1 : Nat)) + (1 : Nat))) = (Go.Abs.recW (List.getD ll (Int.toNat i) ([] : List (Abs.Fd))) (((0 : Nat) + (1 : Nat)) + (1 : Nat)))), ((Go.Abs.recI (List.getD ll (Int.toNat i) ([] : List (Abs.Fd))) ((((0 : Nat) + (1 : Nat)) + (1 : Nat)) + (1 : Nat))) = (Go.Abs.recI (List.getD ll (Int.toNat i) ([] : List (Abs.Fd))) ((((0 : Nat) + (1 : Nat)) + (1 : Nat)) + (1 : Nat)))), (w = w), (Go.Abs.InI64 (i + (1 : Int))), ((((List.length ll) : Nat) : Int) = (((List.length ll) : Nat) : Int)), ((i + (1 : Int)) = i'), (ll = ll), (w = w)] := by kernel_rfl
theorem ix_round (w : Int) (ll : List Rec) (i i' : Int)
    (h1 : ((decide (i < (((List.length ll) : Nat) : Int))) = Bool.true))
    (h2 : ((0 : Int) ≤ i))
    (h3 : (i < (((List.length ll) : Nat) : Int)))
    (h4 : ((Int.toNat i) < (List.length ll)))
    (h5 : (((Go.Abs.recI (List.getD ll (Int.toNat i) ([] : List (Abs.Fd))) ((0 : Nat) + (1 : Nat))) == w) = Bool.false))
    (h6 : (Go.Abs.InI64 (i + (1 : Int))))
    (h7 : ((i + (1 : Int)) = i')) :
    ∃ ps, stepPs Try.prog D0 gamF 100 (bodyN Try.f27 0) 100 (ixSn w ll i).st [.is true, .is false] .normal (ixSn w ll i') = some ps ∧ AllQ ps := ⟨_, ix_round_r w ll i i', AllP.all ⟨h1, h2, h3, h4, h5, rfl, rfl, rfl, rfl, rfl, h6, rfl, h7, rfl, rfl⟩⟩

theorem ix_hit_r (w : Int) (ll : List Rec) (i : Int) : stepPs Try.prog D0 gamF 100 (bodyN Try.f27 0) 100 (ixSn w ll i).st [.is true, .is true] .ret (ixEr w ll i) =
    some [((decide (i < (((List.length ll) : Nat) : Int))) = Bool.true), ((0 : Int) ≤ i), (i < (((List.length ll) : Nat) : Int)), ((Int.toNat i) < (List.length ll)), (((Go.Abs.recI (List.getD ll (Int.toNat i) ([] : List (Abs.Fd))) ((0 : Nat) + (1 : Nat))) == w) = Bool.true), ((Go.Abs.recI (List.getD ll (Int.toNat i) ([] : List (Abs.Fd))) (0 : Nat)) = (Go.Abs.recI (List.getD ll (Int.toNat i) ([] : List (Abs.Fd))) (0 : Nat))), ((Go.Abs.recI (List.getD ll (Int.toNat i) ([] : List (Abs.Fd))) ((0 : Nat) + (1 : Nat))) = (Go.Abs.recI (List.getD ll (Int.toNat i) ([] : List (Abs.Fd))) ((0 : Nat) + (1 : Nat)))), ((Go.Abs.recW (List.getD ll (Int.toNat i) ([] : List (Abs.Fd))) (((0 : Nat) + (1 : Nat)) + (1 : Nat))) = (Go.Abs.recW (List.getD ll (Int.toNat i) ([] : List (Abs.Fd))) (((0 : Nat) + (1 : Nat)) + (1 : Nat)))), ((Go.Abs.recI (List.getD ll (Int.toNat i) ([] : List (Abs.Fd))) ((((0 : Nat) + (1 : Nat)) + (1 : Nat)) + (1 : Nat))) = (Go.Abs.recI (List.getD ll (Int.toNat i) ([] : List (Abs.Fd))) ((((0 : Nat) + (1 : Nat)) + (1 : Nat)) + (1 : Nat)))), (w = w), (i = i), (ll = ll), (w = w)] := by kernel_rfl
theorem ix_hit (w : Int) (ll : List Rec) (i : Int)
    (h1 : ((decide (i < (((List.length ll) : Nat) : Int))) = Bool.true))
    (h2 : ((0 : Int) ≤ i))
    (h3 : (i < (((List.length ll) : Nat) : Int)))
    (h4 : ((Int.toNat i) < (List.length ll)))
    (h5 : (((Go.Abs.recI (List.getD ll (Int.toNat i) ([] : List (Abs.Fd))) ((0 : Nat) + (1 : Nat))) == w) = Bool.true)) :
    ∃ ps, stepPs Try.prog D0 gamF 100 (bodyN Try.f27 0) 100 (ixSn w ll i).st [.is true, .is true] .ret (ixEr w ll i) = some ps ∧ AllQ ps := ⟨_, ix_hit_r w ll i, AllP.all ⟨h1, h2, h3, h4, h5, rfl, rfl, rfl, rfl, rfl, rfl, rfl, rfl⟩⟩

theorem ix_exit_r (w : Int) (ll : List Rec) (i : Int) : stepPs Try.prog D0 gamF 100 (bodyN Try.f27 0) 100 (ixSn w ll i).st [.is false] (.exit 0) (ixEd w ll) =
    some [((decide (i < (((List.length ll) : Nat) : Int))) = Bool.false), (ll = ll), (w = w)] := by kernel_rfl
theorem ix_exit (w : Int) (ll : List Rec) (i : Int)
    (h1 : ((decide (i < (((List.length ll) : Nat) : Int))) = Bool.false)) :
    ∃ ps, stepPs Try.prog D0 gamF 100 (bodyN Try.f27 0) 100 (ixSn w ll i).st [.is false] (.exit 0) (ixEd w ll) = some ps ∧ AllQ ps := ⟨_, ix_exit_r w ll i, AllP.all ⟨h1, rfl, rfl⟩⟩

theorem ix_none_r (w : Int) (ll : List Rec) : runO Try.prog D0 gamF 100 Try.f27 ([rowQ ll, whoB w], [.one (.own 0), .one (.clo 23 [1])]) [.loop (loopL D0 (ixSn w ll 0) (.exit 0) (ixEd w ll))] (.v (.one (.int .i64 false (-1)))) [rowQ ll, whoB w] =
    some [SumOK Try.prog D0 (bodyN Try.f27 0) (loopL D0 (ixSn w ll 0) (.exit 0) (ixEd w ll)), ((((List.length ll) : Nat) : Int) = (((List.length ll) : Nat) : Int)), ((0 : Int) = (0 : Int)), (ll = ll), (w = w), ((-(1 : Int)) = (-(1 : Int))), (ll = ll), (w = w)] := by kernel_rfl
theorem ix_none (w : Int) (ll : List Rec)
    (h1 : SumOK Try.prog D0 (bodyN Try.f27 0) (loopL D0 (ixSn w ll 0) (.exit 0) (ixEd w ll))) :
    ∃ ps, runO Try.prog D0 gamF 100 Try.f27 ([rowQ ll, whoB w], [.one (.own 0), .one (.clo 23 [1])]) [.loop (loopL D0 (ixSn w ll 0) (.exit 0) (ixEd w ll))] (.v (.one (.int .i64 false (-1)))) [rowQ ll, whoB w] = some ps ∧ AllQ ps := ⟨_, ix_none_r w ll, AllP.all ⟨h1, rfl, rfl, rfl, rfl, rfl, rfl, rfl⟩⟩

theorem ix_some_r (w : Int) (ll : List Rec) (i : Int) : runO Try.prog D0 gamF 100 Try.f27 ([rowQ ll, whoB w], [.one (.own 0), .one (.clo 23 [1])]) [.loop (loopL D0 (ixSn w ll 0) .ret (ixEr w ll i))] (.v (.one (.int .i64 false i))) [rowQ ll, whoB w] =
    some [SumOK Try.prog D0 (bodyN Try.f27 0) (loopL D0 (ixSn w ll 0) .ret (ixEr w ll i)), ((((List.length ll) : Nat) : Int) = (((List.length ll) : Nat) : Int)), ((0 : Int) = (0 : Int)), (ll = ll), (w = w), (i = i), (ll = ll), (w = w)] := by kernel_rfl
theorem ix_some (w : Int) (ll : List Rec) (i : Int)
    (h1 : SumOK Try.prog D0 (bodyN Try.f27 0) (loopL D0 (ixSn w ll 0) .ret (ixEr w ll i))) :
    ∃ ps, runO Try.prog D0 gamF 100 Try.f27 ([rowQ ll, whoB w], [.one (.own 0), .one (.clo 23 [1])]) [.loop (loopL D0 (ixSn w ll 0) .ret (ixEr w ll i))] (.v (.one (.int .i64 false i))) [rowQ ll, whoB w] = some ps ∧ AllQ ps := ⟨_, ix_some_r w ll i, AllP.all ⟨h1, rfl, rfl, rfl, rfl, rfl, rfl, rfl⟩⟩

def ixF (w : Int) (ll : List Rec) : Int := if ll.findIdx (isW w) < ll.length then (ll.findIdx (isW w) : Int) else -1

theorem ix_step {w : Int} {ll : List Rec} (hl : ll.length ≤ 1000000) {k : Nat} (hk : k < ll.length) (h : isW w (ll.getD k []) = false) : ∃ fuel nid ds ps, stepPs Try.prog D0 gamF fuel (bodyN Try.f27 0) nid (ixSn w ll k).st ds .normal (ixSn w ll ((k + 1 : Nat) : Int)) = some ps ∧ AllQ ps :=
  ⟨_, _, _, ix_round w ll k _ (decide_eq_true (by omega)) (by omega) (by omega) (by omega) h ⟨by omega, by omega⟩ rfl⟩

theorem findIdx_getD {ll : List Rec} {p : Rec → Bool} (h : ll.findIdx p < ll.length) : p (ll.getD (ll.findIdx p) []) = true := by
  rw [List.getD_eq_getElem?_getD, List.getElem?_eq_getElem h]
  exact List.findIdx_getElem (w := h)
theorem findIdx_lt {ll : List Rec} {p : Rec → Bool} {k : Nat} (h : k < ll.findIdx p) (hk : k < ll.length) : p (ll.getD k []) = false := by
  rw [List.getD_eq_getElem?_getD, List.getElem?_eq_getElem hk]
  have := List.not_of_lt_findIdx h
  simpa using this

def ixRd : List (BoxSt D0.τ) → List (A0 D0.τ) → Option (List Rec × Int)
  | [.dyn e (.lrs sh ll), .fixed t ps], [.one (.own 0), .one (.clo f bs)] => match ps, bs with
    | [.int .i64 _ w], [1] => bif (Nat.beq t 3 && Nat.beq e 59) && (shEq sh enSh && Nat.beq f 23) then some (ll, w) else none
    | _, _ => none
  | _, _ => none
def ixPre (t : List Rec × Int) : List (BoxSt D0.τ) × List (A0 D0.τ) := ([rowQ t.1, whoB t.2], [.one (.own 0), .one (.clo 23 [1])])
noncomputable def ixQ := mkF D0 Try.f27.ntmps ixRd ixPre (fun t => some (.v (.one (.int .i64 false (ixF t.2 t.1))), [rowQ t.1, whoB t.2], [t.1.length ≤ 1000000]))

theorem ix_ok : OpOK Try.prog D0 27 ixQ := by
  refine opOK_mk gamF_ok mixed Try.func27 (enters_of Try.func27 (by kernel_rfl) rfl) ?_
  rintro ⟨ll, w⟩ r' bs' ps h hps
  simp only [Option.some.injEq, Prod.mk.injEq] at h
  obtain ⟨rfl, rfl, rfl⟩ := h
  have h1 : ll.length ≤ 1000000 := hps (ll.length ≤ 1000000) (by simp)
  by_cases hf : ll.findIdx (isW w) < ll.length
  · have hs := sum_loop gamF_ok mixed (c := bodyN Try.f27 0) (fun k => ixSn w ll k) (ll.findIdx (isW w)) (e := .ret) (s := ixEr w ll (ll.findIdx (isW w) : Nat)) rfl (fun k hk => ix_step h1 (by omega) (findIdx_lt hk (by omega))) ⟨_, _, _, ix_hit w ll _ (decide_eq_true (by omega)) (by omega) (by omega) (by omega) (findIdx_getD hf)⟩
    unfold ixF
    rw [if_pos hf]
    exact ⟨_, _, ix_some w ll _ hs⟩
  · have hs := sum_loop gamF_ok mixed (c := bodyN Try.f27 0) (fun k => ixSn w ll k) ll.length (e := .exit 0) (s := ixEd w ll) rfl (fun k hk => ix_step h1 hk (findIdx_lt (by omega) hk)) ⟨_, _, _, ix_exit w ll _ (decide_eq_false (by omega))⟩
    unfold ixF
    rw [if_neg hf]
    obtain ⟨ps, e1, e2⟩ := ix_none w ll hs
    exact ⟨_, _, ps, e1, e2⟩

/-! DeleteFunc -/

noncomputable def gamG : Gam D0 := (27, .op [true, true] ixQ) :: gamF
theorem gamG_ok : GamOK Try.prog D0 gamG := gam_op ix_ok gamF_ok

def dfSn (w : Int) (ll : List Rec) (i j : Int) : Sn D0.τ where
  slots := [rwS, cloS, (5, .v (.one (.int .i64 false i))), (6, .v (.one (.int .i64 false j)))]
  boxes := rwB w ll
  nt := 42
  np := 2
def dfEd (w : Int) (ll : List Rec) (i : Int) : Sn D0.τ where
  slots := [rwS, (5, .v (.one (.int .i64 false i)))]
  boxes := rwB w ll
  nt := 42
  np := 2

theorem df_skip_r (w : Int) (ll : List Rec) (i j j' : Int) : stepPs Try.prog D0 gamG 100 (bodyN Try.f22 0) 100 (dfSn w ll i j).st [.is true, .is true] .normal (dfSn w ll i j') =
    some [((decide (j < (((List.length ll) : Nat) : Int))) = Bool.true), ((0 : Int) ≤ j), (j < (((List.length ll) : Nat) : Int)), ((Int.toNat j) < (List.length ll)), (((Go.Abs.recI (List.getD ll (Int.toNat j) ([] : List (Abs.Fd))) ((0 : Nat) + (1 : Nat))) == w) = Bool.true), ((Go.Abs.recI (List.getD ll (Int.toNat j) ([] : List (Abs.Fd))) (0 : Nat)) = (Go.Abs.recI (List.getD ll (Int.toNat j) ([] : List (Abs.Fd))) (0 : Nat))), ((Go.Abs.recI (List.getD ll (Int.toNat j) ([] : List (Abs.Fd))) ((0 : Nat) + (1 : Nat))) = (Go.Abs.recI (List.getD ll (Int.toNat j) ([] : List (Abs.Fd))) ((0 : Nat) + (1 : Nat)))), ((Go.Abs.recW (List.getD ll (Int.toNat j) ([] : List (Abs.Fd))) (((0 : Nat) + (1 : Nat)) + (1 : Nat))) = (Go.Abs.recW (List.getD ll (Int.toNat j) ([] : List (Abs.Fd))) (((0 : Nat) + (1 : Nat)) + (1 : Nat)))), ((Go.Abs.recI (List.getD ll (Int.toNat j) ([] : List (Abs.Fd))) ((((0 : Nat) + (1 : Nat)) + (1 : Nat)) + (1 : Nat))) = (Go.Abs.recI (List.getD ll (Int.toNat j) ([] : List (Abs.Fd))) ((((0 : Nat) + (1 : Nat)) + (1 : Nat)) + (1 : Nat)))), (w = w), (Go.Abs.InI64 (j + (1 : Int))), (i = i), ((j + (1 : Int)) = j'), (ll = ll), (w = w)] := by kernel_rfl
theorem df_skip (w : Int) (ll : List Rec) (i j j' : Int)
    (h1 : ((decide (j < (((List.length ll) : Nat) : Int))) = Bool.true))
    (h2 : ((0 : Int) ≤ j))
    (h3 : (j < (((List.length ll) : Nat) : Int)))
    (h4 : ((Int.toNat j) < (List.length ll)))
    (h5 : (((Go.Abs.recI (List.getD ll (Int.toNat j) ([] : List (Abs.Fd))) ((0 : Nat) + (1 : Nat))) == w) = Bool.true))
    (h6 : (Go.Abs.InI64 (j + (1 : Int))))
    (h7 : ((j + (1 : Int)) = j')) :
    ∃ ps, stepPs Try.prog D0 gamG 100 (bodyN Try.f22 0) 100 (dfSn w ll i j).st [.is true, .is true] .normal (dfSn w ll i j') = some ps ∧ AllQ ps := ⟨_, df_skip_r w ll i j j', AllP.all ⟨h1, h2, h3, h4, h5, rfl, rfl, rfl, rfl, rfl, h6, rfl, h7, rfl, rfl⟩⟩

theorem df_move_r (w : Int) (ll ll' : List Rec) (i i' j j' : Int) : stepPs Try.prog D0 gamG 100 (bodyN Try.f22 0) 100 (dfSn w ll i j).st [.is true, .is false] .normal (dfSn w ll' i' j') =
    some [((decide (j < (((List.length ll) : Nat) : Int))) = Bool.true), ((0 : Int) ≤ j), (j < (((List.length ll) : Nat) : Int)), ((Int.toNat j) < (List.length ll)), (((Go.Abs.recI (List.getD ll (Int.toNat j) ([] : List (Abs.Fd))) ((0 : Nat) + (1 : Nat))) == w) = Bool.false), ((Go.Abs.recI (List.getD ll (Int.toNat j) ([] : List (Abs.Fd))) (0 : Nat)) = (Go.Abs.recI (List.getD ll (Int.toNat j) ([] : List (Abs.Fd))) (0 : Nat))), ((Go.Abs.recI (List.getD ll (Int.toNat j) ([] : List (Abs.Fd))) ((0 : Nat) + (1 : Nat))) = (Go.Abs.recI (List.getD ll (Int.toNat j) ([] : List (Abs.Fd))) ((0 : Nat) + (1 : Nat)))), ((Go.Abs.recW (List.getD ll (Int.toNat j) ([] : List (Abs.Fd))) (((0 : Nat) + (1 : Nat)) + (1 : Nat))) = (Go.Abs.recW (List.getD ll (Int.toNat j) ([] : List (Abs.Fd))) (((0 : Nat) + (1 : Nat)) + (1 : Nat)))), ((Go.Abs.recI (List.getD ll (Int.toNat j) ([] : List (Abs.Fd))) ((((0 : Nat) + (1 : Nat)) + (1 : Nat)) + (1 : Nat))) = (Go.Abs.recI (List.getD ll (Int.toNat j) ([] : List (Abs.Fd))) ((((0 : Nat) + (1 : Nat)) + (1 : Nat)) + (1 : Nat)))), (w = w), ((0 : Int) ≤ i), (i < (((List.length ll) : Nat) : Int)), ((Int.toNat i) < (List.length ll)), ((4 : Nat) = ((Go.TypeInfo.mk (Go.TypeDesc.named "cresset/queue.entry" (58 : Nat)) "queue.entry" (4 : Nat) (48 : Nat) Bool.true (8 : Nat) (8 : Nat) (Option.some (Go.Value.agg (Array.mk ((Go.Value.int Go.IntKind.i64 (0 : Int)) :: ((Go.Value.int Go.IntKind.i64 (0 : Int)) :: ((Go.Value.slice (Option.none) (0 : Nat) (0 : Nat)) :: ((Go.Value.int Go.IntKind.u64 (0 : Int)) :: ([] : List (Value))))))))) Bool.false (Array.mk ([] : List (Method))))).3), (Go.Abs.InI64 (i + (1 : Int))), (Go.Abs.InI64 (j + (1 : Int))), ((i + (1 : Int)) = i'), ((j + (1 : Int)) = j'), ((List.set ll (Int.toNat i) ((Go.Abs.Fd.i (Go.Abs.recI (List.getD ll (Int.toNat j) ([] : List (Abs.Fd))) (0 : Nat))) :: ((Go.Abs.Fd.i (Go.Abs.recI (List.getD ll (Int.toNat j) ([] : List (Abs.Fd))) ((0 : Nat) + (1 : Nat)))) :: ((Go.Abs.Fd.w (Go.Abs.recW (List.getD ll (Int.toNat j) ([] : List (Abs.Fd))) (((0 : Nat) + (1 : Nat)) + (1 : Nat)))) :: ((Go.Abs.Fd.i (Go.Abs.recI (List.getD ll (Int.toNat j) ([] : List (Abs.Fd))) ((((0 : Nat) + (1 : Nat)) + (1 : Nat)) + (1 : Nat)))) :: ([] : List (Abs.Fd))))))) = ll'), (w = w)] := by kernel_rfl
theorem df_move (w : Int) (ll ll' : List Rec) (i i' j j' : Int)
    (h1 : ((decide (j < (((List.length ll) : Nat) : Int))) = Bool.true))
    (h2 : ((0 : Int) ≤ j))
    (h3 : (j < (((List.length ll) : Nat) : Int)))
    (h4 : ((Int.toNat j) < (List.length ll)))
    (h5 : (((Go.Abs.recI (List.getD ll (Int.toNat j) ([] : List (Abs.Fd))) ((0 : Nat) + (1 : Nat))) == w) = Bool.false))
    (h6 : ((0 : Int) ≤ i))
    (h7 : (i < (((List.length ll) : Nat) : Int)))
    (h8 : ((Int.toNat i) < (List.length ll)))
    (h9 : (Go.Abs.InI64 (i + (1 : Int))))
    (h10 : (Go.Abs.InI64 (j + (1 : Int))))
    (h11 : ((i + (1 : Int)) = i'))
    (h12 : ((j + (1 : Int)) = j'))
    (h13 : ((List.set ll (Int.toNat i) ((Go.Abs.Fd.i (Go.Abs.recI (List.getD ll (Int.toNat j) ([] : List (Abs.Fd))) (0 : Nat))) :: ((Go.Abs.Fd.i (Go.Abs.recI (List.getD ll (Int.toNat j) ([] : List (Abs.Fd))) ((0 : Nat) + (1 : Nat)))) :: ((Go.Abs.Fd.w (Go.Abs.recW (List.getD ll (Int.toNat j) ([] : List (Abs.Fd))) (((0 : Nat) + (1 : Nat)) + (1 : Nat)))) :: ((Go.Abs.Fd.i (Go.Abs.recI (List.getD ll (Int.toNat j) ([] : List (Abs.Fd))) ((((0 : Nat) + (1 : Nat)) + (1 : Nat)) + (1 : Nat)))) :: ([] : List (Abs.Fd))))))) = ll')) :
    ∃ ps, stepPs Try.prog D0 gamG 100 (bodyN Try.f22 0) 100 (dfSn w ll i j).st [.is true, .is false] .normal (dfSn w ll' i' j') = some ps ∧ AllQ ps := ⟨_, df_move_r w ll ll' i i' j j', AllP.all ⟨h1, h2, h3, h4, h5, rfl, rfl, rfl, rfl, rfl, h6, h7, h8, (show ((4 : Nat) = ((Go.TypeInfo.mk (Go.TypeDesc.named "cresset/queue.entry" (58 : Nat)) "queue.entry" (4 : Nat) (48 : Nat) Bool.true (8 : Nat) (8 : Nat) (Option.some (Go.Value.agg (Array.mk ((Go.Value.int Go.IntKind.i64 (0 : Int)) :: ((Go.Value.int Go.IntKind.i64 (0 : Int)) :: ((Go.Value.slice (Option.none) (0 : Nat) (0 : Nat)) :: ((Go.Value.int Go.IntKind.u64 (0 : Int)) :: ([] : List (Value))))))))) Bool.false (Array.mk ([] : List (Method))))).3) from by decide), h9, h10, h11, h12, h13, rfl⟩⟩

theorem df_exit_r (w : Int) (ll : List Rec) (i j : Int) : stepPs Try.prog D0 gamG 100 (bodyN Try.f22 0) 100 (dfSn w ll i j).st [.is false] (.exit 0) (dfEd w ll i) =
    some [((decide (j < (((List.length ll) : Nat) : Int))) = Bool.false), (i = i), (ll = ll), (w = w)] := by kernel_rfl
theorem df_exit (w : Int) (ll : List Rec) (i j : Int)
    (h1 : ((decide (j < (((List.length ll) : Nat) : Int))) = Bool.false)) :
    ∃ ps, stepPs Try.prog D0 gamG 100 (bodyN Try.f22 0) 100 (dfSn w ll i j).st [.is false] (.exit 0) (dfEd w ll i) = some ps ∧ AllQ ps := ⟨_, df_exit_r w ll i j, AllP.all ⟨h1, rfl, rfl, rfl⟩⟩

theorem df_none_r (w : Int) (ll : List Rec) : runO Try.prog D0 gamG 100 Try.f22 ([rowQ ll, whoB w], [.one (.own 0), .one (.clo 23 [1])]) [.is true] (.v (.one (.own 0))) [rowQ ll, whoB w] =
    some [(ll = ll), (w = w), ((List.length ll) ≤ (1000000 : Nat)), (((Go.Num.ixF w ll) == (-(1 : Int))) = Bool.true), (ll = ll), (w = w)] := by kernel_rfl
theorem df_none (w : Int) (ll : List Rec)
    (h1 : ((List.length ll) ≤ (1000000 : Nat)))
    (h2 : (((Go.Num.ixF w ll) == (-(1 : Int))) = Bool.true)) :
    ∃ ps, runO Try.prog D0 gamG 100 Try.f22 ([rowQ ll, whoB w], [.one (.own 0), .one (.clo 23 [1])]) [.is true] (.v (.one (.own 0))) [rowQ ll, whoB w] = some ps ∧ AllQ ps := ⟨_, df_none_r w ll, AllP.all ⟨rfl, rfl, h1, h2, rfl, rfl⟩⟩

theorem df_some_r (w i0 j0 i : Int) (ll l2 ll' : List Rec) : runO Try.prog D0 gamG 100 Try.f22 ([rowQ ll, whoB w], [.one (.own 0), .one (.clo 23 [1])]) [.is false, .loop (loopL D0 (dfSn w ll i0 j0) (.exit 0) (dfEd w l2 i))] (.v (.one (.own 2))) [.dead, whoB w, rowQ ll'] =
    some [(ll = ll), (w = w), ((List.length ll) ≤ (1000000 : Nat)), (((Go.Num.ixF w ll) == (-(1 : Int))) = Bool.false), (Go.Abs.InI64 ((Go.Num.ixF w ll) + (1 : Int))), SumOK Try.prog D0 (bodyN Try.f22 0) (loopL D0 (dfSn w ll i0 j0) (.exit 0) (dfEd w l2 i)), ((Go.Num.ixF w ll) = i0), (((Go.Num.ixF w ll) + (1 : Int)) = j0), (ll = ll), (w = w), ((0 : Int) ≤ i), (i ≤ (((List.length l2) : Nat) : Int)), ((0 : Nat) < (List.length l2)), (((Int.toNat i) + ((List.length l2) - (Int.toNat i))) ≤ (List.length l2)), ((1 : Nat) ≤ ((1 : Nat) + ((1 : Nat) + ((1 : Nat) + ((1 : Nat) + (0 : Nat)))))), ((0 : Int) ≤ i), (i ≤ (((List.length ((List.take (Int.toNat i) l2) ++ ((List.replicate ((List.length l2) - (Int.toNat i)) ((Go.Abs.Fd.i (0 : Int)) :: ((Go.Abs.Fd.i (0 : Int)) :: ((Go.Abs.Fd.w ([] : List (Int))) :: ((Go.Abs.Fd.i (0 : Int)) :: ([] : List (Abs.Fd))))))) ++ (List.drop ((Int.toNat i) + ((List.length l2) - (Int.toNat i))) l2)))) : Nat) : Int)), ((1 : Nat) ≤ ((1 : Nat) + ((1 : Nat) + ((1 : Nat) + ((1 : Nat) + (0 : Nat)))))), (w = w), ((List.take (Int.toNat i) ((List.take (Int.toNat i) l2) ++ ((List.replicate ((List.length l2) - (Int.toNat i)) ((Go.Abs.Fd.i (0 : Int)) :: ((Go.Abs.Fd.i (0 : Int)) :: ((Go.Abs.Fd.w ([] : List (Int))) :: ((Go.Abs.Fd.i (0 : Int)) :: ([] : List (Abs.Fd))))))) ++ (List.drop ((Int.toNat i) + ((List.length l2) - (Int.toNat i))) l2)))) = ll')] := by kernel_rfl
theorem df_some (w i0 j0 i : Int) (ll l2 ll' : List Rec)
    (h1 : ((List.length ll) ≤ (1000000 : Nat)))
    (h2 : (((Go.Num.ixF w ll) == (-(1 : Int))) = Bool.false))
    (h3 : (Go.Abs.InI64 ((Go.Num.ixF w ll) + (1 : Int))))
    (h4 : SumOK Try.prog D0 (bodyN Try.f22 0) (loopL D0 (dfSn w ll i0 j0) (.exit 0) (dfEd w l2 i)))
    (h5 : ((Go.Num.ixF w ll) = i0))
    (h6 : (((Go.Num.ixF w ll) + (1 : Int)) = j0))
    (h7 : ((0 : Int) ≤ i))
    (h8 : (i ≤ (((List.length l2) : Nat) : Int)))
    (h9 : ((0 : Nat) < (List.length l2)))
    (h10 : (((Int.toNat i) + ((List.length l2) - (Int.toNat i))) ≤ (List.length l2)))
    (h11 : (i ≤ (((List.length ((List.take (Int.toNat i) l2) ++ ((List.replicate ((List.length l2) - (Int.toNat i)) ((Go.Abs.Fd.i (0 : Int)) :: ((Go.Abs.Fd.i (0 : Int)) :: ((Go.Abs.Fd.w ([] : List (Int))) :: ((Go.Abs.Fd.i (0 : Int)) :: ([] : List (Abs.Fd))))))) ++ (List.drop ((Int.toNat i) + ((List.length l2) - (Int.toNat i))) l2)))) : Nat) : Int)))
    (h12 : ((List.take (Int.toNat i) ((List.take (Int.toNat i) l2) ++ ((List.replicate ((List.length l2) - (Int.toNat i)) ((Go.Abs.Fd.i (0 : Int)) :: ((Go.Abs.Fd.i (0 : Int)) :: ((Go.Abs.Fd.w ([] : List (Int))) :: ((Go.Abs.Fd.i (0 : Int)) :: ([] : List (Abs.Fd))))))) ++ (List.drop ((Int.toNat i) + ((List.length l2) - (Int.toNat i))) l2)))) = ll')) :
    ∃ ps, runO Try.prog D0 gamG 100 Try.f22 ([rowQ ll, whoB w], [.one (.own 0), .one (.clo 23 [1])]) [.is false, .loop (loopL D0 (dfSn w ll i0 j0) (.exit 0) (dfEd w l2 i))] (.v (.one (.own 2))) [.dead, whoB w, rowQ ll'] = some ps ∧ AllQ ps := ⟨_, df_some_r w i0 j0 i ll l2 ll', AllP.all ⟨rfl, rfl, h1, h2, h3, h4, h5, h6, rfl, rfl, h7, h8, h9, h10, (show ((1 : Nat) ≤ ((1 : Nat) + ((1 : Nat) + ((1 : Nat) + ((1 : Nat) + (0 : Nat)))))) from by decide), h7, h11, (show ((1 : Nat) ≤ ((1 : Nat) + ((1 : Nat) + ((1 : Nat) + ((1 : Nat) + (0 : Nat)))))) from by decide), rfl, h12⟩⟩

/-- The row behind so many rounds, and how many stay. -/
def dfS (w : Int) (ll : List Rec) (i0 : Nat) : Nat → List Rec × Nat
  | 0 => (ll, i0)
  | k + 1 => if isW w (ll.getD (i0 + 1 + k) []) then dfS w ll i0 k else ((dfS w ll i0 k).1.set (dfS w ll i0 k).2 (ll.getD (i0 + 1 + k) []), (dfS w ll i0 k).2 + 1)

def keepW (w : Int) (ll : List Rec) : List Rec := ll.filter fun r => !isW w r

theorem take_getD {ll : List Rec} {k : Nat} (h : k < ll.length) : ll.take (k + 1) = ll.take k ++ [ll.getD k []] := by
  rw [List.take_succ_eq_append_getElem h, List.getD_eq_getElem?_getD, List.getElem?_eq_getElem h]
  rfl

theorem take_set_succ {l : List Rec} {i : Nat} (h : i < l.length) (r : Rec) : (l.set i r).take (i + 1) = l.take i ++ [r] := by
  rw [List.take_succ_eq_append_getElem (by rw [List.length_set]; exact h), List.take_set_of_le (Nat.le_refl _), List.getElem_set_self]

theorem dfS_inv {w : Int} {ll : List Rec} {i0 : Nat} (hE : EnAll ll) (hw : isW w (ll.getD i0 []) = true) (hb : ∀ i, i < i0 → isW w (ll.getD i []) = false) : ∀ k, i0 + 1 + k ≤ ll.length →
    EnAll (dfS w ll i0 k).1 ∧ (dfS w ll i0 k).1.length = ll.length ∧ (dfS w ll i0 k).2 ≤ i0 + k ∧ (∀ m, i0 + 1 + k ≤ m → (dfS w ll i0 k).1[m]? = ll[m]?) ∧ (dfS w ll i0 k).1.take (dfS w ll i0 k).2 = keepW w (ll.take (i0 + 1 + k))
  | 0, h => by
    have hk : ∀ i, i ≤ i0 → keepW w (ll.take i) = ll.take i := by
      intro i hi
      induction i with
      | zero => simp [keepW]
      | succ i ih =>
        rw [take_getD (by omega)]
        unfold keepW at ih ⊢
        rw [List.filter_append, ih (by omega)]
        simp only [List.filter, hb i (by omega)]
        rfl
    refine ⟨hE, rfl, Nat.le_refl _, fun _ _ => rfl, ?_⟩
    show ll.take i0 = keepW w (ll.take (i0 + 1 + 0))
    rw [Nat.add_zero, take_getD (by omega)]
    have := hk i0 (Nat.le_refl _)
    unfold keepW at this ⊢
    rw [List.filter_append, this]
    simp only [List.filter, hw, Bool.not_true, List.append_nil]
  | k + 1, h => by
    obtain ⟨h1, h2, h3, h4, h5⟩ := dfS_inv hE hw hb k (by omega)
    have ht : ll.take (i0 + 1 + (k + 1)) = ll.take (i0 + 1 + k) ++ [ll.getD (i0 + 1 + k) []] := take_getD (k := i0 + 1 + k) (by omega)
    unfold dfS
    rw [ht]
    cases hq : isW w (ll.getD (i0 + 1 + k) [])
    · rw [if_neg (by decide)]
      refine ⟨fun r hr => ?_, ?_, ?_, ?_, ?_⟩
      · rcases mem_set_of hr with hr | rfl
        · exact h1 r hr
        · exact hE.at (by omega)
      · rw [List.length_set]; exact h2
      · simp only; omega
      · intro m hm
        rw [List.getElem?_set_ne (by omega)]
        exact h4 m (by omega)
      · simp only
        unfold keepW at h5 ⊢
        rw [List.filter_append, ← h5, take_set_succ (by omega)]
        simp only [List.filter, hq]
        rfl
    · rw [if_pos rfl]
      refine ⟨h1, h2, by omega, fun m hm => h4 m (by omega), ?_⟩
      unfold keepW at h5 ⊢
      rw [List.filter_append, ← h5]
      simp only [List.filter, hq, Bool.not_true, List.append_nil]

theorem df_loop {w : Int} {ll : List Rec} {i0 : Nat} (hE : EnAll ll) (hl : ll.length ≤ 1000000) (h0 : i0 < ll.length) (hw : isW w (ll.getD i0 []) = true) (hb : ∀ i, i < i0 → isW w (ll.getD i []) = false) :
    SumOK Try.prog D0 (bodyN Try.f22 0) (loopL D0 (dfSn w ll i0 ((i0 + 1 : Nat) : Int)) (.exit 0) (dfEd w (dfS w ll i0 (ll.length - (i0 + 1))).1 (dfS w ll i0 (ll.length - (i0 + 1))).2)) := by
  refine sum_loop gamG_ok mixed (fun k => dfSn w (dfS w ll i0 k).1 (dfS w ll i0 k).2 ((i0 + 1 + k : Nat) : Int)) (ll.length - (i0 + 1)) rfl (fun k hk => ?_) ?_
  · obtain ⟨h1, h2, h3, h4, h5⟩ := dfS_inv hE hw hb k (by omega)
    have e : (dfS w ll i0 k).1.getD (i0 + 1 + k) [] = ll.getD (i0 + 1 + k) [] := by rw [List.getD_eq_getElem?_getD, List.getD_eq_getElem?_getD, h4 _ (Nat.le_refl _)]
    simp only [dfS]
    cases hq : isW w (ll.getD (i0 + 1 + k) [])
    · rw [if_neg (by decide)]
      refine ⟨_, _, _, df_move w _ _ _ _ _ _ (decide_eq_true (by omega)) (by omega) (by omega) (by omega) ?_ (by omega) (by omega) (by omega) ⟨by omega, by omega⟩ ⟨by omega, by omega⟩ (by omega) (by omega) ?_⟩
      · rw [Int.toNat_natCast, e]
        exact hq
      · rw [Int.toNat_natCast, Int.toNat_natCast, e]
        show (dfS w ll i0 k).1.set _ [Fd.i (recI (ll.getD (i0 + 1 + k) []) 0), .i (recI (ll.getD (i0 + 1 + k) []) 1), .w (recW (ll.getD (i0 + 1 + k) []) 2), .i (recI (ll.getD (i0 + 1 + k) []) 3)] = _
        rw [(hE.at (i := i0 + 1 + k) (by omega)).reb]
    · rw [if_pos rfl]
      refine ⟨_, _, _, df_skip w _ _ _ _ (decide_eq_true (by omega)) (by omega) (by omega) (by omega) ?_ ⟨by omega, by omega⟩ (by omega)⟩
      rw [Int.toNat_natCast, e]
      exact hq
  · obtain ⟨h1, h2, h3, h4, h5⟩ := dfS_inv hE hw hb (ll.length - (i0 + 1)) (by omega)
    exact ⟨_, _, _, df_exit w _ _ _ (decide_eq_false (by omega))⟩

/-- Nobody's there, or somebody. -/
def noW (w : Int) (ll : List Rec) : Prop := ll.findIdx (isW w) = ll.length
noncomputable def dfNoQ := mkF D0 Try.f22.ntmps ixRd ixPre (fun t => some (.v (.one (.own 0)), [rowQ t.1, whoB t.2], [t.1.length ≤ 1000000, noW t.2 t.1]))
noncomputable def dfQ := mkF D0 Try.f22.ntmps ixRd ixPre (fun t => some (.v (.one (.own 2)), [.dead, whoB t.2, rowQ (keepW t.2 t.1)], [t.1.length ≤ 1000000, EnAll t.1, ¬ noW t.2 t.1]))

theorem dfNo_ok : OpOK Try.prog D0 22 dfNoQ := by
  refine opOK_mk gamG_ok mixed Try.func22 (enters_of Try.func22 (by kernel_rfl) rfl) ?_
  rintro ⟨ll, w⟩ r' bs' ps h hps
  simp only [Option.some.injEq, Prod.mk.injEq] at h
  obtain ⟨rfl, rfl, rfl⟩ := h
  have h1 : ll.length ≤ 1000000 := hps (ll.length ≤ 1000000) (by simp)
  have h2 : noW w ll := hps (noW w ll) (by simp)
  unfold noW at h2
  exact ⟨_, _, df_none w ll h1 (by unfold ixF; rw [if_neg (by omega)]; rfl)⟩

theorem df_ok : OpOK Try.prog D0 22 dfQ := by
  refine opOK_mk gamG_ok mixed Try.func22 (enters_of Try.func22 (by kernel_rfl) rfl) ?_
  rintro ⟨ll, w⟩ r' bs' ps h hps
  simp only [Option.some.injEq, Prod.mk.injEq] at h
  obtain ⟨rfl, rfl, rfl⟩ := h
  have h1 : ll.length ≤ 1000000 := hps (ll.length ≤ 1000000) (by simp)
  have hE : EnAll ll := hps (EnAll ll) (by simp)
  have h2 : ¬ noW w ll := hps (¬ noW w ll) (by simp)
  have hle := List.findIdx_le_length (p := isW w) (xs := ll)
  have hlt : ll.findIdx (isW w) < ll.length := by unfold noW at h2; omega
  have hb : ∀ i, i < ll.findIdx (isW w) → isW w (ll.getD i []) = false := fun i hi => findIdx_lt hi (by omega)
  have hs := df_loop hE h1 hlt (findIdx_getD hlt) hb
  obtain ⟨q1, q2, q3, q4, q5⟩ := dfS_inv hE (findIdx_getD hlt) hb (ll.length - (ll.findIdx (isW w) + 1)) (by omega)
  have hix : ixF w ll = (ll.findIdx (isW w) : Int) := if_pos hlt
  have hlen : ∀ (a b c : List Rec), (a ++ (b ++ c)).length = a.length + (b.length + c.length) := fun a b c => by simp
  refine ⟨_, _, df_some w _ _ _ ll _ _ h1 (by rw [hix, beq_eq_false_iff_ne]; omega) (by rw [hix]; exact ⟨by omega, by omega⟩) hs hix (by rw [hix]; omega) (by omega) (by omega) (by omega) (by omega) (by rw [hlen, List.length_take, List.length_replicate]; omega) ?_⟩
  rw [Int.toNat_natCast, List.take_append_of_le_length (by rw [List.length_take]; omega), List.take_take, Nat.min_self, q5, show ll.findIdx (isW w) + 1 + (ll.length - (ll.findIdx (isW w) + 1)) = ll.length from by omega, List.take_length]

/-! Forget -/

noncomputable def gamK (del : List (BoxSt D0.τ) → List (A0 D0.τ) → Option (AV D0.τ × List (BoxSt D0.τ) × List Prop)) : Gam D0 := [(22, .op [true, true] del), (24, .op [true] hinitQ)]

theorem gamK_ok {del : List (BoxSt D0.τ) → List (A0 D0.τ) → Option (AV D0.τ × List (BoxSt D0.τ) × List Prop)} (h : OpOK Try.prog D0 22 del) : GamOK Try.prog D0 (gamK del) := gam_op h (gam_op hinit_ok gam_nil)

theorem fo_nil_r (m : Int) : runO Try.prog D0 [] 100 Try.f17 ([], [.one .nilp, .one (.int .i64 false m)]) [] (.tup []) [] =
    some [] := by kernel_rfl
theorem fo_nil (m : Int) :
    ∃ ps, runO Try.prog D0 [] 100 Try.f17 ([], [.one .nilp, .one (.int .i64 false m)]) [] (.tup []) [] = some ps ∧ AllQ ps := ⟨_, fo_nil_r m, allQ_nil⟩

theorem fo_none_r (ll ll' : List Rec) (n w : Int) : runO Try.prog D0 (gamK dfNoQ) 100 Try.f17 (quB ll n, [.one (.ref 0 0), .one (.int .i64 false w)]) [] (.tup []) (quB ll' n) =
    some [(ll = ll), (w = w), ((List.length ll) ≤ (1000000 : Nat)), (Go.Num.noW w ll), (n = n), (ll = ll), ((List.length ll) ≤ (100000 : Nat)), (Go.Num.EnAll ll), (n = n), ((Go.Num.initL ll) = ll')] := by kernel_rfl
theorem fo_none (ll ll' : List Rec) (n w : Int)
    (h1 : ((List.length ll) ≤ (1000000 : Nat)))
    (h2 : (Go.Num.noW w ll))
    (h3 : ((List.length ll) ≤ (100000 : Nat)))
    (h4 : (Go.Num.EnAll ll))
    (h5 : ((Go.Num.initL ll) = ll')) :
    ∃ ps, runO Try.prog D0 (gamK dfNoQ) 100 Try.f17 (quB ll n, [.one (.ref 0 0), .one (.int .i64 false w)]) [] (.tup []) (quB ll' n) = some ps ∧ AllQ ps := ⟨_, fo_none_r ll ll' n w, AllP.all ⟨rfl, rfl, h1, h2, rfl, rfl, h3, h4, rfl, h5⟩⟩

theorem fo_some_r (ll ll' : List Rec) (n w : Int) : runO Try.prog D0 (gamK dfQ) 100 Try.f17 (quB ll n, [.one (.ref 0 0), .one (.int .i64 false w)]) [] (.tup []) (quB2 ll' n) =
    some [(ll = ll), (w = w), ((List.length ll) ≤ (1000000 : Nat)), (Go.Num.EnAll ll), (¬ (Go.Num.noW w ll)), (n = n), ((Go.Num.keepW w ll) = (Go.Num.keepW w ll)), ((List.length (Go.Num.keepW w ll)) ≤ (100000 : Nat)), (Go.Num.EnAll (Go.Num.keepW w ll)), (n = n), ((Go.Num.initL (Go.Num.keepW w ll)) = ll')] := by kernel_rfl
theorem fo_some (ll ll' : List Rec) (n w : Int)
    (h1 : ((List.length ll) ≤ (1000000 : Nat)))
    (h2 : (Go.Num.EnAll ll))
    (h3 : (¬ (Go.Num.noW w ll)))
    (h4 : ((List.length (Go.Num.keepW w ll)) ≤ (100000 : Nat)))
    (h5 : (Go.Num.EnAll (Go.Num.keepW w ll)))
    (h6 : ((Go.Num.initL (Go.Num.keepW w ll)) = ll')) :
    ∃ ps, runO Try.prog D0 (gamK dfQ) 100 Try.f17 (quB ll n, [.one (.ref 0 0), .one (.int .i64 false w)]) [] (.tup []) (quB2 ll' n) = some ps ∧ AllQ ps := ⟨_, fo_some_r ll ll' n w, AllP.all ⟨rfl, rfl, h1, h2, h3, rfl, rfl, h4, h5, rfl, h6⟩⟩

def fgRd : List (BoxSt D0.τ) → List (A0 D0.τ) → Option (List Rec × Int × Int)
  | [.fixed t ps, .dyn e (.lrs sh ll)], [.one (.ref 0 0), .one (.int .i64 _ m)] => match ps with
    | [.own 1, .int .u64 _ n] => bif (Nat.beq t 55 && Nat.beq e 59) && shEq sh enSh then some (ll, n, m) else none
    | _ => none
  | _, _ => none
def fgPre (t : List Rec × Int × Int) : List (BoxSt D0.τ) × List (A0 D0.τ) := (quB t.1 t.2.1, [.one (.ref 0 0), .one (.int .i64 false t.2.2)])
noncomputable def forgetNoQ := mkF D0 Try.f17.ntmps fgRd fgPre (fun t => some (.tup [], quB (initL t.1) t.2.1, [t.1.length ≤ 100000, EnAll t.1, noW t.2.2 t.1]))
noncomputable def forgetQ := mkF D0 Try.f17.ntmps fgRd fgPre (fun t => some (.tup [], quB2 (initL (keepW t.2.2 t.1)) t.2.1, [t.1.length ≤ 100000, EnAll t.1, ¬ noW t.2.2 t.1]))

theorem forgetNo_ok : OpOK Try.prog D0 17 forgetNoQ := by
  refine opOK_mk (gamK_ok dfNo_ok) mixed Try.func17 (enters_of Try.func17 (by kernel_rfl) rfl) ?_
  rintro ⟨ll, n, w⟩ r' bs' ps h hps
  simp only [Option.some.injEq, Prod.mk.injEq] at h
  obtain ⟨rfl, rfl, rfl⟩ := h
  have h1 : ll.length ≤ 100000 := hps (ll.length ≤ 100000) (by simp)
  have hE : EnAll ll := hps (EnAll ll) (by simp)
  have h2 : noW w ll := hps (noW w ll) (by simp)
  exact ⟨_, _, fo_none ll _ n w (by omega) h2 h1 hE rfl⟩

theorem keepW_all {w : Int} {ll : List Rec} (hE : EnAll ll) : EnAll (keepW w ll) := fun r hr => hE r (List.mem_filter.1 hr).1

theorem forget_ok : OpOK Try.prog D0 17 forgetQ := by
  refine opOK_mk (gamK_ok df_ok) mixed Try.func17 (enters_of Try.func17 (by kernel_rfl) rfl) ?_
  rintro ⟨ll, n, w⟩ r' bs' ps h hps
  simp only [Option.some.injEq, Prod.mk.injEq] at h
  obtain ⟨rfl, rfl, rfl⟩ := h
  have h1 : ll.length ≤ 100000 := hps (ll.length ≤ 100000) (by simp)
  have hE : EnAll ll := hps (EnAll ll) (by simp)
  have h2 : ¬ noW w ll := hps (¬ noW w ll) (by simp)
  have hk : (keepW w ll).length ≤ ll.length := List.length_filter_le ..
  exact ⟨_, _, fo_some ll _ n w (by omega) hE h2 (by omega) (keepW_all hE) rfl⟩

def fgzRd : List (BoxSt D0.τ) → List (A0 D0.τ) → Option Int
  | [], [.one .nilp, .one (.int .i64 _ m)] => some m
  | _, _ => none
noncomputable def forgetNilQ := mkF D0 Try.f17.ntmps fgzRd (fun m => ([], [.one .nilp, .one (.int .i64 false m)])) (fun _ => some (.tup [], [], []))
theorem forgetNil_ok : OpOK Try.prog D0 17 forgetNilQ := by
  refine opOK_mk gam_nil mixed Try.func17 (enters_of Try.func17 (by kernel_rfl) rfl) ?_
  rintro m r' bs' ps h hps
  simp only [Option.some.injEq, Prod.mk.injEq] at h
  obtain ⟨rfl, rfl, rfl⟩ := h
  exact ⟨_, _, fo_nil m⟩

end Go.Num
