/- Queue: the document's example; QueueFull: the runs. -/
import Derived.Test.YtglemaieddgjcaaQ6
namespace Go.Num
open Go.Abs Go.Proofs Go.Shelf

/-- Nothing is due. -/
def noDueB (ll : List Rec) (m : Int) : Bool := match ll with
  | [] => true
  | r :: _ => decide (m < recI r 0)

noncomputable def dueSelQ := mkF D0 Try.f10.ntmps duRd duPre (fun t => bif noDueB t.1 t.2.2 then some (.tup [evZ, .one (.bool true false)], quB t.1 t.2.1, [])
  else some (.tup [evW (popE t.1), .one (.bool true true)], quB2 (popL t.1) t.2.1, [EnAll t.1, t.1.length ≤ 100000]))

theorem dueSel_ok : OpOK Try.prog D0 10 dueSelQ := by
  refine opOK_mk gamP_ok mixed Try.func10 (enters_of Try.func10 (by kernel_rfl) rfl) ?_
  rintro ⟨ll, n, m⟩ r' bs' ps h hps
  cases hb : noDueB ll m <;> simp only [hb, cond_true, cond_false, Option.some.injEq, Prod.mk.injEq] at h <;> obtain ⟨rfl, rfl, rfl⟩ := h
  · have h3 : EnAll ll := hps (EnAll ll) (by simp)
    have h4 : ll.length ≤ 100000 := hps (ll.length ≤ 100000) (by simp)
    cases ll with
    | nil => cases hb
    | cons r l =>
      have h5 : ¬ m < recI r 0 := of_decide_eq_false hb
      have h6 : (r :: l).length = l.length + 1 := rfl
      exact ⟨_, _, due_run (r :: l) _ n m _ (by rw [beq_eq_false_iff_ne]; omega) (by omega) (by omega) (decide_eq_false (by show ¬ recI r 0 > m; omega)) h4 h3 rfl rfl rfl rfl⟩
  · cases ll with
    | nil => exact ⟨_, _, due_none [] n m (by decide)⟩
    | cons r l =>
      have h5 : m < recI r 0 := of_decide_eq_true hb
      have h6 : (r :: l).length = l.length + 1 := rfl
      exact ⟨_, _, due_not (r :: l) n m (by rw [beq_eq_false_iff_ne]; omega) (by omega) (by omega) (decide_eq_true (by show recI r 0 > m; omega))⟩

noncomputable def gamQ : Gam D0 := [(8, .op [] newQ), (9, .op [true, false] putQ), (10, .op [true, false] dueSelQ), (11, .op [true] qlenQ)]
theorem gamQ_ok : GamOK Try.prog D0 gamQ := gam_op new_ok (gam_op put_ok (gam_op dueSel_ok (gam_op qlen_ok gam_nil)))

theorem head_run_r  : runF Try.prog D0 gamQ 100 Try.f7 [] [.is true, .is true, .is true] =
    some ((Go.Abs.AV.v (Go.Abs.A0.one (Go.Abs.Part.bool Bool.true Bool.true))), [((5 : Int) = (5 : Int)), ((1 : Int) = (1 : Int)), (([] : List (Int)) = ([] : List (Int))), ((0 : Int) = (0 : Int)), (([] : List (Rec)) = ([] : List (Rec))), ((0 : Int) ≤ (5 : Int)), ((5 : Int) ≤ (1099511627776 : Int)), ((0 : Nat) < (4096 : Nat)), ((0 : Nat) ≤ (140737488355328 : Nat)), (Go.Num.EnAll ([] : List (Rec))), ((3 : Int) = (3 : Int)), ((2 : Int) = (2 : Int)), (([] : List (Int)) = ([] : List (Int))), ((Go.IntKind.wrap Go.IntKind.u64 ((0 : Int) + (1 : Int))) = (Go.IntKind.wrap Go.IntKind.u64 ((0 : Int) + (1 : Int)))), ((Go.Num.pushL ([] : List (Rec)) (Go.Num.mkE (5 : Int) (1 : Int) ([] : List (Int)) (0 : Int))) = (Go.Num.pushL ([] : List (Rec)) (Go.Num.mkE (5 : Int) (1 : Int) ([] : List (Int)) (0 : Int)))), ((0 : Int) ≤ (3 : Int)), ((3 : Int) ≤ (1099511627776 : Int)), ((List.length (Go.Num.pushL ([] : List (Rec)) (Go.Num.mkE (5 : Int) (1 : Int) ([] : List (Int)) (0 : Int)))) < (4096 : Nat)), ((0 : Nat) ≤ (140737488355328 : Nat)), (Go.Num.EnAll (Go.Num.pushL ([] : List (Rec)) (Go.Num.mkE (5 : Int) (1 : Int) ([] : List (Int)) (0 : Int)))), ((5 : Int) = (5 : Int)), ((3 : Int) = (3 : Int)), (([] : List (Int)) = ([] : List (Int))), ((Go.IntKind.wrap Go.IntKind.u64 ((Go.IntKind.wrap Go.IntKind.u64 ((0 : Int) + (1 : Int))) + (1 : Int))) = (Go.IntKind.wrap Go.IntKind.u64 ((Go.IntKind.wrap Go.IntKind.u64 ((0 : Int) + (1 : Int))) + (1 : Int)))), ((Go.Num.pushL (Go.Num.pushL ([] : List (Rec)) (Go.Num.mkE (5 : Int) (1 : Int) ([] : List (Int)) (0 : Int))) (Go.Num.mkE (3 : Int) (2 : Int) ([] : List (Int)) (Go.IntKind.wrap Go.IntKind.u64 ((0 : Int) + (1 : Int))))) = (Go.Num.pushL (Go.Num.pushL ([] : List (Rec)) (Go.Num.mkE (5 : Int) (1 : Int) ([] : List (Int)) (0 : Int))) (Go.Num.mkE (3 : Int) (2 : Int) ([] : List (Int)) (Go.IntKind.wrap Go.IntKind.u64 ((0 : Int) + (1 : Int)))))), ((0 : Int) ≤ (5 : Int)), ((5 : Int) ≤ (1099511627776 : Int)), ((List.length (Go.Num.pushL (Go.Num.pushL ([] : List (Rec)) (Go.Num.mkE (5 : Int) (1 : Int) ([] : List (Int)) (0 : Int))) (Go.Num.mkE (3 : Int) (2 : Int) ([] : List (Int)) (Go.IntKind.wrap Go.IntKind.u64 ((0 : Int) + (1 : Int)))))) < (4096 : Nat)), ((0 : Nat) ≤ (140737488355328 : Nat)), (Go.Num.EnAll (Go.Num.pushL (Go.Num.pushL ([] : List (Rec)) (Go.Num.mkE (5 : Int) (1 : Int) ([] : List (Int)) (0 : Int))) (Go.Num.mkE (3 : Int) (2 : Int) ([] : List (Int)) (Go.IntKind.wrap Go.IntKind.u64 ((0 : Int) + (1 : Int)))))), ((4 : Int) = (4 : Int)), ((Go.IntKind.wrap Go.IntKind.u64 ((Go.IntKind.wrap Go.IntKind.u64 ((Go.IntKind.wrap Go.IntKind.u64 ((0 : Int) + (1 : Int))) + (1 : Int))) + (1 : Int))) = (Go.IntKind.wrap Go.IntKind.u64 ((Go.IntKind.wrap Go.IntKind.u64 ((Go.IntKind.wrap Go.IntKind.u64 ((0 : Int) + (1 : Int))) + (1 : Int))) + (1 : Int)))), ((Go.Num.pushL (Go.Num.pushL (Go.Num.pushL ([] : List (Rec)) (Go.Num.mkE (5 : Int) (1 : Int) ([] : List (Int)) (0 : Int))) (Go.Num.mkE (3 : Int) (2 : Int) ([] : List (Int)) (Go.IntKind.wrap Go.IntKind.u64 ((0 : Int) + (1 : Int))))) (Go.Num.mkE (5 : Int) (3 : Int) ([] : List (Int)) (Go.IntKind.wrap Go.IntKind.u64 ((Go.IntKind.wrap Go.IntKind.u64 ((0 : Int) + (1 : Int))) + (1 : Int))))) = (Go.Num.pushL (Go.Num.pushL (Go.Num.pushL ([] : List (Rec)) (Go.Num.mkE (5 : Int) (1 : Int) ([] : List (Int)) (0 : Int))) (Go.Num.mkE (3 : Int) (2 : Int) ([] : List (Int)) (Go.IntKind.wrap Go.IntKind.u64 ((0 : Int) + (1 : Int))))) (Go.Num.mkE (5 : Int) (3 : Int) ([] : List (Int)) (Go.IntKind.wrap Go.IntKind.u64 ((Go.IntKind.wrap Go.IntKind.u64 ((0 : Int) + (1 : Int))) + (1 : Int)))))), (Go.Num.EnAll (Go.Num.pushL (Go.Num.pushL (Go.Num.pushL ([] : List (Rec)) (Go.Num.mkE (5 : Int) (1 : Int) ([] : List (Int)) (0 : Int))) (Go.Num.mkE (3 : Int) (2 : Int) ([] : List (Int)) (Go.IntKind.wrap Go.IntKind.u64 ((0 : Int) + (1 : Int))))) (Go.Num.mkE (5 : Int) (3 : Int) ([] : List (Int)) (Go.IntKind.wrap Go.IntKind.u64 ((Go.IntKind.wrap Go.IntKind.u64 ((0 : Int) + (1 : Int))) + (1 : Int)))))), ((List.length (Go.Num.pushL (Go.Num.pushL (Go.Num.pushL ([] : List (Rec)) (Go.Num.mkE (5 : Int) (1 : Int) ([] : List (Int)) (0 : Int))) (Go.Num.mkE (3 : Int) (2 : Int) ([] : List (Int)) (Go.IntKind.wrap Go.IntKind.u64 ((0 : Int) + (1 : Int))))) (Go.Num.mkE (5 : Int) (3 : Int) ([] : List (Int)) (Go.IntKind.wrap Go.IntKind.u64 ((Go.IntKind.wrap Go.IntKind.u64 ((0 : Int) + (1 : Int))) + (1 : Int)))))) ≤ (100000 : Nat)), ((4 : Int) = (4 : Int)), ((Go.IntKind.wrap Go.IntKind.u64 ((Go.IntKind.wrap Go.IntKind.u64 ((Go.IntKind.wrap Go.IntKind.u64 ((0 : Int) + (1 : Int))) + (1 : Int))) + (1 : Int))) = (Go.IntKind.wrap Go.IntKind.u64 ((Go.IntKind.wrap Go.IntKind.u64 ((Go.IntKind.wrap Go.IntKind.u64 ((0 : Int) + (1 : Int))) + (1 : Int))) + (1 : Int)))), ((Go.Num.popL (Go.Num.pushL (Go.Num.pushL (Go.Num.pushL ([] : List (Rec)) (Go.Num.mkE (5 : Int) (1 : Int) ([] : List (Int)) (0 : Int))) (Go.Num.mkE (3 : Int) (2 : Int) ([] : List (Int)) (Go.IntKind.wrap Go.IntKind.u64 ((0 : Int) + (1 : Int))))) (Go.Num.mkE (5 : Int) (3 : Int) ([] : List (Int)) (Go.IntKind.wrap Go.IntKind.u64 ((Go.IntKind.wrap Go.IntKind.u64 ((0 : Int) + (1 : Int))) + (1 : Int)))))) = (Go.Num.popL (Go.Num.pushL (Go.Num.pushL (Go.Num.pushL ([] : List (Rec)) (Go.Num.mkE (5 : Int) (1 : Int) ([] : List (Int)) (0 : Int))) (Go.Num.mkE (3 : Int) (2 : Int) ([] : List (Int)) (Go.IntKind.wrap Go.IntKind.u64 ((0 : Int) + (1 : Int))))) (Go.Num.mkE (5 : Int) (3 : Int) ([] : List (Int)) (Go.IntKind.wrap Go.IntKind.u64 ((Go.IntKind.wrap Go.IntKind.u64 ((0 : Int) + (1 : Int))) + (1 : Int))))))), ((9 : Int) = (9 : Int)), ((Go.IntKind.wrap Go.IntKind.u64 ((Go.IntKind.wrap Go.IntKind.u64 ((Go.IntKind.wrap Go.IntKind.u64 ((0 : Int) + (1 : Int))) + (1 : Int))) + (1 : Int))) = (Go.IntKind.wrap Go.IntKind.u64 ((Go.IntKind.wrap Go.IntKind.u64 ((Go.IntKind.wrap Go.IntKind.u64 ((0 : Int) + (1 : Int))) + (1 : Int))) + (1 : Int)))), ((Go.Num.popL (Go.Num.pushL (Go.Num.pushL (Go.Num.pushL ([] : List (Rec)) (Go.Num.mkE (5 : Int) (1 : Int) ([] : List (Int)) (0 : Int))) (Go.Num.mkE (3 : Int) (2 : Int) ([] : List (Int)) (Go.IntKind.wrap Go.IntKind.u64 ((0 : Int) + (1 : Int))))) (Go.Num.mkE (5 : Int) (3 : Int) ([] : List (Int)) (Go.IntKind.wrap Go.IntKind.u64 ((Go.IntKind.wrap Go.IntKind.u64 ((0 : Int) + (1 : Int))) + (1 : Int)))))) = (Go.Num.popL (Go.Num.pushL (Go.Num.pushL (Go.Num.pushL ([] : List (Rec)) (Go.Num.mkE (5 : Int) (1 : Int) ([] : List (Int)) (0 : Int))) (Go.Num.mkE (3 : Int) (2 : Int) ([] : List (Int)) (Go.IntKind.wrap Go.IntKind.u64 ((0 : Int) + (1 : Int))))) (Go.Num.mkE (5 : Int) (3 : Int) ([] : List (Int)) (Go.IntKind.wrap Go.IntKind.u64 ((Go.IntKind.wrap Go.IntKind.u64 ((0 : Int) + (1 : Int))) + (1 : Int))))))), (Go.Num.EnAll (Go.Num.popL (Go.Num.pushL (Go.Num.pushL (Go.Num.pushL ([] : List (Rec)) (Go.Num.mkE (5 : Int) (1 : Int) ([] : List (Int)) (0 : Int))) (Go.Num.mkE (3 : Int) (2 : Int) ([] : List (Int)) (Go.IntKind.wrap Go.IntKind.u64 ((0 : Int) + (1 : Int))))) (Go.Num.mkE (5 : Int) (3 : Int) ([] : List (Int)) (Go.IntKind.wrap Go.IntKind.u64 ((Go.IntKind.wrap Go.IntKind.u64 ((0 : Int) + (1 : Int))) + (1 : Int))))))), ((List.length (Go.Num.popL (Go.Num.pushL (Go.Num.pushL (Go.Num.pushL ([] : List (Rec)) (Go.Num.mkE (5 : Int) (1 : Int) ([] : List (Int)) (0 : Int))) (Go.Num.mkE (3 : Int) (2 : Int) ([] : List (Int)) (Go.IntKind.wrap Go.IntKind.u64 ((0 : Int) + (1 : Int))))) (Go.Num.mkE (5 : Int) (3 : Int) ([] : List (Int)) (Go.IntKind.wrap Go.IntKind.u64 ((Go.IntKind.wrap Go.IntKind.u64 ((0 : Int) + (1 : Int))) + (1 : Int))))))) ≤ (100000 : Nat)), (((Go.Abs.recI (Go.Num.popE (Go.Num.pushL (Go.Num.pushL (Go.Num.pushL ([] : List (Rec)) (Go.Num.mkE (5 : Int) (1 : Int) ([] : List (Int)) (0 : Int))) (Go.Num.mkE (3 : Int) (2 : Int) ([] : List (Int)) (Go.IntKind.wrap Go.IntKind.u64 ((0 : Int) + (1 : Int))))) (Go.Num.mkE (5 : Int) (3 : Int) ([] : List (Int)) (Go.IntKind.wrap Go.IntKind.u64 ((Go.IntKind.wrap Go.IntKind.u64 ((0 : Int) + (1 : Int))) + (1 : Int)))))) (1 : Nat)) == (2 : Int)) = Bool.true), (((Go.Abs.recI (Go.Num.popE (Go.Num.popL (Go.Num.pushL (Go.Num.pushL (Go.Num.pushL ([] : List (Rec)) (Go.Num.mkE (5 : Int) (1 : Int) ([] : List (Int)) (0 : Int))) (Go.Num.mkE (3 : Int) (2 : Int) ([] : List (Int)) (Go.IntKind.wrap Go.IntKind.u64 ((0 : Int) + (1 : Int))))) (Go.Num.mkE (5 : Int) (3 : Int) ([] : List (Int)) (Go.IntKind.wrap Go.IntKind.u64 ((Go.IntKind.wrap Go.IntKind.u64 ((0 : Int) + (1 : Int))) + (1 : Int))))))) (1 : Nat)) == (1 : Int)) = Bool.true), ((Go.IntKind.wrap Go.IntKind.u64 ((Go.IntKind.wrap Go.IntKind.u64 ((Go.IntKind.wrap Go.IntKind.u64 ((0 : Int) + (1 : Int))) + (1 : Int))) + (1 : Int))) = (Go.IntKind.wrap Go.IntKind.u64 ((Go.IntKind.wrap Go.IntKind.u64 ((Go.IntKind.wrap Go.IntKind.u64 ((0 : Int) + (1 : Int))) + (1 : Int))) + (1 : Int)))), ((Go.Num.popL (Go.Num.popL (Go.Num.pushL (Go.Num.pushL (Go.Num.pushL ([] : List (Rec)) (Go.Num.mkE (5 : Int) (1 : Int) ([] : List (Int)) (0 : Int))) (Go.Num.mkE (3 : Int) (2 : Int) ([] : List (Int)) (Go.IntKind.wrap Go.IntKind.u64 ((0 : Int) + (1 : Int))))) (Go.Num.mkE (5 : Int) (3 : Int) ([] : List (Int)) (Go.IntKind.wrap Go.IntKind.u64 ((Go.IntKind.wrap Go.IntKind.u64 ((0 : Int) + (1 : Int))) + (1 : Int))))))) = (Go.Num.popL (Go.Num.popL (Go.Num.pushL (Go.Num.pushL (Go.Num.pushL ([] : List (Rec)) (Go.Num.mkE (5 : Int) (1 : Int) ([] : List (Int)) (0 : Int))) (Go.Num.mkE (3 : Int) (2 : Int) ([] : List (Int)) (Go.IntKind.wrap Go.IntKind.u64 ((0 : Int) + (1 : Int))))) (Go.Num.mkE (5 : Int) (3 : Int) ([] : List (Int)) (Go.IntKind.wrap Go.IntKind.u64 ((Go.IntKind.wrap Go.IntKind.u64 ((0 : Int) + (1 : Int))) + (1 : Int)))))))), (((((List.length (Go.Num.popL (Go.Num.popL (Go.Num.pushL (Go.Num.pushL (Go.Num.pushL ([] : List (Rec)) (Go.Num.mkE (5 : Int) (1 : Int) ([] : List (Int)) (0 : Int))) (Go.Num.mkE (3 : Int) (2 : Int) ([] : List (Int)) (Go.IntKind.wrap Go.IntKind.u64 ((0 : Int) + (1 : Int))))) (Go.Num.mkE (5 : Int) (3 : Int) ([] : List (Int)) (Go.IntKind.wrap Go.IntKind.u64 ((Go.IntKind.wrap Go.IntKind.u64 ((0 : Int) + (1 : Int))) + (1 : Int)))))))) : Nat) : Int) == (1 : Int)) = Bool.true)]) := by kernel_rfl
theorem head_run 
    (h1 : (Go.Num.EnAll ([] : List (Rec))))
    (h2 : ((List.length (Go.Num.pushL ([] : List (Rec)) (Go.Num.mkE (5 : Int) (1 : Int) ([] : List (Int)) (0 : Int)))) < (4096 : Nat)))
    (h3 : (Go.Num.EnAll (Go.Num.pushL ([] : List (Rec)) (Go.Num.mkE (5 : Int) (1 : Int) ([] : List (Int)) (0 : Int)))))
    (h4 : ((List.length (Go.Num.pushL (Go.Num.pushL ([] : List (Rec)) (Go.Num.mkE (5 : Int) (1 : Int) ([] : List (Int)) (0 : Int))) (Go.Num.mkE (3 : Int) (2 : Int) ([] : List (Int)) (Go.IntKind.wrap Go.IntKind.u64 ((0 : Int) + (1 : Int)))))) < (4096 : Nat)))
    (h5 : (Go.Num.EnAll (Go.Num.pushL (Go.Num.pushL ([] : List (Rec)) (Go.Num.mkE (5 : Int) (1 : Int) ([] : List (Int)) (0 : Int))) (Go.Num.mkE (3 : Int) (2 : Int) ([] : List (Int)) (Go.IntKind.wrap Go.IntKind.u64 ((0 : Int) + (1 : Int)))))))
    (h6 : (Go.Num.EnAll (Go.Num.pushL (Go.Num.pushL (Go.Num.pushL ([] : List (Rec)) (Go.Num.mkE (5 : Int) (1 : Int) ([] : List (Int)) (0 : Int))) (Go.Num.mkE (3 : Int) (2 : Int) ([] : List (Int)) (Go.IntKind.wrap Go.IntKind.u64 ((0 : Int) + (1 : Int))))) (Go.Num.mkE (5 : Int) (3 : Int) ([] : List (Int)) (Go.IntKind.wrap Go.IntKind.u64 ((Go.IntKind.wrap Go.IntKind.u64 ((0 : Int) + (1 : Int))) + (1 : Int)))))))
    (h7 : ((List.length (Go.Num.pushL (Go.Num.pushL (Go.Num.pushL ([] : List (Rec)) (Go.Num.mkE (5 : Int) (1 : Int) ([] : List (Int)) (0 : Int))) (Go.Num.mkE (3 : Int) (2 : Int) ([] : List (Int)) (Go.IntKind.wrap Go.IntKind.u64 ((0 : Int) + (1 : Int))))) (Go.Num.mkE (5 : Int) (3 : Int) ([] : List (Int)) (Go.IntKind.wrap Go.IntKind.u64 ((Go.IntKind.wrap Go.IntKind.u64 ((0 : Int) + (1 : Int))) + (1 : Int)))))) ≤ (100000 : Nat)))
    (h8 : (Go.Num.EnAll (Go.Num.popL (Go.Num.pushL (Go.Num.pushL (Go.Num.pushL ([] : List (Rec)) (Go.Num.mkE (5 : Int) (1 : Int) ([] : List (Int)) (0 : Int))) (Go.Num.mkE (3 : Int) (2 : Int) ([] : List (Int)) (Go.IntKind.wrap Go.IntKind.u64 ((0 : Int) + (1 : Int))))) (Go.Num.mkE (5 : Int) (3 : Int) ([] : List (Int)) (Go.IntKind.wrap Go.IntKind.u64 ((Go.IntKind.wrap Go.IntKind.u64 ((0 : Int) + (1 : Int))) + (1 : Int))))))))
    (h9 : ((List.length (Go.Num.popL (Go.Num.pushL (Go.Num.pushL (Go.Num.pushL ([] : List (Rec)) (Go.Num.mkE (5 : Int) (1 : Int) ([] : List (Int)) (0 : Int))) (Go.Num.mkE (3 : Int) (2 : Int) ([] : List (Int)) (Go.IntKind.wrap Go.IntKind.u64 ((0 : Int) + (1 : Int))))) (Go.Num.mkE (5 : Int) (3 : Int) ([] : List (Int)) (Go.IntKind.wrap Go.IntKind.u64 ((Go.IntKind.wrap Go.IntKind.u64 ((0 : Int) + (1 : Int))) + (1 : Int))))))) ≤ (100000 : Nat)))
    (h10 : (((Go.Abs.recI (Go.Num.popE (Go.Num.pushL (Go.Num.pushL (Go.Num.pushL ([] : List (Rec)) (Go.Num.mkE (5 : Int) (1 : Int) ([] : List (Int)) (0 : Int))) (Go.Num.mkE (3 : Int) (2 : Int) ([] : List (Int)) (Go.IntKind.wrap Go.IntKind.u64 ((0 : Int) + (1 : Int))))) (Go.Num.mkE (5 : Int) (3 : Int) ([] : List (Int)) (Go.IntKind.wrap Go.IntKind.u64 ((Go.IntKind.wrap Go.IntKind.u64 ((0 : Int) + (1 : Int))) + (1 : Int)))))) (1 : Nat)) == (2 : Int)) = Bool.true))
    (h11 : (((Go.Abs.recI (Go.Num.popE (Go.Num.popL (Go.Num.pushL (Go.Num.pushL (Go.Num.pushL ([] : List (Rec)) (Go.Num.mkE (5 : Int) (1 : Int) ([] : List (Int)) (0 : Int))) (Go.Num.mkE (3 : Int) (2 : Int) ([] : List (Int)) (Go.IntKind.wrap Go.IntKind.u64 ((0 : Int) + (1 : Int))))) (Go.Num.mkE (5 : Int) (3 : Int) ([] : List (Int)) (Go.IntKind.wrap Go.IntKind.u64 ((Go.IntKind.wrap Go.IntKind.u64 ((0 : Int) + (1 : Int))) + (1 : Int))))))) (1 : Nat)) == (1 : Int)) = Bool.true))
    (h12 : (((((List.length (Go.Num.popL (Go.Num.popL (Go.Num.pushL (Go.Num.pushL (Go.Num.pushL ([] : List (Rec)) (Go.Num.mkE (5 : Int) (1 : Int) ([] : List (Int)) (0 : Int))) (Go.Num.mkE (3 : Int) (2 : Int) ([] : List (Int)) (Go.IntKind.wrap Go.IntKind.u64 ((0 : Int) + (1 : Int))))) (Go.Num.mkE (5 : Int) (3 : Int) ([] : List (Int)) (Go.IntKind.wrap Go.IntKind.u64 ((Go.IntKind.wrap Go.IntKind.u64 ((0 : Int) + (1 : Int))) + (1 : Int)))))))) : Nat) : Int) == (1 : Int)) = Bool.true)) :
    ∃ ps, runF Try.prog D0 gamQ 100 Try.f7 [] [.is true, .is true, .is true] = some ((Go.Abs.AV.v (Go.Abs.A0.one (Go.Abs.Part.bool Bool.true Bool.true))), ps) ∧ AllQ ps := ⟨_, head_run_r , AllP.all ⟨rfl, rfl, rfl, rfl, rfl, (show ((0 : Int) ≤ (5 : Int)) from by decide), (show ((5 : Int) ≤ (1099511627776 : Int)) from by decide), (show ((0 : Nat) < (4096 : Nat)) from by decide), (show ((0 : Nat) ≤ (140737488355328 : Nat)) from by decide), h1, rfl, rfl, rfl, rfl, rfl, (show ((0 : Int) ≤ (3 : Int)) from by decide), (show ((3 : Int) ≤ (1099511627776 : Int)) from by decide), h2, (show ((0 : Nat) ≤ (140737488355328 : Nat)) from by decide), h3, rfl, rfl, rfl, rfl, rfl, (show ((0 : Int) ≤ (5 : Int)) from by decide), (show ((5 : Int) ≤ (1099511627776 : Int)) from by decide), h4, (show ((0 : Nat) ≤ (140737488355328 : Nat)) from by decide), h5, rfl, rfl, rfl, h6, h7, rfl, rfl, rfl, rfl, rfl, rfl, h8, h9, h10, h11, rfl, rfl, h12⟩⟩

def headQ : FnD D0
  | [] => some (.v (.one (.bool true true)), [])
  | _ => none

theorem head_ok : FnOK Try.prog D0 7 headQ := by
  refine fnOK_of gamQ_ok mixed Try.func7 (enters_of Try.func7 (by kernel_rfl) rfl) ?_
  intro xs r ps h hps
  unfold headQ at h
  split at h
  · simp only [Option.some.injEq, Prod.mk.injEq] at h
    obtain ⟨rfl, rfl⟩ := h
    have e0 : EnAll [] := fun r hr => by cases hr
    have e1 := pushL_inv e0 (⟨5, 1, [], 0, rfl⟩ : enOK (mkE 5 1 [] 0))
    have e2 := pushL_inv e1.1 (⟨3, 2, [], _, rfl⟩ : enOK (mkE 3 2 [] (IntKind.u64.wrap (0 + 1))))
    have e3 := pushL_inv e2.1 (⟨5, 3, [], _, rfl⟩ : enOK (mkE 5 3 [] (IntKind.u64.wrap (IntKind.u64.wrap (0 + 1) + 1))))
    have e4 := popL_inv e3.1 (by rw [e3.2]; omega)
    obtain ⟨ps, h1, h2⟩ := head_run e0 (by rw [e1.2]; decide) e1.1 (by rw [e2.2, e1.2]; decide) e2.1 e3.1 (by rw [e3.2, e2.2, e1.2]; decide) e4.1 (by rw [e4.2, e3.2, e2.2, e1.2]; decide) (by kernel_rfl) (by kernel_rfl) (by kernel_rfl)
    exact ⟨_, 100, _, _, _, fun w vs h => h, h1, h2, fun E v hv => hv⟩
  · cases h

/-! QueueFull: a queue behind Forget is told otherwise, so that Put's answers can be told apart. -/

def quB3 (ll : List Rec) (n : Int) : List (BoxSt D0.τ) := [.fixed 55 [.own 1, .ints .u64 [n]], rowQ ll]
def quB4 (ll : List Rec) (n : Int) : List (BoxSt D0.τ) := [.fixed 55 [.own 2, .ints .u64 [n]], .dead, rowQ ll]

theorem fo_some3_r (ll ll' : List Rec) (n w : Int) : runO Try.prog D0 (gamK dfQ) 100 Try.f17 (quB ll n, [.one (.ref 0 0), .one (.int .i64 false w)]) [] (.tup []) (quB4 ll' n) =
    some [(ll = ll), (w = w), ((List.length ll) ≤ (1000000 : Nat)), (Go.Num.EnAll ll), (¬ (Go.Num.noW w ll)), (n = n), ((Go.Num.keepW w ll) = (Go.Num.keepW w ll)), ((List.length (Go.Num.keepW w ll)) ≤ (100000 : Nat)), (Go.Num.EnAll (Go.Num.keepW w ll)), ((n :: ([] : List (Int))) = (n :: ([] : List (Int)))), ((Go.Num.initL (Go.Num.keepW w ll)) = ll')] := by kernel_rfl
theorem fo_some3 (ll ll' : List Rec) (n w : Int)
    (h1 : ((List.length ll) ≤ (1000000 : Nat)))
    (h2 : (Go.Num.EnAll ll))
    (h3 : (¬ (Go.Num.noW w ll)))
    (h4 : ((List.length (Go.Num.keepW w ll)) ≤ (100000 : Nat)))
    (h5 : (Go.Num.EnAll (Go.Num.keepW w ll)))
    (h6 : ((Go.Num.initL (Go.Num.keepW w ll)) = ll')) :
    ∃ ps, runO Try.prog D0 (gamK dfQ) 100 Try.f17 (quB ll n, [.one (.ref 0 0), .one (.int .i64 false w)]) [] (.tup []) (quB4 ll' n) = some ps ∧ AllQ ps := ⟨_, fo_some3_r ll ll' n w, AllP.all ⟨rfl, rfl, h1, h2, h3, rfl, rfl, h4, h5, rfl, h6⟩⟩

noncomputable def forget3Q := mkF D0 Try.f17.ntmps fgRd fgPre (fun t => some (.tup [], quB4 (initL (keepW t.2.2 t.1)) t.2.1, [t.1.length ≤ 100000, EnAll t.1, ¬ noW t.2.2 t.1]))

theorem len_run3_r (ll : List Rec) (n : Int) : runO Try.prog D0 [] 100 Try.f11 (quB3 ll n, [.one (.ref 0 0)]) [] (.v (.one (.int .i64 false ll.length))) (quB3 ll n) =
    some [((((List.length ll) : Nat) : Int) = (((List.length ll) : Nat) : Int)), ((n :: ([] : List (Int))) = (n :: ([] : List (Int)))), (ll = ll)] := by kernel_rfl
theorem len_run3 (ll : List Rec) (n : Int) :
    ∃ ps, runO Try.prog D0 [] 100 Try.f11 (quB3 ll n, [.one (.ref 0 0)]) [] (.v (.one (.int .i64 false ll.length))) (quB3 ll n) = some ps ∧ AllQ ps := ⟨_, len_run3_r ll n, AllP.all ⟨rfl, rfl, rfl⟩⟩

def ln3Rd : List (BoxSt D0.τ) → List (A0 D0.τ) → Option (List Rec × Int)
  | [.fixed t ps, .dyn e (.lrs sh ll)], [.one (.ref 0 0)] => match ps with
    | [.own 1, .ints .u64 [n]] => bif (Nat.beq t 55 && Nat.beq e 59) && shEq sh enSh then some (ll, n) else none
    | _ => none
  | _, _ => none
noncomputable def qlen3Q := mkF D0 Try.f11.ntmps ln3Rd (fun t => (quB3 t.1 t.2, [.one (.ref 0 0)])) (fun t => some (.v (.one (.int .i64 false t.1.length)), quB3 t.1 t.2, []))

def pt3Rd : List (BoxSt D0.τ) → List (A0 D0.τ) → Option (List Rec × Int × Int × Int × List Int)
  | [.fixed t ps, .dyn e (.lrs sh ll)], [.one (.ref 0 0), .agg qs] => match ps, qs with
    | [.own 1, .ints .u64 [n]], [.int .i64 _ a, .int .i64 _ b, x] => bif (Nat.beq t 55 && Nat.beq e 59) && shEq sh enSh then (wdOf x).map fun d => (ll, n, a, b, d) else none
    | _, _ => none
  | _, _ => none
noncomputable def put3Q := mkF D0 Try.f9.ntmps pt3Rd ptPre ptOk

noncomputable def gamU : Gam D0 := [(7, .fn headQ), (8, .op [] newQ), (9, .op [true, false] (orF putNilQ (orF put3Q putFullQ))), (10, .op [true, false] dueNilQ), (17, .op [true, false] (orF forgetNilQ forget3Q)), (11, .op [true] (orF qlenNilQ (orF qlen3Q qlenQ)))]
noncomputable def gamUa : Gam D0 := [(7, .fn headQ), (8, .op [] newQ), (9, .op [true, false] putArgQ)]
noncomputable def gamUl : Gam D0 := [(9, .op [true, false] putQ)]

def fuSn (a m : Int) (ll : List Rec) (i : Int) : Sn D0.τ where
  slots := [(0, .v (.one (.int .i64 false a))), (1, .v (.one (.int .i64 false m))), (5, .v (.one (.ref 0 0))), (6, .v (.one (.int .i64 false i)))]
  boxes := [(0, .fixed 55 (quP i)), (1, rowQ ll)]
  nt := 80

theorem fu_round_r (a m : Int) (ll ll' : List Rec) (i i' : Int) : stepPs Try.prog D0 gamUl 100 (bodyN Try.f5 0) 100 (fuSn a m ll i).st [.is true] .normal (fuSn a m ll' i') =
    some [((decide (i < (4096 : Int))) = Bool.true), (a = a), ((Go.Abs.bitsOf Go.BinOp.and Go.IntKind.i64 i (1 : Int)) = (Go.Abs.bitsOf Go.BinOp.and Go.IntKind.i64 i (1 : Int))), (([] : List (Int)) = ([] : List (Int))), (i = i), (ll = ll), ((0 : Int) ≤ a), (a ≤ (1099511627776 : Int)), ((List.length ll) < (4096 : Nat)), ((0 : Nat) ≤ (140737488355328 : Nat)), (Go.Num.EnAll ll), (Go.Abs.InI64 (i + (1 : Int))), (a = a), (m = m), ((i + (1 : Int)) = i'), ((Go.IntKind.wrap Go.IntKind.u64 (i + (1 : Int))) = i'), ((Go.Num.pushL ll (Go.Num.mkE a (Go.Abs.bitsOf Go.BinOp.and Go.IntKind.i64 i (1 : Int)) ([] : List (Int)) i)) = ll')] := by kernel_rfl
theorem fu_round (a m : Int) (ll ll' : List Rec) (i i' : Int)
    (h1 : ((decide (i < (4096 : Int))) = Bool.true))
    (h2 : ((0 : Int) ≤ a))
    (h3 : (a ≤ (1099511627776 : Int)))
    (h4 : ((List.length ll) < (4096 : Nat)))
    (h5 : (Go.Num.EnAll ll))
    (h6 : (Go.Abs.InI64 (i + (1 : Int))))
    (h7 : ((i + (1 : Int)) = i'))
    (h8 : ((Go.IntKind.wrap Go.IntKind.u64 (i + (1 : Int))) = i'))
    (h9 : ((Go.Num.pushL ll (Go.Num.mkE a (Go.Abs.bitsOf Go.BinOp.and Go.IntKind.i64 i (1 : Int)) ([] : List (Int)) i)) = ll')) :
    ∃ ps, stepPs Try.prog D0 gamUl 100 (bodyN Try.f5 0) 100 (fuSn a m ll i).st [.is true] .normal (fuSn a m ll' i') = some ps ∧ AllQ ps := ⟨_, fu_round_r a m ll ll' i i', AllP.all ⟨h1, rfl, rfl, rfl, rfl, rfl, h2, h3, h4, (show ((0 : Nat) ≤ (140737488355328 : Nat)) from by decide), h5, h6, rfl, rfl, h7, h8, h9⟩⟩

theorem fu_exit_r (a m : Int) (ll : List Rec) (i : Int) : stepPs Try.prog D0 gamUl 100 (bodyN Try.f5 0) 100 (fuSn a m ll i).st [.is false] (.exit 0) (fuSn a m ll i) =
    some [((decide (i < (4096 : Int))) = Bool.false), (a = a), (m = m), (i = i), (i = i), (ll = ll)] := by kernel_rfl
theorem fu_exit (a m : Int) (ll : List Rec) (i : Int)
    (h1 : ((decide (i < (4096 : Int))) = Bool.false)) :
    ∃ ps, stepPs Try.prog D0 gamUl 100 (bodyN Try.f5 0) 100 (fuSn a m ll i).st [.is false] (.exit 0) (fuSn a m ll i) = some ps ∧ AllQ ps := ⟨_, fu_exit_r a m ll i, AllP.all ⟨h1, rfl, rfl, rfl, rfl, rfl⟩⟩

theorem fu_less_r (a m : Int) : runF Try.prog D0 gamUa 100 Try.f5 [.one (.int .i64 false a), .one (.int .i64 false m)] [.is true] =
    some ((Go.Abs.AV.v (Go.Abs.A0.one (Go.Abs.Part.bool (Bool.true && Bool.true) ((1 : Int) == (1 : Int))))), [((decide (a < (0 : Int))) = Bool.true), (a = a), ((0 : Int) = (0 : Int)), (([] : List (Int)) = ([] : List (Int))), ((0 : Int) = (0 : Int)), (([] : List (Rec)) = ([] : List (Rec))), ((a < (0 : Int)) ∨ ((1099511627776 : Int) < a))]) := by kernel_rfl
theorem fu_less (a m : Int)
    (h1 : ((decide (a < (0 : Int))) = Bool.true))
    (h2 : ((a < (0 : Int)) ∨ ((1099511627776 : Int) < a))) :
    ∃ ps, runF Try.prog D0 gamUa 100 Try.f5 [.one (.int .i64 false a), .one (.int .i64 false m)] [.is true] = some ((Go.Abs.AV.v (Go.Abs.A0.one (Go.Abs.Part.bool (Bool.true && Bool.true) ((1 : Int) == (1 : Int))))), ps) ∧ AllQ ps := ⟨_, fu_less_r a m, AllP.all ⟨h1, rfl, rfl, rfl, rfl, rfl, h2⟩⟩

theorem fu_more_r (a m : Int) : runF Try.prog D0 gamUa 100 Try.f5 [.one (.int .i64 false a), .one (.int .i64 false m)] [.is false, .is true] =
    some ((Go.Abs.AV.v (Go.Abs.A0.one (Go.Abs.Part.bool (Bool.true && Bool.true) ((1 : Int) == (1 : Int))))), [((decide (a < (0 : Int))) = Bool.false), ((decide (a > (1099511627776 : Int))) = Bool.true), (a = a), ((0 : Int) = (0 : Int)), (([] : List (Int)) = ([] : List (Int))), ((0 : Int) = (0 : Int)), (([] : List (Rec)) = ([] : List (Rec))), ((a < (0 : Int)) ∨ ((1099511627776 : Int) < a))]) := by kernel_rfl
theorem fu_more (a m : Int)
    (h1 : ((decide (a < (0 : Int))) = Bool.false))
    (h2 : ((decide (a > (1099511627776 : Int))) = Bool.true))
    (h3 : ((a < (0 : Int)) ∨ ((1099511627776 : Int) < a))) :
    ∃ ps, runF Try.prog D0 gamUa 100 Try.f5 [.one (.int .i64 false a), .one (.int .i64 false m)] [.is false, .is true] = some ((Go.Abs.AV.v (Go.Abs.A0.one (Go.Abs.Part.bool (Bool.true && Bool.true) ((1 : Int) == (1 : Int))))), ps) ∧ AllQ ps := ⟨_, fu_more_r a m, AllP.all ⟨h1, h2, rfl, rfl, rfl, rfl, rfl, h3⟩⟩

theorem fu_run_r (a m : Int) (ll : List Rec) : runF Try.prog D0 gamU 100 Try.f5 [.one (.int .i64 false a), .one (.int .i64 false m)] [.is false, .is false, .loop (loopL D0 (fuSn a m [] 0) (.exit 0) (fuSn a m ll 4096)), .is false, .is true] =
    some ((Go.Abs.AV.v (Go.Abs.A0.one (Go.Abs.Part.bool (Bool.true && Bool.true) ((1 : Int) == (1 : Int))))), [((decide (a < (0 : Int))) = Bool.false), ((decide (a > (1099511627776 : Int))) = Bool.false), SumOK Try.prog D0 (bodyN Try.f5 0) (loopL D0 (fuSn a m [] 0) (.exit 0) (fuSn a m ll 4096)), (a = a), (m = m), ((0 : Int) = (0 : Int)), ((0 : Int) = (0 : Int)), (([] : List (Rec)) = ([] : List (Rec))), (a = a), ((0 : Int) = (0 : Int)), (([] : List (Int)) = ([] : List (Int))), ((4096 : Int) = (4096 : Int)), (ll = ll), ((0 : Int) ≤ a), (a ≤ (1099511627776 : Int)), ((4096 : Nat) ≤ (List.length ll)), ((4096 : Int) = (4096 : Int)), (ll = ll), (((((List.length ll) : Nat) : Int) != (4096 : Int)) = Bool.false), ((1 : Int) = (1 : Int)), ((4096 : Int) = (4096 : Int)), (ll = ll), ((List.length ll) ≤ (100000 : Nat)), (Go.Num.EnAll ll), (¬ (Go.Num.noW (1 : Int) ll)), ((1 : Int) = (1 : Int)), (m = m), (((4096 : Int) :: ([] : List (Int))) = ((4096 : Int) :: ([] : List (Int)))), ((Go.Num.initL (Go.Num.keepW (1 : Int) ll)) = (Go.Num.initL (Go.Num.keepW (1 : Int) ll))), (((((List.length (Go.Num.initL (Go.Num.keepW (1 : Int) ll))) : Nat) : Int) == (2048 : Int)) = Bool.true), (a = a), ((0 : Int) = (0 : Int)), (([] : List (Int)) = ([] : List (Int))), ((4096 : Int) = (4096 : Int)), ((Go.Num.initL (Go.Num.keepW (1 : Int) ll)) = (Go.Num.initL (Go.Num.keepW (1 : Int) ll))), ((0 : Int) ≤ a), (a ≤ (1099511627776 : Int)), ((List.length (Go.Num.initL (Go.Num.keepW (1 : Int) ll))) < (4096 : Nat)), ((0 : Nat) ≤ (140737488355328 : Nat)), (Go.Num.EnAll (Go.Num.initL (Go.Num.keepW (1 : Int) ll))), ((0 : Int) = (0 : Int)), ((0 : Int) = (0 : Int)), (([] : List (Int)) = ([] : List (Int)))]) := by kernel_rfl
theorem fu_run (a m : Int) (ll : List Rec)
    (h1 : ((decide (a < (0 : Int))) = Bool.false))
    (h2 : ((decide (a > (1099511627776 : Int))) = Bool.false))
    (h3 : SumOK Try.prog D0 (bodyN Try.f5 0) (loopL D0 (fuSn a m [] 0) (.exit 0) (fuSn a m ll 4096)))
    (h4 : ((0 : Int) ≤ a))
    (h5 : (a ≤ (1099511627776 : Int)))
    (h6 : ((4096 : Nat) ≤ (List.length ll)))
    (h7 : (((((List.length ll) : Nat) : Int) != (4096 : Int)) = Bool.false))
    (h8 : ((List.length ll) ≤ (100000 : Nat)))
    (h9 : (Go.Num.EnAll ll))
    (h10 : (¬ (Go.Num.noW (1 : Int) ll)))
    (h11 : (((((List.length (Go.Num.initL (Go.Num.keepW (1 : Int) ll))) : Nat) : Int) == (2048 : Int)) = Bool.true))
    (h12 : ((List.length (Go.Num.initL (Go.Num.keepW (1 : Int) ll))) < (4096 : Nat)))
    (h13 : (Go.Num.EnAll (Go.Num.initL (Go.Num.keepW (1 : Int) ll)))) :
    ∃ ps, runF Try.prog D0 gamU 100 Try.f5 [.one (.int .i64 false a), .one (.int .i64 false m)] [.is false, .is false, .loop (loopL D0 (fuSn a m [] 0) (.exit 0) (fuSn a m ll 4096)), .is false, .is true] = some ((Go.Abs.AV.v (Go.Abs.A0.one (Go.Abs.Part.bool (Bool.true && Bool.true) ((1 : Int) == (1 : Int))))), ps) ∧ AllQ ps := ⟨_, fu_run_r a m ll, AllP.all ⟨h1, h2, h3, rfl, rfl, rfl, rfl, rfl, rfl, rfl, rfl, rfl, rfl, h4, h5, h6, rfl, rfl, h7, rfl, rfl, rfl, h8, h9, h10, rfl, rfl, rfl, rfl, h11, rfl, rfl, rfl, rfl, rfl, h4, h5, h12, (show ((0 : Nat) ≤ (140737488355328 : Nat)) from by decide), h13, rfl, rfl, rfl⟩⟩

theorem put3_ok : OpOK Try.prog D0 9 put3Q := by
  refine opOK_mk gamP_ok mixed Try.func9 (enters_of Try.func9 (by kernel_rfl) rfl) ?_
  rintro ⟨ll, n, a, b, d⟩ r' bs' ps h hps
  simp only [ptOk, Option.some.injEq, Prod.mk.injEq] at h
  obtain ⟨rfl, rfl, rfl⟩ := h
  have h1 : 0 ≤ a := hps (0 ≤ a) (by simp)
  have h2 : a ≤ 1099511627776 := hps (a ≤ 1099511627776) (by simp)
  have h3 : ll.length < 4096 := hps (ll.length < 4096) (by simp)
  have h4 : d.length ≤ 140737488355328 := hps (d.length ≤ 140737488355328) (by simp)
  have h5 : EnAll ll := hps (EnAll ll) (by simp)
  exact ⟨_, _, put_run ll _ n _ a b d (decide_eq_false (by omega)) (decide_eq_false (by omega)) (decide_eq_false (by omega)) h4 (by omega) ⟨a, b, d, n, rfl⟩ h5 rfl rfl⟩

theorem qlen3_ok : OpOK Try.prog D0 11 qlen3Q := by
  refine opOK_mk gam_nil mixed Try.func11 (enters_of Try.func11 (by kernel_rfl) rfl) ?_
  rintro ⟨ll, n⟩ r' bs' ps h hps
  simp only [Option.some.injEq, Prod.mk.injEq] at h
  obtain ⟨rfl, rfl, rfl⟩ := h
  exact ⟨_, _, len_run3 ll n⟩

theorem forget3_ok : OpOK Try.prog D0 17 forget3Q := by
  refine opOK_mk (gamK_ok df_ok) mixed Try.func17 (enters_of Try.func17 (by kernel_rfl) rfl) ?_
  rintro ⟨ll, n, w⟩ r' bs' ps h hps
  simp only [Option.some.injEq, Prod.mk.injEq] at h
  obtain ⟨rfl, rfl, rfl⟩ := h
  have h1 : ll.length ≤ 100000 := hps (ll.length ≤ 100000) (by simp)
  have hE : EnAll ll := hps (EnAll ll) (by simp)
  have h2 : ¬ noW w ll := hps (¬ noW w ll) (by simp)
  have hk : (keepW w ll).length ≤ ll.length := List.length_filter_le ..
  exact ⟨_, _, fo_some3 ll _ n w (by omega) hE h2 (by omega) (keepW_all hE) rfl⟩

theorem gamU_ok : GamOK Try.prog D0 gamU :=
  gam_cons head_ok (gam_op new_ok (gam_op (opOK_or putNil_ok (opOK_or put3_ok putFull_ok)) (gam_op dueNil_ok (gam_op (opOK_or forgetNil_ok forget3_ok) (gam_op (opOK_or qlenNil_ok (opOK_or qlen3_ok qlen_ok)) gam_nil)))))
theorem gamUa_ok : GamOK Try.prog D0 gamUa := gam_cons head_ok (gam_op new_ok (gam_op putArg_ok gam_nil))
theorem gamUl_ok : GamOK Try.prog D0 gamUl := gam_op put_ok gam_nil

def fuL (a : Int) : Nat → List Rec
  | 0 => []
  | k + 1 => pushL (fuL a k) (mkE a (bitsOf .and .i64 k 1) [] k)

theorem fuL_inv (a : Int) : ∀ k, EnAll (fuL a k) ∧ (fuL a k).length = k
  | 0 => ⟨fun r hr => (by cases hr), rfl⟩
  | k + 1 => by
    have h := fuL_inv a k
    have := pushL_inv h.1 (⟨a, bitsOf .and .i64 k 1, [], k, rfl⟩ : enOK (mkE a (bitsOf .and .i64 k 1) [] k))
    exact ⟨this.1, by rw [fuL, this.2, h.2]⟩

theorem bit_i64 (k : Nat) (hk : k < 4096) : bitsOf .and .i64 (k : Int) 1 = ((k % 2 : Nat) : Int) := by
  show IntKind.i64.wrap (((BitVec.ofInt 64 (k : Int) &&& BitVec.ofInt 64 1).toNat : Nat) : Int) = _
  rw [BitVec.toNat_and, BitVec.toNat_ofInt, BitVec.toNat_ofInt]
  have e1 : ((k : Int) % ((2 ^ 64 : Nat) : Int)).toNat = k := by omega
  have e2 : ((1 : Int) % ((2 ^ 64 : Nat) : Int)).toNat = 1 := by decide
  rw [e1, e2, Nat.and_one_is_mod, IntKind.wrap_i64]
  omega

theorem fuL_perm (a : Int) : ∀ k, Heap (fuL a k) 0 (fuL a k).length ∧ (fuL a k).Perm ((List.range k).map fun j : Nat => mkE a (bitsOf .and .i64 (j : Int) 1) [] (j : Int))
  | 0 => ⟨fun k hk hkl => (by cases hkl), List.Perm.refl _⟩
  | k + 1 => by
    obtain ⟨h1, h2⟩ := fuL_perm a k
    obtain ⟨h3, h4⟩ := push_heap h1 (mkE a (bitsOf .and .i64 k 1) [] k)
    refine ⟨?_, ?_⟩
    · rw [(fuL_inv a (k + 1)).2]
      rw [(fuL_inv a k).2] at h3
      exact h3
    · rw [List.range_succ, List.map_append]
      exact h4.trans (h2.append_right _)

theorem fu_keep (a : Int) : ∀ k, k ≤ 4096 → (keepW 1 ((List.range k).map fun j : Nat => mkE a (bitsOf .and .i64 (j : Int) 1) [] (j : Int))).length = (k + 1) / 2
  | 0, _ => rfl
  | k + 1, h => by
    have ih := fu_keep a k (by omega)
    rw [List.range_succ, List.map_append]
    unfold keepW at ih ⊢
    rw [List.filter_append, List.length_append, ih]
    simp only [List.map, List.filter]
    have e : isW 1 (mkE a (bitsOf .and .i64 (k : Int) 1) [] (k : Int)) = decide (k % 2 = 1) := by
      show (bitsOf .and .i64 (k : Int) 1 == 1) = _
      rw [bit_i64 k (by omega)]
      rcases (by omega : k % 2 = 0 ∨ k % 2 = 1) with h | h <;> rw [h] <;> rfl
    rw [e]
    by_cases h : k % 2 = 1
    · rw [decide_eq_true h]
      simp only [Bool.not_true, List.length_nil]
      omega
    · rw [decide_eq_false h]
      simp only [Bool.not_false, List.length_cons, List.length_nil]
      omega

theorem fu_loop {a m : Int} (h0 : 0 ≤ a) (h1 : a ≤ 1099511627776) : SumOK Try.prog D0 (bodyN Try.f5 0) (loopL D0 (fuSn a m [] 0) (.exit 0) (fuSn a m (fuL a 4096) 4096)) := by
  refine sum_loop gamUl_ok mixed (fun k => fuSn a m (fuL a k) k) 4096 rfl (fun k hk => ?_) ?_
  · have h := fuL_inv a k
    exact ⟨_, _, _, fu_round a m _ _ k _ (decide_eq_true (by omega)) h0 h1 (by omega) h.1 ⟨by omega, by omega⟩ rfl (by rw [IntKind.wrap_u64]; omega) rfl⟩
  · exact ⟨_, _, _, fu_exit a m _ _ (by decide)⟩

/-- QueueFull answers yes. -/
theorem full_yes (a m : Int) : ∃ Γ, GamOK Try.prog D0 Γ ∧ ∃ ds ps, runF Try.prog D0 Γ 100 Try.f5 [.one (.int .i64 false a), .one (.int .i64 false m)] ds = some (.v (.one (.bool (true && true) ((1 : Int) == 1))), ps) ∧ AllQ ps := by
  by_cases h0 : a < 0
  · exact ⟨_, gamUa_ok, _, fu_less a m (decide_eq_true h0) (Or.inl h0)⟩
  by_cases h1 : 1099511627776 < a
  · exact ⟨_, gamUa_ok, _, fu_more a m (decide_eq_false h0) (decide_eq_true h1) (Or.inr h1)⟩
  obtain ⟨e1, e2⟩ := fuL_inv a 4096
  obtain ⟨e3, e4⟩ := fuL_perm a 4096
  have e5 := fu_keep a 4096 (Nat.le_refl _)
  have e6 : (keepW 1 (fuL a 4096)).length = 2048 := by
    have := (e4.filter fun r => !isW 1 r).length_eq
    exact this.trans e5
  have e7 := initL_inv (keepW_all (w := 1) e1)
  have e8 : ¬ noW 1 (fuL a 4096) := by
    intro h
    have h2 : keepW 1 (fuL a 4096) = fuL a 4096 := by
      unfold keepW
      rw [List.filter_eq_self]
      intro r hr
      obtain ⟨k, hk, rfl⟩ := List.mem_iff_getElem.1 hr
      have h3 := List.not_of_lt_findIdx (p := isW 1) (xs := fuL a 4096) (i := k) (by unfold noW at h; omega)
      simpa using h3
    rw [h2, e2] at e6
    cases e6
  exact ⟨_, gamU_ok, _, fu_run a m _ (decide_eq_false h0) (decide_eq_false (by omega)) (fu_loop (by omega) (by omega)) (by omega) (by omega) (by omega) (by rw [e2]; decide) (by omega) e1 e8 (by rw [e7.2, e6]; decide) (by omega) e7.1⟩

theorem law_full {a m : Int} (_ : InI64 a) (_ : InI64 m) : ∃ Γ, GamOK Try.prog D0 Γ ∧ ∃ ds ps, runF Try.prog D0 Γ 100 Try.f5 [.one (.int .i64 false a), .one (.int .i64 false m)] ds = some (.v (.one (.bool true true)), ps) ∧ AllQ ps := by
  obtain ⟨Γ, hΓ, ds, ps, h1, h2⟩ := full_yes a m
  exact ⟨Γ, hΓ, ds, ps, h1, h2⟩

end Go.Num
