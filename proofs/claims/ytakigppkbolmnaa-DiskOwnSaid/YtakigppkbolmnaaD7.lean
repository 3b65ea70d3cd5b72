/- Disk: Append, Sync, Cut, Move, Drop, Read: the runs. -/
import Derived.Test.YtakigppkbolmnaaD6
namespace Go.Num
open Go.Abs Go.Proofs Go.Shelf Go.RowKit

/-- Free, as it is looked at. -/
def freeR (bs : List (BoxSt DF.τ)) (xs : List (A0 DF.τ)) : Option (AV DF.τ × List (BoxSt DF.τ) × List Prop) :=
  match frRd bs xs with
  | some (es, room, o) => some (.v (.one (.int .i64 false (room - safeSum o es))), [], [FreeOK o es room])
  | none => none
theorem freeR_ok : OpOK Try.prog DF 17 (withNew freeR) := by
  have : withNew freeR = freeQ := by
    funext bs xs
    unfold withNew freeR freeQ
    cases frRd bs xs with
    | none => rfl
    | some x =>
      obtain ⟨es, room, o⟩ := x
      simp
  rw [this]
  exact free_ok

noncomputable def gA1 : Gam DF := [(31, .op [true, false] findBadQ), (32, .op [true, false, true] keepQ), (33, .op [true] stepQ), (17, .rd [true] freeR), (36, .fn rightF)]
noncomputable def gA0 : Gam DF := [(31, .op [true, false] findOkQ), (32, .op [true, false, true] keepQ), (33, .op [true] stepQ), (17, .rd [true] freeR), (36, .fn rightF)]
theorem gA1_ok : GamOK Try.prog DF gA1 := gam_op findBad_ok (gam_op keep_ok (gam_op step_ok (gam_rd freeR_ok (gam_cons right_ok gam_nil))))
theorem gA0_ok : GamOK Try.prog DF gA0 := gam_op findOk_ok (gam_op keep_ok (gam_op step_ok (gam_rd freeR_ok (gam_cons right_ok gam_nil))))
def eV (e : Int) : AV DF.τ := .v (.one (.int .i64 false e))

theorem ap_bad (s : ByteArray) (b : List Int) (ro st fu e : Int) (dn : Bool) (es : List (Rec × Ob))
 (h1 : ((Go.Num.errF dn es s) ≠ (0 : Int)))
 (h2 : ((ByteArray.size s) ≤ (9223372036854775807 : Nat)))
 (h3 : (((Go.Num.errF dn es s) != (0 : Int)) = Bool.true))
 (h4 : (((Go.Num.errF dn es s) != (41 : Int)) = Bool.true))
 (h5 : ((Go.Num.errF dn es s) = e)) :
 ∃ ps, runO Try.prog DF gA1 100 Try.f10 (dkB ro st fu dn es, [.one (.ref 0 0), .one (.str s), .one (.words .u8 b)]) [.is true, .is true] (eV e) (dkB ro st fu dn es) = some ps ∧ AllQ ps := ⟨_, by kernel_rfl, allQ_cons (show (s = s) from rfl) (allQ_cons (show (ro = ro) from rfl) (allQ_cons (show (st = st) from rfl) (allQ_cons (show (fu = fu) from rfl) (allQ_cons (show (dn = dn) from rfl) (allQ_cons (show (es = es) from rfl) (allQ_cons h1 (allQ_cons h2 (allQ_cons h3 (allQ_cons h4 (allQ_cons h5 (allQ_cons (show (ro = ro) from rfl) (allQ_cons (show (st = st) from rfl) (allQ_cons (show (fu = fu) from rfl) (allQ_cons (show (dn = dn) from rfl) (allQ_cons (show (es = es) from rfl) (allQ_nil))))))))))))))))⟩

theorem ap_many (s : ByteArray) (b : List Int) (ro st fu e : Int) (dn : Bool) (es : List (Rec × Ob))
 (h1 : ((Go.Num.errF dn es s) ≠ (0 : Int)))
 (h2 : ((ByteArray.size s) ≤ (9223372036854775807 : Nat)))
 (h3 : (((Go.Num.errF dn es s) != (0 : Int)) = Bool.true))
 (h4 : (((Go.Num.errF dn es s) != (41 : Int)) = Bool.false))
 (h5 : (((Go.Num.errF dn es s) == (41 : Int)) = Bool.true))
 (h6 : ((decide ((((List.length es) : Nat) : Int) ≥ (32 : Int))) = Bool.true))
 (h7 : ((43 : Int) = e)) :
 ∃ ps, runO Try.prog DF gA1 100 Try.f10 (dkB ro st fu dn es, [.one (.ref 0 0), .one (.str s), .one (.words .u8 b)]) [.is true, .is false, .is true, .is true] (eV e) (dkB ro st fu dn es) = some ps ∧ AllQ ps := ⟨_, by kernel_rfl, allQ_cons (show (s = s) from rfl) (allQ_cons (show (ro = ro) from rfl) (allQ_cons (show (st = st) from rfl) (allQ_cons (show (fu = fu) from rfl) (allQ_cons (show (dn = dn) from rfl) (allQ_cons (show (es = es) from rfl) (allQ_cons h1 (allQ_cons h2 (allQ_cons h3 (allQ_cons h4 (allQ_cons h5 (allQ_cons h6 (allQ_cons h7 (allQ_cons (show (ro = ro) from rfl) (allQ_cons (show (st = st) from rfl) (allQ_cons (show (fu = fu) from rfl) (allQ_cons (show (dn = dn) from rfl) (allQ_cons (show (es = es) from rfl) (allQ_nil))))))))))))))))))⟩

theorem ap_big1 (s : ByteArray) (b : List Int) (ro st fu e : Int) (dn : Bool) (es : List (Rec × Ob))
 (h1 : ((Go.Num.errF dn es s) ≠ (0 : Int)))
 (h2 : ((ByteArray.size s) ≤ (9223372036854775807 : Nat)))
 (h3 : (((Go.Num.errF dn es s) != (0 : Int)) = Bool.true))
 (h4 : (((Go.Num.errF dn es s) != (41 : Int)) = Bool.false))
 (h5 : (((Go.Num.errF dn es s) == (41 : Int)) = Bool.true))
 (h6 : ((decide ((((List.length es) : Nat) : Int) ≥ (32 : Int))) = Bool.false))
 (h7 : ((decide ((((List.length b) : Nat) : Int) > (Go.IntKind.wrap Go.IntKind.i64 ((4194304 : Int) - (0 : Int))))) = Bool.true))
 (h8 : ((18 : Int) = e)) :
 ∃ ps, runO Try.prog DF gA1 100 Try.f10 (dkB ro st fu dn es, [.one (.ref 0 0), .one (.str s), .one (.words .u8 b)]) [.is true, .is false, .is true, .is false, .is true] (eV e) (dkB ro st fu dn es) = some ps ∧ AllQ ps := ⟨_, by kernel_rfl, allQ_cons (show (s = s) from rfl) (allQ_cons (show (ro = ro) from rfl) (allQ_cons (show (st = st) from rfl) (allQ_cons (show (fu = fu) from rfl) (allQ_cons (show (dn = dn) from rfl) (allQ_cons (show (es = es) from rfl) (allQ_cons h1 (allQ_cons h2 (allQ_cons h3 (allQ_cons h4 (allQ_cons h5 (allQ_cons h6 (allQ_cons h7 (allQ_cons h8 (allQ_cons (show (ro = ro) from rfl) (allQ_cons (show (st = st) from rfl) (allQ_cons (show (fu = fu) from rfl) (allQ_cons (show (dn = dn) from rfl) (allQ_cons (show (es = es) from rfl) (allQ_nil)))))))))))))))))))⟩

theorem ap_new1 (s : ByteArray) (b : List Int) (ro st fu e st' fu' : Int) (dn dn' : Bool) (es es' : List (Rec × Ob))
 (h1 : ((Go.Num.errF dn es s) ≠ (0 : Int)))
 (h2 : ((ByteArray.size s) ≤ (9223372036854775807 : Nat)))
 (h3 : (((Go.Num.errF dn es s) != (0 : Int)) = Bool.true))
 (h4 : (((Go.Num.errF dn es s) != (41 : Int)) = Bool.false))
 (h5 : (((Go.Num.errF dn es s) == (41 : Int)) = Bool.true))
 (h6 : ((decide ((((List.length es) : Nat) : Int) ≥ (32 : Int))) = Bool.false))
 (h7 : ((decide ((((List.length b) : Nat) : Int) > (Go.IntKind.wrap Go.IntKind.i64 ((4194304 : Int) - (0 : Int))))) = Bool.false))
 (h8 : ((List.length b) ≤ (9223372036854775807 : Nat)))
 (h9 : (((List.length b) * (1 : Nat)) ≤ (140737488355328 : Nat)))
 (h10 : ((Go.Num.stV fu) = Bool.true))
 (h11 : (Go.Num.StepOK (ro, (st, (fu, (dn, (Go.Abs.setE es [(Go.Abs.Fd.s s)] (Go.Abs.Ob.node [(Go.Abs.Fd.w b), (Go.Abs.Fd.i (0 : Int))] ([] : List (List (Rec × Ob)))))))))))
 (h12 : ((0 : Int) = e))
 (h13 : ((Go.Num.stSt fu st) = st'))
 (h14 : ((Go.Num.stFu fu) = fu'))
 (h15 : ((Go.Num.stDn fu dn) = dn'))
 (h16 : ((Go.Abs.setE es [(Go.Abs.Fd.s s)] (Go.Abs.Ob.node [(Go.Abs.Fd.w b), (Go.Abs.Fd.i (0 : Int))] ([] : List (List (Rec × Ob))))) = es')) :
 ∃ ps, runO Try.prog DF gA1 100 Try.f10 (dkB ro st fu dn es, [.one (.ref 0 0), .one (.str s), .one (.words .u8 b)]) [.is true, .is false, .is true, .is false, .is false, .is true] (eV e) (dkB ro st' fu' dn' es') = some ps ∧ AllQ ps := ⟨_, by kernel_rfl, allQ_cons (show (s = s) from rfl) (allQ_cons (show (ro = ro) from rfl) (allQ_cons (show (st = st) from rfl) (allQ_cons (show (fu = fu) from rfl) (allQ_cons (show (dn = dn) from rfl) (allQ_cons (show (es = es) from rfl) (allQ_cons h1 (allQ_cons h2 (allQ_cons h3 (allQ_cons h4 (allQ_cons h5 (allQ_cons h6 (allQ_cons h7 (allQ_cons h8 (allQ_cons h9 (allQ_cons (show (s = s) from rfl) (allQ_cons (show ((0 : Int) = (0 : Int)) from rfl) (allQ_cons (show (ro = ro) from rfl) (allQ_cons (show (st = st) from rfl) (allQ_cons (show (fu = fu) from rfl) (allQ_cons (show (dn = dn) from rfl) (allQ_cons (show (b = b) from rfl) (allQ_cons (show (es = es) from rfl) (allQ_cons (show True from by decide) (allQ_cons h10 (allQ_cons (show (ro = ro) from rfl) (allQ_cons (show (st = st) from rfl) (allQ_cons (show (fu = fu) from rfl) (allQ_cons (show (dn = dn) from rfl) (allQ_cons (show ((Go.Abs.setE es [(Go.Abs.Fd.s s)] (Go.Abs.Ob.node [(Go.Abs.Fd.w b), (Go.Abs.Fd.i (0 : Int))] ([] : List (List (Rec × Ob))))) = (Go.Abs.setE es [(Go.Abs.Fd.s s)] (Go.Abs.Ob.node [(Go.Abs.Fd.w b), (Go.Abs.Fd.i (0 : Int))] ([] : List (List (Rec × Ob)))))) from rfl) (allQ_cons h11 (allQ_cons h12 (allQ_cons (show (ro = ro) from rfl) (allQ_cons h13 (allQ_cons h14 (allQ_cons h15 (allQ_cons h16 (allQ_nil)))))))))))))))))))))))))))))))))))))⟩

theorem ap_new0 (s : ByteArray) (b : List Int) (ro st fu e st' fu' : Int) (dn dn' : Bool) (es es' : List (Rec × Ob))
 (h1 : ((Go.Num.errF dn es s) ≠ (0 : Int)))
 (h2 : ((ByteArray.size s) ≤ (9223372036854775807 : Nat)))
 (h3 : (((Go.Num.errF dn es s) != (0 : Int)) = Bool.true))
 (h4 : (((Go.Num.errF dn es s) != (41 : Int)) = Bool.false))
 (h5 : (((Go.Num.errF dn es s) == (41 : Int)) = Bool.true))
 (h6 : ((decide ((((List.length es) : Nat) : Int) ≥ (32 : Int))) = Bool.false))
 (h7 : ((decide ((((List.length b) : Nat) : Int) > (Go.IntKind.wrap Go.IntKind.i64 ((4194304 : Int) - (0 : Int))))) = Bool.false))
 (h8 : ((List.length b) ≤ (9223372036854775807 : Nat)))
 (h9 : (((List.length b) * (1 : Nat)) ≤ (140737488355328 : Nat)))
 (h10 : ((Go.Num.stV fu) = Bool.false))
 (h11 : (Go.Num.StepOK (ro, (st, (fu, (dn, (Go.Abs.setE es [(Go.Abs.Fd.s s)] (Go.Abs.Ob.node [(Go.Abs.Fd.w b), (Go.Abs.Fd.i (0 : Int))] ([] : List (List (Rec × Ob)))))))))))
 (h12 : ((2 : Int) = e))
 (h13 : ((Go.Num.stSt fu st) = st'))
 (h14 : ((Go.Num.stFu fu) = fu'))
 (h15 : ((Go.Num.stDn fu dn) = dn'))
 (h16 : ((Go.Abs.setE es [(Go.Abs.Fd.s s)] (Go.Abs.Ob.node [(Go.Abs.Fd.w b), (Go.Abs.Fd.i (0 : Int))] ([] : List (List (Rec × Ob))))) = es')) :
 ∃ ps, runO Try.prog DF gA1 100 Try.f10 (dkB ro st fu dn es, [.one (.ref 0 0), .one (.str s), .one (.words .u8 b)]) [.is true, .is false, .is true, .is false, .is false, .is false] (eV e) (dkB ro st' fu' dn' es') = some ps ∧ AllQ ps := ⟨_, by kernel_rfl, allQ_cons (show (s = s) from rfl) (allQ_cons (show (ro = ro) from rfl) (allQ_cons (show (st = st) from rfl) (allQ_cons (show (fu = fu) from rfl) (allQ_cons (show (dn = dn) from rfl) (allQ_cons (show (es = es) from rfl) (allQ_cons h1 (allQ_cons h2 (allQ_cons h3 (allQ_cons h4 (allQ_cons h5 (allQ_cons h6 (allQ_cons h7 (allQ_cons h8 (allQ_cons h9 (allQ_cons (show (s = s) from rfl) (allQ_cons (show ((0 : Int) = (0 : Int)) from rfl) (allQ_cons (show (ro = ro) from rfl) (allQ_cons (show (st = st) from rfl) (allQ_cons (show (fu = fu) from rfl) (allQ_cons (show (dn = dn) from rfl) (allQ_cons (show (b = b) from rfl) (allQ_cons (show (es = es) from rfl) (allQ_cons (show True from by decide) (allQ_cons h10 (allQ_cons (show (ro = ro) from rfl) (allQ_cons (show (st = st) from rfl) (allQ_cons (show (fu = fu) from rfl) (allQ_cons (show (dn = dn) from rfl) (allQ_cons (show ((Go.Abs.setE es [(Go.Abs.Fd.s s)] (Go.Abs.Ob.node [(Go.Abs.Fd.w b), (Go.Abs.Fd.i (0 : Int))] ([] : List (List (Rec × Ob))))) = (Go.Abs.setE es [(Go.Abs.Fd.s s)] (Go.Abs.Ob.node [(Go.Abs.Fd.w b), (Go.Abs.Fd.i (0 : Int))] ([] : List (List (Rec × Ob)))))) from rfl) (allQ_cons h11 (allQ_cons h12 (allQ_cons (show (ro = ro) from rfl) (allQ_cons h13 (allQ_cons h14 (allQ_cons h15 (allQ_cons h16 (allQ_nil)))))))))))))))))))))))))))))))))))))⟩

theorem ap_big2 (s : ByteArray) (b : List Int) (ro st fu e : Int) (dn : Bool) (es es' : List (Rec × Ob))
 (h1 : ((Go.Num.errF dn es s) = (0 : Int)))
 (h2 : ((ByteArray.size s) ≤ (9223372036854775807 : Nat)))
 (h3 : (Go.Abs.InI64 ((4194304 : Int) - (((List.length (Go.Num.obD (Go.Abs.obE es [(Go.Abs.Fd.s s)]))) : Nat) : Int))))
 (h4 : ((decide ((((List.length b) : Nat) : Int) > ((4194304 : Int) - (((List.length (Go.Num.obD (Go.Abs.obE es [(Go.Abs.Fd.s s)]))) : Nat) : Int)))) = Bool.true))
 (h5 : ((Go.Num.obS (Go.Abs.obE es [(Go.Abs.Fd.s s)])) = (Go.Num.obS (Go.Abs.Ob.node [(Go.Abs.Fd.w (Go.Num.obD (Go.Abs.obE es [(Go.Abs.Fd.s s)]))), (Go.Abs.Fd.i (Go.Num.obS (Go.Abs.obE es [(Go.Abs.Fd.s s)])))] ([] : List (List (Rec × Ob)))))))
 (h6 : ((Go.Num.obD (Go.Abs.obE es [(Go.Abs.Fd.s s)])) = (Go.Num.obD (Go.Abs.Ob.node [(Go.Abs.Fd.w (Go.Num.obD (Go.Abs.obE es [(Go.Abs.Fd.s s)]))), (Go.Abs.Fd.i (Go.Num.obS (Go.Abs.obE es [(Go.Abs.Fd.s s)])))] ([] : List (List (Rec × Ob)))))))
 (h7 : ((18 : Int) = e))
 (h8 : ((Go.Abs.setE es [(Go.Abs.Fd.s s)] (Go.Abs.Ob.node [(Go.Abs.Fd.w (Go.Num.obD (Go.Abs.obE es [(Go.Abs.Fd.s s)]))), (Go.Abs.Fd.i (Go.Num.obS (Go.Abs.obE es [(Go.Abs.Fd.s s)])))] ([] : List (List (Rec × Ob))))) = es')) :
 ∃ ps, runO Try.prog DF gA0 100 Try.f10 (dkB ro st fu dn es, [.one (.ref 0 0), .one (.str s), .one (.words .u8 b)]) [.is true] (eV e) (dkB ro st fu dn es') = some ps ∧ AllQ ps := ⟨_, by kernel_rfl, allQ_cons (show (s = s) from rfl) (allQ_cons (show (ro = ro) from rfl) (allQ_cons (show (st = st) from rfl) (allQ_cons (show (fu = fu) from rfl) (allQ_cons (show (dn = dn) from rfl) (allQ_cons (show (es = es) from rfl) (allQ_cons h1 (allQ_cons h2 (allQ_cons h3 (allQ_cons h4 (allQ_cons h5 (allQ_cons h6 (allQ_cons h7 (allQ_cons (show (ro = ro) from rfl) (allQ_cons (show (st = st) from rfl) (allQ_cons (show (fu = fu) from rfl) (allQ_cons (show (dn = dn) from rfl) (allQ_cons h8 (allQ_nil))))))))))))))))))⟩

theorem ap_old1 (s : ByteArray) (b : List Int) (ro st fu e st' fu' : Int) (dn dn' : Bool) (es es' : List (Rec × Ob))
 (h1 : ((Go.Num.errF dn es s) = (0 : Int)))
 (h2 : ((ByteArray.size s) ≤ (9223372036854775807 : Nat)))
 (h3 : (Go.Abs.InI64 ((4194304 : Int) - (((List.length (Go.Num.obD (Go.Abs.obE es [(Go.Abs.Fd.s s)]))) : Nat) : Int))))
 (h4 : ((decide ((((List.length b) : Nat) : Int) > ((4194304 : Int) - (((List.length (Go.Num.obD (Go.Abs.obE es [(Go.Abs.Fd.s s)]))) : Nat) : Int)))) = Bool.false))
 (h5 : (((List.length (Go.Num.obD (Go.Abs.obE es [(Go.Abs.Fd.s s)]))) + (List.length b)) ≤ (9223372036854775807 : Nat)))
 (h6 : ((((List.length (Go.Num.obD (Go.Abs.obE es [(Go.Abs.Fd.s s)]))) + (List.length b)) * (1 : Nat)) ≤ (140737488355328 : Nat)))
 (h7 : ((Go.Num.stV fu) = Bool.true))
 (h8 : (Go.Num.StepOK (ro, (st, (fu, (dn, (Go.Abs.setE es [(Go.Abs.Fd.s s)] (Go.Abs.Ob.node [(Go.Abs.Fd.w ((Go.Num.obD (Go.Abs.obE es [(Go.Abs.Fd.s s)])) ++ b)), (Go.Abs.Fd.i (Go.Num.obS (Go.Abs.obE es [(Go.Abs.Fd.s s)])))] ([] : List (List (Rec × Ob)))))))))))
 (h9 : ((0 : Int) = e))
 (h10 : ((Go.Num.stSt fu st) = st'))
 (h11 : ((Go.Num.stFu fu) = fu'))
 (h12 : ((Go.Num.stDn fu dn) = dn'))
 (h13 : ((Go.Abs.setE es [(Go.Abs.Fd.s s)] (Go.Abs.Ob.node [(Go.Abs.Fd.w ((Go.Num.obD (Go.Abs.obE es [(Go.Abs.Fd.s s)])) ++ b)), (Go.Abs.Fd.i (Go.Num.obS (Go.Abs.obE es [(Go.Abs.Fd.s s)])))] ([] : List (List (Rec × Ob))))) = es')) :
 ∃ ps, runO Try.prog DF gA0 100 Try.f10 (dkB ro st fu dn es, [.one (.ref 0 0), .one (.str s), .one (.words .u8 b)]) [.is false, .is true] (eV e) (dkB ro st' fu' dn' es') = some ps ∧ AllQ ps := ⟨_, by kernel_rfl, allQ_cons (show (s = s) from rfl) (allQ_cons (show (ro = ro) from rfl) (allQ_cons (show (st = st) from rfl) (allQ_cons (show (fu = fu) from rfl) (allQ_cons (show (dn = dn) from rfl) (allQ_cons (show (es = es) from rfl) (allQ_cons h1 (allQ_cons h2 (allQ_cons h3 (allQ_cons h4 (allQ_cons h5 (allQ_cons h6 (allQ_cons (show (s = s) from rfl) (allQ_cons (show ((Go.Num.obS (Go.Abs.obE es [(Go.Abs.Fd.s s)])) = (Go.Num.obS (Go.Abs.obE es [(Go.Abs.Fd.s s)]))) from rfl) (allQ_cons (show (ro = ro) from rfl) (allQ_cons (show (st = st) from rfl) (allQ_cons (show (fu = fu) from rfl) (allQ_cons (show (dn = dn) from rfl) (allQ_cons (show (((Go.Num.obD (Go.Abs.obE es [(Go.Abs.Fd.s s)])) ++ b) = ((Go.Num.obD (Go.Abs.obE es [(Go.Abs.Fd.s s)])) ++ b)) from rfl) (allQ_cons (show ([(Go.Abs.Fd.s s)] = [(Go.Abs.Fd.s s)]) from rfl) (allQ_cons (show (es = es) from rfl) (allQ_cons (show ((Go.Num.obS (Go.Abs.obE es [(Go.Abs.Fd.s s)])) = (Go.Num.obS (Go.Abs.obE es [(Go.Abs.Fd.s s)]))) from rfl) (allQ_cons (show ([(Go.Abs.Fd.s s)] = [(Go.Abs.Fd.s s)]) from rfl) (allQ_cons h7 (allQ_cons (show (ro = ro) from rfl) (allQ_cons (show (st = st) from rfl) (allQ_cons (show (fu = fu) from rfl) (allQ_cons (show (dn = dn) from rfl) (allQ_cons (show ((Go.Abs.setE es [(Go.Abs.Fd.s s)] (Go.Abs.Ob.node [(Go.Abs.Fd.w ((Go.Num.obD (Go.Abs.obE es [(Go.Abs.Fd.s s)])) ++ b)), (Go.Abs.Fd.i (Go.Num.obS (Go.Abs.obE es [(Go.Abs.Fd.s s)])))] ([] : List (List (Rec × Ob))))) = (Go.Abs.setE es [(Go.Abs.Fd.s s)] (Go.Abs.Ob.node [(Go.Abs.Fd.w ((Go.Num.obD (Go.Abs.obE es [(Go.Abs.Fd.s s)])) ++ b)), (Go.Abs.Fd.i (Go.Num.obS (Go.Abs.obE es [(Go.Abs.Fd.s s)])))] ([] : List (List (Rec × Ob)))))) from rfl) (allQ_cons h8 (allQ_cons h9 (allQ_cons (show (ro = ro) from rfl) (allQ_cons h10 (allQ_cons h11 (allQ_cons h12 (allQ_cons h13 (allQ_nil))))))))))))))))))))))))))))))))))))⟩

theorem ap_old0 (s : ByteArray) (b : List Int) (ro st fu e st' fu' : Int) (dn dn' : Bool) (es es' : List (Rec × Ob))
 (h1 : ((Go.Num.errF dn es s) = (0 : Int)))
 (h2 : ((ByteArray.size s) ≤ (9223372036854775807 : Nat)))
 (h3 : (Go.Abs.InI64 ((4194304 : Int) - (((List.length (Go.Num.obD (Go.Abs.obE es [(Go.Abs.Fd.s s)]))) : Nat) : Int))))
 (h4 : ((decide ((((List.length b) : Nat) : Int) > ((4194304 : Int) - (((List.length (Go.Num.obD (Go.Abs.obE es [(Go.Abs.Fd.s s)]))) : Nat) : Int)))) = Bool.false))
 (h5 : (((List.length (Go.Num.obD (Go.Abs.obE es [(Go.Abs.Fd.s s)]))) + (List.length b)) ≤ (9223372036854775807 : Nat)))
 (h6 : ((((List.length (Go.Num.obD (Go.Abs.obE es [(Go.Abs.Fd.s s)]))) + (List.length b)) * (1 : Nat)) ≤ (140737488355328 : Nat)))
 (h7 : ((Go.Num.stV fu) = Bool.false))
 (h8 : (Go.Num.StepOK (ro, (st, (fu, (dn, (Go.Abs.setE es [(Go.Abs.Fd.s s)] (Go.Abs.Ob.node [(Go.Abs.Fd.w ((Go.Num.obD (Go.Abs.obE es [(Go.Abs.Fd.s s)])) ++ b)), (Go.Abs.Fd.i (Go.Num.obS (Go.Abs.obE es [(Go.Abs.Fd.s s)])))] ([] : List (List (Rec × Ob)))))))))))
 (h9 : ((2 : Int) = e))
 (h10 : ((Go.Num.stSt fu st) = st'))
 (h11 : ((Go.Num.stFu fu) = fu'))
 (h12 : ((Go.Num.stDn fu dn) = dn'))
 (h13 : ((Go.Abs.setE es [(Go.Abs.Fd.s s)] (Go.Abs.Ob.node [(Go.Abs.Fd.w ((Go.Num.obD (Go.Abs.obE es [(Go.Abs.Fd.s s)])) ++ b)), (Go.Abs.Fd.i (Go.Num.obS (Go.Abs.obE es [(Go.Abs.Fd.s s)])))] ([] : List (List (Rec × Ob))))) = es')) :
 ∃ ps, runO Try.prog DF gA0 100 Try.f10 (dkB ro st fu dn es, [.one (.ref 0 0), .one (.str s), .one (.words .u8 b)]) [.is false, .is false] (eV e) (dkB ro st' fu' dn' es') = some ps ∧ AllQ ps := ⟨_, by kernel_rfl, allQ_cons (show (s = s) from rfl) (allQ_cons (show (ro = ro) from rfl) (allQ_cons (show (st = st) from rfl) (allQ_cons (show (fu = fu) from rfl) (allQ_cons (show (dn = dn) from rfl) (allQ_cons (show (es = es) from rfl) (allQ_cons h1 (allQ_cons h2 (allQ_cons h3 (allQ_cons h4 (allQ_cons h5 (allQ_cons h6 (allQ_cons (show (s = s) from rfl) (allQ_cons (show ((Go.Num.obS (Go.Abs.obE es [(Go.Abs.Fd.s s)])) = (Go.Num.obS (Go.Abs.obE es [(Go.Abs.Fd.s s)]))) from rfl) (allQ_cons (show (ro = ro) from rfl) (allQ_cons (show (st = st) from rfl) (allQ_cons (show (fu = fu) from rfl) (allQ_cons (show (dn = dn) from rfl) (allQ_cons (show (((Go.Num.obD (Go.Abs.obE es [(Go.Abs.Fd.s s)])) ++ b) = ((Go.Num.obD (Go.Abs.obE es [(Go.Abs.Fd.s s)])) ++ b)) from rfl) (allQ_cons (show ([(Go.Abs.Fd.s s)] = [(Go.Abs.Fd.s s)]) from rfl) (allQ_cons (show (es = es) from rfl) (allQ_cons (show ((Go.Num.obS (Go.Abs.obE es [(Go.Abs.Fd.s s)])) = (Go.Num.obS (Go.Abs.obE es [(Go.Abs.Fd.s s)]))) from rfl) (allQ_cons (show ([(Go.Abs.Fd.s s)] = [(Go.Abs.Fd.s s)]) from rfl) (allQ_cons h7 (allQ_cons (show (ro = ro) from rfl) (allQ_cons (show (st = st) from rfl) (allQ_cons (show (fu = fu) from rfl) (allQ_cons (show (dn = dn) from rfl) (allQ_cons (show ((Go.Abs.setE es [(Go.Abs.Fd.s s)] (Go.Abs.Ob.node [(Go.Abs.Fd.w ((Go.Num.obD (Go.Abs.obE es [(Go.Abs.Fd.s s)])) ++ b)), (Go.Abs.Fd.i (Go.Num.obS (Go.Abs.obE es [(Go.Abs.Fd.s s)])))] ([] : List (List (Rec × Ob))))) = (Go.Abs.setE es [(Go.Abs.Fd.s s)] (Go.Abs.Ob.node [(Go.Abs.Fd.w ((Go.Num.obD (Go.Abs.obE es [(Go.Abs.Fd.s s)])) ++ b)), (Go.Abs.Fd.i (Go.Num.obS (Go.Abs.obE es [(Go.Abs.Fd.s s)])))] ([] : List (List (Rec × Ob)))))) from rfl) (allQ_cons h8 (allQ_cons h9 (allQ_cons (show (ro = ro) from rfl) (allQ_cons h10 (allQ_cons h11 (allQ_cons h12 (allQ_cons h13 (allQ_nil))))))))))))))))))))))))))))))))))))⟩

theorem sy_bad (s : ByteArray) (ro st fu e : Int) (dn : Bool) (es : List (Rec × Ob))
 (h1 : ((Go.Num.errF dn es s) ≠ (0 : Int)))
 (h2 : ((ByteArray.size s) ≤ (9223372036854775807 : Nat)))
 (h3 : (((Go.Num.errF dn es s) != (0 : Int)) = Bool.true))
 (h4 : ((Go.Num.errF dn es s) = e)) :
 ∃ ps, runO Try.prog DF gA1 100 Try.f12 (dkB ro st fu dn es, [.one (.ref 0 0), .one (.str s)]) [.is true] (eV e) (dkB ro st fu dn es) = some ps ∧ AllQ ps := ⟨_, by kernel_rfl, allQ_cons (show (s = s) from rfl) (allQ_cons (show (ro = ro) from rfl) (allQ_cons (show (st = st) from rfl) (allQ_cons (show (fu = fu) from rfl) (allQ_cons (show (dn = dn) from rfl) (allQ_cons (show (es = es) from rfl) (allQ_cons h1 (allQ_cons h2 (allQ_cons h3 (allQ_cons h4 (allQ_cons (show (ro = ro) from rfl) (allQ_cons (show (st = st) from rfl) (allQ_cons (show (fu = fu) from rfl) (allQ_cons (show (dn = dn) from rfl) (allQ_cons (show (es = es) from rfl) (allQ_nil)))))))))))))))⟩

theorem sy_full (s : ByteArray) (ro st fu e : Int) (dn : Bool) (es es' : List (Rec × Ob))
 (h1 : ((Go.Num.errF dn es s) = (0 : Int)))
 (h2 : ((ByteArray.size s) ≤ (9223372036854775807 : Nat)))
 (h3 : (Go.Abs.InI64 ((((List.length (Go.Num.obD (Go.Abs.obE es [(Go.Abs.Fd.s s)]))) : Nat) : Int) - (Go.Num.obS (Go.Abs.obE es [(Go.Abs.Fd.s s)])))))
 (h4 : (Go.Num.FreeOK (Option.some ([(Go.Abs.Fd.s s)], (Go.Num.obS (Go.Abs.obE es [(Go.Abs.Fd.s s)])))) es ro))
 (h5 : ((decide (((((List.length (Go.Num.obD (Go.Abs.obE es [(Go.Abs.Fd.s s)]))) : Nat) : Int) - (Go.Num.obS (Go.Abs.obE es [(Go.Abs.Fd.s s)]))) > (ro - (Go.Num.safeSum (Option.some ([(Go.Abs.Fd.s s)], (Go.Num.obS (Go.Abs.obE es [(Go.Abs.Fd.s s)])))) es)))) = Bool.true))
 (h6 : ((Go.Num.obS (Go.Abs.obE es [(Go.Abs.Fd.s s)])) = (Go.Num.obS (Go.Abs.Ob.node [(Go.Abs.Fd.w (Go.Num.obD (Go.Abs.obE es [(Go.Abs.Fd.s s)]))), (Go.Abs.Fd.i (Go.Num.obS (Go.Abs.obE es [(Go.Abs.Fd.s s)])))] ([] : List (List (Rec × Ob)))))))
 (h7 : ((Go.Num.obD (Go.Abs.obE es [(Go.Abs.Fd.s s)])) = (Go.Num.obD (Go.Abs.Ob.node [(Go.Abs.Fd.w (Go.Num.obD (Go.Abs.obE es [(Go.Abs.Fd.s s)]))), (Go.Abs.Fd.i (Go.Num.obS (Go.Abs.obE es [(Go.Abs.Fd.s s)])))] ([] : List (List (Rec × Ob)))))))
 (h8 : ((42 : Int) = e))
 (h9 : ((Go.Abs.setE es [(Go.Abs.Fd.s s)] (Go.Abs.Ob.node [(Go.Abs.Fd.w (Go.Num.obD (Go.Abs.obE es [(Go.Abs.Fd.s s)]))), (Go.Abs.Fd.i (Go.Num.obS (Go.Abs.obE es [(Go.Abs.Fd.s s)])))] ([] : List (List (Rec × Ob))))) = es')) :
 ∃ ps, runO Try.prog DF gA0 100 Try.f12 (dkB ro st fu dn es, [.one (.ref 0 0), .one (.str s)]) [.is true] (eV e) (dkB ro st fu dn es') = some ps ∧ AllQ ps := ⟨_, by kernel_rfl, allQ_cons (show (s = s) from rfl) (allQ_cons (show (ro = ro) from rfl) (allQ_cons (show (st = st) from rfl) (allQ_cons (show (fu = fu) from rfl) (allQ_cons (show (dn = dn) from rfl) (allQ_cons (show (es = es) from rfl) (allQ_cons h1 (allQ_cons h2 (allQ_cons h3 (allQ_cons h4 (allQ_cons h5 (allQ_cons h6 (allQ_cons h7 (allQ_cons h8 (allQ_cons (show (ro = ro) from rfl) (allQ_cons (show (st = st) from rfl) (allQ_cons (show (fu = fu) from rfl) (allQ_cons (show (dn = dn) from rfl) (allQ_cons h9 (allQ_nil)))))))))))))))))))⟩

theorem sy_down (s : ByteArray) (ro st fu e st' fu' : Int) (dn dn' : Bool) (es es' : List (Rec × Ob))
 (h1 : ((Go.Num.errF dn es s) = (0 : Int)))
 (h2 : ((ByteArray.size s) ≤ (9223372036854775807 : Nat)))
 (h3 : (Go.Abs.InI64 ((((List.length (Go.Num.obD (Go.Abs.obE es [(Go.Abs.Fd.s s)]))) : Nat) : Int) - (Go.Num.obS (Go.Abs.obE es [(Go.Abs.Fd.s s)])))))
 (h4 : (Go.Num.FreeOK (Option.some ([(Go.Abs.Fd.s s)], (Go.Num.obS (Go.Abs.obE es [(Go.Abs.Fd.s s)])))) es ro))
 (h5 : ((decide (((((List.length (Go.Num.obD (Go.Abs.obE es [(Go.Abs.Fd.s s)]))) : Nat) : Int) - (Go.Num.obS (Go.Abs.obE es [(Go.Abs.Fd.s s)]))) > (ro - (Go.Num.safeSum (Option.some ([(Go.Abs.Fd.s s)], (Go.Num.obS (Go.Abs.obE es [(Go.Abs.Fd.s s)])))) es)))) = Bool.false))
 (h6 : ((Go.Num.stV fu) = Bool.true))
 (h7 : (Go.Num.StepOK (ro, (st, (fu, (dn, es))))))
 (h8 : ((0 : Int) = e))
 (h9 : ((Go.Num.stSt fu st) = st'))
 (h10 : ((Go.Num.stFu fu) = fu'))
 (h11 : ((Go.Num.stDn fu dn) = dn'))
 (h12 : ((Go.Abs.setE es [(Go.Abs.Fd.s s)] (Go.Abs.Ob.node [(Go.Abs.Fd.w (Go.Num.obD (Go.Abs.obE es [(Go.Abs.Fd.s s)]))), (Go.Abs.Fd.i (((List.length (Go.Num.obD (Go.Abs.obE es [(Go.Abs.Fd.s s)]))) : Nat) : Int))] ([] : List (List (Rec × Ob))))) = es')) :
 ∃ ps, runO Try.prog DF gA0 100 Try.f12 (dkB ro st fu dn es, [.one (.ref 0 0), .one (.str s)]) [.is false, .is true] (eV e) (dkB ro st' fu' dn' es') = some ps ∧ AllQ ps := ⟨_, by kernel_rfl, allQ_cons (show (s = s) from rfl) (allQ_cons (show (ro = ro) from rfl) (allQ_cons (show (st = st) from rfl) (allQ_cons (show (fu = fu) from rfl) (allQ_cons (show (dn = dn) from rfl) (allQ_cons (show (es = es) from rfl) (allQ_cons h1 (allQ_cons h2 (allQ_cons h3 (allQ_cons h4 (allQ_cons h5 (allQ_cons h6 (allQ_cons (show (ro = ro) from rfl) (allQ_cons (show (st = st) from rfl) (allQ_cons (show (fu = fu) from rfl) (allQ_cons (show (dn = dn) from rfl) (allQ_cons (show ([(Go.Abs.Fd.s s)] = [(Go.Abs.Fd.s s)]) from rfl) (allQ_cons (show (es = es) from rfl) (allQ_cons (show ((Go.Num.obS (Go.Abs.obE es [(Go.Abs.Fd.s s)])) = (Go.Num.obS (Go.Abs.obE es [(Go.Abs.Fd.s s)]))) from rfl) (allQ_cons (show ((Go.Num.obD (Go.Abs.obE es [(Go.Abs.Fd.s s)])) = (Go.Num.obD (Go.Abs.obE es [(Go.Abs.Fd.s s)]))) from rfl) (allQ_cons h7 (allQ_cons (show (s = s) from rfl) (allQ_cons (show ((((List.length (Go.Num.obD (Go.Abs.obE es [(Go.Abs.Fd.s s)]))) : Nat) : Int) = (((List.length (Go.Num.obD (Go.Abs.obE es [(Go.Abs.Fd.s s)]))) : Nat) : Int)) from rfl) (allQ_cons (show (ro = ro) from rfl) (allQ_cons (show ((Go.Num.stSt fu st) = (Go.Num.stSt fu st)) from rfl) (allQ_cons (show ((Go.Num.stFu fu) = (Go.Num.stFu fu)) from rfl) (allQ_cons (show ((Go.Num.stDn fu dn) = (Go.Num.stDn fu dn)) from rfl) (allQ_cons (show ((Go.Num.obD (Go.Abs.obE es [(Go.Abs.Fd.s s)])) = (Go.Num.obD (Go.Abs.obE es [(Go.Abs.Fd.s s)]))) from rfl) (allQ_cons (show ([(Go.Abs.Fd.s s)] = [(Go.Abs.Fd.s s)]) from rfl) (allQ_cons (show (es = es) from rfl) (allQ_cons (show ((Go.Num.obS (Go.Abs.obE es [(Go.Abs.Fd.s s)])) = (Go.Num.obS (Go.Abs.obE es [(Go.Abs.Fd.s s)]))) from rfl) (allQ_cons (show ([(Go.Abs.Fd.s s)] = [(Go.Abs.Fd.s s)]) from rfl) (allQ_cons h8 (allQ_cons (show (ro = ro) from rfl) (allQ_cons h9 (allQ_cons h10 (allQ_cons h11 (allQ_cons h12 (allQ_nil))))))))))))))))))))))))))))))))))))))⟩

theorem sy_ok (s : ByteArray) (ro st fu e st' fu' : Int) (dn dn' : Bool) (es es' : List (Rec × Ob))
 (h1 : ((Go.Num.errF dn es s) = (0 : Int)))
 (h2 : ((ByteArray.size s) ≤ (9223372036854775807 : Nat)))
 (h3 : (Go.Abs.InI64 ((((List.length (Go.Num.obD (Go.Abs.obE es [(Go.Abs.Fd.s s)]))) : Nat) : Int) - (Go.Num.obS (Go.Abs.obE es [(Go.Abs.Fd.s s)])))))
 (h4 : (Go.Num.FreeOK (Option.some ([(Go.Abs.Fd.s s)], (Go.Num.obS (Go.Abs.obE es [(Go.Abs.Fd.s s)])))) es ro))
 (h5 : ((decide (((((List.length (Go.Num.obD (Go.Abs.obE es [(Go.Abs.Fd.s s)]))) : Nat) : Int) - (Go.Num.obS (Go.Abs.obE es [(Go.Abs.Fd.s s)]))) > (ro - (Go.Num.safeSum (Option.some ([(Go.Abs.Fd.s s)], (Go.Num.obS (Go.Abs.obE es [(Go.Abs.Fd.s s)])))) es)))) = Bool.false))
 (h6 : ((Go.Num.stV fu) = Bool.false))
 (h7 : (Go.Num.StepOK (ro, (st, (fu, (dn, es))))))
 (h8 : ((Go.Num.obS (Go.Abs.obE es [(Go.Abs.Fd.s s)])) = (Go.Num.obS (Go.Abs.Ob.node [(Go.Abs.Fd.w (Go.Num.obD (Go.Abs.obE es [(Go.Abs.Fd.s s)]))), (Go.Abs.Fd.i (Go.Num.obS (Go.Abs.obE es [(Go.Abs.Fd.s s)])))] ([] : List (List (Rec × Ob)))))))
 (h9 : ((Go.Num.obD (Go.Abs.obE es [(Go.Abs.Fd.s s)])) = (Go.Num.obD (Go.Abs.Ob.node [(Go.Abs.Fd.w (Go.Num.obD (Go.Abs.obE es [(Go.Abs.Fd.s s)]))), (Go.Abs.Fd.i (Go.Num.obS (Go.Abs.obE es [(Go.Abs.Fd.s s)])))] ([] : List (List (Rec × Ob)))))))
 (h10 : ((2 : Int) = e))
 (h11 : ((Go.Num.stSt fu st) = st'))
 (h12 : ((Go.Num.stFu fu) = fu'))
 (h13 : ((Go.Num.stDn fu dn) = dn'))
 (h14 : ((Go.Abs.setE es [(Go.Abs.Fd.s s)] (Go.Abs.Ob.node [(Go.Abs.Fd.w (Go.Num.obD (Go.Abs.obE es [(Go.Abs.Fd.s s)]))), (Go.Abs.Fd.i (Go.Num.obS (Go.Abs.obE es [(Go.Abs.Fd.s s)])))] ([] : List (List (Rec × Ob))))) = es')) :
 ∃ ps, runO Try.prog DF gA0 100 Try.f12 (dkB ro st fu dn es, [.one (.ref 0 0), .one (.str s)]) [.is false, .is false] (eV e) (dkB ro st' fu' dn' es') = some ps ∧ AllQ ps := ⟨_, by kernel_rfl, allQ_cons (show (s = s) from rfl) (allQ_cons (show (ro = ro) from rfl) (allQ_cons (show (st = st) from rfl) (allQ_cons (show (fu = fu) from rfl) (allQ_cons (show (dn = dn) from rfl) (allQ_cons (show (es = es) from rfl) (allQ_cons h1 (allQ_cons h2 (allQ_cons h3 (allQ_cons h4 (allQ_cons h5 (allQ_cons h6 (allQ_cons (show (ro = ro) from rfl) (allQ_cons (show (st = st) from rfl) (allQ_cons (show (fu = fu) from rfl) (allQ_cons (show (dn = dn) from rfl) (allQ_cons (show ([(Go.Abs.Fd.s s)] = [(Go.Abs.Fd.s s)]) from rfl) (allQ_cons (show (es = es) from rfl) (allQ_cons (show ((Go.Num.obS (Go.Abs.obE es [(Go.Abs.Fd.s s)])) = (Go.Num.obS (Go.Abs.obE es [(Go.Abs.Fd.s s)]))) from rfl) (allQ_cons (show ((Go.Num.obD (Go.Abs.obE es [(Go.Abs.Fd.s s)])) = (Go.Num.obD (Go.Abs.obE es [(Go.Abs.Fd.s s)]))) from rfl) (allQ_cons h7 (allQ_cons h8 (allQ_cons h9 (allQ_cons h10 (allQ_cons (show (ro = ro) from rfl) (allQ_cons h11 (allQ_cons h12 (allQ_cons h13 (allQ_cons h14 (allQ_nil)))))))))))))))))))))))))))))⟩

theorem cu_bad (s : ByteArray) (n ro st fu e : Int) (dn : Bool) (es : List (Rec × Ob))
 (h1 : ((Go.Num.errF dn es s) ≠ (0 : Int)))
 (h2 : ((ByteArray.size s) ≤ (9223372036854775807 : Nat)))
 (h3 : (((Go.Num.errF dn es s) != (0 : Int)) = Bool.true))
 (h4 : ((Go.Num.errF dn es s) = e)) :
 ∃ ps, runO Try.prog DF gA1 100 Try.f21 (dkB ro st fu dn es, [.one (.ref 0 0), .one (.str s), .one (.int .i64 false n)]) [.is true] (eV e) (dkB ro st fu dn es) = some ps ∧ AllQ ps := ⟨_, by kernel_rfl, allQ_cons (show (s = s) from rfl) (allQ_cons (show (ro = ro) from rfl) (allQ_cons (show (st = st) from rfl) (allQ_cons (show (fu = fu) from rfl) (allQ_cons (show (dn = dn) from rfl) (allQ_cons (show (es = es) from rfl) (allQ_cons h1 (allQ_cons h2 (allQ_cons h3 (allQ_cons h4 (allQ_cons (show (ro = ro) from rfl) (allQ_cons (show (st = st) from rfl) (allQ_cons (show (fu = fu) from rfl) (allQ_cons (show (dn = dn) from rfl) (allQ_cons (show (es = es) from rfl) (allQ_nil)))))))))))))))⟩

theorem cu_neg (s : ByteArray) (n ro st fu e : Int) (dn : Bool) (es es' : List (Rec × Ob))
 (h1 : ((Go.Num.errF dn es s) = (0 : Int)))
 (h2 : ((ByteArray.size s) ≤ (9223372036854775807 : Nat)))
 (h3 : ((decide (n < (0 : Int))) = Bool.true))
 (h4 : ((Go.Num.obS (Go.Abs.obE es [(Go.Abs.Fd.s s)])) = (Go.Num.obS (Go.Abs.Ob.node [(Go.Abs.Fd.w (Go.Num.obD (Go.Abs.obE es [(Go.Abs.Fd.s s)]))), (Go.Abs.Fd.i (Go.Num.obS (Go.Abs.obE es [(Go.Abs.Fd.s s)])))] ([] : List (List (Rec × Ob)))))))
 (h5 : ((Go.Num.obD (Go.Abs.obE es [(Go.Abs.Fd.s s)])) = (Go.Num.obD (Go.Abs.Ob.node [(Go.Abs.Fd.w (Go.Num.obD (Go.Abs.obE es [(Go.Abs.Fd.s s)]))), (Go.Abs.Fd.i (Go.Num.obS (Go.Abs.obE es [(Go.Abs.Fd.s s)])))] ([] : List (List (Rec × Ob)))))))
 (h6 : ((1 : Int) = e))
 (h7 : ((Go.Abs.setE es [(Go.Abs.Fd.s s)] (Go.Abs.Ob.node [(Go.Abs.Fd.w (Go.Num.obD (Go.Abs.obE es [(Go.Abs.Fd.s s)]))), (Go.Abs.Fd.i (Go.Num.obS (Go.Abs.obE es [(Go.Abs.Fd.s s)])))] ([] : List (List (Rec × Ob))))) = es')) :
 ∃ ps, runO Try.prog DF gA0 100 Try.f21 (dkB ro st fu dn es, [.one (.ref 0 0), .one (.str s), .one (.int .i64 false n)]) [.is true] (eV e) (dkB ro st fu dn es') = some ps ∧ AllQ ps := ⟨_, by kernel_rfl, allQ_cons (show (s = s) from rfl) (allQ_cons (show (ro = ro) from rfl) (allQ_cons (show (st = st) from rfl) (allQ_cons (show (fu = fu) from rfl) (allQ_cons (show (dn = dn) from rfl) (allQ_cons (show (es = es) from rfl) (allQ_cons h1 (allQ_cons h2 (allQ_cons h3 (allQ_cons h4 (allQ_cons h5 (allQ_cons h6 (allQ_cons (show (ro = ro) from rfl) (allQ_cons (show (st = st) from rfl) (allQ_cons (show (fu = fu) from rfl) (allQ_cons (show (dn = dn) from rfl) (allQ_cons h7 (allQ_nil)))))))))))))))))⟩

theorem cu_arg (s : ByteArray) (n ro st fu e : Int) (dn : Bool) (es es' : List (Rec × Ob))
 (h1 : ((Go.Num.errF dn es s) = (0 : Int)))
 (h2 : ((ByteArray.size s) ≤ (9223372036854775807 : Nat)))
 (h3 : ((decide (n < (0 : Int))) = Bool.false))
 (h4 : ((decide (n > (((List.length (Go.Num.obD (Go.Abs.obE es [(Go.Abs.Fd.s s)]))) : Nat) : Int))) = Bool.true))
 (h5 : ((Go.Num.obS (Go.Abs.obE es [(Go.Abs.Fd.s s)])) = (Go.Num.obS (Go.Abs.Ob.node [(Go.Abs.Fd.w (Go.Num.obD (Go.Abs.obE es [(Go.Abs.Fd.s s)]))), (Go.Abs.Fd.i (Go.Num.obS (Go.Abs.obE es [(Go.Abs.Fd.s s)])))] ([] : List (List (Rec × Ob)))))))
 (h6 : ((Go.Num.obD (Go.Abs.obE es [(Go.Abs.Fd.s s)])) = (Go.Num.obD (Go.Abs.Ob.node [(Go.Abs.Fd.w (Go.Num.obD (Go.Abs.obE es [(Go.Abs.Fd.s s)]))), (Go.Abs.Fd.i (Go.Num.obS (Go.Abs.obE es [(Go.Abs.Fd.s s)])))] ([] : List (List (Rec × Ob)))))))
 (h7 : ((1 : Int) = e))
 (h8 : ((Go.Abs.setE es [(Go.Abs.Fd.s s)] (Go.Abs.Ob.node [(Go.Abs.Fd.w (Go.Num.obD (Go.Abs.obE es [(Go.Abs.Fd.s s)]))), (Go.Abs.Fd.i (Go.Num.obS (Go.Abs.obE es [(Go.Abs.Fd.s s)])))] ([] : List (List (Rec × Ob))))) = es')) :
 ∃ ps, runO Try.prog DF gA0 100 Try.f21 (dkB ro st fu dn es, [.one (.ref 0 0), .one (.str s), .one (.int .i64 false n)]) [.is false, .is true] (eV e) (dkB ro st fu dn es') = some ps ∧ AllQ ps := ⟨_, by kernel_rfl, allQ_cons (show (s = s) from rfl) (allQ_cons (show (ro = ro) from rfl) (allQ_cons (show (st = st) from rfl) (allQ_cons (show (fu = fu) from rfl) (allQ_cons (show (dn = dn) from rfl) (allQ_cons (show (es = es) from rfl) (allQ_cons h1 (allQ_cons h2 (allQ_cons h3 (allQ_cons h4 (allQ_cons h5 (allQ_cons h6 (allQ_cons h7 (allQ_cons (show (ro = ro) from rfl) (allQ_cons (show (st = st) from rfl) (allQ_cons (show (fu = fu) from rfl) (allQ_cons (show (dn = dn) from rfl) (allQ_cons h8 (allQ_nil))))))))))))))))))⟩

theorem cu_down (s : ByteArray) (n ro st fu e st' fu' : Int) (dn dn' : Bool) (es es' : List (Rec × Ob))
 (h1 : ((Go.Num.errF dn es s) = (0 : Int)))
 (h2 : ((ByteArray.size s) ≤ (9223372036854775807 : Nat)))
 (h3 : ((decide (n < (0 : Int))) = Bool.false))
 (h4 : ((decide (n > (((List.length (Go.Num.obD (Go.Abs.obE es [(Go.Abs.Fd.s s)]))) : Nat) : Int))) = Bool.false))
 (h5 : ((Go.Num.stV fu) = Bool.true))
 (h6 : (Go.Num.StepOK (ro, (st, (fu, (dn, es))))))
 (h7 : ((0 : Int) ≤ n))
 (h8 : (n ≤ (((List.length (Go.Num.obD (Go.Abs.obE es [(Go.Abs.Fd.s s)]))) : Nat) : Int)))
 (h9 : ((0 : Int) = e))
 (h10 : ((Go.Num.stSt fu st) = st'))
 (h11 : ((Go.Num.stFu fu) = fu'))
 (h12 : ((Go.Num.stDn fu dn) = dn'))
 (h13 : ((Go.Abs.setE es [(Go.Abs.Fd.s s)] (Go.Abs.Ob.node [(Go.Abs.Fd.w (List.take (Int.toNat n) (Go.Num.obD (Go.Abs.obE es [(Go.Abs.Fd.s s)])))), (Go.Abs.Fd.i (if (n < (Go.Num.obS (Go.Abs.obE es [(Go.Abs.Fd.s s)]))) then n else (Go.Num.obS (Go.Abs.obE es [(Go.Abs.Fd.s s)]))))] ([] : List (List (Rec × Ob))))) = es')) :
 ∃ ps, runO Try.prog DF gA0 100 Try.f21 (dkB ro st fu dn es, [.one (.ref 0 0), .one (.str s), .one (.int .i64 false n)]) [.is false, .is false, .is true] (eV e) (dkB ro st' fu' dn' es') = some ps ∧ AllQ ps := ⟨_, by kernel_rfl, allQ_cons (show (s = s) from rfl) (allQ_cons (show (ro = ro) from rfl) (allQ_cons (show (st = st) from rfl) (allQ_cons (show (fu = fu) from rfl) (allQ_cons (show (dn = dn) from rfl) (allQ_cons (show (es = es) from rfl) (allQ_cons h1 (allQ_cons h2 (allQ_cons h3 (allQ_cons h4 (allQ_cons h5 (allQ_cons (show (ro = ro) from rfl) (allQ_cons (show (st = st) from rfl) (allQ_cons (show (fu = fu) from rfl) (allQ_cons (show (dn = dn) from rfl) (allQ_cons (show ([(Go.Abs.Fd.s s)] = [(Go.Abs.Fd.s s)]) from rfl) (allQ_cons (show (es = es) from rfl) (allQ_cons (show ((Go.Num.obS (Go.Abs.obE es [(Go.Abs.Fd.s s)])) = (Go.Num.obS (Go.Abs.obE es [(Go.Abs.Fd.s s)]))) from rfl) (allQ_cons (show ((Go.Num.obD (Go.Abs.obE es [(Go.Abs.Fd.s s)])) = (Go.Num.obD (Go.Abs.obE es [(Go.Abs.Fd.s s)]))) from rfl) (allQ_cons h6 (allQ_cons h7 (allQ_cons h8 (allQ_cons (show (s = s) from rfl) (allQ_cons (show ((if (n < (Go.Num.obS (Go.Abs.obE es [(Go.Abs.Fd.s s)]))) then n else (Go.Num.obS (Go.Abs.obE es [(Go.Abs.Fd.s s)]))) = (if (n < (Go.Num.obS (Go.Abs.obE es [(Go.Abs.Fd.s s)]))) then n else (Go.Num.obS (Go.Abs.obE es [(Go.Abs.Fd.s s)])))) from rfl) (allQ_cons (show (ro = ro) from rfl) (allQ_cons (show ((Go.Num.stSt fu st) = (Go.Num.stSt fu st)) from rfl) (allQ_cons (show ((Go.Num.stFu fu) = (Go.Num.stFu fu)) from rfl) (allQ_cons (show ((Go.Num.stDn fu dn) = (Go.Num.stDn fu dn)) from rfl) (allQ_cons (show ((List.take (Int.toNat n) (Go.Num.obD (Go.Abs.obE es [(Go.Abs.Fd.s s)]))) = (List.take (Int.toNat n) (Go.Num.obD (Go.Abs.obE es [(Go.Abs.Fd.s s)])))) from rfl) (allQ_cons (show ([(Go.Abs.Fd.s s)] = [(Go.Abs.Fd.s s)]) from rfl) (allQ_cons (show (es = es) from rfl) (allQ_cons (show ((Go.Num.obS (Go.Abs.obE es [(Go.Abs.Fd.s s)])) = (Go.Num.obS (Go.Abs.obE es [(Go.Abs.Fd.s s)]))) from rfl) (allQ_cons (show ([(Go.Abs.Fd.s s)] = [(Go.Abs.Fd.s s)]) from rfl) (allQ_cons h9 (allQ_cons (show (ro = ro) from rfl) (allQ_cons h10 (allQ_cons h11 (allQ_cons h12 (allQ_cons h13 (allQ_nil)))))))))))))))))))))))))))))))))))))))⟩

theorem cu_ok (s : ByteArray) (n ro st fu e st' fu' : Int) (dn dn' : Bool) (es es' : List (Rec × Ob))
 (h1 : ((Go.Num.errF dn es s) = (0 : Int)))
 (h2 : ((ByteArray.size s) ≤ (9223372036854775807 : Nat)))
 (h3 : ((decide (n < (0 : Int))) = Bool.false))
 (h4 : ((decide (n > (((List.length (Go.Num.obD (Go.Abs.obE es [(Go.Abs.Fd.s s)]))) : Nat) : Int))) = Bool.false))
 (h5 : ((Go.Num.stV fu) = Bool.false))
 (h6 : (Go.Num.StepOK (ro, (st, (fu, (dn, es))))))
 (h7 : ((Go.Num.obS (Go.Abs.obE es [(Go.Abs.Fd.s s)])) = (Go.Num.obS (Go.Abs.Ob.node [(Go.Abs.Fd.w (Go.Num.obD (Go.Abs.obE es [(Go.Abs.Fd.s s)]))), (Go.Abs.Fd.i (Go.Num.obS (Go.Abs.obE es [(Go.Abs.Fd.s s)])))] ([] : List (List (Rec × Ob)))))))
 (h8 : ((Go.Num.obD (Go.Abs.obE es [(Go.Abs.Fd.s s)])) = (Go.Num.obD (Go.Abs.Ob.node [(Go.Abs.Fd.w (Go.Num.obD (Go.Abs.obE es [(Go.Abs.Fd.s s)]))), (Go.Abs.Fd.i (Go.Num.obS (Go.Abs.obE es [(Go.Abs.Fd.s s)])))] ([] : List (List (Rec × Ob)))))))
 (h9 : ((2 : Int) = e))
 (h10 : ((Go.Num.stSt fu st) = st'))
 (h11 : ((Go.Num.stFu fu) = fu'))
 (h12 : ((Go.Num.stDn fu dn) = dn'))
 (h13 : ((Go.Abs.setE es [(Go.Abs.Fd.s s)] (Go.Abs.Ob.node [(Go.Abs.Fd.w (Go.Num.obD (Go.Abs.obE es [(Go.Abs.Fd.s s)]))), (Go.Abs.Fd.i (Go.Num.obS (Go.Abs.obE es [(Go.Abs.Fd.s s)])))] ([] : List (List (Rec × Ob))))) = es')) :
 ∃ ps, runO Try.prog DF gA0 100 Try.f21 (dkB ro st fu dn es, [.one (.ref 0 0), .one (.str s), .one (.int .i64 false n)]) [.is false, .is false, .is false] (eV e) (dkB ro st' fu' dn' es') = some ps ∧ AllQ ps := ⟨_, by kernel_rfl, allQ_cons (show (s = s) from rfl) (allQ_cons (show (ro = ro) from rfl) (allQ_cons (show (st = st) from rfl) (allQ_cons (show (fu = fu) from rfl) (allQ_cons (show (dn = dn) from rfl) (allQ_cons (show (es = es) from rfl) (allQ_cons h1 (allQ_cons h2 (allQ_cons h3 (allQ_cons h4 (allQ_cons h5 (allQ_cons (show (ro = ro) from rfl) (allQ_cons (show (st = st) from rfl) (allQ_cons (show (fu = fu) from rfl) (allQ_cons (show (dn = dn) from rfl) (allQ_cons (show ([(Go.Abs.Fd.s s)] = [(Go.Abs.Fd.s s)]) from rfl) (allQ_cons (show (es = es) from rfl) (allQ_cons (show ((Go.Num.obS (Go.Abs.obE es [(Go.Abs.Fd.s s)])) = (Go.Num.obS (Go.Abs.obE es [(Go.Abs.Fd.s s)]))) from rfl) (allQ_cons (show ((Go.Num.obD (Go.Abs.obE es [(Go.Abs.Fd.s s)])) = (Go.Num.obD (Go.Abs.obE es [(Go.Abs.Fd.s s)]))) from rfl) (allQ_cons h6 (allQ_cons h7 (allQ_cons h8 (allQ_cons h9 (allQ_cons (show (ro = ro) from rfl) (allQ_cons h10 (allQ_cons h11 (allQ_cons h12 (allQ_cons h13 (allQ_nil))))))))))))))))))))))))))))⟩

theorem mv_bad (s t : ByteArray) (ro st fu e : Int) (dn : Bool) (es : List (Rec × Ob))
 (h1 : ((Go.Num.errF dn es s) ≠ (0 : Int)))
 (h2 : ((ByteArray.size s) ≤ (9223372036854775807 : Nat)))
 (h3 : (((Go.Num.errF dn es s) != (0 : Int)) = Bool.true))
 (h4 : ((Go.Num.errF dn es s) = e)) :
 ∃ ps, runO Try.prog DF gA1 100 Try.f37 (dkB ro st fu dn es, [.one (.ref 0 0), .one (.str s), .one (.str t)]) [.is true] (eV e) (dkB ro st fu dn es) = some ps ∧ AllQ ps := ⟨_, by kernel_rfl, allQ_cons (show (s = s) from rfl) (allQ_cons (show (ro = ro) from rfl) (allQ_cons (show (st = st) from rfl) (allQ_cons (show (fu = fu) from rfl) (allQ_cons (show (dn = dn) from rfl) (allQ_cons (show (es = es) from rfl) (allQ_cons h1 (allQ_cons h2 (allQ_cons h3 (allQ_cons h4 (allQ_cons (show (ro = ro) from rfl) (allQ_cons (show (st = st) from rfl) (allQ_cons (show (fu = fu) from rfl) (allQ_cons (show (dn = dn) from rfl) (allQ_cons (show (es = es) from rfl) (allQ_nil)))))))))))))))⟩

theorem mv_name (s t : ByteArray) (ro st fu e : Int) (dn : Bool) (es es' : List (Rec × Ob))
 (h1 : ((Go.Num.errF dn es s) = (0 : Int)))
 (h2 : ((ByteArray.size s) ≤ (9223372036854775807 : Nat)))
 (h3 : ((Go.Num.rightB t) = Bool.false))
 (h4 : ((ByteArray.size t) ≤ (9223372036854775807 : Nat)))
 (h5 : ((Go.Num.obS (Go.Abs.obE es [(Go.Abs.Fd.s s)])) = (Go.Num.obS (Go.Abs.Ob.node [(Go.Abs.Fd.w (Go.Num.obD (Go.Abs.obE es [(Go.Abs.Fd.s s)]))), (Go.Abs.Fd.i (Go.Num.obS (Go.Abs.obE es [(Go.Abs.Fd.s s)])))] ([] : List (List (Rec × Ob)))))))
 (h6 : ((Go.Num.obD (Go.Abs.obE es [(Go.Abs.Fd.s s)])) = (Go.Num.obD (Go.Abs.Ob.node [(Go.Abs.Fd.w (Go.Num.obD (Go.Abs.obE es [(Go.Abs.Fd.s s)]))), (Go.Abs.Fd.i (Go.Num.obS (Go.Abs.obE es [(Go.Abs.Fd.s s)])))] ([] : List (List (Rec × Ob)))))))
 (h7 : ((40 : Int) = e))
 (h8 : ((Go.Abs.setE es [(Go.Abs.Fd.s s)] (Go.Abs.Ob.node [(Go.Abs.Fd.w (Go.Num.obD (Go.Abs.obE es [(Go.Abs.Fd.s s)]))), (Go.Abs.Fd.i (Go.Num.obS (Go.Abs.obE es [(Go.Abs.Fd.s s)])))] ([] : List (List (Rec × Ob))))) = es')) :
 ∃ ps, runO Try.prog DF gA0 100 Try.f37 (dkB ro st fu dn es, [.one (.ref 0 0), .one (.str s), .one (.str t)]) [.is false] (eV e) (dkB ro st fu dn es') = some ps ∧ AllQ ps := ⟨_, by kernel_rfl, allQ_cons (show (s = s) from rfl) (allQ_cons (show (ro = ro) from rfl) (allQ_cons (show (st = st) from rfl) (allQ_cons (show (fu = fu) from rfl) (allQ_cons (show (dn = dn) from rfl) (allQ_cons (show (es = es) from rfl) (allQ_cons h1 (allQ_cons h2 (allQ_cons h3 (allQ_cons h4 (allQ_cons h5 (allQ_cons h6 (allQ_cons h7 (allQ_cons (show (ro = ro) from rfl) (allQ_cons (show (st = st) from rfl) (allQ_cons (show (fu = fu) from rfl) (allQ_cons (show (dn = dn) from rfl) (allQ_cons h8 (allQ_nil))))))))))))))))))⟩

theorem mv_down (s t : ByteArray) (ro st fu e st' fu' : Int) (dn dn' : Bool) (es es' : List (Rec × Ob))
 (h1 : ((Go.Num.errF dn es s) = (0 : Int)))
 (h2 : ((ByteArray.size s) ≤ (9223372036854775807 : Nat)))
 (h3 : ((Go.Num.rightB t) = Bool.true))
 (h4 : ((ByteArray.size t) ≤ (9223372036854775807 : Nat)))
 (h5 : ((Go.Num.stV fu) = Bool.true))
 (h6 : (Go.Num.StepOK (ro, (st, (fu, (dn, es))))))
 (h7 : (Go.Abs.KeyT Go.Proofs.Try.prog (9 : TypeId) Bool.false [Go.Abs.FK.str]))
 (h8 : ((Go.Abs.keyOK [Go.Abs.FK.str] [(Go.Abs.Fd.s s)]) = Bool.true))
 (h9 : ((0 : Int) = e))
 (h10 : ((Go.Num.stSt fu st) = st'))
 (h11 : ((Go.Num.stFu fu) = fu'))
 (h12 : ((Go.Num.stDn fu dn) = dn'))
 (h13 : ((Go.Abs.setE (Go.Abs.delE es [(Go.Abs.Fd.s s)]) [(Go.Abs.Fd.s t)] (Go.Abs.Ob.node [(Go.Abs.Fd.w (Go.Num.obD (Go.Abs.obE es [(Go.Abs.Fd.s s)]))), (Go.Abs.Fd.i (Go.Num.obS (Go.Abs.obE es [(Go.Abs.Fd.s s)])))] ([] : List (List (Rec × Ob))))) = es')) :
 ∃ ps, runO Try.prog DF gA0 100 Try.f37 (dkB ro st fu dn es, [.one (.ref 0 0), .one (.str s), .one (.str t)]) [.is true, .is true] (eV e) (dkB ro st' fu' dn' es') = some ps ∧ AllQ ps := ⟨_, by kernel_rfl, allQ_cons (show (s = s) from rfl) (allQ_cons (show (ro = ro) from rfl) (allQ_cons (show (st = st) from rfl) (allQ_cons (show (fu = fu) from rfl) (allQ_cons (show (dn = dn) from rfl) (allQ_cons (show (es = es) from rfl) (allQ_cons h1 (allQ_cons h2 (allQ_cons h3 (allQ_cons h4 (allQ_cons h5 (allQ_cons (show (ro = ro) from rfl) (allQ_cons (show (st = st) from rfl) (allQ_cons (show (fu = fu) from rfl) (allQ_cons (show (dn = dn) from rfl) (allQ_cons (show ([(Go.Abs.Fd.s s)] = [(Go.Abs.Fd.s s)]) from rfl) (allQ_cons (show (es = es) from rfl) (allQ_cons (show ((Go.Num.obS (Go.Abs.obE es [(Go.Abs.Fd.s s)])) = (Go.Num.obS (Go.Abs.obE es [(Go.Abs.Fd.s s)]))) from rfl) (allQ_cons (show ((Go.Num.obD (Go.Abs.obE es [(Go.Abs.Fd.s s)])) = (Go.Num.obD (Go.Abs.obE es [(Go.Abs.Fd.s s)]))) from rfl) (allQ_cons h6 (allQ_cons h7 (allQ_cons h8 (allQ_cons (show ([(Go.Abs.Fd.s s)] = [(Go.Abs.Fd.s s)]) from rfl) (allQ_cons (show (t = t) from rfl) (allQ_cons (show ((Go.Num.obS (Go.Abs.obE es [(Go.Abs.Fd.s s)])) = (Go.Num.obS (Go.Abs.obE es [(Go.Abs.Fd.s s)]))) from rfl) (allQ_cons (show (ro = ro) from rfl) (allQ_cons (show ((Go.Num.stSt fu st) = (Go.Num.stSt fu st)) from rfl) (allQ_cons (show ((Go.Num.stFu fu) = (Go.Num.stFu fu)) from rfl) (allQ_cons (show ((Go.Num.stDn fu dn) = (Go.Num.stDn fu dn)) from rfl) (allQ_cons (show ((Go.Num.obD (Go.Abs.obE es [(Go.Abs.Fd.s s)])) = (Go.Num.obD (Go.Abs.obE es [(Go.Abs.Fd.s s)]))) from rfl) (allQ_cons (show ((Go.Abs.delE es [(Go.Abs.Fd.s s)]) = (Go.Abs.delE es [(Go.Abs.Fd.s s)])) from rfl) (allQ_cons (show True from by decide) (allQ_cons h9 (allQ_cons (show (ro = ro) from rfl) (allQ_cons h10 (allQ_cons h11 (allQ_cons h12 (allQ_cons h13 (allQ_nil))))))))))))))))))))))))))))))))))))))⟩

theorem mv_ok (s t : ByteArray) (ro st fu e st' fu' : Int) (dn dn' : Bool) (es es' : List (Rec × Ob))
 (h1 : ((Go.Num.errF dn es s) = (0 : Int)))
 (h2 : ((ByteArray.size s) ≤ (9223372036854775807 : Nat)))
 (h3 : ((Go.Num.rightB t) = Bool.true))
 (h4 : ((ByteArray.size t) ≤ (9223372036854775807 : Nat)))
 (h5 : ((Go.Num.stV fu) = Bool.false))
 (h6 : (Go.Num.StepOK (ro, (st, (fu, (dn, es))))))
 (h7 : ((Go.Num.obS (Go.Abs.obE es [(Go.Abs.Fd.s s)])) = (Go.Num.obS (Go.Abs.Ob.node [(Go.Abs.Fd.w (Go.Num.obD (Go.Abs.obE es [(Go.Abs.Fd.s s)]))), (Go.Abs.Fd.i (Go.Num.obS (Go.Abs.obE es [(Go.Abs.Fd.s s)])))] ([] : List (List (Rec × Ob)))))))
 (h8 : ((Go.Num.obD (Go.Abs.obE es [(Go.Abs.Fd.s s)])) = (Go.Num.obD (Go.Abs.Ob.node [(Go.Abs.Fd.w (Go.Num.obD (Go.Abs.obE es [(Go.Abs.Fd.s s)]))), (Go.Abs.Fd.i (Go.Num.obS (Go.Abs.obE es [(Go.Abs.Fd.s s)])))] ([] : List (List (Rec × Ob)))))))
 (h9 : ((2 : Int) = e))
 (h10 : ((Go.Num.stSt fu st) = st'))
 (h11 : ((Go.Num.stFu fu) = fu'))
 (h12 : ((Go.Num.stDn fu dn) = dn'))
 (h13 : ((Go.Abs.setE es [(Go.Abs.Fd.s s)] (Go.Abs.Ob.node [(Go.Abs.Fd.w (Go.Num.obD (Go.Abs.obE es [(Go.Abs.Fd.s s)]))), (Go.Abs.Fd.i (Go.Num.obS (Go.Abs.obE es [(Go.Abs.Fd.s s)])))] ([] : List (List (Rec × Ob))))) = es')) :
 ∃ ps, runO Try.prog DF gA0 100 Try.f37 (dkB ro st fu dn es, [.one (.ref 0 0), .one (.str s), .one (.str t)]) [.is true, .is false] (eV e) (dkB ro st' fu' dn' es') = some ps ∧ AllQ ps := ⟨_, by kernel_rfl, allQ_cons (show (s = s) from rfl) (allQ_cons (show (ro = ro) from rfl) (allQ_cons (show (st = st) from rfl) (allQ_cons (show (fu = fu) from rfl) (allQ_cons (show (dn = dn) from rfl) (allQ_cons (show (es = es) from rfl) (allQ_cons h1 (allQ_cons h2 (allQ_cons h3 (allQ_cons h4 (allQ_cons h5 (allQ_cons (show (ro = ro) from rfl) (allQ_cons (show (st = st) from rfl) (allQ_cons (show (fu = fu) from rfl) (allQ_cons (show (dn = dn) from rfl) (allQ_cons (show ([(Go.Abs.Fd.s s)] = [(Go.Abs.Fd.s s)]) from rfl) (allQ_cons (show (es = es) from rfl) (allQ_cons (show ((Go.Num.obS (Go.Abs.obE es [(Go.Abs.Fd.s s)])) = (Go.Num.obS (Go.Abs.obE es [(Go.Abs.Fd.s s)]))) from rfl) (allQ_cons (show ((Go.Num.obD (Go.Abs.obE es [(Go.Abs.Fd.s s)])) = (Go.Num.obD (Go.Abs.obE es [(Go.Abs.Fd.s s)]))) from rfl) (allQ_cons h6 (allQ_cons h7 (allQ_cons h8 (allQ_cons h9 (allQ_cons (show (ro = ro) from rfl) (allQ_cons h10 (allQ_cons h11 (allQ_cons h12 (allQ_cons h13 (allQ_nil))))))))))))))))))))))))))))⟩

theorem dr_bad (s : ByteArray) (ro st fu e : Int) (dn : Bool) (es : List (Rec × Ob))
 (h1 : ((Go.Num.errF dn es s) ≠ (0 : Int)))
 (h2 : ((ByteArray.size s) ≤ (9223372036854775807 : Nat)))
 (h3 : (((Go.Num.errF dn es s) != (0 : Int)) = Bool.true))
 (h4 : ((Go.Num.errF dn es s) = e)) :
 ∃ ps, runO Try.prog DF gA1 100 Try.f20 (dkB ro st fu dn es, [.one (.ref 0 0), .one (.str s)]) [.is true] (eV e) (dkB ro st fu dn es) = some ps ∧ AllQ ps := ⟨_, by kernel_rfl, allQ_cons (show (s = s) from rfl) (allQ_cons (show (ro = ro) from rfl) (allQ_cons (show (st = st) from rfl) (allQ_cons (show (fu = fu) from rfl) (allQ_cons (show (dn = dn) from rfl) (allQ_cons (show (es = es) from rfl) (allQ_cons h1 (allQ_cons h2 (allQ_cons h3 (allQ_cons h4 (allQ_cons (show (ro = ro) from rfl) (allQ_cons (show (st = st) from rfl) (allQ_cons (show (fu = fu) from rfl) (allQ_cons (show (dn = dn) from rfl) (allQ_cons (show (es = es) from rfl) (allQ_nil)))))))))))))))⟩

theorem dr_down (s : ByteArray) (ro st fu e st' fu' : Int) (dn dn' : Bool) (es es' : List (Rec × Ob))
 (h1 : ((Go.Num.errF dn es s) = (0 : Int)))
 (h2 : ((ByteArray.size s) ≤ (9223372036854775807 : Nat)))
 (h3 : ((Go.Num.stV fu) = Bool.true))
 (h4 : (Go.Num.StepOK (ro, (st, (fu, (dn, es))))))
 (h5 : (Go.Abs.KeyT Go.Proofs.Try.prog (9 : TypeId) Bool.false [Go.Abs.FK.str]))
 (h6 : ((Go.Abs.keyOK [Go.Abs.FK.str] [(Go.Abs.Fd.s s)]) = Bool.true))
 (h7 : ((0 : Int) = e))
 (h8 : ((Go.Num.stSt fu st) = st'))
 (h9 : ((Go.Num.stFu fu) = fu'))
 (h10 : ((Go.Num.stDn fu dn) = dn'))
 (h11 : ((Go.Abs.delE es [(Go.Abs.Fd.s s)]) = es')) :
 ∃ ps, runO Try.prog DF gA0 100 Try.f20 (dkB ro st fu dn es, [.one (.ref 0 0), .one (.str s)]) [.is true] (eV e) (dkB ro st' fu' dn' es') = some ps ∧ AllQ ps := ⟨_, by kernel_rfl, allQ_cons (show (s = s) from rfl) (allQ_cons (show (ro = ro) from rfl) (allQ_cons (show (st = st) from rfl) (allQ_cons (show (fu = fu) from rfl) (allQ_cons (show (dn = dn) from rfl) (allQ_cons (show (es = es) from rfl) (allQ_cons h1 (allQ_cons h2 (allQ_cons h3 (allQ_cons (show (ro = ro) from rfl) (allQ_cons (show (st = st) from rfl) (allQ_cons (show (fu = fu) from rfl) (allQ_cons (show (dn = dn) from rfl) (allQ_cons (show ([(Go.Abs.Fd.s s)] = [(Go.Abs.Fd.s s)]) from rfl) (allQ_cons (show (es = es) from rfl) (allQ_cons (show ((Go.Num.obS (Go.Abs.obE es [(Go.Abs.Fd.s s)])) = (Go.Num.obS (Go.Abs.obE es [(Go.Abs.Fd.s s)]))) from rfl) (allQ_cons (show ((Go.Num.obD (Go.Abs.obE es [(Go.Abs.Fd.s s)])) = (Go.Num.obD (Go.Abs.obE es [(Go.Abs.Fd.s s)]))) from rfl) (allQ_cons h4 (allQ_cons h5 (allQ_cons h6 (allQ_cons (show ([(Go.Abs.Fd.s s)] = [(Go.Abs.Fd.s s)]) from rfl) (allQ_cons h7 (allQ_cons (show (ro = ro) from rfl) (allQ_cons h8 (allQ_cons h9 (allQ_cons h10 (allQ_cons h11 (allQ_nil)))))))))))))))))))))))))))⟩

theorem dr_ok (s : ByteArray) (ro st fu e st' fu' : Int) (dn dn' : Bool) (es es' : List (Rec × Ob))
 (h1 : ((Go.Num.errF dn es s) = (0 : Int)))
 (h2 : ((ByteArray.size s) ≤ (9223372036854775807 : Nat)))
 (h3 : ((Go.Num.stV fu) = Bool.false))
 (h4 : (Go.Num.StepOK (ro, (st, (fu, (dn, es))))))
 (h5 : ((Go.Num.obS (Go.Abs.obE es [(Go.Abs.Fd.s s)])) = (Go.Num.obS (Go.Abs.Ob.node [(Go.Abs.Fd.w (Go.Num.obD (Go.Abs.obE es [(Go.Abs.Fd.s s)]))), (Go.Abs.Fd.i (Go.Num.obS (Go.Abs.obE es [(Go.Abs.Fd.s s)])))] ([] : List (List (Rec × Ob)))))))
 (h6 : ((Go.Num.obD (Go.Abs.obE es [(Go.Abs.Fd.s s)])) = (Go.Num.obD (Go.Abs.Ob.node [(Go.Abs.Fd.w (Go.Num.obD (Go.Abs.obE es [(Go.Abs.Fd.s s)]))), (Go.Abs.Fd.i (Go.Num.obS (Go.Abs.obE es [(Go.Abs.Fd.s s)])))] ([] : List (List (Rec × Ob)))))))
 (h7 : ((2 : Int) = e))
 (h8 : ((Go.Num.stSt fu st) = st'))
 (h9 : ((Go.Num.stFu fu) = fu'))
 (h10 : ((Go.Num.stDn fu dn) = dn'))
 (h11 : ((Go.Abs.setE es [(Go.Abs.Fd.s s)] (Go.Abs.Ob.node [(Go.Abs.Fd.w (Go.Num.obD (Go.Abs.obE es [(Go.Abs.Fd.s s)]))), (Go.Abs.Fd.i (Go.Num.obS (Go.Abs.obE es [(Go.Abs.Fd.s s)])))] ([] : List (List (Rec × Ob))))) = es')) :
 ∃ ps, runO Try.prog DF gA0 100 Try.f20 (dkB ro st fu dn es, [.one (.ref 0 0), .one (.str s)]) [.is false] (eV e) (dkB ro st' fu' dn' es') = some ps ∧ AllQ ps := ⟨_, by kernel_rfl, allQ_cons (show (s = s) from rfl) (allQ_cons (show (ro = ro) from rfl) (allQ_cons (show (st = st) from rfl) (allQ_cons (show (fu = fu) from rfl) (allQ_cons (show (dn = dn) from rfl) (allQ_cons (show (es = es) from rfl) (allQ_cons h1 (allQ_cons h2 (allQ_cons h3 (allQ_cons (show (ro = ro) from rfl) (allQ_cons (show (st = st) from rfl) (allQ_cons (show (fu = fu) from rfl) (allQ_cons (show (dn = dn) from rfl) (allQ_cons (show ([(Go.Abs.Fd.s s)] = [(Go.Abs.Fd.s s)]) from rfl) (allQ_cons (show (es = es) from rfl) (allQ_cons (show ((Go.Num.obS (Go.Abs.obE es [(Go.Abs.Fd.s s)])) = (Go.Num.obS (Go.Abs.obE es [(Go.Abs.Fd.s s)]))) from rfl) (allQ_cons (show ((Go.Num.obD (Go.Abs.obE es [(Go.Abs.Fd.s s)])) = (Go.Num.obD (Go.Abs.obE es [(Go.Abs.Fd.s s)]))) from rfl) (allQ_cons h4 (allQ_cons h5 (allQ_cons h6 (allQ_cons h7 (allQ_cons (show (ro = ro) from rfl) (allQ_cons h8 (allQ_cons h9 (allQ_cons h10 (allQ_cons h11 (allQ_nil))))))))))))))))))))))))))⟩

end Go.Num
