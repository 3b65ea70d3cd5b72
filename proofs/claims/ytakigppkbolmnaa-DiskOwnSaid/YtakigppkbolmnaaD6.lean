/- Disk: steps, keeping, looking: the contracts. -/
import Derived.Test.YtakigppkbolmnaaD5
namespace Go.Num
open Go.Abs Go.Proofs Go.Shelf Go.RowKit

/-! find -/

def errF (dn : Bool) (es : List (Rec × Ob)) (s : ByteArray) : Int := if dn = true then 2 else if rightB s = true then (if hasE es [Fd.s s] = true then 0 else 41) else 40

def dkRd : List (BoxSt DF.τ) → Option (Int × Int × Int × Bool × List (Rec × Ob))
  | [.fixed t ps, .fam k es none] => match ps with
    | [.int .i64 _ ro, .mapr 1, .int .i64 _ st, .int .i64 _ fu, .bool _ dn] => bif Nat.beq t 66 && Nat.beq k 0 then some (ro, st, fu, dn, es) else none
    | _ => none
  | _ => none
abbrev DkT := Int × Int × Int × Bool × List (Rec × Ob)
def dkBt (d : DkT) : List (BoxSt DF.τ) := dkB d.1 d.2.1 d.2.2.1 d.2.2.2.1 d.2.2.2.2

def fiRd (bs : List (BoxSt DF.τ)) : List (A0 DF.τ) → Option (DkT × ByteArray)
  | [.one (.ref 0 0), .one (.str s)] => match dkRd bs with
    | some d => some (d, s)
    | none => none
  | _ => none
def fiPre (t : DkT × ByteArray) : List (BoxSt DF.τ) × List (A0 DF.τ) := (dkBt t.1, [.one (.ref 0 0), .one (.str t.2)])
def fZv (e : Int) : AV DF.τ := .tup [.agg [.nil, .int .i64 true 0], .one (.int .i64 false e)]
noncomputable def findBadQ := mkF DF Try.f31.ntmps fiRd fiPre (fun t => some (fZv (errF t.1.2.2.2.1 t.1.2.2.2.2 t.2), dkBt t.1, [errF t.1.2.2.2.1 t.1.2.2.2.2 t.2 ≠ 0, t.2.size ≤ 9223372036854775807]))
def dkO (d : DkT) (k : Rec) (l : List Int) (n : Int) : List (BoxSt DF.τ) := [.fixed 66 (dkP d.1 d.2.1 d.2.2.1 d.2.2.2.1), .fam 0 d.2.2.2.2 (some (k, [.own 2, .int .i64 false n])), .dyn 5 (.ints .u8 l)]
noncomputable def findOkQ := mkF DF Try.f31.ntmps fiRd fiPre (fun t => some (.tup [.agg [.own 2, .int .i64 false (obS (obE t.1.2.2.2.2 [Fd.s t.2]))], .one (.int .i64 true 0)],
  dkO t.1 [Fd.s t.2] (obD (obE t.1.2.2.2.2 [Fd.s t.2])) (obS (obE t.1.2.2.2.2 [Fd.s t.2])), [errF t.1.2.2.2.1 t.1.2.2.2.2 t.2 = 0, t.2.size ≤ 9223372036854775807]))

theorem gamRt_ok : GamOK Try.prog DF gamRt := gam_cons right_ok gam_nil

theorem fi_down (s : ByteArray) (ro st fu e : Int) (dn : Bool) (es : List (Rec × Ob))
 (h1 : (dn = Bool.true))
 (h2 : ((2 : Int) = e)) :
 ∃ ps, runO Try.prog DF gamRt 100 Try.f31 (dkB ro st fu dn es, [.one (.ref 0 0), .one (.str s)]) [.is true] (fZv e) (dkB ro st fu dn es) = some ps ∧ AllQ ps := ⟨_, by kernel_rfl, allQ_cons h1 (allQ_cons h2 (allQ_cons (show (ro = ro) from rfl) (allQ_cons (show (st = st) from rfl) (allQ_cons (show (fu = fu) from rfl) (allQ_cons (show (dn = dn) from rfl) (allQ_cons (show (es = es) from rfl) (allQ_nil)))))))⟩

theorem fi_name (s : ByteArray) (ro st fu e : Int) (dn : Bool) (es : List (Rec × Ob))
 (h1 : (dn = Bool.false))
 (h2 : ((Go.Num.rightB s) = Bool.false))
 (h3 : ((ByteArray.size s) ≤ (9223372036854775807 : Nat)))
 (h4 : ((40 : Int) = e)) :
 ∃ ps, runO Try.prog DF gamRt 100 Try.f31 (dkB ro st fu dn es, [.one (.ref 0 0), .one (.str s)]) [.is false, .is false] (fZv e) (dkB ro st fu dn es) = some ps ∧ AllQ ps := ⟨_, by kernel_rfl, allQ_cons h1 (allQ_cons h2 (allQ_cons h3 (allQ_cons h4 (allQ_cons (show (ro = ro) from rfl) (allQ_cons (show (st = st) from rfl) (allQ_cons (show (fu = fu) from rfl) (allQ_cons (show (dn = dn) from rfl) (allQ_cons (show (es = es) from rfl) (allQ_nil)))))))))⟩

theorem fi_gone (s : ByteArray) (ro st fu e : Int) (dn : Bool) (es : List (Rec × Ob))
 (h1 : (dn = Bool.false))
 (h2 : ((Go.Num.rightB s) = Bool.true))
 (h3 : ((ByteArray.size s) ≤ (9223372036854775807 : Nat)))
 (h4 : (Go.Abs.KeyT Go.Proofs.Try.prog (9 : TypeId) Bool.false [Go.Abs.FK.str]))
 (h5 : ((Go.Abs.keyOK [Go.Abs.FK.str] [(Go.Abs.Fd.s s)]) = Bool.true))
 (h6 : ((Go.Abs.hasE es [(Go.Abs.Fd.s s)]) = Bool.false))
 (h7 : ((41 : Int) = e)) :
 ∃ ps, runO Try.prog DF gamRtN 100 Try.f31 (dkB ro st fu dn es, [.one (.ref 0 0), .one (.str s)]) [.is false, .is true] (fZv e) (dkB ro st fu dn es) = some ps ∧ AllQ ps := ⟨_, by kernel_rfl, allQ_cons h1 (allQ_cons h2 (allQ_cons h3 (allQ_cons h4 (allQ_cons h5 (allQ_cons h6 (allQ_cons h7 (allQ_cons (show (ro = ro) from rfl) (allQ_cons (show (st = st) from rfl) (allQ_cons (show (fu = fu) from rfl) (allQ_cons (show (dn = dn) from rfl) (allQ_cons (show (es = es) from rfl) (allQ_nil))))))))))))⟩

theorem fi_ok (s : ByteArray) (ro st fu : Int) (dn : Bool) (es : List (Rec × Ob)) (l : List Int) (n : Int)
 (h1 : (dn = Bool.false))
 (h2 : ((Go.Num.rightB s) = Bool.true))
 (h3 : ((ByteArray.size s) ≤ (9223372036854775807 : Nat)))
 (h4 : (Go.Abs.KeyT Go.Proofs.Try.prog (9 : TypeId) Bool.false [Go.Abs.FK.str]))
 (h5 : ((Go.Abs.keyOK [Go.Abs.FK.str] [(Go.Abs.Fd.s s)]) = Bool.true))
 (h6 : ((Go.Abs.hasE es [(Go.Abs.Fd.s s)]) = Bool.true))
 (h7 : ((Go.Num.obS (Go.Abs.obE es [(Go.Abs.Fd.s s)])) = n))
 (h8 : ((Go.Num.obD (Go.Abs.obE es [(Go.Abs.Fd.s s)])) = l)) :
 ∃ ps, runO Try.prog DF gamRt 100 Try.f31 (dkB ro st fu dn es, [.one (.ref 0 0), .one (.str s)]) [.is false, .is true] (.tup [.agg [.own 2, .int .i64 false n], .one (.int .i64 true 0)]) [.fixed 66 (dkP ro st fu dn), .fam 0 es (some ([Fd.s s], [.own 2, .int .i64 false n])), .dyn 5 (.ints .u8 l)] = some ps ∧ AllQ ps := ⟨_, by kernel_rfl, allQ_cons h1 (allQ_cons h2 (allQ_cons h3 (allQ_cons h4 (allQ_cons h5 (allQ_cons h6 (allQ_cons h7 (allQ_cons (show (ro = ro) from rfl) (allQ_cons (show (st = st) from rfl) (allQ_cons (show (fu = fu) from rfl) (allQ_cons (show (dn = dn) from rfl) (allQ_cons (show ([(Go.Abs.Fd.s s)] = [(Go.Abs.Fd.s s)]) from rfl) (allQ_cons (show (es = es) from rfl) (allQ_cons h7 (allQ_cons h8 (allQ_nil)))))))))))))))⟩

theorem fi_nil (s : ByteArray) :
 ∃ ps, runO Try.prog DF gamRt 100 Try.f31 ([], [.one .nilp, .one (.str s)]) [] (.tup [.agg [.nil, .int .i64 true 0], .one (.int .i64 true 1)]) [] = some ps ∧ AllQ ps := ⟨_, by kernel_rfl, allQ_nil⟩

theorem sp_no (ro st fu st' fu' : Int) (dn dn' v : Bool) (es : List (Rec × Ob))
 (h1 : ((fu == (1 : Int)) = Bool.true))
 (h2 : (Bool.false = v))
 (h3 : (st = st'))
 (h4 : ((0 : Int) = fu'))
 (h5 : (Bool.true = dn')) :
 ∃ ps, runO Try.prog DF [] 100 Try.f33 (dkB ro st fu dn es, [.one (.ref 0 0)]) [.is true] (.v (.one (.bool false v))) (dkB ro st' fu' dn' es) = some ps ∧ AllQ ps := ⟨_, by kernel_rfl, allQ_cons h1 (allQ_cons h2 (allQ_cons (show (ro = ro) from rfl) (allQ_cons h3 (allQ_cons h4 (allQ_cons h5 (allQ_cons (show (es = es) from rfl) (allQ_nil)))))))⟩

theorem sp_dec (ro st fu st' fu' : Int) (dn dn' v : Bool) (es : List (Rec × Ob))
 (h1 : ((fu == (1 : Int)) = Bool.false))
 (h2 : ((decide (fu > (1 : Int))) = Bool.true))
 (h3 : (Go.Abs.InI64 (fu - (1 : Int))))
 (h4 : (Go.Abs.InI64 (st + (1 : Int))))
 (h5 : (Bool.true = v))
 (h6 : ((st + (1 : Int)) = st'))
 (h7 : ((fu - (1 : Int)) = fu'))
 (h8 : (dn = dn')) :
 ∃ ps, runO Try.prog DF [] 100 Try.f33 (dkB ro st fu dn es, [.one (.ref 0 0)]) [.is false, .is true] (.v (.one (.bool false v))) (dkB ro st' fu' dn' es) = some ps ∧ AllQ ps := ⟨_, by kernel_rfl, allQ_cons h1 (allQ_cons h2 (allQ_cons h3 (allQ_cons h4 (allQ_cons h5 (allQ_cons (show (ro = ro) from rfl) (allQ_cons h6 (allQ_cons h7 (allQ_cons h8 (allQ_cons (show (es = es) from rfl) (allQ_nil))))))))))⟩

theorem sp_yes (ro st fu st' fu' : Int) (dn dn' v : Bool) (es : List (Rec × Ob))
 (h1 : ((fu == (1 : Int)) = Bool.false))
 (h2 : ((decide (fu > (1 : Int))) = Bool.false))
 (h3 : (Go.Abs.InI64 (st + (1 : Int))))
 (h4 : (Bool.true = v))
 (h5 : ((st + (1 : Int)) = st'))
 (h6 : (fu = fu'))
 (h7 : (dn = dn')) :
 ∃ ps, runO Try.prog DF [] 100 Try.f33 (dkB ro st fu dn es, [.one (.ref 0 0)]) [.is false, .is false] (.v (.one (.bool false v))) (dkB ro st' fu' dn' es) = some ps ∧ AllQ ps := ⟨_, by kernel_rfl, allQ_cons h1 (allQ_cons h2 (allQ_cons h3 (allQ_cons h4 (allQ_cons (show (ro = ro) from rfl) (allQ_cons h5 (allQ_cons h6 (allQ_cons h7 (allQ_cons (show (es = es) from rfl) (allQ_nil)))))))))⟩

theorem sq_no (ro st fu st' fu' n : Int) (dn dn' v : Bool) (es : List (Rec × Ob)) (k : Rec) (l : List Int)
 (h1 : ((fu == (1 : Int)) = Bool.true))
 (h2 : (Bool.false = v))
 (h3 : (st = st'))
 (h4 : ((0 : Int) = fu'))
 (h5 : (Bool.true = dn')) :
 ∃ ps, runO Try.prog DF [] 100 Try.f33 (dkO (ro, st, fu, dn, es) k l n, [.one (.ref 0 0)]) [.is true] (.v (.one (.bool false v))) (dkO (ro, st', fu', dn', es) k l n) = some ps ∧ AllQ ps := ⟨_, by kernel_rfl, allQ_cons h1 (allQ_cons h2 (allQ_cons (show (ro = ro) from rfl) (allQ_cons h3 (allQ_cons h4 (allQ_cons h5 (allQ_cons (show (k = k) from rfl) (allQ_cons (show (es = es) from rfl) (allQ_cons (show (n = n) from rfl) (allQ_cons (show (l = l) from rfl) (allQ_nil))))))))))⟩

theorem sq_dec (ro st fu st' fu' n : Int) (dn dn' v : Bool) (es : List (Rec × Ob)) (k : Rec) (l : List Int)
 (h1 : ((fu == (1 : Int)) = Bool.false))
 (h2 : ((decide (fu > (1 : Int))) = Bool.true))
 (h3 : (Go.Abs.InI64 (fu - (1 : Int))))
 (h4 : (Go.Abs.InI64 (st + (1 : Int))))
 (h5 : (Bool.true = v))
 (h6 : ((st + (1 : Int)) = st'))
 (h7 : ((fu - (1 : Int)) = fu'))
 (h8 : (dn = dn')) :
 ∃ ps, runO Try.prog DF [] 100 Try.f33 (dkO (ro, st, fu, dn, es) k l n, [.one (.ref 0 0)]) [.is false, .is true] (.v (.one (.bool false v))) (dkO (ro, st', fu', dn', es) k l n) = some ps ∧ AllQ ps := ⟨_, by kernel_rfl, allQ_cons h1 (allQ_cons h2 (allQ_cons h3 (allQ_cons h4 (allQ_cons h5 (allQ_cons (show (ro = ro) from rfl) (allQ_cons h6 (allQ_cons h7 (allQ_cons h8 (allQ_cons (show (k = k) from rfl) (allQ_cons (show (es = es) from rfl) (allQ_cons (show (n = n) from rfl) (allQ_cons (show (l = l) from rfl) (allQ_nil)))))))))))))⟩

theorem sq_yes (ro st fu st' fu' n : Int) (dn dn' v : Bool) (es : List (Rec × Ob)) (k : Rec) (l : List Int)
 (h1 : ((fu == (1 : Int)) = Bool.false))
 (h2 : ((decide (fu > (1 : Int))) = Bool.false))
 (h3 : (Go.Abs.InI64 (st + (1 : Int))))
 (h4 : (Bool.true = v))
 (h5 : ((st + (1 : Int)) = st'))
 (h6 : (fu = fu'))
 (h7 : (dn = dn')) :
 ∃ ps, runO Try.prog DF [] 100 Try.f33 (dkO (ro, st, fu, dn, es) k l n, [.one (.ref 0 0)]) [.is false, .is false] (.v (.one (.bool false v))) (dkO (ro, st', fu', dn', es) k l n) = some ps ∧ AllQ ps := ⟨_, by kernel_rfl, allQ_cons h1 (allQ_cons h2 (allQ_cons h3 (allQ_cons h4 (allQ_cons (show (ro = ro) from rfl) (allQ_cons h5 (allQ_cons h6 (allQ_cons h7 (allQ_cons (show (k = k) from rfl) (allQ_cons (show (es = es) from rfl) (allQ_cons (show (n = n) from rfl) (allQ_cons (show (l = l) from rfl) (allQ_nil))))))))))))⟩

def kpB (ro st fu : Int) (dn : Bool) (l : List Int) (es : List (Rec × Ob)) (out : Option (Rec × List (Part DF.τ))) (r : List (BoxSt DF.τ)) (b : BoxSt DF.τ) : List (BoxSt DF.τ) := .fixed 66 [.int .i64 false ro, .mapr 2, .int .i64 false st, .int .i64 false fu, .bool false dn] :: b :: .fam 0 es out :: r
def dynB (l : List Int) : BoxSt DF.τ := .dyn 5 (.ints .u8 l)
theorem kp_new (s : ByteArray) (ro st fu m : Int) (dn : Bool) (es es' : List (Rec × Ob)) (l : List Int)
 (h1 : (Go.Abs.KeyT Go.Proofs.Try.prog (9 : TypeId) Bool.false [Go.Abs.FK.str]))
 (h2 : ((Go.Abs.keyOK [Go.Abs.FK.str] [(Go.Abs.Fd.s s)]) = Bool.true))
 (h3 : (m = (Go.Abs.recI [(Go.Abs.Fd.w l), (Go.Abs.Fd.i m)] (1 : Nat))))
 (h4 : (l = (Go.Abs.recW [(Go.Abs.Fd.w l), (Go.Abs.Fd.i m)] (0 : Nat))))
 (h5 : ((Go.Abs.setE (Go.Abs.setE es [(Go.Abs.Fd.s s)] (Go.Abs.Ob.node [(Go.Abs.Fd.w l), (Go.Abs.Fd.i m)] ([] : List (List (Rec × Ob))))) [(Go.Abs.Fd.s s)] (Go.Abs.Ob.node [(Go.Abs.Fd.w l), (Go.Abs.Fd.i m)] ([] : List (List (Rec × Ob))))) = es')) :
 ∃ ps, runO Try.prog DF [] 100 Try.f32 (kpB ro st fu dn l es none [] (dynB l), [.one (.ref 0 0), .one (.str s), .agg [.own 1, .int .i64 false m]]) [] (.tup []) (kpB ro st fu dn l es' none [] .dead) = some ps ∧ AllQ ps := ⟨_, by kernel_rfl, allQ_cons h1 (allQ_cons h2 (allQ_cons h3 (allQ_cons h4 (allQ_cons (show (ro = ro) from rfl) (allQ_cons (show (st = st) from rfl) (allQ_cons (show (fu = fu) from rfl) (allQ_cons (show (dn = dn) from rfl) (allQ_cons h5 (allQ_nil)))))))))⟩

theorem kp_same (s : ByteArray) (ro st fu n m : Int) (dn : Bool) (es es' : List (Rec × Ob)) (k : Rec) (l : List Int)
 (h1 : (Go.Abs.KeyT Go.Proofs.Try.prog (9 : TypeId) Bool.false [Go.Abs.FK.str]))
 (h2 : ((Go.Abs.keyOK [Go.Abs.FK.str] [(Go.Abs.Fd.s s)]) = Bool.true))
 (h3 : ([(Go.Abs.Fd.s s)] = k))
 (h4 : (m = (Go.Abs.recI [(Go.Abs.Fd.w l), (Go.Abs.Fd.i m)] (1 : Nat))))
 (h5 : (l = (Go.Abs.recW [(Go.Abs.Fd.w l), (Go.Abs.Fd.i m)] (0 : Nat))))
 (h6 : ((Go.Abs.setE (Go.Abs.setE es [(Go.Abs.Fd.s s)] (Go.Abs.Ob.node [(Go.Abs.Fd.w l), (Go.Abs.Fd.i m)] ([] : List (List (Rec × Ob))))) [(Go.Abs.Fd.s s)] (Go.Abs.Ob.node [(Go.Abs.Fd.w l), (Go.Abs.Fd.i m)] ([] : List (List (Rec × Ob))))) = es')) :
 ∃ ps, runO Try.prog DF [] 100 Try.f32 (kpB ro st fu dn l es (some (k, [.own 1, .int .i64 false n])) [] (dynB l), [.one (.ref 0 0), .one (.str s), .agg [.own 1, .int .i64 false m]]) [] (.tup []) (kpB ro st fu dn l es' none [] .dead) = some ps ∧ AllQ ps := ⟨_, by kernel_rfl, allQ_cons h1 (allQ_cons h2 (allQ_cons h3 (allQ_cons h4 (allQ_cons h5 (allQ_cons (show (ro = ro) from rfl) (allQ_cons (show (st = st) from rfl) (allQ_cons (show (fu = fu) from rfl) (allQ_cons (show (dn = dn) from rfl) (allQ_cons h6 (allQ_nil))))))))))⟩

theorem kp_old (s : ByteArray) (ro st fu n m : Int) (dn : Bool) (es es' : List (Rec × Ob)) (k : Rec) (l : List Int)
 (h1 : (Go.Abs.KeyT Go.Proofs.Try.prog (9 : TypeId) Bool.false [Go.Abs.FK.str]))
 (h2 : ((Go.Abs.keyOK [Go.Abs.FK.str] [(Go.Abs.Fd.s s)]) = Bool.true))
 (h3 : ([(Go.Abs.Fd.s s)] = k))
 (h4 : (m = (Go.Abs.recI [(Go.Abs.Fd.w l), (Go.Abs.Fd.i m)] (1 : Nat))))
 (h5 : (l = (Go.Abs.recW [(Go.Abs.Fd.w l), (Go.Abs.Fd.i m)] (0 : Nat))))
 (h6 : ((Go.Abs.setE (Go.Abs.setE es [(Go.Abs.Fd.s s)] (Go.Abs.Ob.node [(Go.Abs.Fd.w l), (Go.Abs.Fd.i m)] ([] : List (List (Rec × Ob))))) [(Go.Abs.Fd.s s)] (Go.Abs.Ob.node [(Go.Abs.Fd.w l), (Go.Abs.Fd.i m)] ([] : List (List (Rec × Ob))))) = es')) :
 ∃ ps, runO Try.prog DF [] 100 Try.f32 (kpB ro st fu dn l es (some (k, [.own 3, .int .i64 false n])) [.dead] (dynB l), [.one (.ref 0 0), .one (.str s), .agg [.own 1, .int .i64 false m]]) [] (.tup []) (kpB ro st fu dn l es' none [.dead] .dead) = some ps ∧ AllQ ps := ⟨_, by kernel_rfl, allQ_cons h1 (allQ_cons h2 (allQ_cons h3 (allQ_cons h4 (allQ_cons h5 (allQ_cons (show (ro = ro) from rfl) (allQ_cons (show (st = st) from rfl) (allQ_cons (show (fu = fu) from rfl) (allQ_cons (show (dn = dn) from rfl) (allQ_cons h6 (allQ_nil))))))))))⟩

/-! What they say -/

theorem setE_twice : ∀ (es : List (Rec × Ob)) (k : Rec) (o p : Ob), setE (setE es k o) k p = setE es k p
  | [], k, o, p => by simp [setE]
  | (x, q) :: es, k, o, p => by
    by_cases h : x = k
    · simp [setE, h]
    · simp [setE, h, setE_twice es k o p]

theorem findBad_ok : OpOK Try.prog DF 31 findBadQ := by
  refine opOK_mkG mixed Try.func31 (enters_of Try.func31 (by kernel_rfl) rfl) ?_
  rintro ⟨⟨ro, st, fu, dn, es⟩, s⟩ r' bs' ps h hps
  simp only [Option.some.injEq, Prod.mk.injEq] at h
  obtain ⟨rfl, rfl, rfl⟩ := h
  have h1 : errF dn es s ≠ 0 := hps (errF dn es s ≠ 0) (by simp)
  have h2 : s.size ≤ 9223372036854775807 := hps (s.size ≤ 9223372036854775807) (by simp)
  unfold errF at h1
  by_cases c1 : dn = true
  · exact ⟨_, _, _, gamRt_ok, fi_down s ro st fu _ dn es c1 (by unfold errF; rw [if_pos c1])⟩
  rw [if_neg c1] at h1
  by_cases c2 : rightB s = true
  · rw [if_pos c2] at h1
    by_cases c3 : hasE es [Fd.s s] = true
    · rw [if_pos c3] at h1; exact (h1 rfl).elim
    · exact ⟨_, _, _, gam_look gamRt_ok, fi_gone s ro st fu _ dn es (by simpa using c1) c2 h2 keyT_str rfl (by simpa using c3) (by unfold errF; rw [if_neg c1, if_pos c2, if_neg c3])⟩
  · exact ⟨_, _, _, gamRt_ok, fi_name s ro st fu _ dn es (by simpa using c1) (by simpa using c2) h2 (by unfold errF; rw [if_neg c1, if_neg c2])⟩

theorem errF_ok {dn : Bool} {es : List (Rec × Ob)} {s : ByteArray} (h : errF dn es s = 0) : dn = false ∧ rightB s = true ∧ hasE es [Fd.s s] = true := by
  unfold errF at h
  split at h
  · cases h
  · rename_i h1
    split at h
    · rename_i h2
      split at h
      · rename_i h3
        exact ⟨by simpa using h1, h2, h3⟩
      · cases h
    · cases h

theorem findOk_ok : OpOK Try.prog DF 31 findOkQ := by
  refine opOK_mk gamRt_ok mixed Try.func31 (enters_of Try.func31 (by kernel_rfl) rfl) ?_
  rintro ⟨⟨ro, st, fu, dn, es⟩, s⟩ r' bs' ps h hps
  simp only [Option.some.injEq, Prod.mk.injEq] at h
  obtain ⟨rfl, rfl, rfl⟩ := h
  have h1 : errF dn es s = 0 := hps (errF dn es s = 0) (by simp)
  have h2 : s.size ≤ 9223372036854775807 := hps (s.size ≤ 9223372036854775807) (by simp)
  obtain ⟨c1, c2, c3⟩ := errF_ok h1
  exact ⟨_, _, fi_ok s ro st fu dn es _ _ c1 c2 h2 keyT_str rfl c3 rfl rfl⟩

def finRd : List (BoxSt DF.τ) → List (A0 DF.τ) → Option ByteArray
  | [], [.one .nilp, .one (.str s)] => some s
  | _, _ => none
noncomputable def findNilQ := mkF DF Try.f31.ntmps finRd (fun s => ([], [.one .nilp, .one (.str s)])) (fun _ => some (.tup [.agg [.nil, .int .i64 true 0], .one (.int .i64 true 1)], [], []))
theorem findNil_ok : OpOK Try.prog DF 31 findNilQ := by
  refine opOK_mk gamRt_ok mixed Try.func31 (enters_of Try.func31 (by kernel_rfl) rfl) ?_
  rintro s r' bs' ps h hps
  simp only [Option.some.injEq, Prod.mk.injEq] at h
  obtain ⟨rfl, rfl, rfl⟩ := h
  exact ⟨_, _, fi_nil s⟩

/-! step -/

def stSt (fu st : Int) : Int := if fu = 1 then st else st + 1
def stFu (fu : Int) : Int := if fu = 1 then 0 else if 1 < fu then fu - 1 else fu
def stDn (fu : Int) (dn : Bool) : Bool := if fu = 1 then true else dn
def stV (fu : Int) : Bool := if fu = 1 then false else true
/-- A disk behind a step. -/
def stepD (d : DkT) : DkT := (d.1, stSt d.2.2.1 d.2.1, stFu d.2.2.1, stDn d.2.2.1 d.2.2.2.1, d.2.2.2.2)
def StepOK (d : DkT) : Prop := (0 ≤ d.2.1 ∧ d.2.1 ≤ 4611686018427387904) ∧ 0 ≤ d.2.2.1 ∧ d.2.2.1 ≤ 9223372036854775807

def spRd (bs : List (BoxSt DF.τ)) : List (A0 DF.τ) → Option DkT
  | [.one (.ref 0 0)] => dkRd bs
  | _ => none
noncomputable def stepQ0 := mkF DF Try.f33.ntmps spRd (fun d => (dkBt d, [.one (.ref 0 0)])) (fun d => some (.v (.one (.bool false (stV d.2.2.1))), dkBt (stepD d), [StepOK d]))
def dkoRd : List (BoxSt DF.τ) → Option (DkT × Rec × List Int × Int)
  | [.fixed t ps, .fam k es (some (key, qs)), .dyn e (.ints .u8 l)] => match ps, qs with
    | [.int .i64 _ ro, .mapr 1, .int .i64 _ st, .int .i64 _ fu, .bool _ dn], [.own 2, .int .i64 _ n] => bif (Nat.beq t 66 && Nat.beq k 0) && Nat.beq e 5 then some ((ro, st, fu, dn, es), key, l, n) else none
    | _, _ => none
  | _ => none
def sqRd (bs : List (BoxSt DF.τ)) : List (A0 DF.τ) → Option (DkT × Rec × List Int × Int)
  | [.one (.ref 0 0)] => dkoRd bs
  | _ => none
noncomputable def stepQ1 := mkF DF Try.f33.ntmps sqRd (fun t => (dkO t.1 t.2.1 t.2.2.1 t.2.2.2, [.one (.ref 0 0)])) (fun t => some (.v (.one (.bool false (stV t.1.2.2.1))), dkO (stepD t.1) t.2.1 t.2.2.1 t.2.2.2, [StepOK t.1]))
noncomputable def stepQ := orF stepQ0 stepQ1

theorem step0_ok : OpOK Try.prog DF 33 stepQ0 := by
  refine opOK_mk gam_nil mixed Try.func33 (enters_of Try.func33 (by kernel_rfl) rfl) ?_
  rintro ⟨ro, st, fu, dn, es⟩ r' bs' ps h hps
  simp only [Option.some.injEq, Prod.mk.injEq] at h
  obtain ⟨rfl, rfl, rfl⟩ := h
  obtain ⟨⟨h1, h2⟩, h3, h4⟩ : StepOK (ro, st, fu, dn, es) := hps (StepOK _) (by simp)
  simp only at h1 h2 h3 h4
  by_cases c1 : fu = 1
  · subst c1
    exact ⟨_, _, sp_no ro st 1 _ _ dn _ _ es (by decide) rfl rfl rfl rfl⟩
  · by_cases c2 : 1 < fu
    · exact ⟨_, _, sp_dec ro st fu (stSt fu st) (stFu fu) dn (stDn fu dn) (stV fu) es (beq_eq_false_iff_ne.2 c1) (decide_eq_true c2) ⟨by omega, by omega⟩ ⟨by omega, by omega⟩ (by simp [stV, c1]) (by simp [stSt, c1]) (by simp [stFu, c1, c2]) (by simp [stDn, c1])⟩
    · exact ⟨_, _, sp_yes ro st fu (stSt fu st) (stFu fu) dn (stDn fu dn) (stV fu) es (beq_eq_false_iff_ne.2 c1) (decide_eq_false c2) ⟨by omega, by omega⟩ (by simp [stV, c1]) (by simp [stSt, c1]) (by simp [stFu, c1, c2]) (by simp [stDn, c1])⟩

theorem step1_ok : OpOK Try.prog DF 33 stepQ1 := by
  refine opOK_mk gam_nil mixed Try.func33 (enters_of Try.func33 (by kernel_rfl) rfl) ?_
  rintro ⟨⟨ro, st, fu, dn, es⟩, k, l, n⟩ r' bs' ps h hps
  simp only [Option.some.injEq, Prod.mk.injEq] at h
  obtain ⟨rfl, rfl, rfl⟩ := h
  obtain ⟨⟨h1, h2⟩, h3, h4⟩ : StepOK (ro, st, fu, dn, es) := hps (StepOK _) (by simp)
  simp only at h1 h2 h3 h4
  by_cases c1 : fu = 1
  · subst c1
    exact ⟨_, _, sq_no ro st 1 _ _ n dn _ _ es k l (by decide) rfl rfl rfl rfl⟩
  · by_cases c2 : 1 < fu
    · exact ⟨_, _, sq_dec ro st fu (stSt fu st) (stFu fu) n dn (stDn fu dn) (stV fu) es k l (beq_eq_false_iff_ne.2 c1) (decide_eq_true c2) ⟨by omega, by omega⟩ ⟨by omega, by omega⟩ (by simp [stV, c1]) (by simp [stSt, c1]) (by simp [stFu, c1, c2]) (by simp [stDn, c1])⟩
    · exact ⟨_, _, sq_yes ro st fu (stSt fu st) (stFu fu) n dn (stDn fu dn) (stV fu) es k l (beq_eq_false_iff_ne.2 c1) (decide_eq_false c2) ⟨by omega, by omega⟩ (by simp [stV, c1]) (by simp [stSt, c1]) (by simp [stFu, c1, c2]) (by simp [stDn, c1])⟩

theorem step_ok : OpOK Try.prog DF 33 stepQ := opOK_or step0_ok step1_ok

/-! keep -/

structure KpT where
  d : DkT
  s : ByteArray
  l : List Int
  m : Int
  /-- What is out: its name, whether its bytes are the new ones, how many are safe. -/
  out : Option (Rec × Bool × Int)

def kpOut : Option (Rec × Bool × Int) → Option (Rec × List (Part DF.τ))
  | none => none
  | some (k, true, n) => some (k, [.own 1, .int .i64 false n])
  | some (k, false, n) => some (k, [.own 3, .int .i64 false n])
def kpTl : Option (Rec × Bool × Int) → List (BoxSt DF.τ)
  | some (_, false, _) => [.dead]
  | _ => []
def kpOutRd : Option (Rec × List (Part DF.τ)) → List (BoxSt DF.τ) → Option (Option (Rec × Bool × Int))
  | none, [] => some none
  | some (k, [.own 1, .int .i64 _ n]), [] => some (some (k, true, n))
  | some (k, [.own 3, .int .i64 _ n]), [_] => some (some (k, false, n))
  | _, _ => none
def kpRd (bs : List (BoxSt DF.τ)) (xs : List (A0 DF.τ)) : Option KpT :=
  match bs, xs with
  | .fixed t ps :: .dyn e (.ints .u8 l) :: .fam k es out :: r, [.one (.ref 0 0), .one (.str s), .agg qs] => match ps, qs with
    | [.int .i64 _ ro, .mapr 2, .int .i64 _ st, .int .i64 _ fu, .bool _ dn], [.own 1, .int .i64 _ m] => bif (Nat.beq t 66 && Nat.beq k 0) && Nat.beq e 5 then
        match kpOutRd out r with
        | some o => some ⟨(ro, st, fu, dn, es), s, l, m, o⟩
        | none => none
      else none
    | _, _ => none
  | _, _ => none
def kpPre (t : KpT) : List (BoxSt DF.τ) × List (A0 DF.τ) := (kpB t.d.1 t.d.2.1 t.d.2.2.1 t.d.2.2.2.1 t.l t.d.2.2.2.2 (kpOut t.out) (kpTl t.out) (dynB t.l), [.one (.ref 0 0), .one (.str t.s), .agg [.own 1, .int .i64 false t.m]])
def kpDuty (s : ByteArray) : Option (Rec × Bool × Int) → Prop
  | none => True
  | some (k, _, _) => [Fd.s s] = k
noncomputable def keepQ := mkF DF Try.f32.ntmps kpRd kpPre (fun t => some (.tup [], kpB t.d.1 t.d.2.1 t.d.2.2.1 t.d.2.2.2.1 t.l (setE t.d.2.2.2.2 [Fd.s t.s] (fileOb t.l t.m)) none (kpTl t.out) .dead, [kpDuty t.s t.out]))

theorem keep_ok : OpOK Try.prog DF 32 keepQ := by
  refine opOK_mk gam_nil mixed Try.func32 (enters_of Try.func32 (by kernel_rfl) rfl) ?_
  rintro ⟨⟨ro, st, fu, dn, es⟩, s, l, m, o⟩ r' bs' ps h hps
  simp only [Option.some.injEq, Prod.mk.injEq] at h
  obtain ⟨rfl, rfl, rfl⟩ := h
  have hd : kpDuty s o := hps (kpDuty s o) (by simp)
  match o, hd with
  | none, _ => exact ⟨_, _, kp_new s ro st fu m dn es _ l keyT_str rfl rfl rfl (setE_twice ..)⟩
  | some (k, true, n), hd => exact ⟨_, _, kp_same s ro st fu n m dn es _ k l keyT_str rfl hd rfl rfl (setE_twice ..)⟩
  | some (k, false, n), hd => exact ⟨_, _, kp_old s ro st fu n m dn es _ k l keyT_str rfl hd rfl rfl (setE_twice ..)⟩

end Go.Num
