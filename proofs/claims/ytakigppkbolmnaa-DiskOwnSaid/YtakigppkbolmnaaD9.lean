/- Disk: Read, Image, Crash, Mount and the small ones: the runs. -/
import Derived.Test.YtakigppkbolmnaaD8
namespace Go.Num
open Go.Abs Go.Proofs Go.Shelf Go.RowKit

/-! slices.Clone -/

def clD : FnD DF
  | [.one (.words .u8 l)] => some (.v (.one (.fresh 0 5 .u8 l)), [l.length ≤ 140737488355328])
  | _ => none
theorem clone_nil  :
 ∃ ps, runF Try.prog DF [] 100 Try.f35 [.one .nil] [] = some ((Go.Abs.AV.v (Go.Abs.A0.one (Go.Abs.Part.nil))), ps) ∧ AllQ ps := ⟨_, by kernel_rfl, allQ_nil⟩

theorem clone_some (l : List Int)
 (h1 : (((0 : Nat) + (List.length l)) ≤ (9223372036854775807 : Nat)))
 (h2 : ((((0 : Nat) + (List.length l)) * (1 : Nat)) ≤ (140737488355328 : Nat))) :
 ∃ ps, runF Try.prog DF [] 100 Try.f35 [.one (.nnw .u8 l)] [] = some ((Go.Abs.AV.v (Go.Abs.A0.one (Go.Abs.Part.fresh (0 : Nat) (5 : Nat) Go.IntKind.u8 (([] : List (Int)) ++ l)))), ps) ∧ AllQ ps := ⟨_, by kernel_rfl, allQ_cons h1 (allQ_cons h2 (allQ_nil))⟩

theorem clone_ok : FnOK Try.prog DF 35 clD := by
  intro xs r ps hF hps w vs hgl hx
  unfold clD at hF
  split at hF
  · rename_i l
    simp only [Option.some.injEq, Prod.mk.injEq] at hF
    obtain ⟨rfl, rfl⟩ := hF
    have hlen : l.length ≤ 140737488355328 := hps _ (List.mem_cons_self ..)
    obtain ⟨v, us, rfl, ⟨hone, u, hu, M, W, hB, hS⟩, h3⟩ := hx
    cases h3
    simp only [List.cons.injEq, and_true] at hu
    subst hu
    have h2 : SlRel (cenv w).M (cenv w).w0 .u8 l v := by
      rcases hB with ⟨rfl, rfl⟩ | ⟨rfl, rfl⟩
      · exact hS
      · obtain ⟨ao, cap, e, q1, q2, q3, q4⟩ := hS
        refine ⟨ao, cap, e, q1, q2, q3, fun i hi => ?_⟩
        obtain ⟨b, off, r1, r2, r3⟩ := q4 i hi
        exact ⟨b, off, r1, fun h => h.elim, r3⟩
    obtain ⟨ao, cap, rfl, q1, q2, q3, q4⟩ := h2
    refine ⟨_, enters_of Try.func35 (by kernel_rfl) rfl _ w, ?_⟩
    cases ao with
    | none =>
      have hc := q3 rfl
      subst hc
      have hl0 : l = [] := List.length_eq_zero_iff.1 (by omega)
      subst hl0
      obtain ⟨ps, r1, r2⟩ := clone_nil
      refine (runF_calls gam_nil mixed Try.func35 r1 r2 hgl ⟨_, [], rfl, ⟨rfl, rfl⟩, rfl⟩).mono ?_
      rintro e w' ⟨v, he, ⟨ν, _, hr⟩, hb⟩
      have hv : [v] = [Value.slice none 0 0] := hr.2
      simp only [List.cons.injEq, and_true] at hv
      subst hv
      exact ⟨_, he, ⟨nilν, nilν_disj, rfl, fresh_nil⟩, hb⟩
    | some a =>
      obtain ⟨ps, r1, r2⟩ := clone_some l (by omega) (by omega)
      refine (runF_calls gam_nil mixed Try.func35 r1 r2 hgl ⟨_, [], rfl, ⟨rfl, a, l.length, cap, rfl, some a, cap, rfl, q1, q2, q3, q4⟩, rfl⟩).mono ?_
      rintro e w' ⟨v, he, hr, hb⟩
      exact ⟨v, he, hr, hb⟩
  · cases hF

/-! The runs -/

noncomputable def gR1 : Gam DF := [(31, .op [true, false] findBadQ)]
noncomputable def gR0 : Gam DF := [(31, .op [true, false] findOkQ), (35, .fn clD)]
def rdV (e : Int) : AV DF.τ := .tup [.one (.own 2), .one (.int .i64 false e)]

theorem re_bad (s : ByteArray) (ro st fu e : Int) (dn : Bool) (es : List (Rec × Ob)) (l : List Int)
 (h1 : ((Go.Num.errF dn es s) ≠ (0 : Int)))
 (h2 : ((ByteArray.size s) ≤ (9223372036854775807 : Nat)))
 (h3 : (((Go.Num.errF dn es s) != (0 : Int)) = Bool.true))
 (h4 : ((Go.Num.errF dn es s) = e))
 (h5 : (([] : List (Int)) = l)) :
 ∃ ps, runO Try.prog DF gR1 100 Try.f15 (dkB ro st fu dn es, [.one (.ref 0 0), .one (.str s)]) [.is true] (rdV e) (dkB ro st fu dn es ++ [dynB l]) = some ps ∧ AllQ ps := ⟨_, by kernel_rfl, allQ_cons (show (s = s) from rfl) (allQ_cons (show (ro = ro) from rfl) (allQ_cons (show (st = st) from rfl) (allQ_cons (show (fu = fu) from rfl) (allQ_cons (show (dn = dn) from rfl) (allQ_cons (show (es = es) from rfl) (allQ_cons h1 (allQ_cons h2 (allQ_cons h3 (allQ_cons h4 (allQ_cons (show (ro = ro) from rfl) (allQ_cons (show (st = st) from rfl) (allQ_cons (show (fu = fu) from rfl) (allQ_cons (show (dn = dn) from rfl) (allQ_cons (show (es = es) from rfl) (allQ_cons h5 (allQ_nil))))))))))))))))⟩

theorem re_ok (s : ByteArray) (ro st fu e : Int) (dn : Bool) (es es' : List (Rec × Ob)) (l : List Int)
 (h1 : ((Go.Num.errF dn es s) = (0 : Int)))
 (h2 : ((ByteArray.size s) ≤ (9223372036854775807 : Nat)))
 (h3 : ((List.length (Go.Num.obD (Go.Abs.obE es [(Go.Abs.Fd.s s)]))) ≤ (140737488355328 : Nat)))
 (h4 : ((Go.Num.obS (Go.Abs.obE es [(Go.Abs.Fd.s s)])) = (Go.Num.obS (Go.Abs.Ob.node [(Go.Abs.Fd.w (Go.Num.obD (Go.Abs.obE es [(Go.Abs.Fd.s s)]))), (Go.Abs.Fd.i (Go.Num.obS (Go.Abs.obE es [(Go.Abs.Fd.s s)])))] ([] : List (List (Rec × Ob)))))))
 (h5 : ((Go.Num.obD (Go.Abs.obE es [(Go.Abs.Fd.s s)])) = (Go.Num.obD (Go.Abs.Ob.node [(Go.Abs.Fd.w (Go.Num.obD (Go.Abs.obE es [(Go.Abs.Fd.s s)]))), (Go.Abs.Fd.i (Go.Num.obS (Go.Abs.obE es [(Go.Abs.Fd.s s)])))] ([] : List (List (Rec × Ob)))))))
 (h6 : ((0 : Int) = e))
 (h7 : ((Go.Abs.setE es [(Go.Abs.Fd.s s)] (Go.Abs.Ob.node [(Go.Abs.Fd.w (Go.Num.obD (Go.Abs.obE es [(Go.Abs.Fd.s s)]))), (Go.Abs.Fd.i (Go.Num.obS (Go.Abs.obE es [(Go.Abs.Fd.s s)])))] ([] : List (List (Rec × Ob))))) = es'))
 (h8 : ((Go.Num.obD (Go.Abs.obE es [(Go.Abs.Fd.s s)])) = l)) :
 ∃ ps, runO Try.prog DF gR0 100 Try.f15 (dkB ro st fu dn es, [.one (.ref 0 0), .one (.str s)]) [] (rdV e) (dkB ro st fu dn es' ++ [dynB l]) = some ps ∧ AllQ ps := ⟨_, by kernel_rfl, allQ_cons (show (s = s) from rfl) (allQ_cons (show (ro = ro) from rfl) (allQ_cons (show (st = st) from rfl) (allQ_cons (show (fu = fu) from rfl) (allQ_cons (show (dn = dn) from rfl) (allQ_cons (show (es = es) from rfl) (allQ_cons h1 (allQ_cons h2 (allQ_cons h3 (allQ_cons h4 (allQ_cons h5 (allQ_cons h6 (allQ_cons (show (ro = ro) from rfl) (allQ_cons (show (st = st) from rfl) (allQ_cons (show (fu = fu) from rfl) (allQ_cons (show (dn = dn) from rfl) (allQ_cons h7 (allQ_cons h8 (allQ_nil))))))))))))))))))⟩

theorem fu_run (n ro st fu fu' : Int) (dn : Bool) (es : List (Rec × Ob))
 (h1 : ((if ((0 : Int) > n) then (0 : Int) else n) = fu')) :
 ∃ ps, runO Try.prog DF [] 100 Try.f13 (dkB ro st fu dn es, [.one (.ref 0 0), .one (.int .i64 false n)]) [] (.tup []) (dkB ro st fu' dn es) = some ps ∧ AllQ ps := ⟨_, by kernel_rfl, allQ_cons (show (ro = ro) from rfl) (allQ_cons (show (st = st) from rfl) (allQ_cons h1 (allQ_cons (show (dn = dn) from rfl) (allQ_cons (show (es = es) from rfl) (allQ_nil)))))⟩

theorem fu_nil (n : Int) :
 ∃ ps, runO Try.prog DF [] 100 Try.f13 ([], [.one .nilp, .one (.int .i64 false n)]) [] (.tup []) [] = some ps ∧ AllQ ps := ⟨_, by kernel_rfl, allQ_nil⟩

theorem ss_run (ro st fu : Int) (dn : Bool) (es : List (Rec × Ob)) :
 ∃ ps, runO Try.prog DF [] 100 Try.f23 (dkB ro st fu dn es, [.one (.ref 0 0)]) [] (eV st) (dkB ro st fu dn es) = some ps ∧ AllQ ps := ⟨_, by kernel_rfl, allQ_cons (show (st = st) from rfl) (allQ_cons (show (ro = ro) from rfl) (allQ_cons (show (st = st) from rfl) (allQ_cons (show (fu = fu) from rfl) (allQ_cons (show (dn = dn) from rfl) (allQ_cons (show (es = es) from rfl) (allQ_nil))))))⟩

theorem dw_run (ro st fu : Int) (dn : Bool) (es : List (Rec × Ob)) :
 ∃ ps, runO Try.prog DF [] 100 Try.f24 (dkB ro st fu dn es, [.one (.ref 0 0)]) [.keep, .keep, .keep] (.v (.one (.bool false dn))) (dkB ro st fu dn es) = some ps ∧ AllQ ps := ⟨_, by kernel_rfl, allQ_cons (show (dn = dn) from rfl) (allQ_cons (show (ro = ro) from rfl) (allQ_cons (show (st = st) from rfl) (allQ_cons (show (fu = fu) from rfl) (allQ_cons (show (dn = dn) from rfl) (allQ_cons (show (es = es) from rfl) (allQ_nil))))))⟩

theorem ne_run (n ro : Int)
 (h1 : ((if ((4194304 : Int) < (if ((0 : Int) > n) then (0 : Int) else n)) then (4194304 : Int) else (if ((0 : Int) > n) then (0 : Int) else n)) = ro)) :
 ∃ ps, runO Try.prog DF [] 100 Try.f8 ([], [.one (.int .i64 false n)]) [] (.v (.one (.ref 0 0))) (dkB ro 0 0 false []) = some ps ∧ AllQ ps := ⟨_, by kernel_rfl, allQ_cons h1 (allQ_cons (show ((0 : Int) = (0 : Int)) from rfl) (allQ_cons (show ((0 : Int) = (0 : Int)) from rfl) (allQ_cons (show (Bool.false = Bool.false) from rfl) (allQ_cons (show (([] : List (Rec × Ob)) = ([] : List (Rec × Ob))) from rfl) (allQ_nil)))))⟩

noncomputable def gN : Gam DF := [(34, .op [true] namesQ), (35, .fz clD), (17, .rd [true] freeR), (32, .op [true, false, true] keepQ)]
def nmB (ns : List Rec) : BoxSt DF.τ := .dyn 9 (.lrs [.str] ns)
def fSh : List FK := [.str, .words .u8, .int .i64]
def imB (ns : List Rec) : BoxSt DF.τ := .dyn 46 (.lrs fSh ns)
theorem li_down (ro st fu : Int) (dn : Bool) (es : List (Rec × Ob)) (ns : List Rec)
 (h1 : (dn = Bool.true))
 (h2 : (([] : List (Rec)) = ns)) :
 ∃ ps, runO Try.prog DF gN 100 Try.f25 (dkB ro st fu dn es, [.one (.ref 0 0)]) [.is true, .keep] (.v (.one (.own 2))) (dkB ro st fu dn es ++ [nmB ns]) = some ps ∧ AllQ ps := ⟨_, by kernel_rfl, allQ_cons h1 (allQ_cons (show (ro = ro) from rfl) (allQ_cons (show (st = st) from rfl) (allQ_cons (show (fu = fu) from rfl) (allQ_cons (show (dn = dn) from rfl) (allQ_cons (show (es = es) from rfl) (allQ_cons h2 (allQ_nil)))))))⟩

theorem li_run (ro st fu : Int) (dn : Bool) (es : List (Rec × Ob)) (ns : List Rec)
 (h1 : (dn = Bool.false))
 (h2 : (Go.Num.Short es))
 (h3 : ((Go.Num.sortK es) = ns)) :
 ∃ ps, runO Try.prog DF gN 100 Try.f25 (dkB ro st fu dn es, [.one (.ref 0 0)]) [.is false] (.v (.one (.own 2))) (dkB ro st fu dn es ++ [nmB ns]) = some ps ∧ AllQ ps := ⟨_, by kernel_rfl, allQ_cons h1 (allQ_cons h2 (allQ_cons (show (ro = ro) from rfl) (allQ_cons (show (st = st) from rfl) (allQ_cons (show (fu = fu) from rfl) (allQ_cons (show (dn = dn) from rfl) (allQ_cons (show (es = es) from rfl) (allQ_cons h3 (allQ_nil))))))))⟩

def imSn (ro st fu : Int) (dn : Bool) (es : List (Rec × Ob)) (ns rs : List Rec) (k : Int) : Sn DF.τ where
  slots := [(0, .v (.one (.ref 0 0))), (3, .v (.one (.own 3))), (10, .v (.one (.own 2))), (11, .v (.one (.int .i64 false ns.length))), (12, .v (.one (.int .i64 false k)))]
  boxes := enumB 0 (dkB ro st fu dn es ++ [nmB ns, imB rs])
  nt := 34
  np := 2
def imEnd (ro st fu : Int) (dn : Bool) (es : List (Rec × Ob)) (rs : List Rec) : Sn DF.τ where
  slots := [(0, .v (.one (.ref 0 0))), (3, .v (.one (.own 3)))]
  boxes := enumB 0 (dkB ro st fu dn es) ++ [(3, imB rs)]
  nt := 34
  np := 2
theorem im_step (ro st fu : Int) (dn : Bool) (es : List (Rec × Ob)) (ns rs rs' : List Rec) (k k' : Int)
 (h1 : ((decide (k < (((List.length ns) : Nat) : Int))) = Bool.true))
 (h2 : ((0 : Int) ≤ k))
 (h3 : (k < (((List.length ns) : Nat) : Int)))
 (h4 : ((Int.toNat k) < (List.length ns)))
 (h5 : (Go.Abs.KeyT Go.Proofs.Try.prog (9 : TypeId) Bool.false [Go.Abs.FK.str]))
 (h6 : ((Go.Abs.keyOK [Go.Abs.FK.str] [(Go.Abs.Fd.s (Go.Abs.recS (List.getD ns (Int.toNat k) ([] : List (Abs.Fd))) (0 : Nat)))]) = Bool.true))
 (h7 : ((Go.Abs.hasE es [(Go.Abs.Fd.s (Go.Abs.recS (List.getD ns (Int.toNat k) ([] : List (Abs.Fd))) (0 : Nat)))]) = Bool.true))
 (h8 : ((List.length (Go.Num.obD (Go.Abs.obE es [(Go.Abs.Fd.s (Go.Abs.recS (List.getD ns (Int.toNat k) ([] : List (Abs.Fd))) (0 : Nat)))]))) ≤ (140737488355328 : Nat)))
 (h9 : ((((List.length rs) + (1 : Nat)) * (48 : Nat)) ≤ (140737488355328 : Nat)))
 (h10 : (((List.length rs) + (1 : Nat)) ≤ (9223372036854775807 : Nat)))
 (h11 : (Go.Abs.InI64 (k + (1 : Int))))
 (h12 : ((Go.Num.obS (Go.Abs.obE es [(Go.Abs.Fd.s (Go.Abs.recS (List.getD ns (Int.toNat k) ([] : List (Abs.Fd))) (0 : Nat)))])) = (Go.Num.obS (Go.Abs.Ob.node [(Go.Abs.Fd.w (Go.Num.obD (Go.Abs.obE es [(Go.Abs.Fd.s (Go.Abs.recS (List.getD ns (Int.toNat k) ([] : List (Abs.Fd))) (0 : Nat)))]))), (Go.Abs.Fd.i (Go.Num.obS (Go.Abs.obE es [(Go.Abs.Fd.s (Go.Abs.recS (List.getD ns (Int.toNat k) ([] : List (Abs.Fd))) (0 : Nat)))])))] ([] : List (List (Rec × Ob)))))))
 (h13 : ((Go.Num.obD (Go.Abs.obE es [(Go.Abs.Fd.s (Go.Abs.recS (List.getD ns (Int.toNat k) ([] : List (Abs.Fd))) (0 : Nat)))])) = (Go.Num.obD (Go.Abs.Ob.node [(Go.Abs.Fd.w (Go.Num.obD (Go.Abs.obE es [(Go.Abs.Fd.s (Go.Abs.recS (List.getD ns (Int.toNat k) ([] : List (Abs.Fd))) (0 : Nat)))]))), (Go.Abs.Fd.i (Go.Num.obS (Go.Abs.obE es [(Go.Abs.Fd.s (Go.Abs.recS (List.getD ns (Int.toNat k) ([] : List (Abs.Fd))) (0 : Nat)))])))] ([] : List (List (Rec × Ob)))))))
 (h14 : ((k + (1 : Int)) = k'))
 (h15 : ((Go.Abs.setE es [(Go.Abs.Fd.s (Go.Abs.recS (List.getD ns (Int.toNat k) ([] : List (Abs.Fd))) (0 : Nat)))] (Go.Abs.Ob.node [(Go.Abs.Fd.w (Go.Num.obD (Go.Abs.obE es [(Go.Abs.Fd.s (Go.Abs.recS (List.getD ns (Int.toNat k) ([] : List (Abs.Fd))) (0 : Nat)))]))), (Go.Abs.Fd.i (Go.Num.obS (Go.Abs.obE es [(Go.Abs.Fd.s (Go.Abs.recS (List.getD ns (Int.toNat k) ([] : List (Abs.Fd))) (0 : Nat)))])))] ([] : List (List (Rec × Ob))))) = es))
 (h16 : ((rs ++ [[(Go.Abs.Fd.s (Go.Abs.recS (List.getD ns (Int.toNat k) ([] : List (Abs.Fd))) (0 : Nat))), (Go.Abs.Fd.w (Go.Num.obD (Go.Abs.obE es [(Go.Abs.Fd.s (Go.Abs.recS (List.getD ns (Int.toNat k) ([] : List (Abs.Fd))) (0 : Nat)))]))), (Go.Abs.Fd.i (Go.Num.obS (Go.Abs.obE es [(Go.Abs.Fd.s (Go.Abs.recS (List.getD ns (Int.toNat k) ([] : List (Abs.Fd))) (0 : Nat)))])))]]) = rs')) :
 ∃ ps, stepPs Try.prog DF gN 100 (bodyN Try.f18 0) 100 (imSn ro st fu dn es ns rs k).st [.is true] .normal (imSn ro st fu dn es ns rs' k') = some ps ∧ AllQ ps := ⟨_, by kernel_rfl, allQ_cons h1 (allQ_cons h2 (allQ_cons h3 (allQ_cons h4 (allQ_cons h5 (allQ_cons h6 (allQ_cons h7 (allQ_cons h8 (allQ_cons h9 (allQ_cons h10 (allQ_cons h11 (allQ_cons h12 (allQ_cons h13 (allQ_cons (show ((((List.length ns) : Nat) : Int) = (((List.length ns) : Nat) : Int)) from rfl) (allQ_cons h14 (allQ_cons (show (ro = ro) from rfl) (allQ_cons (show (st = st) from rfl) (allQ_cons (show (fu = fu) from rfl) (allQ_cons (show (dn = dn) from rfl) (allQ_cons h15 (allQ_cons (show (ns = ns) from rfl) (allQ_cons h16 (allQ_nil))))))))))))))))))))))⟩

theorem im_exit (ro st fu : Int) (dn : Bool) (es : List (Rec × Ob)) (ns rs : List Rec) (k : Int)
 (h1 : ((decide (k < (((List.length ns) : Nat) : Int))) = Bool.false)) :
 ∃ ps, stepPs Try.prog DF gN 100 (bodyN Try.f18 0) 100 (imSn ro st fu dn es ns rs k).st [.is false] (.exit 0) (imEnd ro st fu dn es rs) = some ps ∧ AllQ ps := ⟨_, by kernel_rfl, allQ_cons h1 (allQ_cons (show (ro = ro) from rfl) (allQ_cons (show (st = st) from rfl) (allQ_cons (show (fu = fu) from rfl) (allQ_cons (show (dn = dn) from rfl) (allQ_cons (show (es = es) from rfl) (allQ_cons (show (rs = rs) from rfl) (allQ_nil)))))))⟩

theorem im_run (ro st fu : Int) (dn : Bool) (es : List (Rec × Ob)) (ns rs : List Rec)
 (h1 : (Go.Num.Short es))
 (h2 : SumOK Try.prog DF (bodyN Try.f18 0) (loopL DF (imSn ro st fu dn es ns [] (0 : Nat)) (.exit 0) (imEnd ro st fu dn es rs)))
 (h3 : ((((List.length (Go.Num.sortK es)) : Nat) : Int) = (((List.length ns) : Nat) : Int)))
 (h4 : ((Go.Num.sortK es) = ns)) :
 ∃ ps, runO Try.prog DF gN 100 Try.f18 (dkB ro st fu dn es, [.one (.ref 0 0)]) [.loop (loopL DF (imSn ro st fu dn es ns [] (0 : Nat)) (.exit 0) (imEnd ro st fu dn es rs))] (.v (.one (.own 2))) (dkB ro st fu dn es ++ [imB rs]) = some ps ∧ AllQ ps := ⟨_, by kernel_rfl, allQ_cons h1 (allQ_cons h2 (allQ_cons h3 (allQ_cons (show ((0 : Int) = (((0 : Nat) : Nat) : Int)) from by decide) (allQ_cons (show (ro = ro) from rfl) (allQ_cons (show (st = st) from rfl) (allQ_cons (show (fu = fu) from rfl) (allQ_cons (show (dn = dn) from rfl) (allQ_cons (show (es = es) from rfl) (allQ_cons h4 (allQ_cons (show (([] : List (Rec)) = ([] : List (Rec))) from rfl) (allQ_cons (show (ro = ro) from rfl) (allQ_cons (show (st = st) from rfl) (allQ_cons (show (fu = fu) from rfl) (allQ_cons (show (dn = dn) from rfl) (allQ_cons (show (es = es) from rfl) (allQ_cons (show (rs = rs) from rfl) (allQ_nil)))))))))))))))))⟩

theorem im_nil  :
 ∃ ps, runO Try.prog DF gN 100 Try.f18 ([], [.one .nilp]) [] (.v (.one .nil)) [] = some ps ∧ AllQ ps := ⟨_, by kernel_rfl, allQ_nil⟩

def crSn (ro st fu : Int) (dn : Bool) (keep : List Int) (free : Int) (es : List (Rec × Ob)) (ns : List Rec) (k : Int) : Sn DF.τ where
  slots := [(0, .v (.one (.ref 0 0))), (1, .v (.one (.words .i64 keep))), (4, .v (.one (.int .i64 false free))), (14, .v (.one (.own 2))), (15, .v (.one (.int .i64 false ns.length))), (16, .v (.one (.int .i64 false k)))]
  boxes := enumB 0 (dkB ro st fu dn es ++ [nmB ns])
  nt := 69
  np := 2
def crEnd (ro st fu : Int) (dn : Bool) (es : List (Rec × Ob)) : Sn DF.τ where
  slots := [(0, .v (.one (.ref 0 0)))]
  boxes := enumB 0 (dkB ro st fu dn es)
  nt := 69
  np := 2
theorem cr_in (ro st fu free free' : Int) (keep : List Int) (dn : Bool) (es es' : List (Rec × Ob)) (ns : List Rec) (k k' : Int)
 (h1 : ((decide (k < (((List.length ns) : Nat) : Int))) = Bool.true))
 (h2 : ((0 : Int) ≤ k))
 (h3 : (k < (((List.length ns) : Nat) : Int)))
 (h4 : ((Int.toNat k) < (List.length ns)))
 (h5 : (Go.Abs.KeyT Go.Proofs.Try.prog (9 : TypeId) Bool.false [Go.Abs.FK.str]))
 (h6 : ((Go.Abs.keyOK [Go.Abs.FK.str] [(Go.Abs.Fd.s (Go.Abs.recS (List.getD ns (Int.toNat k) ([] : List (Abs.Fd))) (0 : Nat)))]) = Bool.true))
 (h7 : ((Go.Abs.hasE es [(Go.Abs.Fd.s (Go.Abs.recS (List.getD ns (Int.toNat k) ([] : List (Abs.Fd))) (0 : Nat)))]) = Bool.true))
 (h8 : ((decide (k < (((List.length keep) : Nat) : Int))) = Bool.true))
 (h9 : (k < (((List.length keep) : Nat) : Int)))
 (h10 : (Go.Abs.InI64 ((((List.length (Go.Num.obD (Go.Abs.obE es [(Go.Abs.Fd.s (Go.Abs.recS (List.getD ns (Int.toNat k) ([] : List (Abs.Fd))) (0 : Nat)))]))) : Nat) : Int) - (Go.Num.obS (Go.Abs.obE es [(Go.Abs.Fd.s (Go.Abs.recS (List.getD ns (Int.toNat k) ([] : List (Abs.Fd))) (0 : Nat)))])))))
 (h11 : (Go.Abs.InI64 ((Go.Num.obS (Go.Abs.obE es [(Go.Abs.Fd.s (Go.Abs.recS (List.getD ns (Int.toNat k) ([] : List (Abs.Fd))) (0 : Nat)))])) + (if (free < (if (((((List.length (Go.Num.obD (Go.Abs.obE es [(Go.Abs.Fd.s (Go.Abs.recS (List.getD ns (Int.toNat k) ([] : List (Abs.Fd))) (0 : Nat)))]))) : Nat) : Int) - (Go.Num.obS (Go.Abs.obE es [(Go.Abs.Fd.s (Go.Abs.recS (List.getD ns (Int.toNat k) ([] : List (Abs.Fd))) (0 : Nat)))]))) < (if ((0 : Int) > (List.getD keep (Int.toNat k) (0 : Int))) then (0 : Int) else (List.getD keep (Int.toNat k) (0 : Int)))) then ((((List.length (Go.Num.obD (Go.Abs.obE es [(Go.Abs.Fd.s (Go.Abs.recS (List.getD ns (Int.toNat k) ([] : List (Abs.Fd))) (0 : Nat)))]))) : Nat) : Int) - (Go.Num.obS (Go.Abs.obE es [(Go.Abs.Fd.s (Go.Abs.recS (List.getD ns (Int.toNat k) ([] : List (Abs.Fd))) (0 : Nat)))]))) else (if ((0 : Int) > (List.getD keep (Int.toNat k) (0 : Int))) then (0 : Int) else (List.getD keep (Int.toNat k) (0 : Int))))) then free else (if (((((List.length (Go.Num.obD (Go.Abs.obE es [(Go.Abs.Fd.s (Go.Abs.recS (List.getD ns (Int.toNat k) ([] : List (Abs.Fd))) (0 : Nat)))]))) : Nat) : Int) - (Go.Num.obS (Go.Abs.obE es [(Go.Abs.Fd.s (Go.Abs.recS (List.getD ns (Int.toNat k) ([] : List (Abs.Fd))) (0 : Nat)))]))) < (if ((0 : Int) > (List.getD keep (Int.toNat k) (0 : Int))) then (0 : Int) else (List.getD keep (Int.toNat k) (0 : Int)))) then ((((List.length (Go.Num.obD (Go.Abs.obE es [(Go.Abs.Fd.s (Go.Abs.recS (List.getD ns (Int.toNat k) ([] : List (Abs.Fd))) (0 : Nat)))]))) : Nat) : Int) - (Go.Num.obS (Go.Abs.obE es [(Go.Abs.Fd.s (Go.Abs.recS (List.getD ns (Int.toNat k) ([] : List (Abs.Fd))) (0 : Nat)))]))) else (if ((0 : Int) > (List.getD keep (Int.toNat k) (0 : Int))) then (0 : Int) else (List.getD keep (Int.toNat k) (0 : Int))))))))
 (h12 : ((0 : Int) ≤ ((Go.Num.obS (Go.Abs.obE es [(Go.Abs.Fd.s (Go.Abs.recS (List.getD ns (Int.toNat k) ([] : List (Abs.Fd))) (0 : Nat)))])) + (if (free < (if (((((List.length (Go.Num.obD (Go.Abs.obE es [(Go.Abs.Fd.s (Go.Abs.recS (List.getD ns (Int.toNat k) ([] : List (Abs.Fd))) (0 : Nat)))]))) : Nat) : Int) - (Go.Num.obS (Go.Abs.obE es [(Go.Abs.Fd.s (Go.Abs.recS (List.getD ns (Int.toNat k) ([] : List (Abs.Fd))) (0 : Nat)))]))) < (if ((0 : Int) > (List.getD keep (Int.toNat k) (0 : Int))) then (0 : Int) else (List.getD keep (Int.toNat k) (0 : Int)))) then ((((List.length (Go.Num.obD (Go.Abs.obE es [(Go.Abs.Fd.s (Go.Abs.recS (List.getD ns (Int.toNat k) ([] : List (Abs.Fd))) (0 : Nat)))]))) : Nat) : Int) - (Go.Num.obS (Go.Abs.obE es [(Go.Abs.Fd.s (Go.Abs.recS (List.getD ns (Int.toNat k) ([] : List (Abs.Fd))) (0 : Nat)))]))) else (if ((0 : Int) > (List.getD keep (Int.toNat k) (0 : Int))) then (0 : Int) else (List.getD keep (Int.toNat k) (0 : Int))))) then free else (if (((((List.length (Go.Num.obD (Go.Abs.obE es [(Go.Abs.Fd.s (Go.Abs.recS (List.getD ns (Int.toNat k) ([] : List (Abs.Fd))) (0 : Nat)))]))) : Nat) : Int) - (Go.Num.obS (Go.Abs.obE es [(Go.Abs.Fd.s (Go.Abs.recS (List.getD ns (Int.toNat k) ([] : List (Abs.Fd))) (0 : Nat)))]))) < (if ((0 : Int) > (List.getD keep (Int.toNat k) (0 : Int))) then (0 : Int) else (List.getD keep (Int.toNat k) (0 : Int)))) then ((((List.length (Go.Num.obD (Go.Abs.obE es [(Go.Abs.Fd.s (Go.Abs.recS (List.getD ns (Int.toNat k) ([] : List (Abs.Fd))) (0 : Nat)))]))) : Nat) : Int) - (Go.Num.obS (Go.Abs.obE es [(Go.Abs.Fd.s (Go.Abs.recS (List.getD ns (Int.toNat k) ([] : List (Abs.Fd))) (0 : Nat)))]))) else (if ((0 : Int) > (List.getD keep (Int.toNat k) (0 : Int))) then (0 : Int) else (List.getD keep (Int.toNat k) (0 : Int))))))))
 (h13 : (((Go.Num.obS (Go.Abs.obE es [(Go.Abs.Fd.s (Go.Abs.recS (List.getD ns (Int.toNat k) ([] : List (Abs.Fd))) (0 : Nat)))])) + (if (free < (if (((((List.length (Go.Num.obD (Go.Abs.obE es [(Go.Abs.Fd.s (Go.Abs.recS (List.getD ns (Int.toNat k) ([] : List (Abs.Fd))) (0 : Nat)))]))) : Nat) : Int) - (Go.Num.obS (Go.Abs.obE es [(Go.Abs.Fd.s (Go.Abs.recS (List.getD ns (Int.toNat k) ([] : List (Abs.Fd))) (0 : Nat)))]))) < (if ((0 : Int) > (List.getD keep (Int.toNat k) (0 : Int))) then (0 : Int) else (List.getD keep (Int.toNat k) (0 : Int)))) then ((((List.length (Go.Num.obD (Go.Abs.obE es [(Go.Abs.Fd.s (Go.Abs.recS (List.getD ns (Int.toNat k) ([] : List (Abs.Fd))) (0 : Nat)))]))) : Nat) : Int) - (Go.Num.obS (Go.Abs.obE es [(Go.Abs.Fd.s (Go.Abs.recS (List.getD ns (Int.toNat k) ([] : List (Abs.Fd))) (0 : Nat)))]))) else (if ((0 : Int) > (List.getD keep (Int.toNat k) (0 : Int))) then (0 : Int) else (List.getD keep (Int.toNat k) (0 : Int))))) then free else (if (((((List.length (Go.Num.obD (Go.Abs.obE es [(Go.Abs.Fd.s (Go.Abs.recS (List.getD ns (Int.toNat k) ([] : List (Abs.Fd))) (0 : Nat)))]))) : Nat) : Int) - (Go.Num.obS (Go.Abs.obE es [(Go.Abs.Fd.s (Go.Abs.recS (List.getD ns (Int.toNat k) ([] : List (Abs.Fd))) (0 : Nat)))]))) < (if ((0 : Int) > (List.getD keep (Int.toNat k) (0 : Int))) then (0 : Int) else (List.getD keep (Int.toNat k) (0 : Int)))) then ((((List.length (Go.Num.obD (Go.Abs.obE es [(Go.Abs.Fd.s (Go.Abs.recS (List.getD ns (Int.toNat k) ([] : List (Abs.Fd))) (0 : Nat)))]))) : Nat) : Int) - (Go.Num.obS (Go.Abs.obE es [(Go.Abs.Fd.s (Go.Abs.recS (List.getD ns (Int.toNat k) ([] : List (Abs.Fd))) (0 : Nat)))]))) else (if ((0 : Int) > (List.getD keep (Int.toNat k) (0 : Int))) then (0 : Int) else (List.getD keep (Int.toNat k) (0 : Int)))))) ≤ (((List.length (Go.Num.obD (Go.Abs.obE es [(Go.Abs.Fd.s (Go.Abs.recS (List.getD ns (Int.toNat k) ([] : List (Abs.Fd))) (0 : Nat)))]))) : Nat) : Int)))
 (h14 : (Go.Abs.InI64 (free - (if (free < (if (((((List.length (Go.Num.obD (Go.Abs.obE es [(Go.Abs.Fd.s (Go.Abs.recS (List.getD ns (Int.toNat k) ([] : List (Abs.Fd))) (0 : Nat)))]))) : Nat) : Int) - (Go.Num.obS (Go.Abs.obE es [(Go.Abs.Fd.s (Go.Abs.recS (List.getD ns (Int.toNat k) ([] : List (Abs.Fd))) (0 : Nat)))]))) < (if ((0 : Int) > (List.getD keep (Int.toNat k) (0 : Int))) then (0 : Int) else (List.getD keep (Int.toNat k) (0 : Int)))) then ((((List.length (Go.Num.obD (Go.Abs.obE es [(Go.Abs.Fd.s (Go.Abs.recS (List.getD ns (Int.toNat k) ([] : List (Abs.Fd))) (0 : Nat)))]))) : Nat) : Int) - (Go.Num.obS (Go.Abs.obE es [(Go.Abs.Fd.s (Go.Abs.recS (List.getD ns (Int.toNat k) ([] : List (Abs.Fd))) (0 : Nat)))]))) else (if ((0 : Int) > (List.getD keep (Int.toNat k) (0 : Int))) then (0 : Int) else (List.getD keep (Int.toNat k) (0 : Int))))) then free else (if (((((List.length (Go.Num.obD (Go.Abs.obE es [(Go.Abs.Fd.s (Go.Abs.recS (List.getD ns (Int.toNat k) ([] : List (Abs.Fd))) (0 : Nat)))]))) : Nat) : Int) - (Go.Num.obS (Go.Abs.obE es [(Go.Abs.Fd.s (Go.Abs.recS (List.getD ns (Int.toNat k) ([] : List (Abs.Fd))) (0 : Nat)))]))) < (if ((0 : Int) > (List.getD keep (Int.toNat k) (0 : Int))) then (0 : Int) else (List.getD keep (Int.toNat k) (0 : Int)))) then ((((List.length (Go.Num.obD (Go.Abs.obE es [(Go.Abs.Fd.s (Go.Abs.recS (List.getD ns (Int.toNat k) ([] : List (Abs.Fd))) (0 : Nat)))]))) : Nat) : Int) - (Go.Num.obS (Go.Abs.obE es [(Go.Abs.Fd.s (Go.Abs.recS (List.getD ns (Int.toNat k) ([] : List (Abs.Fd))) (0 : Nat)))]))) else (if ((0 : Int) > (List.getD keep (Int.toNat k) (0 : Int))) then (0 : Int) else (List.getD keep (Int.toNat k) (0 : Int))))))))
 (h15 : (Go.Abs.InI64 (k + (1 : Int))))
 (h16 : ((free - (if (free < (if (((((List.length (Go.Num.obD (Go.Abs.obE es [(Go.Abs.Fd.s (Go.Abs.recS (List.getD ns (Int.toNat k) ([] : List (Abs.Fd))) (0 : Nat)))]))) : Nat) : Int) - (Go.Num.obS (Go.Abs.obE es [(Go.Abs.Fd.s (Go.Abs.recS (List.getD ns (Int.toNat k) ([] : List (Abs.Fd))) (0 : Nat)))]))) < (if ((0 : Int) > (List.getD keep (Int.toNat k) (0 : Int))) then (0 : Int) else (List.getD keep (Int.toNat k) (0 : Int)))) then ((((List.length (Go.Num.obD (Go.Abs.obE es [(Go.Abs.Fd.s (Go.Abs.recS (List.getD ns (Int.toNat k) ([] : List (Abs.Fd))) (0 : Nat)))]))) : Nat) : Int) - (Go.Num.obS (Go.Abs.obE es [(Go.Abs.Fd.s (Go.Abs.recS (List.getD ns (Int.toNat k) ([] : List (Abs.Fd))) (0 : Nat)))]))) else (if ((0 : Int) > (List.getD keep (Int.toNat k) (0 : Int))) then (0 : Int) else (List.getD keep (Int.toNat k) (0 : Int))))) then free else (if (((((List.length (Go.Num.obD (Go.Abs.obE es [(Go.Abs.Fd.s (Go.Abs.recS (List.getD ns (Int.toNat k) ([] : List (Abs.Fd))) (0 : Nat)))]))) : Nat) : Int) - (Go.Num.obS (Go.Abs.obE es [(Go.Abs.Fd.s (Go.Abs.recS (List.getD ns (Int.toNat k) ([] : List (Abs.Fd))) (0 : Nat)))]))) < (if ((0 : Int) > (List.getD keep (Int.toNat k) (0 : Int))) then (0 : Int) else (List.getD keep (Int.toNat k) (0 : Int)))) then ((((List.length (Go.Num.obD (Go.Abs.obE es [(Go.Abs.Fd.s (Go.Abs.recS (List.getD ns (Int.toNat k) ([] : List (Abs.Fd))) (0 : Nat)))]))) : Nat) : Int) - (Go.Num.obS (Go.Abs.obE es [(Go.Abs.Fd.s (Go.Abs.recS (List.getD ns (Int.toNat k) ([] : List (Abs.Fd))) (0 : Nat)))]))) else (if ((0 : Int) > (List.getD keep (Int.toNat k) (0 : Int))) then (0 : Int) else (List.getD keep (Int.toNat k) (0 : Int)))))) = free'))
 (h17 : ((k + (1 : Int)) = k'))
 (h18 : ((Go.Abs.setE es [(Go.Abs.Fd.s (Go.Abs.recS (List.getD ns (Int.toNat k) ([] : List (Abs.Fd))) (0 : Nat)))] (Go.Abs.Ob.node [(Go.Abs.Fd.w (List.take (Int.toNat ((Go.Num.obS (Go.Abs.obE es [(Go.Abs.Fd.s (Go.Abs.recS (List.getD ns (Int.toNat k) ([] : List (Abs.Fd))) (0 : Nat)))])) + (if (free < (if (((((List.length (Go.Num.obD (Go.Abs.obE es [(Go.Abs.Fd.s (Go.Abs.recS (List.getD ns (Int.toNat k) ([] : List (Abs.Fd))) (0 : Nat)))]))) : Nat) : Int) - (Go.Num.obS (Go.Abs.obE es [(Go.Abs.Fd.s (Go.Abs.recS (List.getD ns (Int.toNat k) ([] : List (Abs.Fd))) (0 : Nat)))]))) < (if ((0 : Int) > (List.getD keep (Int.toNat k) (0 : Int))) then (0 : Int) else (List.getD keep (Int.toNat k) (0 : Int)))) then ((((List.length (Go.Num.obD (Go.Abs.obE es [(Go.Abs.Fd.s (Go.Abs.recS (List.getD ns (Int.toNat k) ([] : List (Abs.Fd))) (0 : Nat)))]))) : Nat) : Int) - (Go.Num.obS (Go.Abs.obE es [(Go.Abs.Fd.s (Go.Abs.recS (List.getD ns (Int.toNat k) ([] : List (Abs.Fd))) (0 : Nat)))]))) else (if ((0 : Int) > (List.getD keep (Int.toNat k) (0 : Int))) then (0 : Int) else (List.getD keep (Int.toNat k) (0 : Int))))) then free else (if (((((List.length (Go.Num.obD (Go.Abs.obE es [(Go.Abs.Fd.s (Go.Abs.recS (List.getD ns (Int.toNat k) ([] : List (Abs.Fd))) (0 : Nat)))]))) : Nat) : Int) - (Go.Num.obS (Go.Abs.obE es [(Go.Abs.Fd.s (Go.Abs.recS (List.getD ns (Int.toNat k) ([] : List (Abs.Fd))) (0 : Nat)))]))) < (if ((0 : Int) > (List.getD keep (Int.toNat k) (0 : Int))) then (0 : Int) else (List.getD keep (Int.toNat k) (0 : Int)))) then ((((List.length (Go.Num.obD (Go.Abs.obE es [(Go.Abs.Fd.s (Go.Abs.recS (List.getD ns (Int.toNat k) ([] : List (Abs.Fd))) (0 : Nat)))]))) : Nat) : Int) - (Go.Num.obS (Go.Abs.obE es [(Go.Abs.Fd.s (Go.Abs.recS (List.getD ns (Int.toNat k) ([] : List (Abs.Fd))) (0 : Nat)))]))) else (if ((0 : Int) > (List.getD keep (Int.toNat k) (0 : Int))) then (0 : Int) else (List.getD keep (Int.toNat k) (0 : Int))))))) (Go.Num.obD (Go.Abs.obE es [(Go.Abs.Fd.s (Go.Abs.recS (List.getD ns (Int.toNat k) ([] : List (Abs.Fd))) (0 : Nat)))])))), (Go.Abs.Fd.i ((Go.Num.obS (Go.Abs.obE es [(Go.Abs.Fd.s (Go.Abs.recS (List.getD ns (Int.toNat k) ([] : List (Abs.Fd))) (0 : Nat)))])) + (if (free < (if (((((List.length (Go.Num.obD (Go.Abs.obE es [(Go.Abs.Fd.s (Go.Abs.recS (List.getD ns (Int.toNat k) ([] : List (Abs.Fd))) (0 : Nat)))]))) : Nat) : Int) - (Go.Num.obS (Go.Abs.obE es [(Go.Abs.Fd.s (Go.Abs.recS (List.getD ns (Int.toNat k) ([] : List (Abs.Fd))) (0 : Nat)))]))) < (if ((0 : Int) > (List.getD keep (Int.toNat k) (0 : Int))) then (0 : Int) else (List.getD keep (Int.toNat k) (0 : Int)))) then ((((List.length (Go.Num.obD (Go.Abs.obE es [(Go.Abs.Fd.s (Go.Abs.recS (List.getD ns (Int.toNat k) ([] : List (Abs.Fd))) (0 : Nat)))]))) : Nat) : Int) - (Go.Num.obS (Go.Abs.obE es [(Go.Abs.Fd.s (Go.Abs.recS (List.getD ns (Int.toNat k) ([] : List (Abs.Fd))) (0 : Nat)))]))) else (if ((0 : Int) > (List.getD keep (Int.toNat k) (0 : Int))) then (0 : Int) else (List.getD keep (Int.toNat k) (0 : Int))))) then free else (if (((((List.length (Go.Num.obD (Go.Abs.obE es [(Go.Abs.Fd.s (Go.Abs.recS (List.getD ns (Int.toNat k) ([] : List (Abs.Fd))) (0 : Nat)))]))) : Nat) : Int) - (Go.Num.obS (Go.Abs.obE es [(Go.Abs.Fd.s (Go.Abs.recS (List.getD ns (Int.toNat k) ([] : List (Abs.Fd))) (0 : Nat)))]))) < (if ((0 : Int) > (List.getD keep (Int.toNat k) (0 : Int))) then (0 : Int) else (List.getD keep (Int.toNat k) (0 : Int)))) then ((((List.length (Go.Num.obD (Go.Abs.obE es [(Go.Abs.Fd.s (Go.Abs.recS (List.getD ns (Int.toNat k) ([] : List (Abs.Fd))) (0 : Nat)))]))) : Nat) : Int) - (Go.Num.obS (Go.Abs.obE es [(Go.Abs.Fd.s (Go.Abs.recS (List.getD ns (Int.toNat k) ([] : List (Abs.Fd))) (0 : Nat)))]))) else (if ((0 : Int) > (List.getD keep (Int.toNat k) (0 : Int))) then (0 : Int) else (List.getD keep (Int.toNat k) (0 : Int)))))))] ([] : List (List (Rec × Ob))))) = es')) :
 ∃ ps, stepPs Try.prog DF gN 100 (bodyN Try.f14 0) 100 (crSn ro st fu dn keep free es ns k).st [.is true, .is true] .normal (crSn ro st fu dn keep free' es' ns k') = some ps ∧ AllQ ps := ⟨_, by kernel_rfl, allQ_cons h1 (allQ_cons h2 (allQ_cons h3 (allQ_cons h4 (allQ_cons h5 (allQ_cons h6 (allQ_cons h7 (allQ_cons h8 (allQ_cons h2 (allQ_cons h9 (allQ_cons h10 (allQ_cons h11 (allQ_cons h12 (allQ_cons h13 (allQ_cons h14 (allQ_cons (show ((Go.Abs.recS (List.getD ns (Int.toNat k) ([] : List (Abs.Fd))) (0 : Nat)) = (Go.Abs.recS (List.getD ns (Int.toNat k) ([] : List (Abs.Fd))) (0 : Nat))) from rfl) (allQ_cons (show (((Go.Num.obS (Go.Abs.obE es [(Go.Abs.Fd.s (Go.Abs.recS (List.getD ns (Int.toNat k) ([] : List (Abs.Fd))) (0 : Nat)))])) + (if (free < (if (((((List.length (Go.Num.obD (Go.Abs.obE es [(Go.Abs.Fd.s (Go.Abs.recS (List.getD ns (Int.toNat k) ([] : List (Abs.Fd))) (0 : Nat)))]))) : Nat) : Int) - (Go.Num.obS (Go.Abs.obE es [(Go.Abs.Fd.s (Go.Abs.recS (List.getD ns (Int.toNat k) ([] : List (Abs.Fd))) (0 : Nat)))]))) < (if ((0 : Int) > (List.getD keep (Int.toNat k) (0 : Int))) then (0 : Int) else (List.getD keep (Int.toNat k) (0 : Int)))) then ((((List.length (Go.Num.obD (Go.Abs.obE es [(Go.Abs.Fd.s (Go.Abs.recS (List.getD ns (Int.toNat k) ([] : List (Abs.Fd))) (0 : Nat)))]))) : Nat) : Int) - (Go.Num.obS (Go.Abs.obE es [(Go.Abs.Fd.s (Go.Abs.recS (List.getD ns (Int.toNat k) ([] : List (Abs.Fd))) (0 : Nat)))]))) else (if ((0 : Int) > (List.getD keep (Int.toNat k) (0 : Int))) then (0 : Int) else (List.getD keep (Int.toNat k) (0 : Int))))) then free else (if (((((List.length (Go.Num.obD (Go.Abs.obE es [(Go.Abs.Fd.s (Go.Abs.recS (List.getD ns (Int.toNat k) ([] : List (Abs.Fd))) (0 : Nat)))]))) : Nat) : Int) - (Go.Num.obS (Go.Abs.obE es [(Go.Abs.Fd.s (Go.Abs.recS (List.getD ns (Int.toNat k) ([] : List (Abs.Fd))) (0 : Nat)))]))) < (if ((0 : Int) > (List.getD keep (Int.toNat k) (0 : Int))) then (0 : Int) else (List.getD keep (Int.toNat k) (0 : Int)))) then ((((List.length (Go.Num.obD (Go.Abs.obE es [(Go.Abs.Fd.s (Go.Abs.recS (List.getD ns (Int.toNat k) ([] : List (Abs.Fd))) (0 : Nat)))]))) : Nat) : Int) - (Go.Num.obS (Go.Abs.obE es [(Go.Abs.Fd.s (Go.Abs.recS (List.getD ns (Int.toNat k) ([] : List (Abs.Fd))) (0 : Nat)))]))) else (if ((0 : Int) > (List.getD keep (Int.toNat k) (0 : Int))) then (0 : Int) else (List.getD keep (Int.toNat k) (0 : Int)))))) = ((Go.Num.obS (Go.Abs.obE es [(Go.Abs.Fd.s (Go.Abs.recS (List.getD ns (Int.toNat k) ([] : List (Abs.Fd))) (0 : Nat)))])) + (if (free < (if (((((List.length (Go.Num.obD (Go.Abs.obE es [(Go.Abs.Fd.s (Go.Abs.recS (List.getD ns (Int.toNat k) ([] : List (Abs.Fd))) (0 : Nat)))]))) : Nat) : Int) - (Go.Num.obS (Go.Abs.obE es [(Go.Abs.Fd.s (Go.Abs.recS (List.getD ns (Int.toNat k) ([] : List (Abs.Fd))) (0 : Nat)))]))) < (if ((0 : Int) > (List.getD keep (Int.toNat k) (0 : Int))) then (0 : Int) else (List.getD keep (Int.toNat k) (0 : Int)))) then ((((List.length (Go.Num.obD (Go.Abs.obE es [(Go.Abs.Fd.s (Go.Abs.recS (List.getD ns (Int.toNat k) ([] : List (Abs.Fd))) (0 : Nat)))]))) : Nat) : Int) - (Go.Num.obS (Go.Abs.obE es [(Go.Abs.Fd.s (Go.Abs.recS (List.getD ns (Int.toNat k) ([] : List (Abs.Fd))) (0 : Nat)))]))) else (if ((0 : Int) > (List.getD keep (Int.toNat k) (0 : Int))) then (0 : Int) else (List.getD keep (Int.toNat k) (0 : Int))))) then free else (if (((((List.length (Go.Num.obD (Go.Abs.obE es [(Go.Abs.Fd.s (Go.Abs.recS (List.getD ns (Int.toNat k) ([] : List (Abs.Fd))) (0 : Nat)))]))) : Nat) : Int) - (Go.Num.obS (Go.Abs.obE es [(Go.Abs.Fd.s (Go.Abs.recS (List.getD ns (Int.toNat k) ([] : List (Abs.Fd))) (0 : Nat)))]))) < (if ((0 : Int) > (List.getD keep (Int.toNat k) (0 : Int))) then (0 : Int) else (List.getD keep (Int.toNat k) (0 : Int)))) then ((((List.length (Go.Num.obD (Go.Abs.obE es [(Go.Abs.Fd.s (Go.Abs.recS (List.getD ns (Int.toNat k) ([] : List (Abs.Fd))) (0 : Nat)))]))) : Nat) : Int) - (Go.Num.obS (Go.Abs.obE es [(Go.Abs.Fd.s (Go.Abs.recS (List.getD ns (Int.toNat k) ([] : List (Abs.Fd))) (0 : Nat)))]))) else (if ((0 : Int) > (List.getD keep (Int.toNat k) (0 : Int))) then (0 : Int) else (List.getD keep (Int.toNat k) (0 : Int))))))) from rfl) (allQ_cons (show (ro = ro) from rfl) (allQ_cons (show (st = st) from rfl) (allQ_cons (show (fu = fu) from rfl) (allQ_cons (show (dn = dn) from rfl) (allQ_cons (show ((List.take (Int.toNat ((Go.Num.obS (Go.Abs.obE es [(Go.Abs.Fd.s (Go.Abs.recS (List.getD ns (Int.toNat k) ([] : List (Abs.Fd))) (0 : Nat)))])) + (if (free < (if (((((List.length (Go.Num.obD (Go.Abs.obE es [(Go.Abs.Fd.s (Go.Abs.recS (List.getD ns (Int.toNat k) ([] : List (Abs.Fd))) (0 : Nat)))]))) : Nat) : Int) - (Go.Num.obS (Go.Abs.obE es [(Go.Abs.Fd.s (Go.Abs.recS (List.getD ns (Int.toNat k) ([] : List (Abs.Fd))) (0 : Nat)))]))) < (if ((0 : Int) > (List.getD keep (Int.toNat k) (0 : Int))) then (0 : Int) else (List.getD keep (Int.toNat k) (0 : Int)))) then ((((List.length (Go.Num.obD (Go.Abs.obE es [(Go.Abs.Fd.s (Go.Abs.recS (List.getD ns (Int.toNat k) ([] : List (Abs.Fd))) (0 : Nat)))]))) : Nat) : Int) - (Go.Num.obS (Go.Abs.obE es [(Go.Abs.Fd.s (Go.Abs.recS (List.getD ns (Int.toNat k) ([] : List (Abs.Fd))) (0 : Nat)))]))) else (if ((0 : Int) > (List.getD keep (Int.toNat k) (0 : Int))) then (0 : Int) else (List.getD keep (Int.toNat k) (0 : Int))))) then free else (if (((((List.length (Go.Num.obD (Go.Abs.obE es [(Go.Abs.Fd.s (Go.Abs.recS (List.getD ns (Int.toNat k) ([] : List (Abs.Fd))) (0 : Nat)))]))) : Nat) : Int) - (Go.Num.obS (Go.Abs.obE es [(Go.Abs.Fd.s (Go.Abs.recS (List.getD ns (Int.toNat k) ([] : List (Abs.Fd))) (0 : Nat)))]))) < (if ((0 : Int) > (List.getD keep (Int.toNat k) (0 : Int))) then (0 : Int) else (List.getD keep (Int.toNat k) (0 : Int)))) then ((((List.length (Go.Num.obD (Go.Abs.obE es [(Go.Abs.Fd.s (Go.Abs.recS (List.getD ns (Int.toNat k) ([] : List (Abs.Fd))) (0 : Nat)))]))) : Nat) : Int) - (Go.Num.obS (Go.Abs.obE es [(Go.Abs.Fd.s (Go.Abs.recS (List.getD ns (Int.toNat k) ([] : List (Abs.Fd))) (0 : Nat)))]))) else (if ((0 : Int) > (List.getD keep (Int.toNat k) (0 : Int))) then (0 : Int) else (List.getD keep (Int.toNat k) (0 : Int))))))) (Go.Num.obD (Go.Abs.obE es [(Go.Abs.Fd.s (Go.Abs.recS (List.getD ns (Int.toNat k) ([] : List (Abs.Fd))) (0 : Nat)))]))) = (List.take (Int.toNat ((Go.Num.obS (Go.Abs.obE es [(Go.Abs.Fd.s (Go.Abs.recS (List.getD ns (Int.toNat k) ([] : List (Abs.Fd))) (0 : Nat)))])) + (if (free < (if (((((List.length (Go.Num.obD (Go.Abs.obE es [(Go.Abs.Fd.s (Go.Abs.recS (List.getD ns (Int.toNat k) ([] : List (Abs.Fd))) (0 : Nat)))]))) : Nat) : Int) - (Go.Num.obS (Go.Abs.obE es [(Go.Abs.Fd.s (Go.Abs.recS (List.getD ns (Int.toNat k) ([] : List (Abs.Fd))) (0 : Nat)))]))) < (if ((0 : Int) > (List.getD keep (Int.toNat k) (0 : Int))) then (0 : Int) else (List.getD keep (Int.toNat k) (0 : Int)))) then ((((List.length (Go.Num.obD (Go.Abs.obE es [(Go.Abs.Fd.s (Go.Abs.recS (List.getD ns (Int.toNat k) ([] : List (Abs.Fd))) (0 : Nat)))]))) : Nat) : Int) - (Go.Num.obS (Go.Abs.obE es [(Go.Abs.Fd.s (Go.Abs.recS (List.getD ns (Int.toNat k) ([] : List (Abs.Fd))) (0 : Nat)))]))) else (if ((0 : Int) > (List.getD keep (Int.toNat k) (0 : Int))) then (0 : Int) else (List.getD keep (Int.toNat k) (0 : Int))))) then free else (if (((((List.length (Go.Num.obD (Go.Abs.obE es [(Go.Abs.Fd.s (Go.Abs.recS (List.getD ns (Int.toNat k) ([] : List (Abs.Fd))) (0 : Nat)))]))) : Nat) : Int) - (Go.Num.obS (Go.Abs.obE es [(Go.Abs.Fd.s (Go.Abs.recS (List.getD ns (Int.toNat k) ([] : List (Abs.Fd))) (0 : Nat)))]))) < (if ((0 : Int) > (List.getD keep (Int.toNat k) (0 : Int))) then (0 : Int) else (List.getD keep (Int.toNat k) (0 : Int)))) then ((((List.length (Go.Num.obD (Go.Abs.obE es [(Go.Abs.Fd.s (Go.Abs.recS (List.getD ns (Int.toNat k) ([] : List (Abs.Fd))) (0 : Nat)))]))) : Nat) : Int) - (Go.Num.obS (Go.Abs.obE es [(Go.Abs.Fd.s (Go.Abs.recS (List.getD ns (Int.toNat k) ([] : List (Abs.Fd))) (0 : Nat)))]))) else (if ((0 : Int) > (List.getD keep (Int.toNat k) (0 : Int))) then (0 : Int) else (List.getD keep (Int.toNat k) (0 : Int))))))) (Go.Num.obD (Go.Abs.obE es [(Go.Abs.Fd.s (Go.Abs.recS (List.getD ns (Int.toNat k) ([] : List (Abs.Fd))) (0 : Nat)))])))) from rfl) (allQ_cons (show ([(Go.Abs.Fd.s (Go.Abs.recS (List.getD ns (Int.toNat k) ([] : List (Abs.Fd))) (0 : Nat)))] = [(Go.Abs.Fd.s (Go.Abs.recS (List.getD ns (Int.toNat k) ([] : List (Abs.Fd))) (0 : Nat)))]) from rfl) (allQ_cons (show (es = es) from rfl) (allQ_cons (show ((Go.Num.obS (Go.Abs.obE es [(Go.Abs.Fd.s (Go.Abs.recS (List.getD ns (Int.toNat k) ([] : List (Abs.Fd))) (0 : Nat)))])) = (Go.Num.obS (Go.Abs.obE es [(Go.Abs.Fd.s (Go.Abs.recS (List.getD ns (Int.toNat k) ([] : List (Abs.Fd))) (0 : Nat)))]))) from rfl) (allQ_cons (show ([(Go.Abs.Fd.s (Go.Abs.recS (List.getD ns (Int.toNat k) ([] : List (Abs.Fd))) (0 : Nat)))] = [(Go.Abs.Fd.s (Go.Abs.recS (List.getD ns (Int.toNat k) ([] : List (Abs.Fd))) (0 : Nat)))]) from rfl) (allQ_cons h15 (allQ_cons (show (keep = keep) from rfl) (allQ_cons h16 (allQ_cons (show ((((List.length ns) : Nat) : Int) = (((List.length ns) : Nat) : Int)) from rfl) (allQ_cons h17 (allQ_cons (show (ro = ro) from rfl) (allQ_cons (show (st = st) from rfl) (allQ_cons (show (fu = fu) from rfl) (allQ_cons (show (dn = dn) from rfl) (allQ_cons h18 (allQ_cons (show (ns = ns) from rfl) (allQ_nil)))))))))))))))))))))))))))))))))))))⟩

theorem cr_out (ro st fu free free' : Int) (keep : List Int) (dn : Bool) (es es' : List (Rec × Ob)) (ns : List Rec) (k k' : Int)
 (h1 : ((decide (k < (((List.length ns) : Nat) : Int))) = Bool.true))
 (h2 : ((0 : Int) ≤ k))
 (h3 : (k < (((List.length ns) : Nat) : Int)))
 (h4 : ((Int.toNat k) < (List.length ns)))
 (h5 : (Go.Abs.KeyT Go.Proofs.Try.prog (9 : TypeId) Bool.false [Go.Abs.FK.str]))
 (h6 : ((Go.Abs.keyOK [Go.Abs.FK.str] [(Go.Abs.Fd.s (Go.Abs.recS (List.getD ns (Int.toNat k) ([] : List (Abs.Fd))) (0 : Nat)))]) = Bool.true))
 (h7 : ((Go.Abs.hasE es [(Go.Abs.Fd.s (Go.Abs.recS (List.getD ns (Int.toNat k) ([] : List (Abs.Fd))) (0 : Nat)))]) = Bool.true))
 (h8 : ((decide (k < (((List.length keep) : Nat) : Int))) = Bool.false))
 (h9 : (Go.Abs.InI64 ((Go.Num.obS (Go.Abs.obE es [(Go.Abs.Fd.s (Go.Abs.recS (List.getD ns (Int.toNat k) ([] : List (Abs.Fd))) (0 : Nat)))])) + (0 : Int))))
 (h10 : ((0 : Int) ≤ ((Go.Num.obS (Go.Abs.obE es [(Go.Abs.Fd.s (Go.Abs.recS (List.getD ns (Int.toNat k) ([] : List (Abs.Fd))) (0 : Nat)))])) + (0 : Int))))
 (h11 : (((Go.Num.obS (Go.Abs.obE es [(Go.Abs.Fd.s (Go.Abs.recS (List.getD ns (Int.toNat k) ([] : List (Abs.Fd))) (0 : Nat)))])) + (0 : Int)) ≤ (((List.length (Go.Num.obD (Go.Abs.obE es [(Go.Abs.Fd.s (Go.Abs.recS (List.getD ns (Int.toNat k) ([] : List (Abs.Fd))) (0 : Nat)))]))) : Nat) : Int)))
 (h12 : (Go.Abs.InI64 (free - (0 : Int))))
 (h13 : (Go.Abs.InI64 (k + (1 : Int))))
 (h14 : ((free - (0 : Int)) = free'))
 (h15 : ((k + (1 : Int)) = k'))
 (h16 : ((Go.Abs.setE es [(Go.Abs.Fd.s (Go.Abs.recS (List.getD ns (Int.toNat k) ([] : List (Abs.Fd))) (0 : Nat)))] (Go.Abs.Ob.node [(Go.Abs.Fd.w (List.take (Int.toNat ((Go.Num.obS (Go.Abs.obE es [(Go.Abs.Fd.s (Go.Abs.recS (List.getD ns (Int.toNat k) ([] : List (Abs.Fd))) (0 : Nat)))])) + (0 : Int))) (Go.Num.obD (Go.Abs.obE es [(Go.Abs.Fd.s (Go.Abs.recS (List.getD ns (Int.toNat k) ([] : List (Abs.Fd))) (0 : Nat)))])))), (Go.Abs.Fd.i ((Go.Num.obS (Go.Abs.obE es [(Go.Abs.Fd.s (Go.Abs.recS (List.getD ns (Int.toNat k) ([] : List (Abs.Fd))) (0 : Nat)))])) + (0 : Int)))] ([] : List (List (Rec × Ob))))) = es')) :
 ∃ ps, stepPs Try.prog DF gN 100 (bodyN Try.f14 0) 100 (crSn ro st fu dn keep free es ns k).st [.is true, .is false] .normal (crSn ro st fu dn keep free' es' ns k') = some ps ∧ AllQ ps := ⟨_, by kernel_rfl, allQ_cons h1 (allQ_cons h2 (allQ_cons h3 (allQ_cons h4 (allQ_cons h5 (allQ_cons h6 (allQ_cons h7 (allQ_cons h8 (allQ_cons h9 (allQ_cons h10 (allQ_cons h11 (allQ_cons h12 (allQ_cons (show ((Go.Abs.recS (List.getD ns (Int.toNat k) ([] : List (Abs.Fd))) (0 : Nat)) = (Go.Abs.recS (List.getD ns (Int.toNat k) ([] : List (Abs.Fd))) (0 : Nat))) from rfl) (allQ_cons (show (((Go.Num.obS (Go.Abs.obE es [(Go.Abs.Fd.s (Go.Abs.recS (List.getD ns (Int.toNat k) ([] : List (Abs.Fd))) (0 : Nat)))])) + (0 : Int)) = ((Go.Num.obS (Go.Abs.obE es [(Go.Abs.Fd.s (Go.Abs.recS (List.getD ns (Int.toNat k) ([] : List (Abs.Fd))) (0 : Nat)))])) + (0 : Int))) from rfl) (allQ_cons (show (ro = ro) from rfl) (allQ_cons (show (st = st) from rfl) (allQ_cons (show (fu = fu) from rfl) (allQ_cons (show (dn = dn) from rfl) (allQ_cons (show ((List.take (Int.toNat ((Go.Num.obS (Go.Abs.obE es [(Go.Abs.Fd.s (Go.Abs.recS (List.getD ns (Int.toNat k) ([] : List (Abs.Fd))) (0 : Nat)))])) + (0 : Int))) (Go.Num.obD (Go.Abs.obE es [(Go.Abs.Fd.s (Go.Abs.recS (List.getD ns (Int.toNat k) ([] : List (Abs.Fd))) (0 : Nat)))]))) = (List.take (Int.toNat ((Go.Num.obS (Go.Abs.obE es [(Go.Abs.Fd.s (Go.Abs.recS (List.getD ns (Int.toNat k) ([] : List (Abs.Fd))) (0 : Nat)))])) + (0 : Int))) (Go.Num.obD (Go.Abs.obE es [(Go.Abs.Fd.s (Go.Abs.recS (List.getD ns (Int.toNat k) ([] : List (Abs.Fd))) (0 : Nat)))])))) from rfl) (allQ_cons (show ([(Go.Abs.Fd.s (Go.Abs.recS (List.getD ns (Int.toNat k) ([] : List (Abs.Fd))) (0 : Nat)))] = [(Go.Abs.Fd.s (Go.Abs.recS (List.getD ns (Int.toNat k) ([] : List (Abs.Fd))) (0 : Nat)))]) from rfl) (allQ_cons (show (es = es) from rfl) (allQ_cons (show ((Go.Num.obS (Go.Abs.obE es [(Go.Abs.Fd.s (Go.Abs.recS (List.getD ns (Int.toNat k) ([] : List (Abs.Fd))) (0 : Nat)))])) = (Go.Num.obS (Go.Abs.obE es [(Go.Abs.Fd.s (Go.Abs.recS (List.getD ns (Int.toNat k) ([] : List (Abs.Fd))) (0 : Nat)))]))) from rfl) (allQ_cons (show ([(Go.Abs.Fd.s (Go.Abs.recS (List.getD ns (Int.toNat k) ([] : List (Abs.Fd))) (0 : Nat)))] = [(Go.Abs.Fd.s (Go.Abs.recS (List.getD ns (Int.toNat k) ([] : List (Abs.Fd))) (0 : Nat)))]) from rfl) (allQ_cons h13 (allQ_cons (show (keep = keep) from rfl) (allQ_cons h14 (allQ_cons (show ((((List.length ns) : Nat) : Int) = (((List.length ns) : Nat) : Int)) from rfl) (allQ_cons h15 (allQ_cons (show (ro = ro) from rfl) (allQ_cons (show (st = st) from rfl) (allQ_cons (show (fu = fu) from rfl) (allQ_cons (show (dn = dn) from rfl) (allQ_cons h16 (allQ_cons (show (ns = ns) from rfl) (allQ_nil))))))))))))))))))))))))))))))))))⟩

theorem cr_exit (ro st fu free : Int) (keep : List Int) (dn : Bool) (es : List (Rec × Ob)) (ns : List Rec) (k : Int)
 (h1 : ((decide (k < (((List.length ns) : Nat) : Int))) = Bool.false)) :
 ∃ ps, stepPs Try.prog DF gN 100 (bodyN Try.f14 0) 100 (crSn ro st fu dn keep free es ns k).st [.is false] (.exit 0) (crEnd ro st fu dn es) = some ps ∧ AllQ ps := ⟨_, by kernel_rfl, allQ_cons h1 (allQ_cons (show (ro = ro) from rfl) (allQ_cons (show (st = st) from rfl) (allQ_cons (show (fu = fu) from rfl) (allQ_cons (show (dn = dn) from rfl) (allQ_cons (show (es = es) from rfl) (allQ_nil))))))⟩

theorem cr_run (ro st fu free : Int) (keep : List Int) (dn : Bool) (es es' : List (Rec × Ob)) (ns : List Rec)
 (h1 : (Go.Num.FreeOK (Option.none) es ro))
 (h2 : (Go.Num.Short es))
 (h3 : SumOK Try.prog DF (bodyN Try.f14 0) (loopL DF (crSn ro st fu dn keep free es ns (0 : Nat)) (.exit 0) (crEnd ro st fu dn es')))
 (h4 : ((ro - (Go.Num.safeSum (Option.none) es)) = free))
 (h5 : ((((List.length (Go.Num.sortK es)) : Nat) : Int) = (((List.length ns) : Nat) : Int)))
 (h6 : ((Go.Num.sortK es) = ns)) :
 ∃ ps, runO Try.prog DF gN 100 Try.f14 (dkB ro st fu dn es, [.one (.ref 0 0), .one (.words .i64 keep)]) [.loop (loopL DF (crSn ro st fu dn keep free es ns (0 : Nat)) (.exit 0) (crEnd ro st fu dn es'))] (.tup []) (dkB ro st 0 false es') = some ps ∧ AllQ ps := ⟨_, by kernel_rfl, allQ_cons h1 (allQ_cons h2 (allQ_cons h3 (allQ_cons (show (keep = keep) from rfl) (allQ_cons h4 (allQ_cons h5 (allQ_cons (show ((0 : Int) = (((0 : Nat) : Nat) : Int)) from by decide) (allQ_cons (show (ro = ro) from rfl) (allQ_cons (show (st = st) from rfl) (allQ_cons (show (fu = fu) from rfl) (allQ_cons (show (dn = dn) from rfl) (allQ_cons (show (es = es) from rfl) (allQ_cons h6 (allQ_cons (show (ro = ro) from rfl) (allQ_cons (show (st = st) from rfl) (allQ_cons (show ((0 : Int) = (0 : Int)) from rfl) (allQ_cons (show (Bool.false = Bool.false) from rfl) (allQ_cons (show (es' = es') from rfl) (allQ_nil))))))))))))))))))⟩

theorem cr_nil (keep : List Int) :
 ∃ ps, runO Try.prog DF gN 100 Try.f14 ([], [.one .nilp, .one (.words .i64 keep)]) [] (.tup []) [] = some ps ∧ AllQ ps := ⟨_, by kernel_rfl, allQ_nil⟩

/-! Mount -/

noncomputable def neQ := mkF DF Try.f8.ntmps (fun bs xs => match bs, xs with | [], [.one (.int .i64 _ n)] => some n | _, _ => none) (fun n => ([], [.one (.int .i64 false n)]))
  (fun n => some (.v (.one (.ref 0 0)), dkB (if (4194304 < (if (0 > n) then 0 else n)) then 4194304 else (if (0 > n) then 0 else n)) 0 0 false [], []))
theorem ne_ok : OpOK Try.prog DF 8 neQ := by
  refine opOK_mk gam_nil mixed Try.func8 (enters_of Try.func8 (by kernel_rfl) rfl) ?_
  intro n r' bs' ps h hps
  simp only [Option.some.injEq, Prod.mk.injEq] at h
  obtain ⟨rfl, rfl, rfl⟩ := h
  exact ⟨_, _, ne_run n _ rfl⟩

noncomputable def gM : Gam DF := [(lookId, .fn (lookD DF [(33, 0)])), (8, .op [false] neQ), (36, .fn rightF), (35, .fn clD), (17, .rd [true] freeR)]
noncomputable def gM1 : Gam DF := [(8, .op [false] neQ), (36, .fn rightF), (35, .fn clD), (17, .rd [true] freeR)]
def moSn (ll : List Rec) (ro : Int) (es : List (Rec × Ob)) (k : Int) : Sn DF.τ where
  slots := [(6, .v (.one (.ref 0 0))), (16, .v (.one (.prs fSh ll))), (17, .v (.one (.int .i64 false ll.length))), (18, .v (.one (.int .i64 false k)))]
  boxes := enumB 0 (dkB ro 0 0 false es)
  nt := 67
def moEnd (ro : Int) (es : List (Rec × Ob)) : Sn DF.τ where
  slots := [(6, .v (.one (.ref 0 0)))]
  boxes := enumB 0 (dkB ro 0 0 false es)
  nt := 67
def moBad (e : Int) : Sn DF.τ where
  slots := [(4, .v (.one .nilp)), (5, .v (.one (.int .i64 false e)))]
  boxes := []
  nt := 67
theorem mo_step (ll : List Rec) (ro : Int) (es es' : List (Rec × Ob)) (k k' : Int)
 (h1 : ((decide (k < (((List.length ll) : Nat) : Int))) = Bool.true))
 (h2 : ((0 : Int) ≤ k))
 (h3 : (k < (((List.length ll) : Nat) : Int)))
 (h4 : ((Go.Num.rightB (Go.Abs.recS (List.getD ll (Int.toNat k) ([] : List (Abs.Fd))) (0 : Nat))) = Bool.true))
 (h5 : ((ByteArray.size (Go.Abs.recS (List.getD ll (Int.toNat k) ([] : List (Abs.Fd))) (0 : Nat))) ≤ (9223372036854775807 : Nat)))
 (h6 : (Go.Abs.KeyT Go.Proofs.Try.prog (9 : TypeId) Bool.false [Go.Abs.FK.str]))
 (h7 : ((Go.Abs.keyOK [Go.Abs.FK.str] [(Go.Abs.Fd.s (Go.Abs.recS (List.getD ll (Int.toNat k) ([] : List (Abs.Fd))) (0 : Nat)))]) = Bool.true))
 (h8 : ((Go.Abs.hasE es [(Go.Abs.Fd.s (Go.Abs.recS (List.getD ll (Int.toNat k) ([] : List (Abs.Fd))) (0 : Nat)))]) = Bool.false))
 (h9 : ((decide ((Go.Abs.recI (List.getD ll (Int.toNat k) ([] : List (Abs.Fd))) (((0 : Nat) + (1 : Nat)) + (1 : Nat))) < (0 : Int))) = Bool.false))
 (h10 : ((decide ((Go.Abs.recI (List.getD ll (Int.toNat k) ([] : List (Abs.Fd))) (((0 : Nat) + (1 : Nat)) + (1 : Nat))) > (((List.length (Go.Abs.recW (List.getD ll (Int.toNat k) ([] : List (Abs.Fd))) ((0 : Nat) + (1 : Nat)))) : Nat) : Int))) = Bool.false))
 (h11 : ((List.length (Go.Abs.recW (List.getD ll (Int.toNat k) ([] : List (Abs.Fd))) ((0 : Nat) + (1 : Nat)))) ≤ (140737488355328 : Nat)))
 (h12 : (Go.Abs.InI64 (k + (1 : Int))))
 (h13 : ((Go.Abs.recI (List.getD ll (Int.toNat k) ([] : List (Abs.Fd))) (((0 : Nat) + (1 : Nat)) + (1 : Nat))) = (Go.Num.obS (Go.Abs.Ob.node [(Go.Abs.Fd.w (Go.Abs.recW (List.getD ll (Int.toNat k) ([] : List (Abs.Fd))) ((0 : Nat) + (1 : Nat)))), (Go.Abs.Fd.i (Go.Abs.recI (List.getD ll (Int.toNat k) ([] : List (Abs.Fd))) (((0 : Nat) + (1 : Nat)) + (1 : Nat))))] ([] : List (List (Rec × Ob)))))))
 (h14 : ((Go.Abs.recW (List.getD ll (Int.toNat k) ([] : List (Abs.Fd))) ((0 : Nat) + (1 : Nat))) = (Go.Num.obD (Go.Abs.Ob.node [(Go.Abs.Fd.w (Go.Abs.recW (List.getD ll (Int.toNat k) ([] : List (Abs.Fd))) ((0 : Nat) + (1 : Nat)))), (Go.Abs.Fd.i (Go.Abs.recI (List.getD ll (Int.toNat k) ([] : List (Abs.Fd))) (((0 : Nat) + (1 : Nat)) + (1 : Nat))))] ([] : List (List (Rec × Ob)))))))
 (h15 : ((k + (1 : Int)) = k'))
 (h16 : ((Go.Abs.setE (Go.Abs.setE es [(Go.Abs.Fd.s (Go.Abs.recS (List.getD ll (Int.toNat k) ([] : List (Abs.Fd))) (0 : Nat)))] (Go.Abs.Ob.node [(Go.Abs.Fd.w (Go.Abs.recW (List.getD ll (Int.toNat k) ([] : List (Abs.Fd))) ((0 : Nat) + (1 : Nat)))), (Go.Abs.Fd.i (Go.Abs.recI (List.getD ll (Int.toNat k) ([] : List (Abs.Fd))) (((0 : Nat) + (1 : Nat)) + (1 : Nat))))] ([] : List (List (Rec × Ob))))) [(Go.Abs.Fd.s (Go.Abs.recS (List.getD ll (Int.toNat k) ([] : List (Abs.Fd))) (0 : Nat)))] (Go.Abs.Ob.node [(Go.Abs.Fd.w (Go.Abs.recW (List.getD ll (Int.toNat k) ([] : List (Abs.Fd))) ((0 : Nat) + (1 : Nat)))), (Go.Abs.Fd.i (Go.Abs.recI (List.getD ll (Int.toNat k) ([] : List (Abs.Fd))) (((0 : Nat) + (1 : Nat)) + (1 : Nat))))] ([] : List (List (Rec × Ob))))) = es')) :
 ∃ ps, stepPs Try.prog DF gM 100 (bodyN Try.f22 0) 100 (moSn ll ro es k).st [.is true, .is true, .is false, .is false] .normal (moSn ll ro es' k') = some ps ∧ AllQ ps := ⟨_, by kernel_rfl, allQ_cons h1 (allQ_cons h2 (allQ_cons h3 (allQ_cons h4 (allQ_cons h5 (allQ_cons h6 (allQ_cons h7 (allQ_cons h8 (allQ_cons h9 (allQ_cons h10 (allQ_cons h11 (allQ_cons h6 (allQ_cons h7 (allQ_cons h12 (allQ_cons h13 (allQ_cons h14 (allQ_cons (show (ll = ll) from rfl) (allQ_cons (show ((((List.length ll) : Nat) : Int) = (((List.length ll) : Nat) : Int)) from rfl) (allQ_cons h15 (allQ_cons (show (ro = ro) from rfl) (allQ_cons (show ((0 : Int) = (0 : Int)) from rfl) (allQ_cons (show ((0 : Int) = (0 : Int)) from rfl) (allQ_cons (show (Bool.false = Bool.false) from rfl) (allQ_cons h16 (allQ_nil))))))))))))))))))))))))⟩

theorem mo_name (ll : List Rec) (ro e : Int) (es : List (Rec × Ob)) (k : Int)
 (h1 : ((decide (k < (((List.length ll) : Nat) : Int))) = Bool.true))
 (h2 : ((0 : Int) ≤ k))
 (h3 : (k < (((List.length ll) : Nat) : Int)))
 (h4 : ((Go.Num.rightB (Go.Abs.recS (List.getD ll (Int.toNat k) ([] : List (Abs.Fd))) (0 : Nat))) = Bool.false))
 (h5 : ((ByteArray.size (Go.Abs.recS (List.getD ll (Int.toNat k) ([] : List (Abs.Fd))) (0 : Nat))) ≤ (9223372036854775807 : Nat)))
 (h6 : ((40 : Int) = e)) :
 ∃ ps, stepPs Try.prog DF gM 100 (bodyN Try.f22 0) 100 (moSn ll ro es k).st [.is true, .is false] .ret (moBad e) = some ps ∧ AllQ ps := ⟨_, by kernel_rfl, allQ_cons h1 (allQ_cons h2 (allQ_cons h3 (allQ_cons h4 (allQ_cons h5 (allQ_cons h6 (allQ_nil))))))⟩

theorem mo_there (ll : List Rec) (ro e : Int) (es : List (Rec × Ob)) (k : Int)
 (h1 : ((decide (k < (((List.length ll) : Nat) : Int))) = Bool.true))
 (h2 : ((0 : Int) ≤ k))
 (h3 : (k < (((List.length ll) : Nat) : Int)))
 (h4 : ((Go.Num.rightB (Go.Abs.recS (List.getD ll (Int.toNat k) ([] : List (Abs.Fd))) (0 : Nat))) = Bool.true))
 (h5 : ((ByteArray.size (Go.Abs.recS (List.getD ll (Int.toNat k) ([] : List (Abs.Fd))) (0 : Nat))) ≤ (9223372036854775807 : Nat)))
 (h6 : (Go.Abs.KeyT Go.Proofs.Try.prog (9 : TypeId) Bool.false [Go.Abs.FK.str]))
 (h7 : ((Go.Abs.keyOK [Go.Abs.FK.str] [(Go.Abs.Fd.s (Go.Abs.recS (List.getD ll (Int.toNat k) ([] : List (Abs.Fd))) (0 : Nat)))]) = Bool.true))
 (h8 : ((Go.Abs.hasE es [(Go.Abs.Fd.s (Go.Abs.recS (List.getD ll (Int.toNat k) ([] : List (Abs.Fd))) (0 : Nat)))]) = Bool.true))
 (h9 : ((1 : Int) = e)) :
 ∃ ps, stepPs Try.prog DF gM1 100 (bodyN Try.f22 0) 100 (moSn ll ro es k).st [.is true, .is true] .ret (moBad e) = some ps ∧ AllQ ps := ⟨_, by kernel_rfl, allQ_cons h1 (allQ_cons h2 (allQ_cons h3 (allQ_cons h4 (allQ_cons h5 (allQ_cons h6 (allQ_cons h7 (allQ_cons h8 (allQ_cons h9 (allQ_nil)))))))))⟩

theorem mo_neg (ll : List Rec) (ro e : Int) (es : List (Rec × Ob)) (k : Int)
 (h1 : ((decide (k < (((List.length ll) : Nat) : Int))) = Bool.true))
 (h2 : ((0 : Int) ≤ k))
 (h3 : (k < (((List.length ll) : Nat) : Int)))
 (h4 : ((Go.Num.rightB (Go.Abs.recS (List.getD ll (Int.toNat k) ([] : List (Abs.Fd))) (0 : Nat))) = Bool.true))
 (h5 : ((ByteArray.size (Go.Abs.recS (List.getD ll (Int.toNat k) ([] : List (Abs.Fd))) (0 : Nat))) ≤ (9223372036854775807 : Nat)))
 (h6 : (Go.Abs.KeyT Go.Proofs.Try.prog (9 : TypeId) Bool.false [Go.Abs.FK.str]))
 (h7 : ((Go.Abs.keyOK [Go.Abs.FK.str] [(Go.Abs.Fd.s (Go.Abs.recS (List.getD ll (Int.toNat k) ([] : List (Abs.Fd))) (0 : Nat)))]) = Bool.true))
 (h8 : ((Go.Abs.hasE es [(Go.Abs.Fd.s (Go.Abs.recS (List.getD ll (Int.toNat k) ([] : List (Abs.Fd))) (0 : Nat)))]) = Bool.false))
 (h9 : ((decide ((Go.Abs.recI (List.getD ll (Int.toNat k) ([] : List (Abs.Fd))) (((0 : Nat) + (1 : Nat)) + (1 : Nat))) < (0 : Int))) = Bool.true))
 (h10 : ((1 : Int) = e)) :
 ∃ ps, stepPs Try.prog DF gM 100 (bodyN Try.f22 0) 100 (moSn ll ro es k).st [.is true, .is true, .is true] .ret (moBad e) = some ps ∧ AllQ ps := ⟨_, by kernel_rfl, allQ_cons h1 (allQ_cons h2 (allQ_cons h3 (allQ_cons h4 (allQ_cons h5 (allQ_cons h6 (allQ_cons h7 (allQ_cons h8 (allQ_cons h9 (allQ_cons h10 (allQ_nil))))))))))⟩

theorem mo_more (ll : List Rec) (ro e : Int) (es : List (Rec × Ob)) (k : Int)
 (h1 : ((decide (k < (((List.length ll) : Nat) : Int))) = Bool.true))
 (h2 : ((0 : Int) ≤ k))
 (h3 : (k < (((List.length ll) : Nat) : Int)))
 (h4 : ((Go.Num.rightB (Go.Abs.recS (List.getD ll (Int.toNat k) ([] : List (Abs.Fd))) (0 : Nat))) = Bool.true))
 (h5 : ((ByteArray.size (Go.Abs.recS (List.getD ll (Int.toNat k) ([] : List (Abs.Fd))) (0 : Nat))) ≤ (9223372036854775807 : Nat)))
 (h6 : (Go.Abs.KeyT Go.Proofs.Try.prog (9 : TypeId) Bool.false [Go.Abs.FK.str]))
 (h7 : ((Go.Abs.keyOK [Go.Abs.FK.str] [(Go.Abs.Fd.s (Go.Abs.recS (List.getD ll (Int.toNat k) ([] : List (Abs.Fd))) (0 : Nat)))]) = Bool.true))
 (h8 : ((Go.Abs.hasE es [(Go.Abs.Fd.s (Go.Abs.recS (List.getD ll (Int.toNat k) ([] : List (Abs.Fd))) (0 : Nat)))]) = Bool.false))
 (h9 : ((decide ((Go.Abs.recI (List.getD ll (Int.toNat k) ([] : List (Abs.Fd))) (((0 : Nat) + (1 : Nat)) + (1 : Nat))) < (0 : Int))) = Bool.false))
 (h10 : ((decide ((Go.Abs.recI (List.getD ll (Int.toNat k) ([] : List (Abs.Fd))) (((0 : Nat) + (1 : Nat)) + (1 : Nat))) > (((List.length (Go.Abs.recW (List.getD ll (Int.toNat k) ([] : List (Abs.Fd))) ((0 : Nat) + (1 : Nat)))) : Nat) : Int))) = Bool.true))
 (h11 : ((1 : Int) = e)) :
 ∃ ps, stepPs Try.prog DF gM 100 (bodyN Try.f22 0) 100 (moSn ll ro es k).st [.is true, .is true, .is false, .is true] .ret (moBad e) = some ps ∧ AllQ ps := ⟨_, by kernel_rfl, allQ_cons h1 (allQ_cons h2 (allQ_cons h3 (allQ_cons h4 (allQ_cons h5 (allQ_cons h6 (allQ_cons h7 (allQ_cons h8 (allQ_cons h9 (allQ_cons h10 (allQ_cons h11 (allQ_nil)))))))))))⟩

theorem mo_exit (ll : List Rec) (ro : Int) (es : List (Rec × Ob)) (k : Int)
 (h1 : ((decide (k < (((List.length ll) : Nat) : Int))) = Bool.false)) :
 ∃ ps, stepPs Try.prog DF gM 100 (bodyN Try.f22 0) 100 (moSn ll ro es k).st [.is false] (.exit 0) (moEnd ro es) = some ps ∧ AllQ ps := ⟨_, by kernel_rfl, allQ_cons h1 (allQ_cons (show (ro = ro) from rfl) (allQ_cons (show ((0 : Int) = (0 : Int)) from rfl) (allQ_cons (show ((0 : Int) = (0 : Int)) from rfl) (allQ_cons (show (Bool.false = Bool.false) from rfl) (allQ_cons (show (es = es) from rfl) (allQ_nil))))))⟩

theorem mo_many (n e : Int) (ll : List Rec)
 (h1 : ((decide ((((List.length ll) : Nat) : Int) > (32 : Int))) = Bool.true))
 (h2 : ((43 : Int) = e)) :
 ∃ ps, runO Try.prog DF gM 100 Try.f22 ([], [.one (.int .i64 false n), .one (.prs fSh ll)]) [.is true] (.tup [.one .nilp, .one (.int .i64 false e)]) [] = some ps ∧ AllQ ps := ⟨_, by kernel_rfl, allQ_cons h1 (allQ_cons h2 (allQ_nil))⟩

theorem mo_bad (n e ro : Int) (ll : List Rec)
 (h1 : ((decide ((((List.length ll) : Nat) : Int) > (32 : Int))) = Bool.false))
 (h2 : SumOK Try.prog DF (bodyN Try.f22 0) (loopL DF (moSn ll ro [] (0 : Nat)) .ret (moBad e)))
 (h3 : ((if ((4194304 : Int) < (if ((0 : Int) > n) then (0 : Int) else n)) then (4194304 : Int) else (if ((0 : Int) > n) then (0 : Int) else n)) = ro)) :
 ∃ ps, runO Try.prog DF gM 100 Try.f22 ([], [.one (.int .i64 false n), .one (.prs fSh ll)]) [.is false, .loop (loopL DF (moSn ll ro [] (0 : Nat)) .ret (moBad e))] (.tup [.one .nilp, .one (.int .i64 false e)]) [] = some ps ∧ AllQ ps := ⟨_, by kernel_rfl, allQ_cons h1 (allQ_cons (show (n = n) from rfl) (allQ_cons h2 (allQ_cons (show (ll = ll) from rfl) (allQ_cons (show ((((List.length ll) : Nat) : Int) = (((List.length ll) : Nat) : Int)) from rfl) (allQ_cons (show ((0 : Int) = (((0 : Nat) : Nat) : Int)) from by decide) (allQ_cons h3 (allQ_cons (show ((0 : Int) = (0 : Int)) from rfl) (allQ_cons (show ((0 : Int) = (0 : Int)) from rfl) (allQ_cons (show (Bool.false = Bool.false) from rfl) (allQ_cons (show (([] : List (Rec × Ob)) = ([] : List (Rec × Ob))) from rfl) (allQ_cons (show (e = e) from rfl) (allQ_nil))))))))))))⟩

theorem mo_full (n e ro : Int) (ll : List Rec) (es : List (Rec × Ob))
 (h1 : ((decide ((((List.length ll) : Nat) : Int) > (32 : Int))) = Bool.false))
 (h2 : SumOK Try.prog DF (bodyN Try.f22 0) (loopL DF (moSn ll ro [] (0 : Nat)) (.exit 0) (moEnd ro es)))
 (h3 : ((if ((4194304 : Int) < (if ((0 : Int) > n) then (0 : Int) else n)) then (4194304 : Int) else (if ((0 : Int) > n) then (0 : Int) else n)) = ro))
 (h4 : (Go.Num.FreeOK (Option.none) es ro))
 (h5 : ((decide ((ro - (Go.Num.safeSum (Option.none) es)) < (0 : Int))) = Bool.true))
 (h6 : ((42 : Int) = e)) :
 ∃ ps, runO Try.prog DF gM 100 Try.f22 ([], [.one (.int .i64 false n), .one (.prs fSh ll)]) [.is false, .loop (loopL DF (moSn ll ro [] (0 : Nat)) (.exit 0) (moEnd ro es)), .is true] (.tup [.one .nilp, .one (.int .i64 false e)]) [] = some ps ∧ AllQ ps := ⟨_, by kernel_rfl, allQ_cons h1 (allQ_cons (show (n = n) from rfl) (allQ_cons h2 (allQ_cons (show (ll = ll) from rfl) (allQ_cons (show ((((List.length ll) : Nat) : Int) = (((List.length ll) : Nat) : Int)) from rfl) (allQ_cons (show ((0 : Int) = (((0 : Nat) : Nat) : Int)) from by decide) (allQ_cons h3 (allQ_cons (show ((0 : Int) = (0 : Int)) from rfl) (allQ_cons (show ((0 : Int) = (0 : Int)) from rfl) (allQ_cons (show (Bool.false = Bool.false) from rfl) (allQ_cons (show (([] : List (Rec × Ob)) = ([] : List (Rec × Ob))) from rfl) (allQ_cons h4 (allQ_cons h5 (allQ_cons h6 (allQ_nil))))))))))))))⟩

theorem mo_ok (n ro : Int) (ll : List Rec) (es : List (Rec × Ob))
 (h1 : ((decide ((((List.length ll) : Nat) : Int) > (32 : Int))) = Bool.false))
 (h2 : SumOK Try.prog DF (bodyN Try.f22 0) (loopL DF (moSn ll ro [] (0 : Nat)) (.exit 0) (moEnd ro es)))
 (h3 : ((if ((4194304 : Int) < (if ((0 : Int) > n) then (0 : Int) else n)) then (4194304 : Int) else (if ((0 : Int) > n) then (0 : Int) else n)) = ro))
 (h4 : (Go.Num.FreeOK (Option.none) es ro))
 (h5 : ((decide ((ro - (Go.Num.safeSum (Option.none) es)) < (0 : Int))) = Bool.false)) :
 ∃ ps, runO Try.prog DF gM 100 Try.f22 ([], [.one (.int .i64 false n), .one (.prs fSh ll)]) [.is false, .loop (loopL DF (moSn ll ro [] (0 : Nat)) (.exit 0) (moEnd ro es)), .is false] (.tup [.one (.ref 0 0), .one (.int .i64 true 0)]) (dkB ro 0 0 false es) = some ps ∧ AllQ ps := ⟨_, by kernel_rfl, allQ_cons h1 (allQ_cons (show (n = n) from rfl) (allQ_cons h2 (allQ_cons (show (ll = ll) from rfl) (allQ_cons (show ((((List.length ll) : Nat) : Int) = (((List.length ll) : Nat) : Int)) from rfl) (allQ_cons (show ((0 : Int) = (((0 : Nat) : Nat) : Int)) from by decide) (allQ_cons h3 (allQ_cons (show ((0 : Int) = (0 : Int)) from rfl) (allQ_cons (show ((0 : Int) = (0 : Int)) from rfl) (allQ_cons (show (Bool.false = Bool.false) from rfl) (allQ_cons (show (([] : List (Rec × Ob)) = ([] : List (Rec × Ob))) from rfl) (allQ_cons h4 (allQ_cons h5 (allQ_cons (show (ro = ro) from rfl) (allQ_cons (show ((0 : Int) = (0 : Int)) from rfl) (allQ_cons (show ((0 : Int) = (0 : Int)) from rfl) (allQ_cons (show (Bool.false = Bool.false) from rfl) (allQ_cons (show (es = es) from rfl) (allQ_nil))))))))))))))))))⟩

end Go.Num
