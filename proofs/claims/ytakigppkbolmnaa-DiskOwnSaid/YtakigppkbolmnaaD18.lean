/- Disk: Image of a disk of one file, of which the bytes are the caller's own; DiskOwn: the runs. -/
import Derived.Test.YtakigppkbolmnaaD15
namespace Go.Num
open Go.Abs Go.Proofs Go.Shelf Go.RowKit

noncomputable def gI1 : Gam DF := [(34, .op [true] namesQ), (35, .fn clD)]
def r1B (s : ByteArray) (b : Nat) (n : Int) : BoxSt DF.τ := .dyn 46 (.rec1 [.s s, .o b, .i .i64 n])
theorem im1_run (ro st fu : Int) (dn : Bool) (es : List (Rec × Ob)) (s : ByteArray) (l : List Int) (n : Int)
 (h1 : (Go.Num.Short es))
 (h2 : ((decide ((0 : Int) < (((List.length (Go.Num.sortK es)) : Nat) : Int))) = Bool.true))
 (h3 : ((0 : Int) < (((List.length (Go.Num.sortK es)) : Nat) : Int)))
 (h4 : ((0 : Nat) < (List.length (Go.Num.sortK es))))
 (h5 : (Go.Abs.KeyT Go.Proofs.Try.prog (9 : TypeId) Bool.false [Go.Abs.FK.str]))
 (h6 : ((Go.Abs.keyOK [Go.Abs.FK.str] [(Go.Abs.Fd.s (Go.Abs.recS (List.getD (Go.Num.sortK es) (0 : Nat) ([] : List (Abs.Fd))) (0 : Nat)))]) = Bool.true))
 (h7 : ((Go.Abs.hasE es [(Go.Abs.Fd.s (Go.Abs.recS (List.getD (Go.Num.sortK es) (0 : Nat) ([] : List (Abs.Fd))) (0 : Nat)))]) = Bool.true))
 (h8 : ((List.length (Go.Num.obD (Go.Abs.obE es [(Go.Abs.Fd.s (Go.Abs.recS (List.getD (Go.Num.sortK es) (0 : Nat) ([] : List (Abs.Fd))) (0 : Nat)))]))) ≤ (140737488355328 : Nat)))
 (h9 : ((decide ((Go.IntKind.wrap Go.IntKind.i64 ((0 : Int) + (1 : Int))) < (((List.length (Go.Num.sortK es)) : Nat) : Int))) = Bool.false))
 (h10 : ((Go.Num.obS (Go.Abs.obE es [(Go.Abs.Fd.s (Go.Abs.recS (List.getD (Go.Num.sortK es) (0 : Nat) ([] : List (Abs.Fd))) (0 : Nat)))])) = (Go.Num.obS (Go.Abs.Ob.node [(Go.Abs.Fd.w (Go.Num.obD (Go.Abs.obE es [(Go.Abs.Fd.s (Go.Abs.recS (List.getD (Go.Num.sortK es) (0 : Nat) ([] : List (Abs.Fd))) (0 : Nat)))]))), (Go.Abs.Fd.i (Go.Num.obS (Go.Abs.obE es [(Go.Abs.Fd.s (Go.Abs.recS (List.getD (Go.Num.sortK es) (0 : Nat) ([] : List (Abs.Fd))) (0 : Nat)))])))] ([] : List (List (Rec × Ob)))))))
 (h11 : ((Go.Num.obD (Go.Abs.obE es [(Go.Abs.Fd.s (Go.Abs.recS (List.getD (Go.Num.sortK es) (0 : Nat) ([] : List (Abs.Fd))) (0 : Nat)))])) = (Go.Num.obD (Go.Abs.Ob.node [(Go.Abs.Fd.w (Go.Num.obD (Go.Abs.obE es [(Go.Abs.Fd.s (Go.Abs.recS (List.getD (Go.Num.sortK es) (0 : Nat) ([] : List (Abs.Fd))) (0 : Nat)))]))), (Go.Abs.Fd.i (Go.Num.obS (Go.Abs.obE es [(Go.Abs.Fd.s (Go.Abs.recS (List.getD (Go.Num.sortK es) (0 : Nat) ([] : List (Abs.Fd))) (0 : Nat)))])))] ([] : List (List (Rec × Ob)))))))
 (h12 : ((Go.Abs.setE es [(Go.Abs.Fd.s (Go.Abs.recS (List.getD (Go.Num.sortK es) (0 : Nat) ([] : List (Abs.Fd))) (0 : Nat)))] (Go.Abs.Ob.node [(Go.Abs.Fd.w (Go.Num.obD (Go.Abs.obE es [(Go.Abs.Fd.s (Go.Abs.recS (List.getD (Go.Num.sortK es) (0 : Nat) ([] : List (Abs.Fd))) (0 : Nat)))]))), (Go.Abs.Fd.i (Go.Num.obS (Go.Abs.obE es [(Go.Abs.Fd.s (Go.Abs.recS (List.getD (Go.Num.sortK es) (0 : Nat) ([] : List (Abs.Fd))) (0 : Nat)))])))] ([] : List (List (Rec × Ob))))) = es))
 (h13 : ((Go.Abs.recS (List.getD (Go.Num.sortK es) (0 : Nat) ([] : List (Abs.Fd))) (0 : Nat)) = s))
 (h14 : ((Go.Num.obS (Go.Abs.obE es [(Go.Abs.Fd.s (Go.Abs.recS (List.getD (Go.Num.sortK es) (0 : Nat) ([] : List (Abs.Fd))) (0 : Nat)))])) = n))
 (h15 : ((Go.Num.obD (Go.Abs.obE es [(Go.Abs.Fd.s (Go.Abs.recS (List.getD (Go.Num.sortK es) (0 : Nat) ([] : List (Abs.Fd))) (0 : Nat)))])) = l)) :
 ∃ ps, runO Try.prog DF gI1 100 Try.f18 (dkB ro st fu dn es, [.one (.ref 0 0)]) [.roll, .is true, .is false] (.v (.one (.own 2))) (dkB ro st fu dn es ++ [r1B s 3 n, dynB l]) = some ps ∧ AllQ ps := ⟨_, by kernel_rfl, allQ_cons h1 (allQ_cons h2 (allQ_cons (show ((0 : Int) ≤ (0 : Int)) from by decide) (allQ_cons h3 (allQ_cons h4 (allQ_cons h5 (allQ_cons h6 (allQ_cons h7 (allQ_cons h8 (allQ_cons (show ((48 : Nat) ≤ (140737488355328 : Nat)) from by decide) (allQ_cons h9 (allQ_cons h10 (allQ_cons h11 (allQ_cons (show (ro = ro) from rfl) (allQ_cons (show (st = st) from rfl) (allQ_cons (show (fu = fu) from rfl) (allQ_cons (show (dn = dn) from rfl) (allQ_cons h12 (allQ_cons h13 (allQ_cons h14 (allQ_cons h15 (allQ_nil)))))))))))))))))))))⟩

def nm1 (d : DkT) : ByteArray := recS ((sortK d.2.2.2.2).getD 0 []) 0
noncomputable def image1R := mkF DF Try.f18.ntmps spRdE (fun d => (dkBt d, [.one (.ref 0 0)])) (fun d => some (.v (.one (.own 2)), [r1B (nm1 d) 3 (obS (obE d.2.2.2.2 [Fd.s (nm1 d)])), dynB (obD (obE d.2.2.2.2 [Fd.s (nm1 d)]))], [Okd d, (sortK d.2.2.2.2).length = 1]))

def nil1 (bs : List (BoxSt DF.τ)) (xs : List (A0 DF.τ)) : Option Unit := match bs, xs with
  | [], [.one .nilp] => some ()
  | _, _ => none
abbrev nilX : List (BoxSt DF.τ) × List (A0 DF.τ) := ([], [.one .nilp])
theorem nf_free  :
 ∃ ps, runO Try.prog DF [] 100 Try.f17 nilX [] (.v (.one (.int .i64 true 0))) [] = some ps ∧ AllQ ps := ⟨_, by kernel_rfl, allQ_nil⟩

theorem nf_steps  :
 ∃ ps, runO Try.prog DF [] 100 Try.f23 nilX [] (.v (.one (.int .i64 true 0))) [] = some ps ∧ AllQ ps := ⟨_, by kernel_rfl, allQ_nil⟩

theorem nf_down  :
 ∃ ps, runO Try.prog DF [] 100 Try.f24 nilX [] (.v (.one (.bool true false))) [] = some ps ∧ AllQ ps := ⟨_, by kernel_rfl, allQ_nil⟩

theorem nf_list  :
 ∃ ps, runO Try.prog DF [] 100 Try.f25 nilX [] (.v (.one .nil)) [] = some ps ∧ AllQ ps := ⟨_, by kernel_rfl, allQ_nil⟩

theorem nf_image  :
 ∃ ps, runO Try.prog DF [] 100 Try.f18 nilX [] (.v (.one .nil)) [] = some ps ∧ AllQ ps := ⟨_, by kernel_rfl, allQ_nil⟩

theorem nf_crash (l : List Int) :
 ∃ ps, runO Try.prog DF [] 100 Try.f14 ([], [.one .nilp, .one (.words .i64 l)]) [] (.tup []) [] = some ps ∧ AllQ ps := ⟨_, by kernel_rfl, allQ_nil⟩

noncomputable def gNf : Gam DF := [(31, .op [false, false] findNilQ), (35, .fn clD)]
theorem nf_read (s : ByteArray) :
 ∃ ps, runO Try.prog DF gNf 100 Try.f15 ([], [.one .nilp, .one (.str s)]) [] (.tup [.one (.own 0), .one (.int .i64 true 1)]) [dynB []] = some ps ∧ AllQ ps := ⟨_, by kernel_rfl, allQ_cons (show (s = s) from rfl) (allQ_cons (show (([] : List (Int)) = ([] : List (Int))) from rfl) (allQ_nil))⟩

theorem nf_app (s : ByteArray) (l : List Int) :
 ∃ ps, runO Try.prog DF gNf 100 Try.f10 ([], [.one .nilp, .one (.str s), .one (.words .u8 l)]) [] (.v (.one (.int .i64 true 1))) [] = some ps ∧ AllQ ps := ⟨_, by kernel_rfl, allQ_cons (show (s = s) from rfl) (allQ_nil)⟩

theorem nf_sync (s : ByteArray) :
 ∃ ps, runO Try.prog DF gNf 100 Try.f12 ([], [.one .nilp, .one (.str s)]) [] (.v (.one (.int .i64 true 1))) [] = some ps ∧ AllQ ps := ⟨_, by kernel_rfl, allQ_cons (show (s = s) from rfl) (allQ_nil)⟩

theorem nf_fuse (n : Int) :
 ∃ ps, runO Try.prog DF [] 100 Try.f13 ([], [.one .nilp, .one (.int .i64 false n)]) [] (.tup []) [] = some ps ∧ AllQ ps := ⟨_, by kernel_rfl, allQ_nil⟩

noncomputable def nFree := mkF DF Try.f17.ntmps nil1 (fun _ => nilX) (fun _ => some (.v (.one (.int .i64 true 0)), [], []))
noncomputable def nSteps := mkF DF Try.f23.ntmps nil1 (fun _ => nilX) (fun _ => some (.v (.one (.int .i64 true 0)), [], []))
noncomputable def nDown := mkF DF Try.f24.ntmps nil1 (fun _ => nilX) (fun _ => some (.v (.one (.bool true false)), [], []))
noncomputable def nList := mkF DF Try.f25.ntmps nil1 (fun _ => nilX) (fun _ => some (.v (.one .nil), [], []))
noncomputable def nImage := mkF DF Try.f18.ntmps nil1 (fun _ => nilX) (fun _ => some (.v (.one .nil), [], []))
noncomputable def nCrash := mkF DF Try.f14.ntmps (fun bs xs => match bs, xs with | [], [.one .nilp, .one (.words .i64 l)] => some l | _, _ => none) (fun l => ([], [.one .nilp, .one (.words .i64 l)])) (fun _ => some (.tup [], [], []))
def nilS (bs : List (BoxSt DF.τ)) (xs : List (A0 DF.τ)) : Option ByteArray := match bs, xs with
  | [], [.one .nilp, .one (.str s)] => some s
  | _, _ => none
noncomputable def nRead := mkF DF Try.f15.ntmps nilS (fun s => ([], [.one .nilp, .one (.str s)])) (fun _ => some (.tup [.one (.own 0), .one (.int .i64 true 1)], [dynB []], []))
noncomputable def nSync := mkF DF Try.f12.ntmps nilS (fun s => ([], [.one .nilp, .one (.str s)])) (fun _ => some (.v (.one (.int .i64 true 1)), [], []))
noncomputable def nApp := mkF DF Try.f10.ntmps (fun bs xs => match bs, xs with | [], [.one .nilp, .one (.str s), .one (.words .u8 l)] => some (s, l) | _, _ => none) (fun t => ([], [.one .nilp, .one (.str t.1), .one (.words .u8 t.2)])) (fun _ => some (.v (.one (.int .i64 true 1)), [], []))
noncomputable def nFuse := mkF DF Try.f13.ntmps (fun bs xs => match bs, xs with | [], [.one .nilp, .one (.int .i64 _ n)] => some n | _, _ => none) (fun n => ([], [.one .nilp, .one (.int .i64 false n)])) (fun _ => some (.tup [], [], []))

noncomputable def gOw : Gam DF := [(freezeId, .fn (freezeD DF [21, 23])), (9, .fn headD), (11, .fn (copyD DF)), (16, .fn (sameD DF)), (22, .op [false, false] mountOkQ), (15, .rd [true, false] (orF readR nRead)), (18, .rd [true] (orF image1R nImage)),
  (17, .op [true] nFree), (23, .op [true] nSteps), (24, .op [true] nDown), (25, .op [true] nList), (14, .op [true, false] nCrash), (12, .op [true, false] nSync), (10, .op [true, false, false] nApp), (13, .op [true, false] nFuse)]

def ow1 (b : List Int) (by_ : Int) (d : DkT) (l m : List Int) (s : ByteArray) (n : Int) (k : Int) : Sn DF.τ where
  slots := [(0, .v (.one (.words .u8 b))), (1, .v (.one (.int .u8 false by_))), (5, .v (.one (.ref 0 0))), (7, .v (.one (.own 2))), (9, .v (.one (.own 3))), (41, .v (.one (.int .i64 false l.length))), (42, .v (.one (.int .i64 false k)))]
  boxes := enumB 0 (dkBt d ++ [dynB l, r1B s 4 n, dynB m])
  nt := 127
def ow1E (b : List Int) (by_ : Int) (d : DkT) (m : List Int) (s : ByteArray) (n : Int) : Sn DF.τ where
  slots := [(0, .v (.one (.words .u8 b))), (1, .v (.one (.int .u8 false by_))), (5, .v (.one (.ref 0 0))), (9, .v (.one (.own 2)))]
  boxes := enumB 0 (dkBt d ++ [r1B s 3 n, dynB m])
  nt := 127
def ow2 (b : List Int) (by_ : Int) (d : DkT) (m : List Int) (s : ByteArray) (n : Int) (k : Int) : Sn DF.τ where
  slots := [(0, .v (.one (.words .u8 b))), (1, .v (.one (.int .u8 false by_))), (5, .v (.one (.ref 0 0))), (9, .v (.one (.own 2))), (57, .v (.one (.int .i64 false m.length))), (58, .v (.one (.int .i64 false k)))]
  boxes := enumB 0 (dkBt d ++ [r1B s 3 n, dynB m])
  nt := 127
def ow2E (b : List Int) (d : DkT) : Sn DF.τ where
  slots := [(0, .v (.one (.words .u8 b))), (5, .v (.one (.ref 0 0)))]
  boxes := enumB 0 (dkBt d)
  nt := 127
theorem o1_step (b : List Int) (by_ : Int) (d : DkT) (l l' m : List Int) (s : ByteArray) (n : Int) (k : Nat)
 (h1 : ((decide (((k : Nat) : Int) < (((List.length l) : Nat) : Int))) = Bool.true))
 (h2 : ((0 : Int) ≤ ((k : Nat) : Int)))
 (h3 : (((k : Nat) : Int) < (((List.length l) : Nat) : Int)))
 (h4 : ((Int.toNat ((k : Nat) : Int)) < (List.length l)))
 (h5 : (Go.Abs.InI64 (((k : Nat) : Int) + (1 : Int))))
 (h6 : ((((List.length l) : Nat) : Int) = (((List.length l') : Nat) : Int)))
 (h7 : ((List.set l (Int.toNat ((k : Nat) : Int)) by_) = l')) :
 ∃ ps, stepPs Try.prog DF gOw 100 (bodyN Try.f5 0) 100 (ow1 b by_ d l m s n k).st [.is true] .normal (ow1 b by_ d l' m s n ((k : Int) + 1)) = some ps ∧ AllQ ps := ⟨_, by kernel_rfl, allQ_cons h1 (allQ_cons h2 (allQ_cons h3 (allQ_cons h4 (allQ_cons (show ((some (1 : Nat)) = (some (1 : Nat))) from rfl) (allQ_cons h5 (allQ_cons (show (b = b) from rfl) (allQ_cons (show (by_ = by_) from rfl) (allQ_cons h6 (allQ_cons (show ((((k : Nat) : Int) + (1 : Int)) = (((k : Nat) : Int) + (1 : Int))) from rfl) (allQ_cons (show ((d).1 = (d).1) from rfl) (allQ_cons (show (((d).2).1 = ((d).2).1) from rfl) (allQ_cons (show ((((d).2).2).1 = (((d).2).2).1) from rfl) (allQ_cons (show (((((d).2).2).2).1 = ((((d).2).2).2).1) from rfl) (allQ_cons (show (((((d).2).2).2).2 = ((((d).2).2).2).2) from rfl) (allQ_cons h7 (allQ_cons (show (s = s) from rfl) (allQ_cons (show (n = n) from rfl) (allQ_cons (show (m = m) from rfl) (allQ_nil)))))))))))))))))))⟩

theorem o1_exit (b : List Int) (by_ : Int) (d : DkT) (l m : List Int) (s : ByteArray) (n : Int) (k : Nat)
 (h1 : ((decide (((k : Nat) : Int) < (((List.length l) : Nat) : Int))) = Bool.false)) :
 ∃ ps, stepPs Try.prog DF gOw 100 (bodyN Try.f5 0) 100 (ow1 b by_ d l m s n k).st [.is false] (.exit 0) (ow1E b by_ d m s n) = some ps ∧ AllQ ps := ⟨_, by kernel_rfl, allQ_cons h1 (allQ_cons (show (b = b) from rfl) (allQ_cons (show (by_ = by_) from rfl) (allQ_cons (show ((d).1 = (d).1) from rfl) (allQ_cons (show (((d).2).1 = ((d).2).1) from rfl) (allQ_cons (show ((((d).2).2).1 = (((d).2).2).1) from rfl) (allQ_cons (show (((((d).2).2).2).1 = ((((d).2).2).2).1) from rfl) (allQ_cons (show (((((d).2).2).2).2 = ((((d).2).2).2).2) from rfl) (allQ_cons (show (s = s) from rfl) (allQ_cons (show (n = n) from rfl) (allQ_cons (show (m = m) from rfl) (allQ_nil)))))))))))⟩

theorem o2_step (b : List Int) (by_ : Int) (d : DkT) (m m' : List Int) (s : ByteArray) (n : Int) (k : Nat)
 (h1 : ((decide (((k : Nat) : Int) < (((List.length m) : Nat) : Int))) = Bool.true))
 (h2 : ((0 : Int) ≤ ((k : Nat) : Int)))
 (h3 : (((k : Nat) : Int) < (((List.length m) : Nat) : Int)))
 (h4 : ((Int.toNat ((k : Nat) : Int)) < (List.length m)))
 (h5 : (Go.Abs.InI64 (((k : Nat) : Int) + (1 : Int))))
 (h6 : ((((List.length m) : Nat) : Int) = (((List.length m') : Nat) : Int)))
 (h7 : ((List.set m (Int.toNat ((k : Nat) : Int)) by_) = m')) :
 ∃ ps, stepPs Try.prog DF gOw 100 (bodyN Try.f5 1) 100 (ow2 b by_ d m s n k).st [.is true] .normal (ow2 b by_ d m' s n ((k : Int) + 1)) = some ps ∧ AllQ ps := ⟨_, by kernel_rfl, allQ_cons h1 (allQ_cons (show ((0 : Int) = (0 : Int)) from rfl) (allQ_cons h2 (allQ_cons h3 (allQ_cons h4 (allQ_cons (show ((some (1 : Nat)) = (some (1 : Nat))) from rfl) (allQ_cons h5 (allQ_cons (show (b = b) from rfl) (allQ_cons (show (by_ = by_) from rfl) (allQ_cons h6 (allQ_cons (show ((((k : Nat) : Int) + (1 : Int)) = (((k : Nat) : Int) + (1 : Int))) from rfl) (allQ_cons (show ((d).1 = (d).1) from rfl) (allQ_cons (show (((d).2).1 = ((d).2).1) from rfl) (allQ_cons (show ((((d).2).2).1 = (((d).2).2).1) from rfl) (allQ_cons (show (((((d).2).2).2).1 = ((((d).2).2).2).1) from rfl) (allQ_cons (show (((((d).2).2).2).2 = ((((d).2).2).2).2) from rfl) (allQ_cons (show (s = s) from rfl) (allQ_cons (show (n = n) from rfl) (allQ_cons h7 (allQ_nil)))))))))))))))))))⟩

theorem o2_exit (b : List Int) (by_ : Int) (d : DkT) (m : List Int) (s : ByteArray) (n : Int) (k : Nat)
 (h1 : ((decide (((k : Nat) : Int) < (((List.length m) : Nat) : Int))) = Bool.false)) :
 ∃ ps, stepPs Try.prog DF gOw 100 (bodyN Try.f5 1) 100 (ow2 b by_ d m s n k).st [.is false] (.exit 2) (ow2E b d) = some ps ∧ AllQ ps := ⟨_, by kernel_rfl, allQ_cons h1 (allQ_cons (show (b = b) from rfl) (allQ_cons (show ((d).1 = (d).1) from rfl) (allQ_cons (show (((d).2).1 = ((d).2).1) from rfl) (allQ_cons (show ((((d).2).2).1 = (((d).2).2).1) from rfl) (allQ_cons (show (((((d).2).2).2).1 = ((((d).2).2).2).1) from rfl) (allQ_cons (show (((((d).2).2).2).2 = ((((d).2).2).2).2) from rfl) (allQ_nil)))))))⟩

theorem ow_run (b : List Int) (by_ : Int) (d d2 d3 : DkT) (l m : List Int) (s : ByteArray) (n : Int)
 (h1 : ((List.length b) ≤ (281474976710656 : Nat)))
 (h2 : (Go.Num.FilesOK [[(Go.Abs.Fd.s (ByteArray.mk (Array.mk [(97 : UInt8)]))), (Go.Abs.Fd.w b), (Go.Abs.Fd.i (0 : Int))]]))
 (h3 : ((Go.Num.mountE (1000000 : Int) [[(Go.Abs.Fd.s (ByteArray.mk (Array.mk [(97 : UInt8)]))), (Go.Abs.Fd.w b), (Go.Abs.Fd.i (0 : Int))]]) = (0 : Int)))
 (h4 : (Go.Num.Okd (Go.Num.mountM (1000000 : Int) [[(Go.Abs.Fd.s (ByteArray.mk (Array.mk [(97 : UInt8)]))), (Go.Abs.Fd.w b), (Go.Abs.Fd.i (0 : Int))]])))
 (h5 : ((List.length (Go.Num.sortK (((((Go.Num.mountM (1000000 : Int) [[(Go.Abs.Fd.s (ByteArray.mk (Array.mk [(97 : UInt8)]))), (Go.Abs.Fd.w b), (Go.Abs.Fd.i (0 : Int))]])).2).2).2).2)) = (1 : Nat)))
 (h6 : SumOK Try.prog DF (bodyN Try.f5 0) (loopL DF (ow1 b by_ d l m s n 0) (.exit 0) (ow1E b by_ d2 m s n)))
 (h7 : ((((List.length ((Go.Num.readM (Go.Num.mountM (1000000 : Int) [[(Go.Abs.Fd.s (ByteArray.mk (Array.mk [(97 : UInt8)]))), (Go.Abs.Fd.w b), (Go.Abs.Fd.i (0 : Int))]]) (ByteArray.mk (Array.mk [(97 : UInt8)])))).2) : Nat) : Int) = (((List.length l) : Nat) : Int)))
 (h8 : (((Go.Num.mountM (1000000 : Int) [[(Go.Abs.Fd.s (ByteArray.mk (Array.mk [(97 : UInt8)]))), (Go.Abs.Fd.w b), (Go.Abs.Fd.i (0 : Int))]])).1 = (d).1))
 (h9 : ((((Go.Num.mountM (1000000 : Int) [[(Go.Abs.Fd.s (ByteArray.mk (Array.mk [(97 : UInt8)]))), (Go.Abs.Fd.w b), (Go.Abs.Fd.i (0 : Int))]])).2).1 = ((d).2).1))
 (h10 : (((((Go.Num.mountM (1000000 : Int) [[(Go.Abs.Fd.s (ByteArray.mk (Array.mk [(97 : UInt8)]))), (Go.Abs.Fd.w b), (Go.Abs.Fd.i (0 : Int))]])).2).2).1 = (((d).2).2).1))
 (h11 : ((((((Go.Num.mountM (1000000 : Int) [[(Go.Abs.Fd.s (ByteArray.mk (Array.mk [(97 : UInt8)]))), (Go.Abs.Fd.w b), (Go.Abs.Fd.i (0 : Int))]])).2).2).2).1 = ((((d).2).2).2).1))
 (h12 : ((((((Go.Num.mountM (1000000 : Int) [[(Go.Abs.Fd.s (ByteArray.mk (Array.mk [(97 : UInt8)]))), (Go.Abs.Fd.w b), (Go.Abs.Fd.i (0 : Int))]])).2).2).2).2 = ((((d).2).2).2).2))
 (h13 : (((Go.Num.readM (Go.Num.mountM (1000000 : Int) [[(Go.Abs.Fd.s (ByteArray.mk (Array.mk [(97 : UInt8)]))), (Go.Abs.Fd.w b), (Go.Abs.Fd.i (0 : Int))]]) (ByteArray.mk (Array.mk [(97 : UInt8)])))).2 = l))
 (h14 : ((Go.Num.nm1 (Go.Num.mountM (1000000 : Int) [[(Go.Abs.Fd.s (ByteArray.mk (Array.mk [(97 : UInt8)]))), (Go.Abs.Fd.w b), (Go.Abs.Fd.i (0 : Int))]])) = s))
 (h15 : ((Go.Num.obS (Go.Abs.obE (((((Go.Num.mountM (1000000 : Int) [[(Go.Abs.Fd.s (ByteArray.mk (Array.mk [(97 : UInt8)]))), (Go.Abs.Fd.w b), (Go.Abs.Fd.i (0 : Int))]])).2).2).2).2 [(Go.Abs.Fd.s (Go.Num.nm1 (Go.Num.mountM (1000000 : Int) [[(Go.Abs.Fd.s (ByteArray.mk (Array.mk [(97 : UInt8)]))), (Go.Abs.Fd.w b), (Go.Abs.Fd.i (0 : Int))]])))])) = n))
 (h16 : ((Go.Num.obD (Go.Abs.obE (((((Go.Num.mountM (1000000 : Int) [[(Go.Abs.Fd.s (ByteArray.mk (Array.mk [(97 : UInt8)]))), (Go.Abs.Fd.w b), (Go.Abs.Fd.i (0 : Int))]])).2).2).2).2 [(Go.Abs.Fd.s (Go.Num.nm1 (Go.Num.mountM (1000000 : Int) [[(Go.Abs.Fd.s (ByteArray.mk (Array.mk [(97 : UInt8)]))), (Go.Abs.Fd.w b), (Go.Abs.Fd.i (0 : Int))]])))])) = m))
 (h17 : SumOK Try.prog DF (bodyN Try.f5 1) (loopL DF (ow2 b by_ d2 m s n 0) (.exit 2) (ow2E b d3)))
 (h18 : (Go.Num.Okd d3))
 (h19 : ((decide (((Go.Num.readM d3 (ByteArray.mk (Array.mk [(97 : UInt8)])))).2 = b)) = Bool.true))
 (h20 : ((List.length ((Go.Num.readM d3 (ByteArray.mk (Array.mk [(97 : UInt8)])))).2) ≤ (9223372036854775807 : Nat)))
 (h21 : ((List.length b) ≤ (9223372036854775807 : Nat))) :
 ∃ ps, runF Try.prog DF gOw 100 Try.f5 [.one (.words .u8 b), .one (.int .u8 false by_)] [.loop (loopL DF (ow1 b by_ d l m s n 0) (.exit 0) (ow1E b by_ d2 m s n)), .loop (loopL DF (ow2 b by_ d2 m s n 0) (.exit 2) (ow2E b d3)), .is true] = some ((Go.Abs.AV.v (Go.Abs.A0.one (Go.Abs.Part.bool (Bool.true && Bool.true) ((0 : Int) == (0 : Int))))), ps) ∧ AllQ ps := ⟨_, by kernel_rfl, allQ_cons h1 (allQ_cons (show ((1000000 : Int) = (1000000 : Int)) from rfl) (allQ_cons (show ([[(Go.Abs.Fd.s (ByteArray.mk (Array.mk [(97 : UInt8)]))), (Go.Abs.Fd.w b), (Go.Abs.Fd.i (0 : Int))]] = [[(Go.Abs.Fd.s (ByteArray.mk (Array.mk [(97 : UInt8)]))), (Go.Abs.Fd.w b), (Go.Abs.Fd.i (0 : Int))]]) from rfl) (allQ_cons h2 (allQ_cons h3 (allQ_cons (show ((ByteArray.mk (Array.mk [(97 : UInt8)])) = (ByteArray.mk (Array.mk [(97 : UInt8)]))) from rfl) (allQ_cons (show (((Go.Num.mountM (1000000 : Int) [[(Go.Abs.Fd.s (ByteArray.mk (Array.mk [(97 : UInt8)]))), (Go.Abs.Fd.w b), (Go.Abs.Fd.i (0 : Int))]])).1 = ((Go.Num.mountM (1000000 : Int) [[(Go.Abs.Fd.s (ByteArray.mk (Array.mk [(97 : UInt8)]))), (Go.Abs.Fd.w b), (Go.Abs.Fd.i (0 : Int))]])).1) from rfl) (allQ_cons (show ((((Go.Num.mountM (1000000 : Int) [[(Go.Abs.Fd.s (ByteArray.mk (Array.mk [(97 : UInt8)]))), (Go.Abs.Fd.w b), (Go.Abs.Fd.i (0 : Int))]])).2).1 = (((Go.Num.mountM (1000000 : Int) [[(Go.Abs.Fd.s (ByteArray.mk (Array.mk [(97 : UInt8)]))), (Go.Abs.Fd.w b), (Go.Abs.Fd.i (0 : Int))]])).2).1) from rfl) (allQ_cons (show (((((Go.Num.mountM (1000000 : Int) [[(Go.Abs.Fd.s (ByteArray.mk (Array.mk [(97 : UInt8)]))), (Go.Abs.Fd.w b), (Go.Abs.Fd.i (0 : Int))]])).2).2).1 = ((((Go.Num.mountM (1000000 : Int) [[(Go.Abs.Fd.s (ByteArray.mk (Array.mk [(97 : UInt8)]))), (Go.Abs.Fd.w b), (Go.Abs.Fd.i (0 : Int))]])).2).2).1) from rfl) (allQ_cons (show ((((((Go.Num.mountM (1000000 : Int) [[(Go.Abs.Fd.s (ByteArray.mk (Array.mk [(97 : UInt8)]))), (Go.Abs.Fd.w b), (Go.Abs.Fd.i (0 : Int))]])).2).2).2).1 = (((((Go.Num.mountM (1000000 : Int) [[(Go.Abs.Fd.s (ByteArray.mk (Array.mk [(97 : UInt8)]))), (Go.Abs.Fd.w b), (Go.Abs.Fd.i (0 : Int))]])).2).2).2).1) from rfl) (allQ_cons (show ((((((Go.Num.mountM (1000000 : Int) [[(Go.Abs.Fd.s (ByteArray.mk (Array.mk [(97 : UInt8)]))), (Go.Abs.Fd.w b), (Go.Abs.Fd.i (0 : Int))]])).2).2).2).2 = (((((Go.Num.mountM (1000000 : Int) [[(Go.Abs.Fd.s (ByteArray.mk (Array.mk [(97 : UInt8)]))), (Go.Abs.Fd.w b), (Go.Abs.Fd.i (0 : Int))]])).2).2).2).2) from rfl) (allQ_cons h4 (allQ_cons (show ((1 : Nat) ≤ (9223372036854775807 : Nat)) from by decide) (allQ_cons (show (((Go.Num.mountM (1000000 : Int) [[(Go.Abs.Fd.s (ByteArray.mk (Array.mk [(97 : UInt8)]))), (Go.Abs.Fd.w b), (Go.Abs.Fd.i (0 : Int))]])).1 = ((Go.Num.mountM (1000000 : Int) [[(Go.Abs.Fd.s (ByteArray.mk (Array.mk [(97 : UInt8)]))), (Go.Abs.Fd.w b), (Go.Abs.Fd.i (0 : Int))]])).1) from rfl) (allQ_cons (show ((((Go.Num.mountM (1000000 : Int) [[(Go.Abs.Fd.s (ByteArray.mk (Array.mk [(97 : UInt8)]))), (Go.Abs.Fd.w b), (Go.Abs.Fd.i (0 : Int))]])).2).1 = (((Go.Num.mountM (1000000 : Int) [[(Go.Abs.Fd.s (ByteArray.mk (Array.mk [(97 : UInt8)]))), (Go.Abs.Fd.w b), (Go.Abs.Fd.i (0 : Int))]])).2).1) from rfl) (allQ_cons (show (((((Go.Num.mountM (1000000 : Int) [[(Go.Abs.Fd.s (ByteArray.mk (Array.mk [(97 : UInt8)]))), (Go.Abs.Fd.w b), (Go.Abs.Fd.i (0 : Int))]])).2).2).1 = ((((Go.Num.mountM (1000000 : Int) [[(Go.Abs.Fd.s (ByteArray.mk (Array.mk [(97 : UInt8)]))), (Go.Abs.Fd.w b), (Go.Abs.Fd.i (0 : Int))]])).2).2).1) from rfl) (allQ_cons (show ((((((Go.Num.mountM (1000000 : Int) [[(Go.Abs.Fd.s (ByteArray.mk (Array.mk [(97 : UInt8)]))), (Go.Abs.Fd.w b), (Go.Abs.Fd.i (0 : Int))]])).2).2).2).1 = (((((Go.Num.mountM (1000000 : Int) [[(Go.Abs.Fd.s (ByteArray.mk (Array.mk [(97 : UInt8)]))), (Go.Abs.Fd.w b), (Go.Abs.Fd.i (0 : Int))]])).2).2).2).1) from rfl) (allQ_cons (show ((((((Go.Num.mountM (1000000 : Int) [[(Go.Abs.Fd.s (ByteArray.mk (Array.mk [(97 : UInt8)]))), (Go.Abs.Fd.w b), (Go.Abs.Fd.i (0 : Int))]])).2).2).2).2 = (((((Go.Num.mountM (1000000 : Int) [[(Go.Abs.Fd.s (ByteArray.mk (Array.mk [(97 : UInt8)]))), (Go.Abs.Fd.w b), (Go.Abs.Fd.i (0 : Int))]])).2).2).2).2) from rfl) (allQ_cons h4 (allQ_cons h5 (allQ_cons h6 (allQ_cons (show (b = b) from rfl) (allQ_cons (show (by_ = by_) from rfl) (allQ_cons h7 (allQ_cons (show ((0 : Int) = (0 : Int)) from rfl) (allQ_cons h8 (allQ_cons h9 (allQ_cons h10 (allQ_cons h11 (allQ_cons h12 (allQ_cons h13 (allQ_cons h14 (allQ_cons h15 (allQ_cons h16 (allQ_cons (show ((0 : Int) = (0 : Int)) from rfl) (allQ_cons h17 (allQ_cons (show (b = b) from rfl) (allQ_cons (show (by_ = by_) from rfl) (allQ_cons (show ((((List.length m) : Nat) : Int) = (((List.length m) : Nat) : Int)) from rfl) (allQ_cons (show ((0 : Int) = (0 : Int)) from rfl) (allQ_cons (show ((d2).1 = (d2).1) from rfl) (allQ_cons (show (((d2).2).1 = ((d2).2).1) from rfl) (allQ_cons (show ((((d2).2).2).1 = (((d2).2).2).1) from rfl) (allQ_cons (show (((((d2).2).2).2).1 = ((((d2).2).2).2).1) from rfl) (allQ_cons (show (((((d2).2).2).2).2 = ((((d2).2).2).2).2) from rfl) (allQ_cons (show (s = s) from rfl) (allQ_cons (show (n = n) from rfl) (allQ_cons (show (m = m) from rfl) (allQ_cons (show ((ByteArray.mk (Array.mk [(97 : UInt8)])) = (ByteArray.mk (Array.mk [(97 : UInt8)]))) from rfl) (allQ_cons (show ((d3).1 = (d3).1) from rfl) (allQ_cons (show (((d3).2).1 = ((d3).2).1) from rfl) (allQ_cons (show ((((d3).2).2).1 = (((d3).2).2).1) from rfl) (allQ_cons (show (((((d3).2).2).2).1 = ((((d3).2).2).2).1) from rfl) (allQ_cons (show (((((d3).2).2).2).2 = ((((d3).2).2).2).2) from rfl) (allQ_cons h18 (allQ_cons (show ((1 : Nat) ≤ (9223372036854775807 : Nat)) from by decide) (allQ_cons (show ((1 : Int) = (1 : Int)) from rfl) (allQ_cons (show (([] : List (Int)) = ([] : List (Int))) from rfl) (allQ_cons (show ((ByteArray.mk (Array.mk [(97 : UInt8)])) = (ByteArray.mk (Array.mk [(97 : UInt8)]))) from rfl) (allQ_cons h19 (allQ_cons h20 (allQ_cons h21 (allQ_cons (show ((ByteArray.mk (Array.mk [(97 : UInt8)])) = (ByteArray.mk (Array.mk [(97 : UInt8)]))) from rfl) (allQ_cons (show (([] : List (Int)) = ([] : List (Int))) from rfl) (allQ_cons (show ((ByteArray.mk (Array.mk [(97 : UInt8)])) = (ByteArray.mk (Array.mk [(97 : UInt8)]))) from rfl) (allQ_nil)))))))))))))))))))))))))))))))))))))))))))))))))))))))))))))))))⟩

theorem gNf_ok : GamOK Try.prog DF gNf := gam_op findNil_ok (gam_cons clone_ok gam_nil)
theorem nFree_ok : OpOK Try.prog DF 17 nFree := by
  refine opOK_mk gam_nil mixed Try.func17 (enters_of Try.func17 (by kernel_rfl) rfl) ?_
  rintro _ r' bs' ps h hps
  simp only [Option.some.injEq, Prod.mk.injEq] at h
  obtain ⟨rfl, rfl, rfl⟩ := h
  exact ⟨_, _, nf_free⟩
theorem nSteps_ok : OpOK Try.prog DF 23 nSteps := by
  refine opOK_mk gam_nil mixed Try.func23 (enters_of Try.func23 (by kernel_rfl) rfl) ?_
  rintro _ r' bs' ps h hps
  simp only [Option.some.injEq, Prod.mk.injEq] at h
  obtain ⟨rfl, rfl, rfl⟩ := h
  exact ⟨_, _, nf_steps⟩
theorem nDown_ok : OpOK Try.prog DF 24 nDown := by
  refine opOK_mk gam_nil mixed Try.func24 (enters_of Try.func24 (by kernel_rfl) rfl) ?_
  rintro _ r' bs' ps h hps
  simp only [Option.some.injEq, Prod.mk.injEq] at h
  obtain ⟨rfl, rfl, rfl⟩ := h
  exact ⟨_, _, nf_down⟩
theorem nList_ok : OpOK Try.prog DF 25 nList := by
  refine opOK_mk gam_nil mixed Try.func25 (enters_of Try.func25 (by kernel_rfl) rfl) ?_
  rintro _ r' bs' ps h hps
  simp only [Option.some.injEq, Prod.mk.injEq] at h
  obtain ⟨rfl, rfl, rfl⟩ := h
  exact ⟨_, _, nf_list⟩
theorem nCrash_ok : OpOK Try.prog DF 14 nCrash := by
  refine opOK_mk gam_nil mixed Try.func14 (enters_of Try.func14 (by kernel_rfl) rfl) ?_
  rintro l r' bs' ps h hps
  simp only [Option.some.injEq, Prod.mk.injEq] at h
  obtain ⟨rfl, rfl, rfl⟩ := h
  exact ⟨_, _, nf_crash l⟩
theorem nSync_ok : OpOK Try.prog DF 12 nSync := by
  refine opOK_mk gNf_ok mixed Try.func12 (enters_of Try.func12 (by kernel_rfl) rfl) ?_
  rintro s r' bs' ps h hps
  simp only [Option.some.injEq, Prod.mk.injEq] at h
  obtain ⟨rfl, rfl, rfl⟩ := h
  exact ⟨_, _, nf_sync s⟩
theorem nApp_ok : OpOK Try.prog DF 10 nApp := by
  refine opOK_mk gNf_ok mixed Try.func10 (enters_of Try.func10 (by kernel_rfl) rfl) ?_
  rintro ⟨s, l⟩ r' bs' ps h hps
  simp only [Option.some.injEq, Prod.mk.injEq] at h
  obtain ⟨rfl, rfl, rfl⟩ := h
  exact ⟨_, _, nf_app s l⟩
theorem nFuse_ok : OpOK Try.prog DF 13 nFuse := by
  refine opOK_mk gam_nil mixed Try.func13 (enters_of Try.func13 (by kernel_rfl) rfl) ?_
  rintro n r' bs' ps h hps
  simp only [Option.some.injEq, Prod.mk.injEq] at h
  obtain ⟨rfl, rfl, rfl⟩ := h
  exact ⟨_, _, nf_fuse n⟩

theorem withNew_or {F G : List (BoxSt DF.τ) → List (A0 DF.τ) → Option (AV DF.τ × List (BoxSt DF.τ) × List Prop)} : withNew (orF F G) = orF (withNew F) (withNew G) := by
  funext bs xs
  simp only [withNew, orF]
  cases F bs xs <;> rfl
theorem nImage_ok : OpOK Try.prog DF 18 (withNew nImage) := by
  refine opOK_mkR mixed Try.func18 (enters_of Try.func18 (by kernel_rfl) rfl) (fun bs xs t h => by
    unfold nil1 at h
    split at h
    · rfl
    · cases h) ?_
  intro t r' ns ps h hps
  simp only [Option.some.injEq, Prod.mk.injEq] at h
  obtain ⟨rfl, rfl, rfl⟩ := h
  exact ⟨_, _, _, gam_nil, nf_image⟩
theorem nRead_ok : OpOK Try.prog DF 15 (withNew nRead) := by
  refine opOK_mkR mixed Try.func15 (enters_of Try.func15 (by kernel_rfl) rfl) (fun bs xs t h => by
    unfold nilS at h
    split at h
    · rfl
    · cases h) ?_
  intro s r' ns ps h hps
  simp only [Option.some.injEq, Prod.mk.injEq] at h
  obtain ⟨rfl, rfl, rfl⟩ := h
  exact ⟨_, _, _, gNf_ok, nf_read s⟩

theorem gI1_ok : GamOK Try.prog DF gI1 := gam_op names_ok (gam_cons clone_ok gam_nil)
theorem image1_ok : OpOK Try.prog DF 18 (withNew image1R) := by
  refine opOK_mkR mixed Try.func18 (enters_of Try.func18 (by kernel_rfl) rfl) (fun _ _ _ => spRdE_is) ?_
  rintro ⟨ro, st, fu, dn, es⟩ r' ns ps h hps
  simp only [Option.some.injEq, Prod.mk.injEq] at h
  obtain ⟨rfl, rfl, rfl⟩ := h
  have hd : Okd (ro, st, fu, dn, es) := hps (Okd _) (by simp)
  have hl : (sortK es).length = 1 := hps (_ = 1) (by simp)
  obtain ⟨s, hs1, hs2⟩ := sortK_at hd.keys1 (k := 0) (by simp only; rw [← sortK_len]; omega)
  have hs2' : hasE es [Fd.s s] = true := hs2
  have hs1' : (sortK es).getD 0 [] = [Fd.s s] := hs1
  have hb := hd.back hs2
  have ho := hd.ob [Fd.s s]
  simp only at hb ho
  have hr : recS ((sortK es).getD 0 []) 0 = s := by rw [hs1']; rfl
  exact ⟨_, _, _, gI1_ok, im1_run ro st fu dn es _ _ _ hd.short (decide_eq_true (by omega)) (by omega) (by omega) keyT_str rfl (by rw [hr]; exact hs2') (by rw [hr]; exact ho.2.2) (decide_eq_false (by rw [hl]; decide)) rfl rfl (by rw [hr]; exact hb) rfl rfl rfl⟩

/-! The law -/

def fl (l : List Int) (v : Int) (k : Nat) : List Int := List.replicate k v ++ l.drop k
theorem fl_len {l : List Int} {v : Int} {k : Nat} (h : k ≤ l.length) : (fl l v k).length = l.length := by
  unfold fl
  rw [List.length_append, List.length_replicate, List.length_drop]
  omega
theorem fl_set {l : List Int} {v : Int} {k : Nat} (h : k < l.length) : (fl l v k).set k v = fl l v (k + 1) := by
  unfold fl
  have hl : (List.replicate k v).length = k := List.length_replicate
  rw [List.set_append_right _ _ (by omega), hl, Nat.sub_self, List.drop_eq_getElem_cons h, List.set_cons_zero, List.replicate_succ', List.append_assoc]
  rfl
theorem fl_zero (l : List Int) (v : Int) : fl l v 0 = l := by unfold fl; simp

theorem gOw_ok : GamOK Try.prog DF gOw := gam_freeze (gam_cons head_ok (gam_cons (copy_ok DF) (gam_cons (same_ok DF) (gam_op mountOk_ok (gam_rd (by rw [withNew_or]; exact opOK_or read_ok nRead_ok) (gam_rd (by rw [withNew_or]; exact opOK_or image1_ok nImage_ok) (gam_op nFree_ok (gam_op nSteps_ok (gam_op nDown_ok (gam_op nList_ok (gam_op nCrash_ok (gam_op nSync_ok (gam_op nApp_ok (gam_op nFuse_ok gam_nil))))))))))))))

theorem o1_loop (b : List Int) (v : Int) (d : DkT) {l : List Int} (m : List Int) (s : ByteArray) (n : Int) (h : l.length ≤ 140737488355328) :
    SumOK Try.prog DF (bodyN Try.f5 0) (loopL DF (ow1 b v d l m s n 0) (.exit 0) (ow1E b v d m s n)) := by
  have hs := sum_loop gOw_ok mixed (c := bodyN Try.f5 0) (fun k => ow1 b v d (fl l v k) m s n k) l.length (e := .exit 0) (s := ow1E b v d m s n) rfl (fun k hk => ?_) ?_
  · rw [fl_zero] at hs
    exact hs
  · have h1 := fl_len (l := l) (v := v) (k := k) (by omega)
    have h2 := fl_len (l := l) (v := v) (k := k + 1) (by omega)
    exact ⟨_, _, _, o1_step b v d (fl l v k) (fl l v (k + 1)) m s n k (decide_eq_true (by omega)) (by omega) (by omega) (by omega) ⟨by omega, by omega⟩ (by omega) (by rw [Int.toNat_natCast]; exact fl_set hk)⟩
  · have h1 := fl_len (l := l) (v := v) (k := l.length) (Nat.le_refl _)
    exact ⟨_, _, _, o1_exit b v d (fl l v l.length) m s n l.length (decide_eq_false (by omega))⟩
theorem o2_loop (b : List Int) (v : Int) (d : DkT) {m : List Int} (s : ByteArray) (n : Int) (h : m.length ≤ 140737488355328) :
    SumOK Try.prog DF (bodyN Try.f5 1) (loopL DF (ow2 b v d m s n 0) (.exit 2) (ow2E b d)) := by
  have hs := sum_loop gOw_ok mixed (c := bodyN Try.f5 1) (fun k => ow2 b v d (fl m v k) s n k) m.length (e := .exit 2) (s := ow2E b d) rfl (fun k hk => ?_) ?_
  · rw [fl_zero] at hs
    exact hs
  · have h1 := fl_len (l := m) (v := v) (k := k) (by omega)
    have h2 := fl_len (l := m) (v := v) (k := k + 1) (by omega)
    exact ⟨_, _, _, o2_step b v d (fl m v k) (fl m v (k + 1)) s n k (decide_eq_true (by omega)) (by omega) (by omega) (by omega) ⟨by omega, by omega⟩ (by omega) (by rw [Int.toNat_natCast]; exact fl_set hk)⟩
  · have h1 := fl_len (l := m) (v := v) (k := m.length) (Nat.le_refl _)
    exact ⟨_, _, _, o2_exit b v d (fl m v m.length) s n m.length (decide_eq_false (by omega))⟩

theorem law_own {b : List Int} {v : Int} (_ : InB b) (hb : b.length ≤ 140737488351232) (_ : 0 ≤ v ∧ v < 256) :
    ∃ Γ, GamOK Try.prog DF Γ ∧ ∃ ds ps, runF Try.prog DF Γ 100 Try.f5 [.one (.words .u8 b), .one (.int .u8 false v)] ds = some (.v (.one (.bool true true)), ps) ∧ AllQ ps := by
  have hcl : clampR 1000000 = 1000000 := by decide
  have hf : FilesOK [[Fd.s cA, Fd.w b, Fd.i 0]] := fun r hr => by
    rw [List.mem_singleton.1 hr]
    exact ⟨show cA.size ≤ 9223372036854775807 by decide, show b.length ≤ 140737488355328 by omega⟩
  have he : moErr [] [Fd.s cA, Fd.w b, Fd.i 0] = 0 := by
    unfold moErr
    rw [if_neg (by rw [show recS [Fd.s cA, Fd.w b, Fd.i 0] 0 = cA from rfl, right_a]; decide), if_neg]
    rintro (h | h | h)
    · cases h
    · exact absurd h (show ¬ (0 : Int) < 0 by decide)
    · have : ((b.length : Nat) : Int) < 0 := h
      omega
  have hg : moGo [[Fd.s cA, Fd.w b, Fd.i 0]] [] = (0, one cA b 0) := by
    unfold moGo
    rw [if_neg (by rw [he]; decide)]
    rfl
  have hm : mountM 1000000 [[Fd.s cA, Fd.w b, Fd.i 0]] = (1000000, 0, 0, false, one cA b 0) := by unfold mountM; rw [hg, hcl]
  have hE : mountE 1000000 [[Fd.s cA, Fd.w b, Fd.i 0]] = 0 := by
    unfold mountE
    rw [if_neg (show ¬ 32 < [[Fd.s cA, Fd.w b, Fd.i 0]].length by simp), hg, if_neg (show ¬ (0 : Int) ≠ 0 by decide), safe_one, hcl]
    rfl
  have hd := mount_okd hf hE
  have hr : readM (mountM 1000000 [[Fd.s cA, Fd.w b, Fd.i 0]]) cA = (0, b) := by rw [hm, read_one right_a]
  have hk : sortK (one cA b 0) = [[Fd.s cA]] := sortK_one cA _
  have hn : nm1 (mountM 1000000 [[Fd.s cA, Fd.w b, Fd.i 0]]) = cA := by
    unfold nm1
    rw [hm]
    show recS ((sortK (one cA b 0)).getD 0 []) 0 = cA
    rw [hk]
    rfl
  have ho : obE (mountM 1000000 [[Fd.s cA, Fd.w b, Fd.i 0]]).2.2.2.2 [Fd.s cA] = fileOb b 0 := by rw [hm]; exact ob_one cA b 0
  obtain ⟨ps, p1, p2⟩ := ow_run b v (mountM 1000000 [[Fd.s cA, Fd.w b, Fd.i 0]]) (mountM 1000000 [[Fd.s cA, Fd.w b, Fd.i 0]]) (mountM 1000000 [[Fd.s cA, Fd.w b, Fd.i 0]]) b b cA 0 (by omega) hf hE hd (by rw [hm]; show (sortK (one cA b 0)).length = 1; rw [hk]; rfl)
    (o1_loop b v _ b cA 0 (by omega)) (by rw [show readM (mountM 1000000 [[Fd.s cA, Fd.w b, Fd.i 0]]) _ = _ from hr]) rfl rfl rfl rfl rfl (by rw [show readM (mountM 1000000 [[Fd.s cA, Fd.w b, Fd.i 0]]) _ = _ from hr]) hn (by rw [hn, ho]; rfl) (by rw [hn, ho]; rfl)
    (o2_loop b v _ cA 0 (by omega)) hd (by rw [show readM (mountM 1000000 [[Fd.s cA, Fd.w b, Fd.i 0]]) _ = _ from hr]; exact decide_eq_true rfl) (by rw [show readM (mountM 1000000 [[Fd.s cA, Fd.w b, Fd.i 0]]) _ = _ from hr]; show b.length ≤ _; omega) (by omega)
  exact ⟨_, gOw_ok, _, ps, p1, p2⟩

end Go.Num
